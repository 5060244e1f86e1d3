/- torsionlaw13.SmithIs: the walk. -/
import Derived.Test.YtnocgagoaldfnaaGreatQ47
import Derived.Test.YtnocgagoaldfnaaGreatQ49
set_option linter.unusedVariables false
set_option linter.unusedSimpArgs false
set_option linter.unusedSectionVars false
namespace Go.Proofs.YtnocgagoaldfnaaGreat
open Go.RowKit

/-- A slice of int16 numbers that came in. -/
def I16V (w : World) (v : Value) (ls : List Int) : Prop :=
  ∃ ao n cap, v = .slice ao n cap ∧ ls.length = n ∧ n ≤ cap ∧ cap ≤ 9223372036854775807 ∧ (∀ z ∈ ls, -32768 ≤ z ∧ z ≤ 32767) ∧
    (ls ≠ [] → ∃ b off, ao = some ⟨b, off, none⟩ ∧ b < w.heap.size ∧ ∀ (k : Nat) (z : Int), ls[k]? = some z → w.cell? ⟨b, off + k, none⟩ = some (.int .i16 z))
theorem I16V.cell {w : World} {ao : Option Addr} {n cap : Nat} {ls : List Int} (h : I16V w (.slice ao n cap) ls) {k : Nat} (hk : k < ls.length) :
    ∃ b off z, ao = some ⟨b, off, none⟩ ∧ b < w.heap.size ∧ ls[k]? = some z ∧ w.cell? ⟨b, off + k, none⟩ = some (.int .i16 z) ∧ -32768 ≤ z ∧ z ≤ 32767 := by
  obtain ⟨ao', n', cap', h1, h2, h3, h4, h5, h6⟩ := h
  injection h1 with e1 e2 e3
  subst e1
  obtain ⟨b, off, e, hb, hc⟩ := h6 (by rintro rfl; simp at hk)
  have hz := List.getElem?_eq_getElem hk
  have := h5 _ (List.mem_of_getElem? hz)
  exact ⟨b, off, _, e, hb, hz, hc _ _ hz, this.1, this.2⟩
/-- Numbers of at most n. -/
def leF (n R C : Nat) (F : Nat → Nat → Int) : Prop := ∀ a, a < R → ∀ b, b < C → (F a b).natAbs ≤ n
theorem leF.smd {n R C : Nat} {F : Nat → Nat → Int} (h : leF n R C F) (hn : n < 1000000) : ∀ r ∈ genM R C F, ∀ z ∈ r, Smd z := by
  intro r hr z hz
  unfold genM at hr
  obtain ⟨i, hi, rfl⟩ := List.mem_map.1 hr
  obtain ⟨j, hj, rfl⟩ := List.mem_map.1 hz
  exact million.smd _ (Nat.lt_of_le_of_lt (h i (List.mem_range.1 hi) j (List.mem_range.1 hj)) hn)

theorem wrap_keep {z : Int} (h1 : -9223372036854775808 ≤ z) (h2 : z ≤ 9223372036854775807) : IntKind.i64.wrap z = z := IntWalk.i64_in z ⟨h1, h2⟩
theorem u8_keep {z : Int} (h1 : 0 ≤ z) (h2 : z ≤ 255) : IntKind.u8.wrap z = z := by
  unfold IntKind.wrap
  simp [IntKind.bits, IntKind.signed]
  omega
theorem sisB (v : Value) (R C : Int) (M : List (List Int)) (b : Bool) (w : World) (h : MatV w v R C M) (hS : ∀ r ∈ M, ∀ z ∈ r, Smd z) (hR : R ≤ 1000000) (hC : C ≤ 1000000) (hb : IsM2 R C M = b) :
    Calls Tryz.prog 26 #[v] w fun e w' => ∃ v, e = .returned v ∧ v = .bool b ∧ Below w.heap.size w w' :=
  (sis_any v R C M w h hS hR hC).mono fun e w' ⟨h, hb'⟩ => ⟨_, h, by rw [hb], hb'⟩
theorem r13isB (v : Value) (R C : Int) (M : List (List Int)) (b : Bool) (w : World) (h : MatV w v R C M) (hS : ∀ r ∈ M, ∀ z ∈ r, Smd z) (hb : IsM2 R C M = b) :
    Calls Tryz.prog 27 #[v] w fun e w' => ∃ v, e = .returned v ∧ v = .bool b ∧ Below w.heap.size w w' :=
  (r13is_any v R C M w h hS).mono fun e w' ⟨h, hb'⟩ => ⟨_, h, by rw [isM_eq, hb], hb'⟩
theorem share {P : Exit → Act → World → Prop} {a : Act} {w : World} {c : Code} {T : Type} (f : T → Act) (h1 : ∀ P' : Exit → Act → World → Prop, (∀ x, P' .normal (f x) w) → Code.wp Tryz.prog c P' a w) (h2 : ∀ x, P .normal (f x) w) : Code.wp Tryz.prog c P a w := h1 P h2
set_option maxHeartbeats 8000000 in
set_option maxRecDepth 20000 in
theorem smithis_any (v0 : Value) (ls : List Int) (p q c : Int) (w : World) (h : I16V w v0 ls) (hp : 0 ≤ p ∧ p ≤ 255) (hq : 0 ≤ q ∧ q ≤ 255) (hc : -128 ≤ c ∧ c ≤ 127) :
    Calls Tryz.prog 5 #[v0, .agg #[.int .u8 p, .int .u8 q], .int .i8 c] w fun e w' => e = .returned (.bool true) ∧ Below w.heap.size w w' := by
  obtain ⟨ao, n, cap, rfl, hl, hcap, hcap2, -, -⟩ := id h
  have HL := HidS.mk hl
  obtain ⟨pn, rfl⟩ := Int.eq_ofNat_of_zero_le hp.1
  obtain ⟨qn, rfl⟩ := Int.eq_ofNat_of_zero_le hq.1
  have hp' : pn ≤ 255 := by omega
  have hq' : qn ≤ 255 := by omega
  have hc1 := hc.1
  have hc2 := hc.2
  clear hp hq hc hl
  go_enter Tryz.func5, Tryz.ntmps5
  go_upto_region 1 with (fail)
  refine wp_world ?_
  intro W0 hW0
  obtain ⟨hB0, bw, hs0⟩ := world1 hW0
  clear hW0
  go_wp2_with fail
  refine (sanity_any W0).mono ?_
  rintro e w1 ⟨rfl, hb1⟩
  have hB := nx hB0 hb1
  have bw := bw.below hb1
  have hsz1 := hb1.size
  obtain ⟨c1, c2, c3, c4⟩ := bw.two
  go_wp2_with fail
  obtain ⟨R, hRd⟩ : ∃ R : Nat, R = pn % 5 := ⟨_, rfl⟩
  obtain ⟨C, hCd⟩ : ∃ C : Nat, C = qn % 5 := ⟨_, rfl⟩
  have hR : R ≤ 4 := by omega
  have hC : C ≤ 4 := by omega
  rw [show ((pn : Int) % 5) = ((R : Nat) : Int) by omega, show ((qn : Int) % 5) = ((C : Nat) : Int) by omega]
  clear hRd hCd
  refine (r5new_any R C w1 (by omega) (by omega)).mono ?_
  rintro e w2 ⟨u, bs, rfl, ⟨hbl, A2, rfl, ho⟩, hb2⟩
  obtain ⟨oo, on, oc, rfl, -, -, -, -⟩ := id ho.rows
  have hlts := ho.lts
  rw [zeros_genM] at ho
  have hF : leF 32768 R C (fun _ _ => 0) := fun a _ b _ => by simp
  generalize (fun _ _ => (0 : Int)) = F0 at ho hF
  go_upto_region 3 with (fail)
  refine wp_world ?_
  intro W3 hW3
  obtain ⟨hB3, T8, hs3⟩ := world1 hW3
  have bw := (bw.below hb2).below hB3
  have ho := ho.below hB3
  have hBt := nx (nx hB hb2) hB3
  have q2 := hb2.size
  clear hW3 c1 c2 c3 c4 hB hB0 hb1
  go_wp2
  go_loopw [9] (fun iv wr => ∃ (i : Nat) (F : Nat → Nat → Int), iv = .int .i64 i ∧ i ≤ 4 ∧ Below w.heap.size w wr ∧ Blk wr w.heap.size 40 #[.int .u8 pn, .int .u8 qn] ∧ Blk wr w2.heap.size 28 #[.int .i64 R, .int .i64 C, .slice oo on oc] ∧ RowsO wr w1.heap.size (.slice oo on oc) C bs (genM R C F) ∧ leF 32768 R C F) (fun iv _ => 4 - (intOf iv).toNat)
  case atStart => exact ⟨0, F0, rfl, by omega, hBt, bw, T8, ho, hF⟩
  case round =>
    obtain ⟨i, F, rfl, hi, hb, bw, T8, ho, hF⟩ := hrel
    obtain ⟨f1, f2, f3, f4, f5, f6⟩ := T8.three
    have hin : n ≤ 9223372036854775807 := Nat.le_trans hcap hcap2
    by_cases hgo : i < n ∧ i < R ∧ i < C
    · obtain ⟨hl, hr, hcc⟩ := hgo
      obtain ⟨b0, off, z, rfl, hb0, hz, hcell, hz1, hz2⟩ := h.cell (k := i) (by rw [HL.out]; exact hl)
      have hcell := (hb.cell (p := ⟨b0, off + i, none⟩) hb0).trans hcell
      obtain ⟨g, bo, rfl, hg, hbo, hbo2, o1, ho3⟩ := ho.at_ (i := i) (by omega)
      have hio : i < on := by omega
      have HO3 := Lib.hid ho3
      have lt8 := T8.lt
      have hwr := hb.size
      clear ho3 hz
      go_upto_region 6 with (fail)
      refine wp_region_headed 13 rfl (RI wr (wr.heap.size) _ 45
          [⟨0, 42, fun _ v => v = .pointer (some ⟨w2.heap.size, 2, none⟩)⟩, ⟨1, 43, fun _ v => v = .slice (some ⟨g, 0, none⟩) on oc⟩, ⟨2, 44, fun _ v => v = .int .i64 i⟩, ⟨3, 45, fun _ v => v = .pointer (some ⟨g, i, none⟩)⟩, ⟨4, 46, fun _ v => v = .slice (some ⟨bo, 0, none⟩) C C⟩, ⟨5, 47, fun _ v => v = .int .i64 i⟩, ⟨6, 48, fun _ v => v = .slice (some ⟨b0, off, none⟩) n cap⟩, ⟨7, 49, fun _ v => v = .int .i64 i⟩, ⟨8, 50, fun _ v => v = .pointer (some ⟨b0, off + i, none⟩)⟩, ⟨9, 51, fun _ v => v = .int .i16 z⟩, ⟨10, 52, fun _ v => v = .int .i64 z⟩, ⟨11, 53, fun w v => IntV w v (z)⟩, ⟨12, 54, fun _ v => v = .pointer (some ⟨bo, i * 2, none⟩)⟩]
          [] []) (by kernel_rfl) (RI.start (by kernel_rfl) (by decide) (by repeat' (first | exact lasts_int _ | exact lasts_eq _ | assumption | refine List.forall_mem_cons.2 ⟨?_, ?_⟩ | exact List.forall_mem_nil _)) nom nom
            nom nom nom
            (by first | exact Nat.le_refl _ | omega)) ?fin1 ?steps1
      case steps1 =>
        refine ⟨?_, ?_, ?_, ?_, ?_, ?_, ?_, ?_, ?_, ?_, ?_, ?_, ?_, trivial⟩ <;> (intro L T wS hL hd hcl hI K hK; try refine step_wanted rfl ?_)
        · have zt : T[8]? = some (.pointer (some ⟨w2.heap.size, 0, none⟩)) := hI.keep 8 (by simp) (by simp)
          go_simp
          exact hK _ _ (hI.value ⟨0, 42, _⟩ mm0 rfl rfl)
        · obtain ⟨v0, zt0, rfl⟩ := hI.val _ mm0 (hd 0 (by kernel_rfl))
          have cc0 := hI.cell f3 (by omega) nom
          go_simp
          exact hK _ _ (hI.value ⟨1, 43, _⟩ mm1 rfl rfl)
        · have zt : T[9]? = some (.int .i64 i) := hI.keep 9 (by simp) (by simp)
          go_simp
          exact hK _ _ (hI.value ⟨2, 44, _⟩ mm2 rfl rfl)
        · obtain ⟨v1, zt1, rfl⟩ := hI.val _ mm1 (hd 1 (by kernel_rfl))
          obtain ⟨v2, zt2, rfl⟩ := hI.val _ mm2 (hd 2 (by kernel_rfl))
          go_simp
          exact hK _ _ (hI.value ⟨3, 45, _⟩ mm3 rfl rfl)
        · obtain ⟨v3, zt3, rfl⟩ := hI.val _ mm3 (hd 3 (by kernel_rfl))
          have cc0 := hI.cell o1 (by omega) nom
          go_simp
          exact hK _ _ (hI.value ⟨4, 46, _⟩ mm4 rfl rfl)
        · have zt : T[9]? = some (.int .i64 i) := hI.keep 9 (by simp) (by simp)
          go_simp
          exact hK _ _ (hI.value ⟨5, 47, _⟩ mm5 rfl rfl)
        · have zt : T[0]? = some (.slice (some ⟨b0, off, none⟩) n cap) := hI.keep 0 (by simp) (by simp)
          go_simp
          exact hK _ _ (hI.value ⟨6, 48, _⟩ mm6 rfl rfl)
        · have zt : T[9]? = some (.int .i64 i) := hI.keep 9 (by simp) (by simp)
          go_simp
          exact hK _ _ (hI.value ⟨7, 49, _⟩ mm7 rfl rfl)
        · obtain ⟨v6, zt6, rfl⟩ := hI.val _ mm6 (hd 6 (by kernel_rfl))
          obtain ⟨v7, zt7, rfl⟩ := hI.val _ mm7 (hd 7 (by kernel_rfl))
          go_simp
          exact hK _ _ (hI.value ⟨8, 50, _⟩ mm8 rfl rfl)
        · obtain ⟨v8, zt8, rfl⟩ := hI.val _ mm8 (hd 8 (by kernel_rfl))
          have cc0 := hI.cell hcell (by omega) nom
          go_simp
          exact hK _ _ (hI.value ⟨9, 51, _⟩ mm9 rfl rfl)
        · obtain ⟨v9, zt9, rfl⟩ := hI.val _ mm9 (hd 9 (by kernel_rfl))
          go_simp
          exact hK _ _ (hI.value ⟨10, 52, _⟩ mm10 rfl (congrArg (Value.int .i64) (wrap_keep (by omega) (by omega))))
        · obtain ⟨v10, zt10, rfl⟩ := hI.val _ mm10 (hd 10 (by kernel_rfl))
          go_simp
          refine (r1of_any z _ (by omega) (by omega)).mono ?_
          rintro e wa ⟨v, rfl, hv, hba⟩
          exact hK _ _ ((hI.world hba).value ⟨11, 53, _⟩ mm11 rfl hv)
        · obtain ⟨v4, zt4, rfl⟩ := hI.val _ mm4 (hd 4 (by kernel_rfl))
          obtain ⟨v5, zt5, rfl⟩ := hI.val _ mm5 (hd 5 (by kernel_rfl))
          go_simp
          exact hK _ _ (hI.value ⟨12, 54, _⟩ mm12 rfl rfl)
      intro T w9 hI
      obtain ⟨va0, q0, rfl⟩ := hI.val _ mm0 rfl
      obtain ⟨va1, q1, rfl⟩ := hI.val _ mm1 rfl
      obtain ⟨va2, q2, rfl⟩ := hI.val _ mm2 rfl
      obtain ⟨va3, q3, rfl⟩ := hI.val _ mm3 rfl
      obtain ⟨va4, q4, rfl⟩ := hI.val _ mm4 rfl
      obtain ⟨va5, q5, rfl⟩ := hI.val _ mm5 rfl
      obtain ⟨va6, q6, rfl⟩ := hI.val _ mm6 rfl
      obtain ⟨va7, q7, rfl⟩ := hI.val _ mm7 rfl
      obtain ⟨va8, q8, rfl⟩ := hI.val _ mm8 rfl
      obtain ⟨va9, q9, rfl⟩ := hI.val _ mm9 rfl
      obtain ⟨va10, q10, rfl⟩ := hI.val _ mm10 rfl
      obtain ⟨va11, q11, ha11⟩ := hI.val _ mm11 rfl
      replace ha11 : IntV w9 va11 (z) := ha11
      obtain ⟨va12, q12, rfl⟩ := hI.val _ mm12 rfl
      have hT := tmps_set [(42, .pointer (some ⟨w2.heap.size, 2, none⟩)), (43, .slice (some ⟨g, 0, none⟩) on oc), (44, .int .i64 i), (45, .pointer (some ⟨g, i, none⟩)), (46, .slice (some ⟨bo, 0, none⟩) C C), (47, .int .i64 i), (48, .slice (some ⟨b0, off, none⟩) n cap), (49, .int .i64 i), (50, .pointer (some ⟨b0, off + i, none⟩)), (51, .int .i16 z), (52, .int .i64 z), (53, va11), (54, .pointer (some ⟨bo, i * 2, none⟩))]
        (fun j hj => hI.keep j (by simp only [List.forall_mem_cons] at hj ⊢; simp [hj]) (by simp only [List.forall_mem_cons] at hj ⊢; simp [hj]))
        (by simp only [List.forall_mem_cons]; simp [q0, q1, q2, q3, q4, q5, q6, q7, q8, q9, q10, q11, q12]) hI.size
      have hlw9 := hI.lext
      have hbw9 := hI.bel (wr.heap.size) (by omega) nom
      have holdw9 := hI.old
      clear hI
      simp only [List.foldl_cons, List.foldl_nil, List.setIfInBounds_toArray, List.set_cons_zero, List.set_cons_succ, ptr] at hT
      subst hT
      clear q0 q1 q2 q3 q4 q5 q6 q7 q8 q9 q10 q11 q12
      simp only [List.drop_succ_cons, List.drop_zero]
      obtain ⟨gn, ga, gl, gc, gx, rfl, hpx⟩ := id ha11
      have HPX := Lib.hid hpx
      clear hpx
      have ho9 := ho.below hbw9
      obtain ⟨sn, sa, sl, sc, z1, z2, z3, z4, -⟩ := ho9.cellAt hbo hcc
      have hbolt := hlts i bo hbo
      have hset := ho9.set hbo hcc ha11
      have hbase := hset.2.2
      rw [setM_genM _ hr hcc] at hset
      go_wp2
      go_roundw
      case rel =>
        refine ⟨i + 1, _, by simp, by omega, bset (bset (nx hb hbw9) (by omega) _ _) (by omega) _ _, (set2_old _ _ _ _ _ _ _ (by omega)).trans (bw.below hbw9), (set2_old _ _ _ _ _ _ _ (by omega)).trans (T8.below hbw9), hset.1, ?_⟩
        intro a ha b hb
        dsimp only
        split
        · omega
        · exact hF a ha b hb
      case measure => simp [intOf]; omega
    · go_upto_region 4 with (fail)
      refine share (f := fun x : Value × Value × Value × Value × Value × Value × Value × Value × Value × Value × Value × Value => { tmps := #[.slice ao n cap, .agg #[.int .u8 pn, .int .u8 qn], .int .i8 c, undef, .pointer (some ⟨w.heap.size, 0, none⟩), undef, .bool false, .bool true, .pointer (some ⟨w2.heap.size, 0, none⟩), .int .i64 i, undef, undef, undef, undef, .bool true, .pointer (some ⟨w.heap.size, 0, none⟩), .int .u8 pn, .int .i64 pn, .int .i64 R, .pointer (some ⟨w.heap.size, 1, none⟩), .int .u8 qn, .int .i64 qn, .int .i64 C, .agg #[.int .i64 R, .int .i64 C, .slice oo on oc], .int .i64 i, .slice ao n cap, .int .i64 n,
        x.1, x.2.1, x.2.2.1, x.2.2.2.1, x.2.2.2.2.1, x.2.2.2.2.2.1, x.2.2.2.2.2.2.1, x.2.2.2.2.2.2.2.1, x.2.2.2.2.2.2.2.2.1, x.2.2.2.2.2.2.2.2.2.1, x.2.2.2.2.2.2.2.2.2.2.1, x.2.2.2.2.2.2.2.2.2.2.2, .bool false, u40, u41, u42, u43, u44, u45, u46, u47, u48, u49, u50, u51, u52, u53, u54, undef, undef, undef, undef, undef, undef, undef, undef, undef, undef, undef, undef, undef, undef, undef, undef, undef, undef, undef, undef, undef, undef, undef, undef, undef, undef, undef, undef, undef, undef, undef, undef, undef, undef, undef, undef, undef, undef, undef, undef, undef, undef, undef, undef, undef, undef, undef, undef, undef, undef, undef, undef, undef, undef, undef, undef, undef, undef, undef, undef, undef, undef, undef, undef, undef, undef, undef, undef, undef], defers := [] }) ?_ ?_
      · intro P' HP
        by_cases hl : i < n
        · by_cases hr : i < R
          · have hcc : ¬ i < C := fun hh => hgo ⟨hl, hr, hh⟩
            clear hgo
            go_wp2
            exact HP (_, _, _, _, _, _, _, _, _, _, _, _)
          · clear hgo
            go_wp2
            exact HP (_, _, _, _, _, _, _, _, _, _, _, _)
        · clear hgo
          go_wp2
          exact HP (_, _, _, _, _, _, _, _, _, _, _, _)
      · rintro ⟨x27, x28, x29, x30, x31, x32, x33, x34, x35, x36, x37, x38⟩
        dsimp only
        go_wp2_with fail
        have hwr := hb.size
        have lt8 := T8.lt
        have HOR := HidS.mk ho
        have hfit := ho.fits
        rw [hbl] at hfit
        have HM : HidS (MatV wr (.agg #[.int .i64 R, .int .i64 C, .slice oo on oc]) R C (genM R C F)) := ⟨⟨_, rfl, ho.rows⟩⟩
        have HFT := HidS.mk hfit
        have HFL := HidS.mk hF
        clear hF hfit hgo
        refine (r5copied_any _ R C _ wr HM.out HFT.out (by omega) (by omega) fun r hr z hz => (HFL.out.smd (by omega) r hr z hz).sm).mono ?_
        rintro e wc ⟨u2, bs2, rfl, ⟨hbl2, A3, rfl, ho2⟩, hbc⟩
        obtain ⟨po, pm, pc, rfl, -, -, -, -⟩ := id ho2.rows
        have hlts2 := ho2.lts
        go_upto_region 8 with (fail)
        refine wp_world ?_
        intro W7 hW7
        obtain ⟨hB7, T10, hs7⟩ := world1 hW7
        rename_i K1 aK1 K aK
        have bw := (bw.below hbc).below hB7
        have T8 := (T8.below hbc).below hB7
        have ho := (ho.below hbc).below hB7
        have ho2 := ho2.below hB7
        have hb := nx (nx hb hbc) hB7
        have hbR := nx hbc hB7
        have hsc := hbc.size
        clear hW7 f1 f2 f3 f4 f5 f6 HM
        have REST : ∀ (u11 u12 u57 u58 u59 u60 u61 u62 u63 u64 u65 u66 u67 u68 u69 u70 u71 u72 u73 u74 u75 u76 u77 u78 u79 u80 u81 u82 u83 u84 u85 u86 u87 u88 u89 u90 u91 u92 u93 u94 u95 u96 u97 : Value) (W' : World) (G : Nat → Nat → Int), Below w.heap.size w W' → Blk W' w2.heap.size 28 #[.int .i64 R, .int .i64 C, .slice oo on oc] → Blk W' wc.heap.size 28 #[.int .i64 R, .int .i64 C, .slice po pm pc] →
            RowsO W' wr.heap.size (.slice po pm pc) C bs2 (genM R C G) → leF 33000 R C G → Below wr.heap.size wr W' → K1 { tmps := #[.slice ao n cap, .agg #[.int .u8 pn, .int .u8 qn], .int .i8 c, undef, .pointer (some ⟨w.heap.size, 0, none⟩), undef, .bool false, .bool true, .pointer (some ⟨w2.heap.size, 0, none⟩), .int .i64 i, .pointer (some ⟨wc.heap.size, 0, none⟩), u11, u12, undef, .bool true, .pointer (some ⟨w.heap.size, 0, none⟩), .int .u8 pn, .int .i64 pn, .int .i64 R, .pointer (some ⟨w.heap.size, 1, none⟩), .int .u8 qn, .int .i64 qn, .int .i64 C, .agg #[.int .i64 R, .int .i64 C, .slice oo on oc], .int .i64 i, .slice ao n cap, .int .i64 n,
            x27, x28, x29, x30, x31, x32, x33, x34, x35, x36, x37, x38, .bool false, u40, u41, u42, u43, u44, u45, u46, u47, u48, u49, u50, u51, u52, u53, u54, .agg #[.int .i64 R, .int .i64 C, .slice oo on oc], .agg #[.int .i64 R, .int .i64 C, .slice po pm pc], u57, u58, u59, u60, u61, u62, u63, u64, u65, u66, u67, u68, u69, u70, u71, u72, u73, u74, u75, u76, u77, u78, u79, u80, u81, u82, u83, u84, u85, u86, u87, u88, u89, u90, u91, u92, u93, u94, u95, u96, u97, undef, undef, undef, undef, undef, undef, undef, undef, undef, undef, undef, undef, undef, undef, undef, undef, undef, undef, undef, undef, undef, undef, undef, undef, undef, undef], defers := [] } W' := by
          intro u11 u12 u57 u58 u59 u60 u61 u62 u63 u64 u65 u66 u67 u68 u69 u70 u71 u72 u73 u74 u75 u76 u77 u78 u79 u80 u81 u82 u83 u84 u85 u86 u87 u88 u89 u90 u91 u92 u93 u94 u95 u96 u97 W' G hb T8 T10 ho2 hG hbR
          have ho := HOR.out.below hbR
          obtain ⟨f1, f2, f3, f4, f5, f6⟩ := T8.three
          have hfit2 := ho2.fits
          have hfit1 := ho.fits
          rw [hbl] at hfit1
          have HMa : HidS (MatV W' (.agg #[.int .i64 R, .int .i64 C, .slice oo on oc]) R C (genM R C F)) := ⟨⟨_, rfl, ho.rows⟩⟩
          have HMb : HidS (MatV W' (.agg #[.int .i64 R, .int .i64 C, .slice po pm pc]) R C (genM R C G)) := ⟨⟨_, rfl, ho2.rows⟩⟩
          have HSa : HidS (∀ r ∈ genM R C F, ∀ z ∈ r, Smd z) := ⟨HFL.out.smd (by omega)⟩
          have HSb : HidS (∀ r ∈ genM R C G, ∀ z ∈ r, Smd z) := ⟨hG.smd (by omega)⟩
          have hl1 : (genM R C F).length = R := hfit1.1
          obtain ⟨MF, hMF⟩ : ∃ MF, genM R C F = MF := ⟨_, rfl⟩
          obtain ⟨MG, hMG⟩ : ∃ MG, genM R C G = MG := ⟨_, rfl⟩
          rw [hMF] at HMa HSa hl1 hfit1
          rw [hMG] at HMb HSb
          have HF1 := HidS.mk hfit1
          have HL1 := HidS.mk hl1
          have q0 := hb.size
          have lt8 := T8.lt
          have lt10 := T10.lt
          clear aK hfit1 hfit2 hl1 hMF hMG ho ho2 hG hbR
          go_wp2_with fail
          refine (r5copied_any _ R C _ W' HMa.out HF1.out (by omega) (by omega) fun r hr z hz => (HSa.out r hr z hz).sm).mono ?_
          rintro e wd ⟨u3, bs3, rfl, ⟨hbl3, A4, rfl, ho3⟩, hbd⟩
          obtain ⟨qo, qm, qc, rfl, -, -, -, -⟩ := id ho3.rows
          have HRW := HidS.mk ho3.rows
          go_upto_region 12 with (fail)
          refine wp_world ?_
          intro W8 hW8
          obtain ⟨hB8, T13, hs8⟩ := world1 hW8
          obtain ⟨t1, t2, t3, t4, t5, t6⟩ := T13.three
          clear hW8 f1 f2 f3 f4 f5 f6
          go_upto_region 13 with (fail)
          refine wp_world ?_
          intro W9 hW9
          have hq := hbd.size
          have hB9 : Below W'.heap.size W' W9 := by rw [hW9.out]; exact bset (nx hbd hB8) (by omega) _ _
          have HMo : HidS (MatV W9 (.agg #[.int .i64 ((R : Int) + 1), .int .i64 C, .slice qo qm qc]) ((R : Int) + 1) C MF) := ⟨⟨_, rfl, by
            rw [hW9.out]
            exact (ho3.below (bset hB8 (Nat.le_refl _) _ _)).rows⟩⟩
          have T13' : Blk W9 wd.heap.size 28 #[.int .i64 ((R : Int) + 1), .int .i64 C, .slice qo qm qc] := by
            rw [hW9.out]
            have := T13.set_ 0 (.int .i64 ((R : Int) + 1))
            simpa using this
          obtain ⟨f1, f2, f3, f4, f5, f6⟩ := (T8.below hB9).three
          obtain ⟨e1, e2, e3, e4, e5, e6⟩ := (T10.below hB9).three
          clear t1 t2 t3 t4 t5 t6
          obtain ⟨t1, t2, t3, t4, t5, t6⟩ := T13'.three
          have HMa := HidS.mk (HMa.out.below hB9)
          have HMb := HidS.mk (HMb.out.below hB9)
          have hbF := nx hb hB9
          obtain ⟨ba, hba⟩ : ∃ ba, IsM2 R C MF = ba := ⟨_, rfl⟩
          obtain ⟨bb, hbb⟩ : ∃ bb, IsM2 R C MG = bb := ⟨_, rfl⟩
          have HBA := HidS.mk hba
          have HBB := HidS.mk hbb
          have HBO : HidS (IsM2 ((R : Int) + 1) C MF = false) := ⟨by
            unfold IsM2
            rw [decide_eq_false (by rintro ⟨-, -, h3, -⟩; have := HL1.out; omega), Bool.false_and]⟩
          clear hW9 hba hbb
          refine wp_region_each rfl (RV W9 _ [⟨0, 104, fun _ v => v = .agg #[.int .i64 R, .int .i64 C, .slice oo on oc]⟩, ⟨1, 105, fun _ v => v = .bool ba⟩, ⟨2, 106, fun _ v => v = .agg #[.int .i64 R, .int .i64 C, .slice oo on oc]⟩, ⟨3, 107, fun _ v => v = .bool ba⟩, ⟨4, 108, fun _ v => v = .bool true⟩, ⟨5, 109, fun _ v => v = .bool true⟩, ⟨6, 110, fun _ v => v = .agg #[.int .i64 R, .int .i64 C, .slice po pm pc]⟩, ⟨7, 111, fun _ v => v = .bool bb⟩, ⟨8, 112, fun _ v => v = .agg #[.int .i64 R, .int .i64 C, .slice po pm pc]⟩, ⟨9, 113, fun _ v => v = .bool bb⟩, ⟨10, 114, fun _ v => v = .bool true⟩, ⟨11, 115, fun _ v => v = .bool true⟩, ⟨12, 116, fun _ v => v = .bool true⟩, ⟨13, 117, fun _ v => v = .agg #[.int .i64 ((R : Int) + 1), .int .i64 C, .slice qo qm qc]⟩, ⟨14, 118, fun _ v => v = .bool false⟩, ⟨15, 119, fun _ v => v = .bool true⟩, ⟨16, 120, fun _ v => v = .bool true⟩, ⟨17, 121, fun _ v => v = .bool true⟩, ⟨18, 122, fun _ v => v = .bool true⟩, ⟨19, 123, fun _ v => v = .bool true⟩, ⟨20, 6, fun _ v => v = .bool true⟩]) (by kernel_rfl) (RV.start (by kernel_rfl) (by repeat' (first | exact lastsB_int _ | exact lastsB_eq _ | exact lastsB_mat _ _ _ | exact lastsB_vec _ | assumption | refine List.forall_mem_cons.2 ⟨?_, ?_⟩ | exact List.forall_mem_nil _))) ?fin2 ?steps2
          case steps2 =>
            refine ⟨?_, ?_, ?_, ?_, ?_, ?_, ?_, ?_, ?_, ?_, ?_, ?_, ?_, ?_, ?_, ?_, ?_, ?_, ?_, ?_, ?_, trivial⟩ <;> (intro L T wS hL hd hcl hI K hK; try refine step_wanted rfl ?_)
            · have zt : T[8]? = some (.pointer (some ⟨w2.heap.size, 0, none⟩)) := hI.keep 8 (by simp)
              have cc0 := hI.cell f1
              have cc1 := hI.cell f2
              have cc2 := hI.cell f3
              go_simp
              exact hK _ _ (hI.value ⟨0, 104, _⟩ mm0 rfl rfl)
            · obtain ⟨_, zt0, rfl⟩ := hI.val _ mm0 (hd 0 (by kernel_rfl))
              go_simp
              refine (sisB _ _ _ MF ba _ (HMa.out.below hI.bel) HSa.out (by omega) (by omega) HBA.out).mono ?_
              rintro e wa ⟨v, rfl, hv, hba⟩
              exact hK _ _ ((hI.world hba).value ⟨1, 105, _⟩ mm1 rfl hv)
            · have zt : T[8]? = some (.pointer (some ⟨w2.heap.size, 0, none⟩)) := hI.keep 8 (by simp)
              have cc0 := hI.cell f1
              have cc1 := hI.cell f2
              have cc2 := hI.cell f3
              go_simp
              exact hK _ _ (hI.value ⟨2, 106, _⟩ mm2 rfl rfl)
            · obtain ⟨_, zt2, rfl⟩ := hI.val _ mm2 (hd 2 (by kernel_rfl))
              go_simp
              refine (r13isB _ _ _ MF ba _ (HMa.out.below hI.bel) HSa.out HBA.out).mono ?_
              rintro e wa ⟨v, rfl, hv, hba⟩
              exact hK _ _ ((hI.world hba).value ⟨3, 107, _⟩ mm3 rfl hv)
            · obtain ⟨_, zt1, rfl⟩ := hI.val _ mm1 (hd 1 (by kernel_rfl))
              obtain ⟨_, zt3, rfl⟩ := hI.val _ mm3 (hd 3 (by kernel_rfl))
              go_simp
              exact hK _ _ (hI.value ⟨4, 108, _⟩ mm4 rfl rfl)
            · obtain ⟨_, zt4, rfl⟩ := hI.val _ mm4 (hd 4 (by kernel_rfl))
              go_simp
              exact hK _ _ (hI.value ⟨5, 109, _⟩ mm5 rfl rfl)
            · obtain ⟨_, zg, rfl⟩ := hI.val _ mm5 (hd 5 (by kernel_rfl))
              refine step_wanted (by simp [Region.wanted, yielded, zg]) ?_
              have zt : T[10]? = some (.pointer (some ⟨wc.heap.size, 0, none⟩)) := hI.keep 10 (by simp)
              have cc0 := hI.cell e1
              have cc1 := hI.cell e2
              have cc2 := hI.cell e3
              go_simp
              exact hK _ _ (hI.value ⟨6, 110, _⟩ mm6 rfl rfl)
            · obtain ⟨_, zg, rfl⟩ := hI.val _ mm5 (hd 5 (by kernel_rfl))
              refine step_wanted (by simp [Region.wanted, yielded, zg]) ?_
              obtain ⟨_, zt6, rfl⟩ := hI.val _ mm6 (hd 6 (by kernel_rfl))
              go_simp
              refine (sisB _ _ _ MG bb _ (HMb.out.below hI.bel) HSb.out (by omega) (by omega) HBB.out).mono ?_
              rintro e wa ⟨v, rfl, hv, hba⟩
              exact hK _ _ ((hI.world hba).value ⟨7, 111, _⟩ mm7 rfl hv)
            · obtain ⟨_, zg, rfl⟩ := hI.val _ mm5 (hd 5 (by kernel_rfl))
              refine step_wanted (by simp [Region.wanted, yielded, zg]) ?_
              have zt : T[10]? = some (.pointer (some ⟨wc.heap.size, 0, none⟩)) := hI.keep 10 (by simp)
              have cc0 := hI.cell e1
              have cc1 := hI.cell e2
              have cc2 := hI.cell e3
              go_simp
              exact hK _ _ (hI.value ⟨8, 112, _⟩ mm8 rfl rfl)
            · obtain ⟨_, zg, rfl⟩ := hI.val _ mm5 (hd 5 (by kernel_rfl))
              refine step_wanted (by simp [Region.wanted, yielded, zg]) ?_
              obtain ⟨_, zt8, rfl⟩ := hI.val _ mm8 (hd 8 (by kernel_rfl))
              go_simp
              refine (r13isB _ _ _ MG bb _ (HMb.out.below hI.bel) HSb.out HBB.out).mono ?_
              rintro e wa ⟨v, rfl, hv, hba⟩
              exact hK _ _ ((hI.world hba).value ⟨9, 113, _⟩ mm9 rfl hv)
            · obtain ⟨_, zg, rfl⟩ := hI.val _ mm5 (hd 5 (by kernel_rfl))
              refine step_wanted (by simp [Region.wanted, yielded, zg]) ?_
              obtain ⟨_, zt7, rfl⟩ := hI.val _ mm7 (hd 7 (by kernel_rfl))
              obtain ⟨_, zt9, rfl⟩ := hI.val _ mm9 (hd 9 (by kernel_rfl))
              go_simp
              exact hK _ _ (hI.value ⟨10, 114, _⟩ mm10 rfl rfl)
            · obtain ⟨_, zt5, rfl⟩ := hI.val _ mm5 (hd 5 (by kernel_rfl))
              obtain ⟨_, zt10, rfl⟩ := hI.val _ mm10 (hd 10 (by kernel_rfl))
              go_simp
              exact hK _ _ (hI.value ⟨11, 115, _⟩ mm11 rfl rfl)
            · obtain ⟨_, zt11, rfl⟩ := hI.val _ mm11 (hd 11 (by kernel_rfl))
              go_simp
              exact hK _ _ (hI.value ⟨12, 116, _⟩ mm12 rfl rfl)
            · obtain ⟨_, zg, rfl⟩ := hI.val _ mm12 (hd 12 (by kernel_rfl))
              refine step_wanted (by simp [Region.wanted, yielded, zg]) ?_
              have zt : T[13]? = some (.pointer (some ⟨wd.heap.size, 0, none⟩)) := hI.keep 13 (by simp)
              have cc0 := hI.cell t1
              have cc1 := hI.cell t2
              have cc2 := hI.cell t3
              go_simp
              exact hK _ _ (hI.value ⟨13, 117, _⟩ mm13 rfl rfl)
            · obtain ⟨_, zg, rfl⟩ := hI.val _ mm12 (hd 12 (by kernel_rfl))
              refine step_wanted (by simp [Region.wanted, yielded, zg]) ?_
              obtain ⟨_, zt13, rfl⟩ := hI.val _ mm13 (hd 13 (by kernel_rfl))
              go_simp
              refine (sisB _ _ _ MF false _ (HMo.out.below hI.bel) HSa.out (by omega) (by omega) HBO.out).mono ?_
              rintro e wa ⟨v, rfl, hv, hba⟩
              exact hK _ _ ((hI.world hba).value ⟨14, 118, _⟩ mm14 rfl hv)
            · obtain ⟨_, zg, rfl⟩ := hI.val _ mm12 (hd 12 (by kernel_rfl))
              refine step_wanted (by simp [Region.wanted, yielded, zg]) ?_
              obtain ⟨_, zt14, rfl⟩ := hI.val _ mm14 (hd 14 (by kernel_rfl))
              go_simp
              exact hK _ _ (hI.value ⟨15, 119, _⟩ mm15 rfl rfl)
            · obtain ⟨_, zt12, rfl⟩ := hI.val _ mm12 (hd 12 (by kernel_rfl))
              obtain ⟨_, zt15, rfl⟩ := hI.val _ mm15 (hd 15 (by kernel_rfl))
              go_simp
              exact hK _ _ (hI.value ⟨16, 120, _⟩ mm16 rfl rfl)
            · obtain ⟨_, zt16, rfl⟩ := hI.val _ mm16 (hd 16 (by kernel_rfl))
              go_simp
              exact hK _ _ (hI.value ⟨17, 121, _⟩ mm17 rfl rfl)
            · obtain ⟨_, zg, rfl⟩ := hI.val _ mm17 (hd 17 (by kernel_rfl))
              refine step_wanted (by simp [Region.wanted, yielded, zg]) ?_
              have zt : T[7]? = some (.bool true) := hI.keep 7 (by simp)
              go_simp
              exact hK _ _ (hI.value ⟨18, 122, _⟩ mm18 rfl rfl)
            · obtain ⟨_, zt17, rfl⟩ := hI.val _ mm17 (hd 17 (by kernel_rfl))
              obtain ⟨_, zt18, rfl⟩ := hI.val _ mm18 (hd 18 (by kernel_rfl))
              go_simp
              exact hK _ _ (hI.value ⟨19, 123, _⟩ mm19 rfl rfl)
            · obtain ⟨_, zt19, rfl⟩ := hI.val _ mm19 (hd 19 (by kernel_rfl))
              go_simp
              exact hK _ _ (hI.value ⟨20, 6, _⟩ mm20 rfl rfl)
          intro T W10 hI
          obtain ⟨vz0, q0, rfl⟩ := hI.val _ mm0 rfl
          obtain ⟨vz1, q1, rfl⟩ := hI.val _ mm1 rfl
          obtain ⟨vz2, q2, rfl⟩ := hI.val _ mm2 rfl
          obtain ⟨vz3, q3, rfl⟩ := hI.val _ mm3 rfl
          obtain ⟨vz4, q4, rfl⟩ := hI.val _ mm4 rfl
          obtain ⟨vz5, q5, rfl⟩ := hI.val _ mm5 rfl
          obtain ⟨vz6, q6, rfl⟩ := hI.val _ mm6 rfl
          obtain ⟨vz7, q7, rfl⟩ := hI.val _ mm7 rfl
          obtain ⟨vz8, q8, rfl⟩ := hI.val _ mm8 rfl
          obtain ⟨vz9, q9, rfl⟩ := hI.val _ mm9 rfl
          obtain ⟨vz10, q10, rfl⟩ := hI.val _ mm10 rfl
          obtain ⟨vz11, q11, rfl⟩ := hI.val _ mm11 rfl
          obtain ⟨vz12, q12, rfl⟩ := hI.val _ mm12 rfl
          obtain ⟨vz13, q13, rfl⟩ := hI.val _ mm13 rfl
          obtain ⟨vz14, q14, rfl⟩ := hI.val _ mm14 rfl
          obtain ⟨vz15, q15, rfl⟩ := hI.val _ mm15 rfl
          obtain ⟨vz16, q16, rfl⟩ := hI.val _ mm16 rfl
          obtain ⟨vz17, q17, rfl⟩ := hI.val _ mm17 rfl
          obtain ⟨vz18, q18, rfl⟩ := hI.val _ mm18 rfl
          obtain ⟨vz19, q19, rfl⟩ := hI.val _ mm19 rfl
          obtain ⟨vz20, q20, rfl⟩ := hI.val _ mm20 rfl
          have hT := tmps_set [(104, .agg #[.int .i64 R, .int .i64 C, .slice oo on oc]), (105, .bool ba), (106, .agg #[.int .i64 R, .int .i64 C, .slice oo on oc]), (107, .bool ba), (108, .bool true), (109, .bool true), (110, .agg #[.int .i64 R, .int .i64 C, .slice po pm pc]), (111, .bool bb), (112, .agg #[.int .i64 R, .int .i64 C, .slice po pm pc]), (113, .bool bb), (114, .bool true), (115, .bool true), (116, .bool true), (117, .agg #[.int .i64 ((R : Int) + 1), .int .i64 C, .slice qo qm qc]), (118, .bool false), (119, .bool true), (120, .bool true), (121, .bool true), (122, .bool true), (123, .bool true), (6, .bool true)]
            (fun j hj => hI.keep j (by simp only [List.forall_mem_cons] at hj ⊢; simp [hj]))
            (by simp only [List.forall_mem_cons]; simp [q0, q1, q2, q3, q4, q5, q6, q7, q8, q9, q10, q11, q12, q13, q14, q15, q16, q17, q18, q19, q20]) hI.size
          have hbW10 := hI.bel
          clear hI
          simp only [List.foldl_cons, List.foldl_nil, List.setIfInBounds_toArray, List.set_cons_zero, List.set_cons_succ, ptr] at hT
          subst hT
          clear q0 q1 q2 q3 q4 q5 q6 q7 q8 q9 q10 q11 q12 q13 q14 q15 q16 q17 q18 q19 q20
          have hbF := nx hbF hbW10
          go_wp2
          go_ret
          exact ⟨rfl, hbF⟩
        clear aK1
        by_cases hgo : 0 < R ∧ 0 < C
        · obtain ⟨hR0, hC0⟩ := hgo
          obtain ⟨e1, e2, e3, e4, e5, e6⟩ := T10.three
          obtain ⟨c1, c2, c3, c4⟩ := bw.two
          obtain ⟨pk, hpk, hpk'⟩ : ∃ k : Nat, (pn : Int) / 5 = k ∧ k ≤ 51 := ⟨pn / 5, by omega, by omega⟩
          obtain ⟨qk, hqk, hqk'⟩ : ∃ k : Nat, (qn : Int) / 5 = k ∧ k ≤ 51 := ⟨qn / 5, by omega, by omega⟩
          have HPK := HidS.mk hpk
          have HQK := HidS.mk hqk
          clear hpk hqk
          have hl1 : LastsB (fun (_ : World) (v : Value) => ∃ k : Nat, k < R ∧ v = .int .i64 k) := fun _ _ _ _ h => h
          have hl2 : LastsB (fun (_ : World) (v : Value) => ∃ k : Nat, k < C ∧ v = .int .i64 k) := fun _ _ _ _ h => h
          go_upto_region 9 with (fail)
          refine wp_region_each rfl (RV W7 _ [⟨0, 65, fun _ v => v = .pointer (some ⟨w.heap.size, 0, none⟩)⟩, ⟨1, 66, fun _ v => v = .int .u8 pn⟩, ⟨2, 67, fun _ v => v = .int .u8 pk⟩, ⟨3, 68, fun _ v => v = .int .i64 pk⟩, ⟨4, 69, fun _ v => v = .pointer (some ⟨wc.heap.size, 0, none⟩)⟩, ⟨5, 70, fun _ v => v = .int .i64 R⟩, ⟨6, 71, fun _ v => ∃ k : Nat, k < R ∧ v = .int .i64 k⟩, ⟨7, 72, fun _ v => v = .pointer (some ⟨w.heap.size, 1, none⟩)⟩, ⟨8, 73, fun _ v => v = .int .u8 qn⟩, ⟨9, 74, fun _ v => v = .int .u8 qk⟩, ⟨10, 75, fun _ v => v = .int .i64 qk⟩, ⟨11, 76, fun _ v => v = .pointer (some ⟨wc.heap.size, 1, none⟩)⟩, ⟨12, 77, fun _ v => v = .int .i64 C⟩, ⟨13, 78, fun _ v => ∃ k : Nat, k < C ∧ v = .int .i64 k⟩, ⟨14, 11, fun _ v => ∃ k : Nat, k < R ∧ v = .int .i64 k⟩, ⟨15, 12, fun _ v => ∃ k : Nat, k < C ∧ v = .int .i64 k⟩]) (by kernel_rfl) (RV.start (by kernel_rfl) (by repeat' (first | exact lastsB_int _ | exact lastsB_eq _ | exact lastsB_mat _ _ _ | exact lastsB_vec _ | assumption | refine List.forall_mem_cons.2 ⟨?_, ?_⟩ | exact List.forall_mem_nil _))) ?fin3 ?steps3
          case steps3 =>
            refine ⟨?_, ?_, ?_, ?_, ?_, ?_, ?_, ?_, ?_, ?_, ?_, ?_, ?_, ?_, ?_, ?_, trivial⟩ <;> (intro L T wS hL hd hcl hI K hK; try refine step_wanted rfl ?_)
            · have zt : T[4]? = some (.pointer (some ⟨w.heap.size, 0, none⟩)) := hI.keep 4 (by simp)
              go_simp
              exact hK _ _ (hI.value ⟨0, 65, _⟩ mm0 rfl rfl)
            · obtain ⟨_, zt0, rfl⟩ := hI.val _ mm0 (hd 0 (by kernel_rfl))
              have cc0 := hI.cell c1
              go_simp
              exact hK _ _ (hI.value ⟨1, 66, _⟩ mm1 rfl rfl)
            · obtain ⟨_, zt1, rfl⟩ := hI.val _ mm1 (hd 1 (by kernel_rfl))
              go_simp
              refine hK _ _ (hI.value ⟨2, 67, _⟩ mm2 rfl ?_)
              exact congrArg (Value.int .u8) ((u8_keep (by omega) (by omega)).trans HPK.out)
            · obtain ⟨_, zt2, rfl⟩ := hI.val _ mm2 (hd 2 (by kernel_rfl))
              go_simp
              refine hK _ _ (hI.value ⟨3, 68, _⟩ mm3 rfl ?_)
              exact congrArg (Value.int .i64) (wrap_keep (by omega) (by omega))
            · have zt : T[10]? = some (.pointer (some ⟨wc.heap.size, 0, none⟩)) := hI.keep 10 (by simp)
              go_simp
              exact hK _ _ (hI.value ⟨4, 69, _⟩ mm4 rfl rfl)
            · obtain ⟨_, zt4, rfl⟩ := hI.val _ mm4 (hd 4 (by kernel_rfl))
              have cc0 := hI.cell e1
              go_simp
              exact hK _ _ (hI.value ⟨5, 70, _⟩ mm5 rfl rfl)
            · obtain ⟨_, zt3, rfl⟩ := hI.val _ mm3 (hd 3 (by kernel_rfl))
              obtain ⟨_, zt5, rfl⟩ := hI.val _ mm5 (hd 5 (by kernel_rfl))
              go_simp
              rw [if_neg (by omega)]
              go_simp
              refine hK _ _ (hI.value ⟨6, 71, _⟩ mm6 rfl ?_)
              exact ⟨pk % R, Nat.mod_lt _ hR0, rfl⟩
            · have zt : T[4]? = some (.pointer (some ⟨w.heap.size, 0, none⟩)) := hI.keep 4 (by simp)
              go_simp
              exact hK _ _ (hI.value ⟨7, 72, _⟩ mm7 rfl rfl)
            · obtain ⟨_, zt7, rfl⟩ := hI.val _ mm7 (hd 7 (by kernel_rfl))
              have cc0 := hI.cell c2
              go_simp
              exact hK _ _ (hI.value ⟨8, 73, _⟩ mm8 rfl rfl)
            · obtain ⟨_, zt8, rfl⟩ := hI.val _ mm8 (hd 8 (by kernel_rfl))
              go_simp
              refine hK _ _ (hI.value ⟨9, 74, _⟩ mm9 rfl ?_)
              exact congrArg (Value.int .u8) ((u8_keep (by omega) (by omega)).trans HQK.out)
            · obtain ⟨_, zt9, rfl⟩ := hI.val _ mm9 (hd 9 (by kernel_rfl))
              go_simp
              refine hK _ _ (hI.value ⟨10, 75, _⟩ mm10 rfl ?_)
              exact congrArg (Value.int .i64) (wrap_keep (by omega) (by omega))
            · have zt : T[10]? = some (.pointer (some ⟨wc.heap.size, 0, none⟩)) := hI.keep 10 (by simp)
              go_simp
              exact hK _ _ (hI.value ⟨11, 76, _⟩ mm11 rfl rfl)
            · obtain ⟨_, zt11, rfl⟩ := hI.val _ mm11 (hd 11 (by kernel_rfl))
              have cc0 := hI.cell e2
              go_simp
              exact hK _ _ (hI.value ⟨12, 77, _⟩ mm12 rfl rfl)
            · obtain ⟨_, zt10, rfl⟩ := hI.val _ mm10 (hd 10 (by kernel_rfl))
              obtain ⟨_, zt12, rfl⟩ := hI.val _ mm12 (hd 12 (by kernel_rfl))
              go_simp
              rw [if_neg (by omega)]
              go_simp
              refine hK _ _ (hI.value ⟨13, 78, _⟩ mm13 rfl ?_)
              exact ⟨qk % C, Nat.mod_lt _ hC0, rfl⟩
            · obtain ⟨v6, zt6, h6⟩ := hI.val _ mm6 (hd 6 (by kernel_rfl))
              go_simp
              exact hK _ _ (hI.value ⟨14, 11, _⟩ mm14 rfl h6)
            · obtain ⟨v13, zt13, h13⟩ := hI.val _ mm13 (hd 13 (by kernel_rfl))
              go_simp
              exact hK _ _ (hI.value ⟨15, 12, _⟩ mm15 rfl h13)
          intro T W9 hI
          obtain ⟨va0, q0, rfl⟩ := hI.val _ mm0 rfl
          obtain ⟨va1, q1, rfl⟩ := hI.val _ mm1 rfl
          obtain ⟨va2, q2, rfl⟩ := hI.val _ mm2 rfl
          obtain ⟨va3, q3, rfl⟩ := hI.val _ mm3 rfl
          obtain ⟨va4, q4, rfl⟩ := hI.val _ mm4 rfl
          obtain ⟨va5, q5, rfl⟩ := hI.val _ mm5 rfl
          obtain ⟨va6, q6, ha6⟩ := hI.val _ mm6 rfl
          obtain ⟨va7, q7, rfl⟩ := hI.val _ mm7 rfl
          obtain ⟨va8, q8, rfl⟩ := hI.val _ mm8 rfl
          obtain ⟨va9, q9, rfl⟩ := hI.val _ mm9 rfl
          obtain ⟨va10, q10, rfl⟩ := hI.val _ mm10 rfl
          obtain ⟨va11, q11, rfl⟩ := hI.val _ mm11 rfl
          obtain ⟨va12, q12, rfl⟩ := hI.val _ mm12 rfl
          obtain ⟨va13, q13, ha13⟩ := hI.val _ mm13 rfl
          obtain ⟨va14, q14, ha14⟩ := hI.val _ mm14 rfl
          obtain ⟨va15, q15, ha15⟩ := hI.val _ mm15 rfl
          have hT := tmps_set [(65, .pointer (some ⟨w.heap.size, 0, none⟩)), (66, .int .u8 pn), (67, .int .u8 pk), (68, .int .i64 pk), (69, .pointer (some ⟨wc.heap.size, 0, none⟩)), (70, .int .i64 R), (71, va6), (72, .pointer (some ⟨w.heap.size, 1, none⟩)), (73, .int .u8 qn), (74, .int .u8 qk), (75, .int .i64 qk), (76, .pointer (some ⟨wc.heap.size, 1, none⟩)), (77, .int .i64 C), (78, va13), (11, va14), (12, va15)]
            (fun j hj => hI.keep j (by simp only [List.forall_mem_cons] at hj ⊢; simp [hj]))
            (by simp only [List.forall_mem_cons]; simp [q0, q1, q2, q3, q4, q5, q6, q7, q8, q9, q10, q11, q12, q13, q14, q15]) hI.size
          have hbW9 := hI.bel
          clear hI
          simp only [List.foldl_cons, List.foldl_nil, List.setIfInBounds_toArray, List.set_cons_zero, List.set_cons_succ, ptr] at hT
          subst hT
          clear q0 q1 q2 q3 q4 q5 q6 q7 q8 q9 q10 q11 q12 q13 q14 q15
          obtain ⟨ii, hii, rfl⟩ := ha14
          obtain ⟨jj, hjj, rfl⟩ := ha15
          have T10 := T10.below hbW9
          have T8 := T8.below hbW9
          have ho2 := ho2.below hbW9
          have ho := ho.below hbW9
          have hb := nx hb hbW9
          have hbR := nx hbR hbW9
          have q9 := hbW9.size
          obtain ⟨g2, bo2, rfl, hg2, hbo2, hbo3, o2, ho4⟩ := ho2.at_ (i := ii) (by omega)
          obtain ⟨y1, y2, y3, y4, y5, y6⟩ := T10.three
          obtain ⟨sn, sa, sl, sc, t1, t2, t3, t4, hzv⟩ := ho2.cellAt hbo2 hjj
          rw [ent_genM hii hjj] at hzv
          have hio : ii < pm := by omega
          have hfb := HFL.out ii hii jj hjj
          obtain ⟨fz, hfz⟩ : ∃ fz : Int, F ii jj = fz := ⟨_, rfl⟩
          rw [hfz] at hzv hfb
          have HO4 := Lib.hid ho4
          have lt10 := T10.lt
          have HZS : HidS (Sm fz ∧ Sm c) := ⟨(million.smd _ (by omega)).sm, (million.smd _ (by omega)).sm⟩
          have HFZ := HidS.mk hfz
          clear e1 e2 e3 e4 e5 e6 c1 c2 c3 c4 ho4 hfz
          go_upto_region 10 with (fail)
          refine wp_region_headed 19 rfl (RI W9 (W9.heap.size) _ 45
              [⟨0, 79, fun _ v => v = .pointer (some ⟨wc.heap.size, 2, none⟩)⟩, ⟨1, 80, fun _ v => v = .slice (some ⟨g2, 0, none⟩) pm pc⟩, ⟨2, 81, fun _ v => v = .int .i64 ii⟩, ⟨3, 82, fun _ v => v = .pointer (some ⟨g2, ii, none⟩)⟩, ⟨4, 83, fun _ v => v = .slice (some ⟨bo2, 0, none⟩) C C⟩, ⟨5, 84, fun _ v => v = .int .i64 jj⟩, ⟨6, 85, fun _ v => v = .pointer (some ⟨wc.heap.size, 2, none⟩)⟩, ⟨7, 86, fun _ v => v = .slice (some ⟨g2, 0, none⟩) pm pc⟩, ⟨8, 87, fun _ v => v = .int .i64 ii⟩, ⟨9, 88, fun _ v => v = .pointer (some ⟨g2, ii, none⟩)⟩, ⟨10, 89, fun _ v => v = .slice (some ⟨bo2, 0, none⟩) C C⟩, ⟨11, 90, fun _ v => v = .int .i64 jj⟩, ⟨12, 91, fun _ v => v = .pointer (some ⟨bo2, jj * 2, none⟩)⟩, ⟨13, 92, fun _ v => v = .agg #[.bool sn, .slice sa sl sc]⟩, ⟨14, 93, fun _ v => v = .int .i8 c⟩, ⟨15, 94, fun _ v => v = .int .i64 c⟩, ⟨16, 95, fun w v => IntV w v (c)⟩, ⟨17, 96, fun w v => IntV w v (fz + c)⟩, ⟨18, 97, fun _ v => v = .pointer (some ⟨bo2, jj * 2, none⟩)⟩]
              [] []) (by kernel_rfl) (RI.start (by kernel_rfl) (by decide) (by repeat' (first | exact lasts_int _ | exact lasts_eq _ | assumption | refine List.forall_mem_cons.2 ⟨?_, ?_⟩ | exact List.forall_mem_nil _)) nom nom
                nom nom nom
                (by first | exact Nat.le_refl _ | omega)) ?fin4 ?steps4
          case steps4 =>
            refine ⟨?_, ?_, ?_, ?_, ?_, ?_, ?_, ?_, ?_, ?_, ?_, ?_, ?_, ?_, ?_, ?_, ?_, ?_, ?_, trivial⟩ <;> (intro L T wS hL hd hcl hI K hK; try refine step_wanted rfl ?_)
            · have zt : T[10]? = some (.pointer (some ⟨wc.heap.size, 0, none⟩)) := hI.keep 10 (by simp) (by simp)
              go_simp
              exact hK _ _ (hI.value ⟨0, 79, _⟩ mm0 rfl rfl)
            · obtain ⟨v0, zt0, rfl⟩ := hI.val _ mm0 (hd 0 (by kernel_rfl))
              have cc0 := hI.cell y3 (by omega) nom
              go_simp
              exact hK _ _ (hI.value ⟨1, 80, _⟩ mm1 rfl rfl)
            · have zt : T[11]? = some (.int .i64 ii) := hI.keep 11 (by simp) (by simp)
              go_simp
              exact hK _ _ (hI.value ⟨2, 81, _⟩ mm2 rfl rfl)
            · obtain ⟨v1, zt1, rfl⟩ := hI.val _ mm1 (hd 1 (by kernel_rfl))
              obtain ⟨v2, zt2, rfl⟩ := hI.val _ mm2 (hd 2 (by kernel_rfl))
              go_simp
              exact hK _ _ (hI.value ⟨3, 82, _⟩ mm3 rfl rfl)
            · obtain ⟨v3, zt3, rfl⟩ := hI.val _ mm3 (hd 3 (by kernel_rfl))
              have cc0 := hI.cell o2 (by omega) nom
              go_simp
              exact hK _ _ (hI.value ⟨4, 83, _⟩ mm4 rfl rfl)
            · have zt : T[12]? = some (.int .i64 jj) := hI.keep 12 (by simp) (by simp)
              go_simp
              exact hK _ _ (hI.value ⟨5, 84, _⟩ mm5 rfl rfl)
            · have zt : T[10]? = some (.pointer (some ⟨wc.heap.size, 0, none⟩)) := hI.keep 10 (by simp) (by simp)
              go_simp
              exact hK _ _ (hI.value ⟨6, 85, _⟩ mm6 rfl rfl)
            · obtain ⟨v6, zt6, rfl⟩ := hI.val _ mm6 (hd 6 (by kernel_rfl))
              have cc0 := hI.cell y3 (by omega) nom
              go_simp
              exact hK _ _ (hI.value ⟨7, 86, _⟩ mm7 rfl rfl)
            · have zt : T[11]? = some (.int .i64 ii) := hI.keep 11 (by simp) (by simp)
              go_simp
              exact hK _ _ (hI.value ⟨8, 87, _⟩ mm8 rfl rfl)
            · obtain ⟨v7, zt7, rfl⟩ := hI.val _ mm7 (hd 7 (by kernel_rfl))
              obtain ⟨v8, zt8, rfl⟩ := hI.val _ mm8 (hd 8 (by kernel_rfl))
              go_simp
              exact hK _ _ (hI.value ⟨9, 88, _⟩ mm9 rfl rfl)
            · obtain ⟨v9, zt9, rfl⟩ := hI.val _ mm9 (hd 9 (by kernel_rfl))
              have cc0 := hI.cell o2 (by omega) nom
              go_simp
              exact hK _ _ (hI.value ⟨10, 89, _⟩ mm10 rfl rfl)
            · have zt : T[12]? = some (.int .i64 jj) := hI.keep 12 (by simp) (by simp)
              go_simp
              exact hK _ _ (hI.value ⟨11, 90, _⟩ mm11 rfl rfl)
            · obtain ⟨v10, zt10, rfl⟩ := hI.val _ mm10 (hd 10 (by kernel_rfl))
              obtain ⟨v11, zt11, rfl⟩ := hI.val _ mm11 (hd 11 (by kernel_rfl))
              go_simp
              exact hK _ _ (hI.value ⟨12, 91, _⟩ mm12 rfl rfl)
            · obtain ⟨v12, zt12, rfl⟩ := hI.val _ mm12 (hd 12 (by kernel_rfl))
              have cc0 := hI.cell t1 (by omega) nom
              have cc1 := hI.cell t2 (by omega) nom
              go_simp
              exact hK _ _ (hI.value ⟨13, 92, _⟩ mm13 rfl rfl)
            · have zt : T[2]? = some (.int .i8 c) := hI.keep 2 (by simp) (by simp)
              go_simp
              exact hK _ _ (hI.value ⟨14, 93, _⟩ mm14 rfl rfl)
            · obtain ⟨v14, zt14, rfl⟩ := hI.val _ mm14 (hd 14 (by kernel_rfl))
              go_simp
              exact hK _ _ (hI.value ⟨15, 94, _⟩ mm15 rfl (congrArg (Value.int .i64) (wrap_keep (by omega) (by omega))))
            · obtain ⟨v15, zt15, rfl⟩ := hI.val _ mm15 (hd 15 (by kernel_rfl))
              go_simp
              refine (r1of_any c _ (by omega) (by omega)).mono ?_
              rintro e wa ⟨v, rfl, hv, hba⟩
              exact hK _ _ ((hI.world hba).value ⟨16, 95, _⟩ mm16 rfl hv)
            · obtain ⟨v13, zt13, rfl⟩ := hI.val _ mm13 (hd 13 (by kernel_rfl))
              obtain ⟨v16, zt16, h16⟩ := hI.val _ mm16 (hd 16 (by kernel_rfl))
              go_simp
              refine (r1add_any _ _ fz c _ (hzv.ext hI.lext) h16 HZS.out.1 HZS.out.2).mono ?_
              rintro e wa ⟨v, rfl, hv, hba⟩
              exact hK _ _ ((hI.world hba).value ⟨17, 96, _⟩ mm17 rfl hv)
            · obtain ⟨v4, zt4, rfl⟩ := hI.val _ mm4 (hd 4 (by kernel_rfl))
              obtain ⟨v5, zt5, rfl⟩ := hI.val _ mm5 (hd 5 (by kernel_rfl))
              go_simp
              exact hK _ _ (hI.value ⟨18, 97, _⟩ mm18 rfl rfl)
          intro T WA hI
          obtain ⟨vd0, q0, rfl⟩ := hI.val _ mm0 rfl
          obtain ⟨vd1, q1, rfl⟩ := hI.val _ mm1 rfl
          obtain ⟨vd2, q2, rfl⟩ := hI.val _ mm2 rfl
          obtain ⟨vd3, q3, rfl⟩ := hI.val _ mm3 rfl
          obtain ⟨vd4, q4, rfl⟩ := hI.val _ mm4 rfl
          obtain ⟨vd5, q5, rfl⟩ := hI.val _ mm5 rfl
          obtain ⟨vd6, q6, rfl⟩ := hI.val _ mm6 rfl
          obtain ⟨vd7, q7, rfl⟩ := hI.val _ mm7 rfl
          obtain ⟨vd8, q8, rfl⟩ := hI.val _ mm8 rfl
          obtain ⟨vd9, q9, rfl⟩ := hI.val _ mm9 rfl
          obtain ⟨vd10, q10, rfl⟩ := hI.val _ mm10 rfl
          obtain ⟨vd11, q11, rfl⟩ := hI.val _ mm11 rfl
          obtain ⟨vd12, q12, rfl⟩ := hI.val _ mm12 rfl
          obtain ⟨vd13, q13, rfl⟩ := hI.val _ mm13 rfl
          obtain ⟨vd14, q14, rfl⟩ := hI.val _ mm14 rfl
          obtain ⟨vd15, q15, rfl⟩ := hI.val _ mm15 rfl
          obtain ⟨vd16, q16, hd16⟩ := hI.val _ mm16 rfl
          replace hd16 : IntV WA vd16 (c) := hd16
          obtain ⟨vd17, q17, hd17⟩ := hI.val _ mm17 rfl
          replace hd17 : IntV WA vd17 (fz + c) := hd17
          obtain ⟨vd18, q18, rfl⟩ := hI.val _ mm18 rfl
          have hT := tmps_set [(79, .pointer (some ⟨wc.heap.size, 2, none⟩)), (80, .slice (some ⟨g2, 0, none⟩) pm pc), (81, .int .i64 ii), (82, .pointer (some ⟨g2, ii, none⟩)), (83, .slice (some ⟨bo2, 0, none⟩) C C), (84, .int .i64 jj), (85, .pointer (some ⟨wc.heap.size, 2, none⟩)), (86, .slice (some ⟨g2, 0, none⟩) pm pc), (87, .int .i64 ii), (88, .pointer (some ⟨g2, ii, none⟩)), (89, .slice (some ⟨bo2, 0, none⟩) C C), (90, .int .i64 jj), (91, .pointer (some ⟨bo2, jj * 2, none⟩)), (92, .agg #[.bool sn, .slice sa sl sc]), (93, .int .i8 c), (94, .int .i64 c), (95, vd16), (96, vd17), (97, .pointer (some ⟨bo2, jj * 2, none⟩))]
            (fun j hj => hI.keep j (by simp only [List.forall_mem_cons] at hj ⊢; simp [hj]) (by simp only [List.forall_mem_cons] at hj ⊢; simp [hj]))
            (by simp only [List.forall_mem_cons]; simp [q0, q1, q2, q3, q4, q5, q6, q7, q8, q9, q10, q11, q12, q13, q14, q15, q16, q17, q18]) hI.size
          have hlWA := hI.lext
          have hbWA := hI.bel (W9.heap.size) (by omega) nom
          have holdWA := hI.old
          clear hI
          simp only [List.foldl_cons, List.foldl_nil, List.setIfInBounds_toArray, List.set_cons_zero, List.set_cons_succ, ptr] at hT
          subst hT
          clear q0 q1 q2 q3 q4 q5 q6 q7 q8 q9 q10 q11 q12 q13 q14 q15 q16 q17 q18
          simp only [List.drop_succ_cons, List.drop_zero]
          obtain ⟨gn, ga, gl, gc, gx, rfl, hpx⟩ := id hd17
          have HPX := Lib.hid hpx
          clear hpx t1 t2 t3 t4
          have hoA := ho2.below hbWA
          obtain ⟨sn', sa', sl', sc', t1, t2, t3, t4, -⟩ := hoA.cellAt hbo2 hjj
          have hbolt := hlts2 ii bo2 hbo2
          have hset := hoA.set hbo2 hjj hd17
          have hbase := hset.2.2
          rw [setM_genM _ hii hjj] at hset
          have HSET := HidS.mk hset
          clear hset
          go_wp2
          apply REST
          · exact bset (bset (nx hb hbWA) (by omega) _ _) (by omega) _ _
          · exact (set2_old _ _ _ _ _ _ _ (by omega)).trans (T8.below hbWA)
          · exact (set2_old _ _ _ _ _ _ _ (by omega)).trans (T10.below hbWA)
          · exact HSET.out.1
          · intro a ha b hb
            dsimp only
            split
            · omega
            · exact Nat.le_trans (HFL.out a ha b hb) (by omega)
          · exact bset (bset (nx hbR hbWA) (by omega) _ _) (by omega) _ _
        · have ho2' := ho2
          obtain ⟨e1, e2, e3, e4, e5, e6⟩ := T10.three
          have hG : leF 33000 R C F := fun a ha b hb => Nat.le_trans (HFL.out a ha b hb) (by omega)
          by_cases hR0 : 0 < R
          · have hC0 : ¬ 0 < C := fun h => hgo ⟨hR0, h⟩
            clear hgo
            go_wp2
            apply REST <;> first | assumption | omega
          · clear hgo
            go_wp2
            apply REST <;> first | assumption | omega

end Go.Proofs.YtnocgagoaldfnaaGreat
