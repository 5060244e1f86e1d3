/- smith: band.add. -/
import Derived.Test.YtnocgagoaldfnaaGreatQ24
set_option linter.unusedVariables false
set_option linter.unusedSimpArgs false
set_option linter.unusedSectionVars false
namespace Go.Proofs.YtnocgagoaldfnaaGreat
open Go.RowKit

/-- A matrix whose rows may be written: blocks bs, elements F. -/
def Wri (w : World) (A : Value) (R C : Nat) (bs : List Nat) (F : Nat → Nat → Int) : Prop := RowsO w 0 A C bs (genM R C F)
theorem Wri.below {w w' : World} {A : Value} {R C : Nat} {bs : List Nat} {F : Nat → Nat → Int} (h : Wri w A R C bs F) (hb : Below w.heap.size w w') : Wri w' A R C bs F := RowsO.below h hb
theorem Wri.len {w : World} {A : Value} {R C : Nat} {bs : List Nat} {F : Nat → Nat → Int} (h : Wri w A R C bs F) : bs.length = R := by rw [← RowsO.len h]; simp [genM]
theorem Wri.blk {w : World} {A : Value} {R C : Nat} {bs : List Nat} {F : Nat → Nat → Int} (h : Wri w A R C bs F) {b : Nat} (hb : b ∈ bs) : ∃ r, RowAt w b r := by
  obtain ⟨k, hk, e⟩ := List.getElem_of_mem hb
  have hl := h.len
  obtain ⟨b', e1, e2⟩ := RowsO.rowAt h (i := k) (by omega)
  rw [List.getElem?_eq_getElem hk, e] at e1
  injection e1 with e1
  subst e1
  exact ⟨_, e2⟩
/-- Another matrix stays where a row of a matrix is written. -/
theorem Wri.only {w w' : World} {A : Value} {R C : Nat} {bs : List Nat} {F : Nat → Nat → Int} {b : Nat} {r : List Int} (h : Wri w A R C bs F) (ho : Only [b] w w') (hn : b ∉ bs) (hr : RowAt w b r) : Wri w' A R C bs F :=
  RowsO.only h ho (fun x hx => by
    intro hh
    simp at hh
    subst hh
    exact hn hx) (fun g hg => by
    simp at hg
    subst hg
    exact ⟨_, hr⟩)

/-- Two lists of blocks have none in common. -/
def Far (xs ys : List Nat) : Prop := ∀ b, b ∈ xs → b ∉ ys

/-- The three matrices of a band. -/
structure BandV (w : World) (As At Ai : Value) (n Cs Ct : Nat) (bss bst bsi : List Nat) (S T I : Nat → Nat → Int) : Prop where
  s : Wri w As n Cs bss S
  t : Wri w At n Ct bst T
  i : Wri w Ai n Ct bsi I
  st : Far bss bst
  si : Far bss bsi
  ti : Far bst bsi
  ast : ∀ g, As.ownBlock = some g → At.ownBlock ≠ some g
  asi : ∀ g, As.ownBlock = some g → Ai.ownBlock ≠ some g
  ati : ∀ g, At.ownBlock = some g → Ai.ownBlock ≠ some g

abbrev tRR : TypeId := 26
theorem Tryz.infoRR : (Tryz.prog.info? tRR).map (fun i => (i.zero, i.size, i.bytes)) = some (some (.slice none 0 0), 1, 24) := by kernel_rfl
theorem run_index_rr (t : TypeId) (n : Nat) (cs : Array Value) (k : Int) (j : Nat) (v : Value) (W : World) (h : Tryz.prog.underlying t = some (.array n tRR)) (hk : k = (j : Int)) (hj : j < n) (hv : cs[j]? = some v) :
    (Instr.index t (.agg cs) (.int .i64 k)).run Tryz.prog W = .ok v W := by
  subst hk
  obtain ⟨i0, hi, hz0, hz1, hz2⟩ := info_parts Tryz.infoRR
  have hc : (0 : Int) ≤ (j : Int) ∧ (j : Int) < (n : Int) := by omega
  have hu := Tryz.underlying26
  simp [Instr.index, run_underlying h, asIntOf, hc, part, isAgg, run_underlying hu, sizeOf, typeInfo, hi, hz1, hv, go_sem]
  intro h0
  omega

/-- The numbers that 'add' makes are small. -/
def AddSm (C : Nat) (F : Nat → Nat → Int) (i j : Nat) (k : Int) : Prop := ∀ t, t < C → Sm (F i t) ∧ Sm (F j t) ∧ Sm (k * F j t)

set_option maxHeartbeats 4000000 in
set_option maxRecDepth 20000 in
theorem band_add_any (As At Ai : Value) (n Cs Ct i j : Nat) (bss bst bsi : List Nat) (S T I : Nat → Nat → Int) (kv : Value) (k : Int) (w : World) (h : BandV w As At Ai n Cs Ct bss bst bsi S T I) (hi : i < n) (hj : j < n) (hij : i ≠ j) (hk : IntV w kv k)
    (hn : n ≤ 1000000) (hCs : Cs ≤ 1000000) (hCt : Ct ≤ 1000000) (hS : AddSm Cs S i j k) (hT : AddSm Ct T i j k) (hI : AddSm Ct I j i (-k)) (hks : Sm k) :
    Calls Tryz.prog 134 #[.agg #[As, At, Ai], .int .i64 i, .int .i64 j, kv] w fun e w' => (∃ u, e = .returned u) ∧ Below 0 w w' ∧ LExt w w' ∧ (∀ b, b < w.heap.size → b ∉ bss → b ∉ bst → b ∉ bsi → w'.heap[b]? = w.heap[b]?) ∧
      BandV w' As At Ai n Cs Ct bss bst bsi (addF S i j k) (addF T i j k) (addF I j i (-k)) := by
  obtain ⟨so, sn, sc, rfl, s1, s2, s3, -⟩ := id (RowsO.rows h.s)
  obtain ⟨uo, tn, tc, rfl, t1, t2, t3, -⟩ := id (RowsO.rows h.t)
  obtain ⟨io, in_, ic, rfl, i1, i2, i3, -⟩ := id (RowsO.rows h.i)
  obtain ⟨kn, ka, kl, kc, kx, rfl, hkx⟩ := id hk
  have HKX := Lib.hid hkx
  have HS := HidS.mk hS
  have HT := HidS.mk hT
  have HI := HidS.mk hI
  have HK := HidS.mk hks
  clear hkx hS hT hI hks
  obtain ⟨hs, ht, hi_, fst_, fsi, fti, gst, gsi, gti⟩ := h
  have GST := HidS.mk gst
  have GSI := HidS.mk gsi
  have GTI := HidS.mk gti
  clear gst gsi gti
  have e1 : n = sn := by rw [← s1]; simp [genM]
  have e2 : n = tn := by rw [← t1]; simp [genM]
  have e3 : n = in_ := by rw [← i1]; simp [genM]
  subst e1
  subst e2
  subst e3
  clear s1 t1 i1
  have hltbss : ∀ b ∈ bss, b < w.heap.size := fun b hb => (hs.blk hb).elim fun r hr => hr.lt
  have hltbst : ∀ b ∈ bst, b < w.heap.size := fun b hb => (ht.blk hb).elim fun r hr => hr.lt
  have hltbsi : ∀ b ∈ bsi, b < w.heap.size := fun b hb => (hi_.blk hb).elim fun r hr => hr.lt
  go_enter Tryz.func134, Tryz.ntmps134
  go_upto_region 1 with (fail)
  refine wp_world ?_
  intro W0 hW0
  obtain ⟨hB0, bx, bk, hs0⟩ := world2 hW0
  obtain ⟨c1, c2, c3, c4, c5, c6⟩ := bx.three
  have hs := hs.below hB0
  have ht := ht.below hB0
  have hi_ := hi_.below hB0
  have hk := hk.ext (lx hB0)
  clear hW0
  go_wp2
  clear c1 c2 c3 c4 c5 c6
  go_loopw [15] (fun mv wr => ∃ m : Nat, m ≤ 2 ∧ mv = .int .i64 m ∧ Below 0 w wr ∧ LExt w wr ∧ (∀ b, b < w.heap.size → b ∉ bss → b ∉ bst → b ∉ bsi → wr.heap[b]? = w.heap[b]?) ∧ Blk wr w.heap.size 114 #[.slice so n sc, .slice uo n tc, .slice io n ic] ∧
    Blk wr (w.heap.size + 1) 45 #[.bool kn, .slice ka kl kc] ∧ IntV wr (.agg #[.bool kn, .slice ka kl kc]) k ∧ Wri wr (.slice so n sc) n Cs bss (if m = 0 then S else addF S i j k) ∧ Wri wr (.slice uo n tc) n Ct bst (if m = 2 then addF T i j k else T) ∧ Wri wr (.slice io n ic) n Ct bsi I) (fun mv _ => 2 - (intOf mv).toNat)
  case atStart => exact ⟨0, by omega, rfl, hB0.mono (Nat.zero_le _), lx hB0, fun b hb _ _ _ => hB0.block b hb, bx, bk, hk, hs, ht, hi_⟩
  case round =>
    obtain ⟨m, hm, rfl, hb0, hx0, hold, bx, bk, hk, hs, ht, hi_⟩ := hrel
    have lk := bk.lt
    obtain ⟨d1, d2, d3, d4⟩ := bk.two
    by_cases hm0 : m = 0
    · subst hm0
      rw [if_pos rfl] at hs
      rw [if_neg (by omega)] at ht
      obtain ⟨g, bi, rfl, hg, hbi, hbi2, o1, -⟩ := RowsO.at_ hs (i := i) (by rw [hs.len]; exact hi)
      obtain ⟨g', bj, eg, hg', hbj, hbj2, o2, -⟩ := RowsO.at_ hs (i := j) (by rw [hs.len]; exact hj)
      obtain rfl : g = g' := by injection eg with eg; injection eg
      have hmi := List.mem_of_getElem? hbi
      obtain ⟨ri, hri⟩ := hs.blk hmi
      have hix := fun W => run_index_rr 156 2 #[.slice (some ⟨g, 0, none⟩) n sc, .slice uo n tc] 0 0 _ W Tryz.underlying156 rfl (by omega) rfl
      go_upto_region 4 with (fail)
      refine wp_region_headed 9 rfl (RI wr (wr.heap.size) _ 45
          [⟨0, 18, fun _ v => v = .slice (some ⟨g, 0, none⟩) n sc⟩, ⟨1, 19, fun _ v => v = .int .i64 i⟩, ⟨2, 20, fun _ v => v = .pointer (some ⟨g, i, none⟩)⟩, ⟨3, 21, fun _ v => v = .slice (some ⟨bi, 0, none⟩) Cs Cs⟩, ⟨4, 22, fun _ v => v = .slice (some ⟨g, 0, none⟩) n sc⟩, ⟨5, 23, fun _ v => v = .int .i64 j⟩, ⟨6, 24, fun _ v => v = .pointer (some ⟨g, j, none⟩)⟩, ⟨7, 25, fun _ v => v = .slice (some ⟨bj, 0, none⟩) Cs Cs⟩, ⟨8, 26, fun _ v => v = .agg #[.bool kn, .slice ka kl kc]⟩]
          [] []) (by kernel_rfl) (RI.start (by kernel_rfl) (by decide) (by repeat' (first | exact lasts_int _ | exact lasts_eq _ | assumption | refine List.forall_mem_cons.2 ⟨?_, ?_⟩ | exact List.forall_mem_nil _)) nom nom
            nom nom nom
            (by first | exact Nat.le_refl _ | omega)) ?fin1 ?steps1
      case steps1 =>
        refine ⟨?_, ?_, ?_, ?_, ?_, ?_, ?_, ?_, ?_, trivial⟩ <;> (intro L T wS hL hd hcl hI K hK; try refine step_wanted rfl ?_)
        · have zt : T[9]? = some (.slice (some ⟨g, 0, none⟩) n sc) := hI.keep 9 (by simp) (by simp)
          go_simp
          exact hK _ _ (hI.value ⟨0, 18, _⟩ mm0 rfl rfl)
        · have zt : T[1]? = some (.int .i64 i) := hI.keep 1 (by simp) (by simp)
          go_simp
          exact hK _ _ (hI.value ⟨1, 19, _⟩ mm1 rfl rfl)
        · obtain ⟨v0, zt0, rfl⟩ := hI.val _ mm0 (hd 0 (by kernel_rfl))
          obtain ⟨v1, zt1, rfl⟩ := hI.val _ mm1 (hd 1 (by kernel_rfl))
          go_simp
          exact hK _ _ (hI.value ⟨2, 20, _⟩ mm2 rfl rfl)
        · obtain ⟨v2, zt2, rfl⟩ := hI.val _ mm2 (hd 2 (by kernel_rfl))
          have cc0 := hI.cell o1 (by omega) nom
          go_simp
          exact hK _ _ (hI.value ⟨3, 21, _⟩ mm3 rfl rfl)
        · have zt : T[9]? = some (.slice (some ⟨g, 0, none⟩) n sc) := hI.keep 9 (by simp) (by simp)
          go_simp
          exact hK _ _ (hI.value ⟨4, 22, _⟩ mm4 rfl rfl)
        · have zt : T[2]? = some (.int .i64 j) := hI.keep 2 (by simp) (by simp)
          go_simp
          exact hK _ _ (hI.value ⟨5, 23, _⟩ mm5 rfl rfl)
        · obtain ⟨v4, zt4, rfl⟩ := hI.val _ mm4 (hd 4 (by kernel_rfl))
          obtain ⟨v5, zt5, rfl⟩ := hI.val _ mm5 (hd 5 (by kernel_rfl))
          go_simp
          exact hK _ _ (hI.value ⟨6, 24, _⟩ mm6 rfl rfl)
        · obtain ⟨v6, zt6, rfl⟩ := hI.val _ mm6 (hd 6 (by kernel_rfl))
          have cc0 := hI.cell o2 (by omega) nom
          go_simp
          exact hK _ _ (hI.value ⟨7, 25, _⟩ mm7 rfl rfl)
        · have zt : T[7]? = some (.pointer (some ⟨w.heap.size + 1, 0, none⟩)) := hI.keep 7 (by simp) (by simp)
          have cc0 := hI.cell d1 (by omega) nom
          have cc1 := hI.cell d2 (by omega) nom
          go_simp
          exact hK _ _ (hI.value ⟨8, 26, _⟩ mm8 rfl rfl)
      intro T w8 hI
      obtain ⟨va0, q0, rfl⟩ := hI.val _ mm0 rfl
      obtain ⟨va1, q1, rfl⟩ := hI.val _ mm1 rfl
      obtain ⟨va2, q2, rfl⟩ := hI.val _ mm2 rfl
      obtain ⟨va3, q3, rfl⟩ := hI.val _ mm3 rfl
      obtain ⟨va4, q4, rfl⟩ := hI.val _ mm4 rfl
      obtain ⟨va5, q5, rfl⟩ := hI.val _ mm5 rfl
      obtain ⟨va6, q6, rfl⟩ := hI.val _ mm6 rfl
      obtain ⟨va7, q7, rfl⟩ := hI.val _ mm7 rfl
      obtain ⟨va8, q8, rfl⟩ := hI.val _ mm8 rfl
      have hT := tmps_set [(18, .slice (some ⟨g, 0, none⟩) n sc), (19, .int .i64 i), (20, .pointer (some ⟨g, i, none⟩)), (21, .slice (some ⟨bi, 0, none⟩) Cs Cs), (22, .slice (some ⟨g, 0, none⟩) n sc), (23, .int .i64 j), (24, .pointer (some ⟨g, j, none⟩)), (25, .slice (some ⟨bj, 0, none⟩) Cs Cs), (26, .agg #[.bool kn, .slice ka kl kc])]
        (fun j hj => hI.keep j (by simp only [List.forall_mem_cons] at hj ⊢; simp [hj]) (by simp only [List.forall_mem_cons] at hj ⊢; simp [hj]))
        (by simp only [List.forall_mem_cons]; simp [q0, q1, q2, q3, q4, q5, q6, q7, q8]) hI.size
      have hlw8 := hI.lext
      have hbw8 := hI.bel (wr.heap.size) (by omega) nom
      have holdw8 := hI.old
      clear hI
      simp only [List.foldl_cons, List.foldl_nil, List.setIfInBounds_toArray, List.set_cons_zero, List.set_cons_succ, ptr] at hT
      subst hT
      clear q0 q1 q2 q3 q4 q5 q6 q7 q8
      simp only [List.drop_succ_cons, List.drop_zero]
      have hs8 := hs.below hbw8
      go_wp2_with fail
      refine (addRows hs8 hi hj hij hbi hbj _ k (hk.ext (lx hbw8)) hCs HS.out HK.out).mono ?_
      rintro e w9 ⟨⟨u, rfl⟩, ho, hs9⟩
      go_wp2
      go_roundw
      case measure => simp [intOf]
      have hsz := hb0.size
      have hbs2 : w.heap.size ≠ bi := by have := hltbss bi hmi; omega
      have hbs3 : w.heap.size + 1 ≠ bi := by have := hltbss bi hmi; omega
      have hri8 := hri.below hbw8
      have hoo := (Only.of [bi] hbw8).trans ho
      refine ⟨1, by omega, by simp, hb0.trans hoo.bel, hx0.trans hoo.lext, fun b hb n1 n2 n3 => (hoo.old b (by omega) (by simp; rintro rfl; exact n1 hmi)).trans (hold b hb n1 n2 n3), (hoo.old _ bx.lt (by simpa using hbs2)).trans bx, (hoo.old _ bk.lt (by simpa using hbs3)).trans bk, hk.ext hoo.lext, ?_, ?_, ?_⟩
      · rw [if_neg (by omega)]; exact hs9
      · rw [if_neg (by omega)]; exact (ht.below hbw8).only ho (fun hh => fst_ _ hmi hh) hri8
      · exact (hi_.below hbw8).only ho (fun hh => fsi _ hmi hh) hri8
    · by_cases hm1 : m = 1
      · subst hm1
        rw [if_neg (by omega)] at hs ht
        obtain ⟨g, bi, rfl, hg, hbi, hbi2, o1, -⟩ := RowsO.at_ ht (i := i) (by rw [ht.len]; exact hi)
        obtain ⟨g', bj, eg, hg', hbj, hbj2, o2, -⟩ := RowsO.at_ ht (i := j) (by rw [ht.len]; exact hj)
        obtain rfl : g = g' := by injection eg with eg; injection eg
        have hmi := List.mem_of_getElem? hbi
        obtain ⟨ri, hri⟩ := ht.blk hmi
        have hix := fun W => run_index_rr 156 2 #[.slice so n sc, .slice (some ⟨g, 0, none⟩) n tc] 1 1 _ W Tryz.underlying156 rfl (by omega) rfl
        go_upto_region 4 with (fail)
        refine wp_region_headed 9 rfl (RI wr (wr.heap.size) _ 45
            [⟨0, 18, fun _ v => v = .slice (some ⟨g, 0, none⟩) n tc⟩, ⟨1, 19, fun _ v => v = .int .i64 i⟩, ⟨2, 20, fun _ v => v = .pointer (some ⟨g, i, none⟩)⟩, ⟨3, 21, fun _ v => v = .slice (some ⟨bi, 0, none⟩) Ct Ct⟩, ⟨4, 22, fun _ v => v = .slice (some ⟨g, 0, none⟩) n tc⟩, ⟨5, 23, fun _ v => v = .int .i64 j⟩, ⟨6, 24, fun _ v => v = .pointer (some ⟨g, j, none⟩)⟩, ⟨7, 25, fun _ v => v = .slice (some ⟨bj, 0, none⟩) Ct Ct⟩, ⟨8, 26, fun _ v => v = .agg #[.bool kn, .slice ka kl kc]⟩]
            [] []) (by kernel_rfl) (RI.start (by kernel_rfl) (by decide) (by repeat' (first | exact lasts_int _ | exact lasts_eq _ | assumption | refine List.forall_mem_cons.2 ⟨?_, ?_⟩ | exact List.forall_mem_nil _)) nom nom
              nom nom nom
              (by first | exact Nat.le_refl _ | omega)) ?fin2 ?steps2
        case steps2 =>
          refine ⟨?_, ?_, ?_, ?_, ?_, ?_, ?_, ?_, ?_, trivial⟩ <;> (intro L T wS hL hd hcl hI K hK; try refine step_wanted rfl ?_)
          · have zt : T[9]? = some (.slice (some ⟨g, 0, none⟩) n tc) := hI.keep 9 (by simp) (by simp)
            go_simp
            exact hK _ _ (hI.value ⟨0, 18, _⟩ mm0 rfl rfl)
          · have zt : T[1]? = some (.int .i64 i) := hI.keep 1 (by simp) (by simp)
            go_simp
            exact hK _ _ (hI.value ⟨1, 19, _⟩ mm1 rfl rfl)
          · obtain ⟨v0, zt0, rfl⟩ := hI.val _ mm0 (hd 0 (by kernel_rfl))
            obtain ⟨v1, zt1, rfl⟩ := hI.val _ mm1 (hd 1 (by kernel_rfl))
            go_simp
            exact hK _ _ (hI.value ⟨2, 20, _⟩ mm2 rfl rfl)
          · obtain ⟨v2, zt2, rfl⟩ := hI.val _ mm2 (hd 2 (by kernel_rfl))
            have cc0 := hI.cell o1 (by omega) nom
            go_simp
            exact hK _ _ (hI.value ⟨3, 21, _⟩ mm3 rfl rfl)
          · have zt : T[9]? = some (.slice (some ⟨g, 0, none⟩) n tc) := hI.keep 9 (by simp) (by simp)
            go_simp
            exact hK _ _ (hI.value ⟨4, 22, _⟩ mm4 rfl rfl)
          · have zt : T[2]? = some (.int .i64 j) := hI.keep 2 (by simp) (by simp)
            go_simp
            exact hK _ _ (hI.value ⟨5, 23, _⟩ mm5 rfl rfl)
          · obtain ⟨v4, zt4, rfl⟩ := hI.val _ mm4 (hd 4 (by kernel_rfl))
            obtain ⟨v5, zt5, rfl⟩ := hI.val _ mm5 (hd 5 (by kernel_rfl))
            go_simp
            exact hK _ _ (hI.value ⟨6, 24, _⟩ mm6 rfl rfl)
          · obtain ⟨v6, zt6, rfl⟩ := hI.val _ mm6 (hd 6 (by kernel_rfl))
            have cc0 := hI.cell o2 (by omega) nom
            go_simp
            exact hK _ _ (hI.value ⟨7, 25, _⟩ mm7 rfl rfl)
          · have zt : T[7]? = some (.pointer (some ⟨w.heap.size + 1, 0, none⟩)) := hI.keep 7 (by simp) (by simp)
            have cc0 := hI.cell d1 (by omega) nom
            have cc1 := hI.cell d2 (by omega) nom
            go_simp
            exact hK _ _ (hI.value ⟨8, 26, _⟩ mm8 rfl rfl)
        intro T w8 hI
        obtain ⟨vb0, q0, rfl⟩ := hI.val _ mm0 rfl
        obtain ⟨vb1, q1, rfl⟩ := hI.val _ mm1 rfl
        obtain ⟨vb2, q2, rfl⟩ := hI.val _ mm2 rfl
        obtain ⟨vb3, q3, rfl⟩ := hI.val _ mm3 rfl
        obtain ⟨vb4, q4, rfl⟩ := hI.val _ mm4 rfl
        obtain ⟨vb5, q5, rfl⟩ := hI.val _ mm5 rfl
        obtain ⟨vb6, q6, rfl⟩ := hI.val _ mm6 rfl
        obtain ⟨vb7, q7, rfl⟩ := hI.val _ mm7 rfl
        obtain ⟨vb8, q8, rfl⟩ := hI.val _ mm8 rfl
        have hT := tmps_set [(18, .slice (some ⟨g, 0, none⟩) n tc), (19, .int .i64 i), (20, .pointer (some ⟨g, i, none⟩)), (21, .slice (some ⟨bi, 0, none⟩) Ct Ct), (22, .slice (some ⟨g, 0, none⟩) n tc), (23, .int .i64 j), (24, .pointer (some ⟨g, j, none⟩)), (25, .slice (some ⟨bj, 0, none⟩) Ct Ct), (26, .agg #[.bool kn, .slice ka kl kc])]
          (fun j hj => hI.keep j (by simp only [List.forall_mem_cons] at hj ⊢; simp [hj]) (by simp only [List.forall_mem_cons] at hj ⊢; simp [hj]))
          (by simp only [List.forall_mem_cons]; simp [q0, q1, q2, q3, q4, q5, q6, q7, q8]) hI.size
        have hlw8 := hI.lext
        have hbw8 := hI.bel (wr.heap.size) (by omega) nom
        have holdw8 := hI.old
        clear hI
        simp only [List.foldl_cons, List.foldl_nil, List.setIfInBounds_toArray, List.set_cons_zero, List.set_cons_succ, ptr] at hT
        subst hT
        clear q0 q1 q2 q3 q4 q5 q6 q7 q8
        simp only [List.drop_succ_cons, List.drop_zero]
        have hs8 := ht.below hbw8
        go_wp2_with fail
        refine (addRows hs8 hi hj hij hbi hbj _ k (hk.ext (lx hbw8)) hCt HT.out HK.out).mono ?_
        rintro e w9 ⟨⟨u, rfl⟩, ho, hs9⟩
        go_wp2
        go_roundw
        case measure => simp [intOf]
        have hsz := hb0.size
        have hbs2 : w.heap.size ≠ bi := by have := hltbst bi hmi; omega
        have hbs3 : w.heap.size + 1 ≠ bi := by have := hltbst bi hmi; omega
        have hri8 := hri.below hbw8
        have hoo := (Only.of [bi] hbw8).trans ho
        refine ⟨2, by omega, by simp, hb0.trans hoo.bel, hx0.trans hoo.lext, fun b hb n1 n2 n3 => (hoo.old b (by omega) (by simp; rintro rfl; exact n2 hmi)).trans (hold b hb n1 n2 n3), (hoo.old _ bx.lt (by simpa using hbs2)).trans bx, (hoo.old _ bk.lt (by simpa using hbs3)).trans bk, hk.ext hoo.lext, ?_, ?_, ?_⟩
        · rw [if_neg (by omega)]; exact (hs.below hbw8).only ho (fun hh => fst_ _ hh hmi) hri8
        · rw [if_pos rfl]; exact hs9
        · exact (hi_.below hbw8).only ho (fun hh => fti _ hmi hh) hri8
      · obtain rfl : m = 2 := by omega
        rw [if_neg (by omega)] at hs
        rw [if_pos rfl] at ht
        obtain ⟨g, bi, rfl, hg, hbi, hbi2, o1, -⟩ := RowsO.at_ hi_ (i := i) (by rw [hi_.len]; exact hi)
        obtain ⟨g', bj, eg, hg', hbj, hbj2, o2, -⟩ := RowsO.at_ hi_ (i := j) (by rw [hi_.len]; exact hj)
        obtain rfl : g = g' := by injection eg with eg; injection eg
        have hmj := List.mem_of_getElem? hbj
        obtain ⟨rj, hrj⟩ := hi_.blk hmj
        obtain ⟨c1, c2, c3, c4, c5, c6⟩ := bx.three
        have lx0 := bx.lt
        have hKn : HidS (Sm (-k)) := ⟨HK.out.mono (by rw [Int.natAbs_neg]; exact Nat.le_refl _)⟩
        go_upto_region 6 with (fail)
        refine wp_region_headed 12 rfl (RI wr (wr.heap.size) _ 45
            [⟨0, 29, fun _ v => v = .pointer (some ⟨w.heap.size, 2, none⟩)⟩, ⟨1, 30, fun _ v => v = .slice (some ⟨g, 0, none⟩) n ic⟩, ⟨2, 31, fun _ v => v = .int .i64 j⟩, ⟨3, 32, fun _ v => v = .pointer (some ⟨g, j, none⟩)⟩, ⟨4, 33, fun _ v => v = .slice (some ⟨bj, 0, none⟩) Ct Ct⟩, ⟨5, 34, fun _ v => v = .pointer (some ⟨w.heap.size, 2, none⟩)⟩, ⟨6, 35, fun _ v => v = .slice (some ⟨g, 0, none⟩) n ic⟩, ⟨7, 36, fun _ v => v = .int .i64 i⟩, ⟨8, 37, fun _ v => v = .pointer (some ⟨g, i, none⟩)⟩, ⟨9, 38, fun _ v => v = .slice (some ⟨bi, 0, none⟩) Ct Ct⟩, ⟨10, 39, fun _ v => v = .agg #[.bool kn, .slice ka kl kc]⟩, ⟨11, 40, fun w v => IntV w v (-k)⟩]
            [] []) (by kernel_rfl) (RI.start (by kernel_rfl) (by decide) (by repeat' (first | exact lasts_int _ | exact lasts_eq _ | assumption | refine List.forall_mem_cons.2 ⟨?_, ?_⟩ | exact List.forall_mem_nil _)) nom nom
              nom nom nom
              (by first | exact Nat.le_refl _ | omega)) ?fin3 ?steps3
        case steps3 =>
          refine ⟨?_, ?_, ?_, ?_, ?_, ?_, ?_, ?_, ?_, ?_, ?_, ?_, trivial⟩ <;> (intro L T wS hL hd hcl hI K hK; try refine step_wanted rfl ?_)
          · have zt : T[4]? = some (.pointer (some ⟨w.heap.size, 0, none⟩)) := hI.keep 4 (by simp) (by simp)
            go_simp
            exact hK _ _ (hI.value ⟨0, 29, _⟩ mm0 rfl rfl)
          · obtain ⟨v0, zt0, rfl⟩ := hI.val _ mm0 (hd 0 (by kernel_rfl))
            have cc0 := hI.cell c3 (by omega) nom
            go_simp
            exact hK _ _ (hI.value ⟨1, 30, _⟩ mm1 rfl rfl)
          · have zt : T[2]? = some (.int .i64 j) := hI.keep 2 (by simp) (by simp)
            go_simp
            exact hK _ _ (hI.value ⟨2, 31, _⟩ mm2 rfl rfl)
          · obtain ⟨v1, zt1, rfl⟩ := hI.val _ mm1 (hd 1 (by kernel_rfl))
            obtain ⟨v2, zt2, rfl⟩ := hI.val _ mm2 (hd 2 (by kernel_rfl))
            go_simp
            exact hK _ _ (hI.value ⟨3, 32, _⟩ mm3 rfl rfl)
          · obtain ⟨v3, zt3, rfl⟩ := hI.val _ mm3 (hd 3 (by kernel_rfl))
            have cc0 := hI.cell o2 (by omega) nom
            go_simp
            exact hK _ _ (hI.value ⟨4, 33, _⟩ mm4 rfl rfl)
          · have zt : T[4]? = some (.pointer (some ⟨w.heap.size, 0, none⟩)) := hI.keep 4 (by simp) (by simp)
            go_simp
            exact hK _ _ (hI.value ⟨5, 34, _⟩ mm5 rfl rfl)
          · obtain ⟨v5, zt5, rfl⟩ := hI.val _ mm5 (hd 5 (by kernel_rfl))
            have cc0 := hI.cell c3 (by omega) nom
            go_simp
            exact hK _ _ (hI.value ⟨6, 35, _⟩ mm6 rfl rfl)
          · have zt : T[1]? = some (.int .i64 i) := hI.keep 1 (by simp) (by simp)
            go_simp
            exact hK _ _ (hI.value ⟨7, 36, _⟩ mm7 rfl rfl)
          · obtain ⟨v6, zt6, rfl⟩ := hI.val _ mm6 (hd 6 (by kernel_rfl))
            obtain ⟨v7, zt7, rfl⟩ := hI.val _ mm7 (hd 7 (by kernel_rfl))
            go_simp
            exact hK _ _ (hI.value ⟨8, 37, _⟩ mm8 rfl rfl)
          · obtain ⟨v8, zt8, rfl⟩ := hI.val _ mm8 (hd 8 (by kernel_rfl))
            have cc0 := hI.cell o1 (by omega) nom
            go_simp
            exact hK _ _ (hI.value ⟨9, 38, _⟩ mm9 rfl rfl)
          · have zt : T[7]? = some (.pointer (some ⟨w.heap.size + 1, 0, none⟩)) := hI.keep 7 (by simp) (by simp)
            have cc0 := hI.cell d1 (by omega) nom
            have cc1 := hI.cell d2 (by omega) nom
            go_simp
            exact hK _ _ (hI.value ⟨10, 39, _⟩ mm10 rfl rfl)
          · obtain ⟨v10, zt10, rfl⟩ := hI.val _ mm10 (hd 10 (by kernel_rfl))
            go_simp
            refine (neg_any _ k _ (hk.ext hI.lext).weak HK.out).mono ?_
            rintro e wa ⟨v, rfl, hv, hba⟩
            exact hK _ _ ((hI.world hba).value ⟨11, 40, _⟩ mm11 rfl hv)
        intro T w8 hI
        obtain ⟨vc0, q0, rfl⟩ := hI.val _ mm0 rfl
        obtain ⟨vc1, q1, rfl⟩ := hI.val _ mm1 rfl
        obtain ⟨vc2, q2, rfl⟩ := hI.val _ mm2 rfl
        obtain ⟨vc3, q3, rfl⟩ := hI.val _ mm3 rfl
        obtain ⟨vc4, q4, rfl⟩ := hI.val _ mm4 rfl
        obtain ⟨vc5, q5, rfl⟩ := hI.val _ mm5 rfl
        obtain ⟨vc6, q6, rfl⟩ := hI.val _ mm6 rfl
        obtain ⟨vc7, q7, rfl⟩ := hI.val _ mm7 rfl
        obtain ⟨vc8, q8, rfl⟩ := hI.val _ mm8 rfl
        obtain ⟨vc9, q9, rfl⟩ := hI.val _ mm9 rfl
        obtain ⟨vc10, q10, rfl⟩ := hI.val _ mm10 rfl
        obtain ⟨vc11, q11, hc11⟩ := hI.val _ mm11 rfl
        replace hc11 : IntV w8 vc11 (-k) := hc11
        have hT := tmps_set [(29, .pointer (some ⟨w.heap.size, 2, none⟩)), (30, .slice (some ⟨g, 0, none⟩) n ic), (31, .int .i64 j), (32, .pointer (some ⟨g, j, none⟩)), (33, .slice (some ⟨bj, 0, none⟩) Ct Ct), (34, .pointer (some ⟨w.heap.size, 2, none⟩)), (35, .slice (some ⟨g, 0, none⟩) n ic), (36, .int .i64 i), (37, .pointer (some ⟨g, i, none⟩)), (38, .slice (some ⟨bi, 0, none⟩) Ct Ct), (39, .agg #[.bool kn, .slice ka kl kc]), (40, vc11)]
          (fun j hj => hI.keep j (by simp only [List.forall_mem_cons] at hj ⊢; simp [hj]) (by simp only [List.forall_mem_cons] at hj ⊢; simp [hj]))
          (by simp only [List.forall_mem_cons]; simp [q0, q1, q2, q3, q4, q5, q6, q7, q8, q9, q10, q11]) hI.size
        have hlw8 := hI.lext
        have hbw8 := hI.bel (wr.heap.size) (by omega) nom
        have holdw8 := hI.old
        clear hI
        simp only [List.foldl_cons, List.foldl_nil, List.setIfInBounds_toArray, List.set_cons_zero, List.set_cons_succ, ptr] at hT
        subst hT
        clear q0 q1 q2 q3 q4 q5 q6 q7 q8 q9 q10 q11
        simp only [List.drop_succ_cons, List.drop_zero]
        have hs8 := hi_.below hbw8
        go_wp2_with fail
        refine (addRows hs8 hj hi (Ne.symm hij) hbj hbi _ (-k) hc11 hCt HI.out hKn.out).mono ?_
        rintro e w9 ⟨⟨u, rfl⟩, ho, hs9⟩
        have hsz := hb0.size
        have hrj8 := hrj.below hbw8
        have hoo := (Only.of [bj] hbw8).trans ho
        go_wp2
        refine bodyPost_end (results_none rfl _ _ _) rfl ⟨⟨_, rfl⟩, hb0.trans hoo.bel, hx0.trans hoo.lext, fun b hb n1 n2 n3 => (hoo.old b (by omega) (by simp; rintro rfl; exact n3 hmj)).trans (hold b hb n1 n2 n3), ?_, ?_, hs9, fst_, fsi, fti, GST.out, GSI.out, GTI.out⟩
        · exact (hs.below hbw8).only ho (fun hh => fsi _ hh hmj) hrj8
        · exact (ht.below hbw8).only ho (fun hh => fti _ hh hmj) hrj8

end Go.Proofs.YtnocgagoaldfnaaGreat
