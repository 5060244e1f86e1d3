/- smith: the work under way; work.divide. The law for regions that draw, where two elements of rows are written: at the end, but for operations that may come behind the first store. -/
import Derived.Test.YtnocgagoaldfnaaGreatQ34
set_option linter.unusedVariables false
set_option linter.unusedSimpArgs false
set_option linter.unusedSectionVars false
namespace Go.Proofs.YtnocgagoaldfnaaGreat
open Go.RowKit

/-- A matrix's blocks: rows and row slices. -/
def Zn (A : Value) (bs : List Nat) (b : Nat) : Prop := b ∈ bs ∨ A.ownBlock = some b
def Ap (A : Value) (bs : List Nat) (A' : Value) (bs' : List Nat) : Prop := ∀ b, Zn A bs b → ¬ Zn A' bs' b
theorem Ap.far {A A' : Value} {bs bs' : List Nat} (h : Ap A bs A' bs') : Far bs bs' := fun b h1 h2 => h b (.inl h1) (.inl h2)
theorem Ap.own {A A' : Value} {bs bs' : List Nat} (h : Ap A bs A' bs') : ∀ g, A.ownBlock = some g → A'.ownBlock ≠ some g := fun g h1 h2 => h g (.inr h1) (.inr h2)
theorem Ap.symm {A A' : Value} {bs bs' : List Nat} (h : Ap A bs A' bs') : Ap A' bs' A bs := fun b h1 h2 => h b h2 h1
theorem Wri.zlt {w : World} {A : Value} {R C : Nat} {bs : List Nat} {F : Nat → Nat → Int} (h : Wri w A R C bs F) {b : Nat} (hb : Zn A bs b) : b < w.heap.size := by
  rcases hb with hb | hb
  · exact (h.blk hb).elim fun r hr => hr.lt
  · rcases (RowsO.own h).2 with ⟨rfl, -⟩ | ⟨g, cap, cur, rfl, -, hh, -⟩
    · cases hb
    · simp only [Value.ownBlock, Option.some.injEq] at hb
      subst hb
      exact (Array.getElem?_eq_some_iff.1 hh).1
theorem Wri.keepZ {Z : Nat → Prop} {w w' : World} {A : Value} {R C : Nat} {bs : List Nat} {F : Nat → Nat → Int} (h : Wri w A R C bs F) (ho : OnlyZ Z w w') (hz : ∀ b, Zn A bs b → ¬ Z b) : Wri w' A R C bs F :=
  RowsO.same h (fun b hb => ho.old b (h.zlt (.inl hb)) (hz b (.inl hb))) (fun g hg => ho.old g (h.zlt (.inr hg)) (hz g (.inr hg))) ho.lext
/-- Rows of one matrix, row slices of another: apart, for their types. -/
theorem Wri.rown {w : World} {A A' : Value} {R C R' C' : Nat} {bs bs' : List Nat} {F F' : Nat → Nat → Int} (h : Wri w A R C bs F) (h' : Wri w A' R' C' bs' F') {b : Nat} (hb : b ∈ bs) : A'.ownBlock ≠ some b := by
  intro e
  obtain ⟨r, hr⟩ := h.blk hb
  exact own_ne (RowsO.own h') hr e.symm
theorem Ap.of {w : World} {A A' : Value} {R C R' C' : Nat} {bs bs' : List Nat} {F F' : Nat → Nat → Int} (h : Wri w A R C bs F) (h' : Wri w A' R' C' bs' F') (hf : Far bs bs') (ho : ∀ g, A.ownBlock = some g → A'.ownBlock ≠ some g) : Ap A bs A' bs' := by
  intro b h1 h2
  rcases h1 with h1 | h1
  · rcases h2 with h2 | h2
    · exact hf b h1 h2
    · exact h.rown h' h1 h2
  · rcases h2 with h2 | h2
    · exact h'.rown h h2 h1
    · exact ho b h1 h2
theorem Wri.mat {w : World} {A : Value} {R C : Nat} {bs : List Nat} {F : Nat → Nat → Int} (h : Wri w A R C bs F) : MatV w (.agg #[.int .i64 R, .int .i64 C, A]) R C (genM R C F) := ⟨A, rfl, RowsO.rows h⟩

abbrev tW : TypeId := 79
/-- The work under way: the struct's block and its five matrices, apart from each other. -/
structure WorkV (w : World) (base wb RS CS R C Cu Cw : Nat) (AS AU AV AW AX : Value) (bS bU bV bW bX : List Nat) (z : W5) : Prop where
  blk : Blk w wb tW #[.int .i64 RS, .int .i64 CS, AS, .int .i64 R, .int .i64 Cu, AU, .int .i64 R, .int .i64 Cu, AV, .int .i64 C, .int .i64 Cw, AW, .int .i64 C, .int .i64 Cw, AX]
  wbb : base ≤ wb
  mS : Wri w AS RS CS bS z.s
  mU : Wri w AU R Cu bU z.u
  mV : Wri w AV R Cu bV z.v
  mW : Wri w AW C Cw bW z.w
  mX : Wri w AX C Cw bX z.x
  zb : ∀ b, Zn AS bS b ∨ Zn AU bU b ∨ Zn AV bV b ∨ Zn AW bW b ∨ Zn AX bX b → base ≤ b
  su : Ap AS bS AU bU
  sv : Ap AS bS AV bV
  sw : Ap AS bS AW bW
  sx : Ap AS bS AX bX
  uv : Ap AU bU AV bV
  uw : Ap AU bU AW bW
  ux : Ap AU bU AX bX
  vw : Ap AV bV AW bW
  vx : Ap AV bV AX bX
  wx : Ap AW bW AX bX
theorem WorkV.below {w w' : World} {base wb RS CS R C Cu Cw : Nat} {AS AU AV AW AX : Value} {bS bU bV bW bX : List Nat} {z : W5} (h : WorkV w base wb RS CS R C Cu Cw AS AU AV AW AX bS bU bV bW bX z) (hb : Below w.heap.size w w') : WorkV w' base wb RS CS R C Cu Cw AS AU AV AW AX bS bU bV bW bX z :=
  ⟨h.blk.below hb, h.wbb, h.mS.below hb, h.mU.below hb, h.mV.below hb, h.mW.below hb, h.mX.below hb, h.zb, h.su, h.sv, h.sw, h.sx, h.uv, h.uw, h.ux, h.vw, h.vx, h.wx⟩
/-- The struct's block is no matrix's. -/
theorem Wri.nwb {w : World} {A : Value} {R C : Nat} {bs : List Nat} {F : Nat → Nat → Int} (h : Wri w A R C bs F) {wb : Nat} {cs : Array Value} (hw : Blk w wb tW cs) : ¬ Zn A bs wb := by
  intro hh
  have hw' : w.heap[wb]? = some (.cells cs tW (0, 0)) := hw
  rcases hh with hb | hb
  · obtain ⟨r, cs', q1, -⟩ := h.blk hb
    rw [hw'] at q1
    injection q1 with q1
    injection q1 with _ ht
    exact absurd ht (by decide)
  · rcases (RowsO.own h).2 with ⟨rfl, -⟩ | ⟨g, cap, cur, rfl, -, hh, -⟩
    · cases hb
    · simp only [Value.ownBlock, Option.some.injEq] at hb
      subst hb
      rw [hw'] at hh
      injection hh with hh
      injection hh with _ ht
      exact absurd ht (by decide)

theorem Blk.fifteen {w : World} {g : Nat} {t : TypeId} {c0 c1 c2 c3 c4 c5 c6 c7 c8 c9 c10 c11 c12 c13 c14 : Value} (h : Blk w g t #[c0, c1, c2, c3, c4, c5, c6, c7, c8, c9, c10, c11, c12, c13, c14]) :
    w.cell? ⟨g, 0, none⟩ = some c0 ∧ w.cell? ⟨g, 1, none⟩ = some c1 ∧ w.cell? ⟨g, 2, none⟩ = some c2 ∧ w.cell? ⟨g, 5, none⟩ = some c5 ∧ w.cell? ⟨g, 8, none⟩ = some c8 ∧ w.cell? ⟨g, 11, none⟩ = some c11 ∧ w.cell? ⟨g, 14, none⟩ = some c14 ∧
      w.frozen? ⟨g, 0, none⟩ = false ∧ w.frozen? ⟨g, 1, none⟩ = false ∧ w.frozen? ⟨g, 2, none⟩ = false :=
  ⟨h.cell 0, h.cell 1, h.cell 2, h.cell 5, h.cell 8, h.cell 11, h.cell 14, h.frozen 0, h.frozen 1, h.frozen 2⟩

/-- Numbers less than B are small enough to be divided. -/
structure BSd (B : Nat) : Prop where
  smd : ∀ z : Int, z.natAbs < B → Smd z
theorem BSd.bsm {B : Nat} (h : BSd B) : BSm B := ⟨fun z hz => (h.smd z hz).sm⟩

/-- What a blend of rows i and j of F reckons is less than B. -/
def okTw (B C : Nat) (F : Nat → Nat → Int) (i j : Nat) (m0 m1 m2 m3 : Int) : Prop :=
  m0.natAbs < B ∧ m1.natAbs < B ∧ m2.natAbs < B ∧ m3.natAbs < B ∧ ∀ t, t < C → (F i t).natAbs < B ∧ (F j t).natAbs < B ∧ (m0 * F i t).natAbs < B ∧ (m1 * F j t).natAbs < B ∧ (m2 * F i t).natAbs < B ∧ (m3 * F j t).natAbs < B
theorem okTw.bl {B C : Nat} {F : Nat → Nat → Int} {i j : Nat} {m0 m1 m2 m3 : Int} (hB : BSm B) (h : okTw B C F i j m0 m1 m2 m3) : BlSm C (F i) (F j) m0 m1 m2 m3 := fun t ht => by
  obtain ⟨-, -, -, -, h5⟩ := h
  obtain ⟨q1, q2, q3, q4, q5, q6⟩ := h5 t ht
  exact ⟨hB.sm _ q1, hB.sm _ q2, hB.sm _ q3, hB.sm _ q4, hB.sm _ q5, hB.sm _ q6⟩
theorem okTw.ms {B C : Nat} {F : Nat → Nat → Int} {i j : Nat} {m0 m1 m2 m3 : Int} (hB : BSm B) (h : okTw B C F i j m0 m1 m2 m3) : Sm m0 ∧ Sm m1 ∧ Sm m2 ∧ Sm m3 := ⟨hB.sm _ h.1, hB.sm _ h.2.1, hB.sm _ h.2.2.1, hB.sm _ h.2.2.2.1⟩
/-- What 'divide' reckons is less than B, whatever coefficients Ext yields. -/
structure DivOk (B C Cu Cw : Nat) (z : W5) (i j : Nat) : Prop where
  sz : (z.s i i).natAbs < B ∧ (z.s j j).natAbs < B
  g0 : Int.gcd (z.s i i) (z.s j j) ≠ 0
  all : ∀ g u v s t : Int, g = ((Int.gcd (z.s i i) (z.s j j) : Nat) : Int) → u = z.s i i / g → v = z.s j j / g → Bez (z.s i i) (z.s j j) s t →
    (z.s i i * v).natAbs < B ∧ (t * v).natAbs < B ∧ okTw B Cu z.u i j s t (-v) u ∧ okTw B Cu z.v i j u v (-t) s ∧ okTw B Cw z.w i j 1 1 (-(t * v)) (1 - t * v) ∧ okTw B Cw z.x i j (1 - t * v) (t * v) (-1) 1

section
variable {P : Program} {ops : Array Oper} {Q : Exit → Act → World → Prop}

/-- Operation k comes ahead of j, within f edges. -/
def reach (ops : Array Oper) : Nat → Nat → Nat → Bool
  | 0, j, k => j == k
  | f + 1, j, k => j == k || ((ops[j]?).map (fun o => o.after.any fun e => Region.binds .any e && reach ops f e.on k)).getD false
theorem reach_spec {L : Array Bool} (hcl : ClosedL ops L) : ∀ {f j k : Nat}, reach ops f j k = true → L[j]? = some true → L[k]? = some true := by
  intro f
  induction f with
  | zero =>
    intro j k h hj
    unfold reach at h
    rw [← (beq_iff_eq.1 h)]
    exact hj
  | succ f ih =>
    intro j k h hj
    unfold reach at h
    rw [Bool.or_eq_true] at h
    rcases h with h | h
    · rw [← (beq_iff_eq.1 h)]
      exact hj
    · cases ho : ops[j]? with
      | none => rw [ho] at h; simp at h
      | some o =>
        rw [ho] at h
        simp only [Option.map_some, Option.getD_some] at h
        rw [← Array.any_toList, List.any_eq_true] at h
        obtain ⟨e, he, h2⟩ := h
        rw [Bool.and_eq_true] at h2
        refine ih h2.2 (hcl j o ho hj e.on ?_)
        unfold waits
        rw [← Array.any_toList, List.any_eq_true]
        exact ⟨e, he, by simp [h2.1]⟩

variable {W : World} {n0 : Nat} {T0 : Array Value} {tB : TypeId} {vs : List VS} {bs : List BS} {es : List ES} {L : Array Bool} {T : Array Value} {w w' : World}
theorem RI.skip {k : Nat} (h : RI W n0 T0 tB vs bs es L T w) (h1 : ∀ s ∈ vs, s.op ≠ k) (h2 : ∀ s ∈ bs, s.al ≠ k ∧ s.st ≠ k) (h3 : ∀ s ∈ es, s.st ≠ k) : RI W n0 T0 tB vs bs es (L.setIfInBounds k true) T w :=
  ⟨h.wf, h.tb, h.lv, h.lb, h.le, h.eb, h.ed, h.size, h.keep, h.bel0, h.old, h.lext, h.ge,
    fun s hs hl => listed_mono (h.sto s hs (set_true hl (Ne.symm (h2 s hs).2))),
    fun s hs hl => h.val s hs (set_true hl (Ne.symm (h1 s hs))),
    fun s hs hl => by
      obtain ⟨b, x, y, e1, e2, e3, e4⟩ := h.box s hs (set_true hl (Ne.symm (h2 s hs).1))
      exact ⟨b, x, y, e1, e2, e3, fun hh => e4 (set_true hh (Ne.symm (h2 s hs).2))⟩,
    fun s hs t ht hne l1 l2 b c e1 e2 => h.far s hs t ht hne (set_true l1 (Ne.symm (h2 s hs).1)) (set_true l2 (Ne.symm (h2 t ht).1)) b c e1 e2,
    fun s hs => by
      obtain ⟨⟨x, y, e1, e2⟩, e3⟩ := h.ex s hs
      exact ⟨⟨x, y, e1, fun hh => e2 (set_true hh (Ne.symm (h3 s hs)))⟩, fun hh => e3 (set_ne hh)⟩⟩

theorem frozen_same {w W : World} {b o : Nat} (h : w.heap[b]? = W.heap[b]?) : w.frozen? ⟨b, o, none⟩ = W.frozen? ⟨b, o, none⟩ := by
  simp only [World.frozen?, h]
theorem cell_same {w W : World} {b o : Nat} (h : w.heap[b]? = W.heap[b]?) : w.cell? ⟨b, o, none⟩ = W.cell? ⟨b, o, none⟩ := by
  simp only [World.cell?, h]

def cellOf (T : Array Value) (sl k : Nat) : Value := match T[sl]? with
  | some (.agg cs) => cs.getD k undef
  | _ => undef
/-- An element of a slot is written. -/
def put2At (sl b o : Nat) : Array Value → World → World := fun T w => (w.setCell ⟨b, o, none⟩ (cellOf T sl 0)).setCell ⟨b, o + 1, none⟩ (cellOf T sl 1)
theorem cellOf_two {T : Array Value} {sl : Nat} {x y : Value} (h : T[sl]? = some (.agg #[x, y])) : cellOf T sl 0 = x ∧ cellOf T sl 1 = y := by
  unfold cellOf
  rw [h]
  exact ⟨rfl, rfl⟩

/-- The invariant with two stores k1, k2: what they do, p1 and p2, is kept apart. -/
structure RIS (W : World) (n0 : Nat) (T0 : Array Value) (tB : TypeId) (vs : List VS) (bs : List BS) (es : List ES) (k1 k2 : Nat) (p1 : World → World) (p2 : Array Value → World → World) (L : Array Bool) (T : Array Value) (w : World) : Prop where
  ex : ∃ w0, RI W n0 T0 tB vs bs es L T w0 ∧ (L[k1]? ≠ some true → w = w0) ∧ (L[k1]? = some true → L[k2]? ≠ some true → w = p1 w0) ∧ (L[k2]? = some true → w = p2 T (p1 w0))
variable {n k1 k2 : Nat} {p1 : World → World} {p2 : Array Value → World → World}
theorem RIS.start (h : RI W n0 T0 tB vs bs es (Array.replicate n false) T w) : RIS W n0 T0 tB vs bs es k1 k2 p1 p2 (Array.replicate n false) T w := by
  have hf : ∀ k : Nat, (Array.replicate n false)[k]? ≠ some true := by
    intro k h
    rw [Array.getElem?_replicate] at h
    split at h <;> simp at h
  exact ⟨w, h, fun _ => rfl, fun h1 => absurd h1 (hf _), fun h1 => absurd h1 (hf _)⟩
/-- An operation that comes ahead of both stores. -/
theorem StepAt.lift {ds : List Deferred} {k : Nat} {o : Oper} (hr1 : reach ops 9 k1 k = true) (hr2 : reach ops 9 k2 k1 = true) (hk : k ≠ k1 ∧ k ≠ k2) (h : StepAt P ops Q ds (RI W n0 T0 tB vs bs es) k o) : StepAt P ops Q ds (RIS W n0 T0 tB vs bs es k1 k2 p1 p2) k o := by
  intro L T w hL hd hcl hI K hK
  obtain ⟨w0, hri, h1, h2, h3⟩ := hI.ex
  have hn : L[k1]? ≠ some true := fun hh => by
    have := reach_spec hcl hr1 hh
    rw [hL] at this
    cases this
  have hn2 : L[k2]? ≠ some true := fun hh => hn (reach_spec hcl hr2 hh)
  obtain rfl := h1 hn
  exact h L T w hL hd hcl hri K (fun T' w' hI' => hK T' w' ⟨w', hI', fun _ => rfl, fun hh => absurd (set_true hh hk.1) hn, fun hh => absurd (set_true hh hk.2) hn2⟩)
/-- A value that needs no memory, ahead of the second store. -/
theorem RIS.value {k : Nat} {v : Value} (h : RIS W n0 T0 tB vs bs es k1 k2 p1 p2 L T w) (hcl : ClosedL ops L) (hr2 : reach ops 9 k2 k = true) (hL : L[k]? = some false) (hk : k ≠ k1 ∧ k ≠ k2) (s : VS) (hs : s ∈ vs) (hsk : s.op = k) (hP : ∀ w, s.P w v) :
    RIS W n0 T0 tB vs bs es k1 k2 p1 p2 (L.setIfInBounds k true) (T.setIfInBounds s.slot v) w := by
  obtain ⟨w0, hri, h1, h2, h3⟩ := h.ex
  have hn2 : L[k2]? ≠ some true := fun hh => by
    have := reach_spec hcl hr2 hh
    rw [hL] at this
    cases this
  exact ⟨w0, hri.value s hs hsk (hP w0), fun hh => h1 (set_ne hh), fun hh hh2 => h2 (set_true hh hk.1) (set_ne hh2), fun hh => absurd (set_true hh hk.2) hn2⟩
theorem RIS.val {s : VS} (h : RIS W n0 T0 tB vs bs es k1 k2 p1 p2 L T w) (hs : s ∈ vs) (hl : L[s.op]? = some true) (hP : ∀ w w' v, s.P w v → s.P w' v) : ∃ v, T[s.slot]? = some v ∧ ∀ w, s.P w v := by
  obtain ⟨w0, hri, -⟩ := h.ex
  obtain ⟨v, e1, e2⟩ := hri.val s hs hl
  exact ⟨v, e1, fun w => hP _ _ _ e2⟩
theorem RIS.keep {j : Nat} (h : RIS W n0 T0 tB vs bs es k1 k2 p1 p2 L T w) (h1 : ∀ s ∈ vs, s.slot ≠ j) (h2 : ∀ s ∈ bs, s.slot ≠ j) : T[j]? = T0[j]? := by
  obtain ⟨w0, hri, -⟩ := h.ex
  exact hri.keep j h1 h2
/-- The first store. -/
theorem RIS.first (h : RIS W n0 T0 tB vs bs es k1 k2 p1 p2 L T w) (hcl : ClosedL ops L) (hr2 : reach ops 9 k2 k1 = true) (hL : L[k1]? = some false) (hne : k1 ≠ k2) (h1 : ∀ s ∈ vs, s.op ≠ k1) (h2 : ∀ s ∈ bs, s.al ≠ k1 ∧ s.st ≠ k1) (h3 : ∀ s ∈ es, s.st ≠ k1) :
    RI W n0 T0 tB vs bs es L T w ∧ RIS W n0 T0 tB vs bs es k1 k2 p1 p2 (L.setIfInBounds k1 true) T (p1 w) := by
  obtain ⟨w0, hri, g1, g2, g3⟩ := h.ex
  have hn : L[k1]? ≠ some true := by rw [hL]; simp
  have hn2 : L[k2]? ≠ some true := fun hh => hn (reach_spec hcl hr2 hh)
  have hw : w = w0 := g1 hn
  subst hw
  refine ⟨hri, ⟨w, hri.skip h1 h2 h3, fun hh => absurd (Array.getElem?_setIfInBounds_self_of_lt (Array.getElem?_eq_some_iff.1 hL).1) hh, fun _ _ => rfl, fun hh => absurd (set_true hh hne) hn2⟩⟩
/-- The second store. -/
theorem RIS.second (h : RIS W n0 T0 tB vs bs es k1 k2 p1 p2 L T w) (hl1 : L[k1]? = some true) (hL : L[k2]? = some false) (h1 : ∀ s ∈ vs, s.op ≠ k2) (h2 : ∀ s ∈ bs, s.al ≠ k2 ∧ s.st ≠ k2) (h3 : ∀ s ∈ es, s.st ≠ k2) :
    ∃ w0, w = p1 w0 ∧ RI W n0 T0 tB vs bs es L T w0 ∧ RIS W n0 T0 tB vs bs es k1 k2 p1 p2 (L.setIfInBounds k2 true) T (p2 T (p1 w0)) := by
  obtain ⟨w0, hri, g1, g2, g3⟩ := h.ex
  have hn2 : L[k2]? ≠ some true := by rw [hL]; simp
  refine ⟨w0, g2 hl1 hn2, hri, ⟨w0, hri.skip h1 h2 h3, fun hh => absurd (listed_mono hl1) hh, fun _ hh => absurd (Array.getElem?_setIfInBounds_self_of_lt (Array.getElem?_eq_some_iff.1 hL).1) hh, fun _ => rfl⟩⟩
theorem RIS.fin (h : RIS W n0 T0 tB vs bs es k1 k2 p1 p2 (Array.replicate n true) T w) (hk : k2 < n) : ∃ w0, RI W n0 T0 tB vs bs es (Array.replicate n true) T w0 ∧ w = p2 T (p1 w0) := by
  obtain ⟨w0, hri, g1, g2, g3⟩ := h.ex
  exact ⟨w0, hri, g3 (by simp [hk])⟩
end

end Go.Proofs.YtnocgagoaldfnaaGreat
