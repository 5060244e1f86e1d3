/- slices.Insert at pivots. hermite: eliminate. hermite: (*work).run. matrix.combine to bools, to integers, to rows; Scale's closures. matrix.combine to rows; matrix.valid, sizes, slices.Equal. matrix.valid, sizes; slices.Equal. slices.Equal on sizes; matrix.each, matrix.Scale. matrix.each for Scale; matrix.Scale. matrix.times. matrix.Mul. matrix.Equal, for matrices of the same sizes. The law for regions that draw, where calls make matrices: one behind the other, so that they lie apart. hermite: start. hermite.Form: the rows in order. The law for regions that draw, with matrices that lie apart, and slots that hold a matrix's rows. smith.Form. smith.Form. hermite: reduce (the mirror) ends within bounds; what an elimination of at most four rows and columns keeps. Plain Lean. hermite.Form. hermite.Form of small matrices: a Hermite normal form, with its transforms. hermite.Basis. hermite.Basis of small matrices; what a Hermite normal form is, row by row. hermite.Is: the closure and the search. torsionref12.Form: what its operations keep, and how the numbers grow. Plain Lean. hermite.Is. hermite.Check. torsionref12: the work of a run, as a value. smith.Invariants. smith.inverses and smith.Check where everything holds. smith.Check where everything holds; the zero struct. The fixed examples of torsionlaw13.sanity: Form and Invariants at them. -/
import Derived.ChangeKeysEq
import Derived.Laws.StructEq
import Derived.Test.YtjdemlfceaikgaaGreatK08
import Derived.Test.YtjdemlfceaikgaaGreatK09
import Derived.Test.YtjdemlfceaikgaaGreatK10
import Derived.Test.YtjdemlfceaikgaaGreatK11
import Derived.Test.YtjdemlfceaikgaaGreatK12
import Derived.Test.YtjdemlfceaikgaaGreatK13
import Derived.Test.YtjdemlfceaikgaaGreatK14
set_option linter.unusedVariables false
set_option linter.unusedSimpArgs false
set_option linter.unusedSectionVars false
namespace Go.Proofs.YtjdemlfceaikgaaGreat
open Go.RowKit

structure LOk (n Cs m : Nat) (x : Bst) (L : List (Nat × Nat)) : Prop where
 mem : ∀k,k < L.length->(L.getD k (0,0)).1 < m/\(L.getD k (0,0)).1 < n/\(L.getD k (0,0)).2 < Cs/\x.s (L.getD k (0,0)).1 (L.getD k (0,0)).2 ≠ 0
 inc : ∀i j,i < j->j < L.length->(L.getD i (0,0)).2 < (L.getD j (0,0)).2
 inj : ∀i j,i < j->j < L.length->(L.getD i (0,0)).1 ≠ (L.getD j (0,0)).1
 len : L.length<=n
structure Elim (B n Cs Ct : Nat) (J J' : Nat->Bst->List (Nat × Nat)->Prop) : Prop where
 ok : ∀m x L,J m x L->okB B n Cs Ct x/\LOk n Cs m x L
 ok' : ∀m x L,m < n->J' m x L->okB B n Cs Ct x/\LOk n Cs (m + 1) x L
 zero : ∀m x L,m < n->J m x L->lead Cs x.s m < 0->J' m x L
 join : ∀(m : Nat) (x : Bst) (L : List (Nat × Nat)) (k c : Nat),m < n->J m x L->lead Cs x.s m = (c : Int)->k < L.length->(L.getD k (0,0)).2 = c ->
  (x.s m c % x.s (L.getD k (0,0)).1 c = 0->okAdd B n Cs Ct x m (L.getD k (0,0)).1 (-(x.s m c / x.s (L.getD k (0,0)).1 c))) ∧
  (∀s t,Bez (x.s (L.getD k (0,0)).1 c) (x.s m c) s t->okMix B n Cs Ct x (L.getD k (0,0)).1 m s t (-(x.s m c / ((Int.gcd (x.s (L.getD k (0,0)).1 c) (x.s m c) : Nat) : Int))) (x.s (L.getD k (0,0)).1 c / ((Int.gcd (x.s (L.getD k (0,0)).1 c) (x.s m c) : Nat) : Int))) ∧
  ∀y,JoinR x (L.getD k (0,0)).1 m c y->J m y L/\(lead Cs y.s m < 0 ∨ (c : Int) < lead Cs y.s m)
 ins : ∀(m : Nat) (x : Bst) (L : List (Nat × Nat)) (k c : Nat),m < n->J m x L->lead Cs x.s m = (c : Int)->k<=L.length->(∀i,i < k->(L.getD i (0,0)).2 < c)->(∀i,k<=i->i < L.length->c < (L.getD i (0,0)).2) ->
  J' m (if x.s m c < 0 then x.neg m else x) (L.take k ++ (m,c) :: L.drop k)
 red : ∀m x L,m < n->J' m x L->∃y,redPI B n Cs Ct (fun k=>(L.getD k (0,0)).1) (fun k=>(L.getD k (0,0)).2) L.length L.length x = some y/\J (m + 1) y L
theorem lead_lt' {C : Nat} {F : Nat->Nat->Int} {i c : Nat} (h : lead C F i = (c : Int)) : c < C/\F i c ≠ 0:=by
 rcases lead_spec C F i with ⟨h1,-⟩ | ⟨j,h1,h2,h3,-⟩
 ·omega
 ·obtain rfl : j = c:=by omega
  exact ⟨h2,h3⟩
theorem OwnN.weak {w : World} {a b : Nat} {v : Value} {xs : List Nat} (h : OwnN w b v xs) (hab : a<=b) : OwnN w a v xs:=by
 obtain ⟨h1,h2,h3⟩:=h
 refine ⟨h1,h2,?_⟩
 rcases h3 with h3 | ⟨g,cap,cur,rfl,k1,k2⟩
 ·exact .inl h3
 ·exact .inr ⟨g,cap,cur,rfl,by omega,k2⟩
theorem OwnN.nil (w : World) (base : Nat) : OwnN w base (.slice none 0 0) []:=⟨by simp,rfl,.inl ⟨rfl,rfl⟩⟩
def uptoB (g : Nat->Bool) (j : Nat) : Nat->Bool:=fun t=>if t < j then g t else false
abbrev tF : TypeId:=135
def NewRow (n0 C : Nat) (zs : List Int) : World->Value->Prop:=fun w v=>∃g,v = .slice (some ⟨g,0,none⟩) C C/\n0<=g/\RowAt w g zs

abbrev tM : TypeId:=41

def SlM2 (a b c d e f : Value) : World->Value->Prop:=fun w v=>∃g,v = .slice (some ⟨g,0,none⟩) 2 2/\Blk w g tM #[a,b,c,d,e,f]
def SlM1 (a b c : Value) : World->Value->Prop:=fun w v=>∃g,v = .slice (some ⟨g,0,none⟩) 1 1/\Blk w g tM #[a,b,c]
def RetMT (w : World) (R C : Nat) (M : List (List Int)) (e : Ending) (w' : World) : Prop:=∃v bs,e = .returned (.tuple #[v,.int .i64 0])/\MatO w' w.heap.size v R C bs M/\Below w.heap.size w w'
def rowf (zs : List Int) (M : List (List Int)) (m j : Nat) : Int:=sumTo (fun t=>zs.getD t 0 * ent M t j) m
def TimesSm (zs : List Int) (M : List (List Int)) (m C : Nat) : Prop:=∀j,j < C->∀t,t < m->Sm (zs.getD t 0)/\Sm (ent M t j)/\Sm (zs.getD t 0 * ent M t j)/\Sm (rowf zs M t j)
def RowsNew (R C : Nat) : World->Value->Prop:=fun w v=>∃g,v = .slice (some ⟨g,0,none⟩) R R/\Blk w g tR (partRows R C [])
def MatNew : World->Value->Prop:=fun w v=>∃g,v = .pointer (some ⟨g,0,none⟩)/\Blk w g tM #[.int .i64 0,.int .i64 0,.slice none 0 0]
def AtLeast (n : Nat) (P : World->Value->Prop) : World->Value->Prop:=fun w v=>P w v/\∀b o,(v = .pointer (some ⟨b,o,none⟩) ∨ ∃l c,v = .slice (some ⟨b,o,none⟩) l c)->n<=b
def MatHead (n R C : Nat) : World->Value->Prop:=fun w v=>∃s,v = .agg #[.int .i64 R,.int .i64 C,s]/\AtLeast n (RowsNew R C) w s
theorem MulSm.times {A B : List (List Int)} {R m C : Nat} (h : MulSm A B R m C) {i : Nat} (hi : i < R) {zs : List Int} (hz : A[i]? = some zs) : TimesSm zs B m C:=by
 intro j hj t ht
 have h1:=h i hi j hj t ht
 have he : ∀s,ent A i s = zs.getD s 0:=fun s=>by unfold ent; rw [getD_of hz]
 unfold mulf at h1
 simp only [he] at h1
 exact h1

def Within (R C : Nat) (F : Nat->Nat->Int) (lo hi : Nat) : World->Value->Prop:=fun w v=>∃o c bs,v = .agg #[.int .i64 R,.int .i64 C,.slice o R c]/\Wri w (.slice o R c) R C bs F/\∀b,Zn (.slice o R c) bs b->lo<=b/\b < hi
theorem Within.below {R C : Nat} {F : Nat->Nat->Int} {lo hi : Nat} {w w' : World} {v : Value} (h : Within R C F lo hi w v) (hb : Below w.heap.size w w') : Within R C F lo hi w' v:=by
 obtain ⟨o,c,bs,h1,h2,h3⟩:=h
 exact ⟨o,c,bs,h1,h2.below hb,h3⟩
theorem RetMat.within {w w' : World} {R C : Nat} {F : Nat->Nat->Int} {e : Ending} (h : RetMat w R C (genM R C F) e w') : ∃v,e = .returned v/\Within R C F w.heap.size w'.heap.size w' v/\Below w.heap.size w w':=by
 obtain ⟨v,bs,rfl,⟨hl,A',rfl,ho⟩,hb⟩:=h
 have hw : Wri w' A' R C bs F:=ho.mono (Nat.zero_le _)
 obtain ⟨o,c,rfl⟩:=hw.shape
 exact ⟨_,rfl,⟨o,c,bs,rfl,hw,fun b hz=>⟨ho.fresh hz,hw.zlt hz⟩⟩,hb⟩
structure MS where
 op : Nat
 slot : Nat
 R : Nat
 C : Nat
 F : Nat->Nat->Int
def wellRG (N : Nat) (vs : List VS) (ms : List MS) : Bool:=decide ((vs.map (·.slot)) ++ (ms.map (·.slot))).Nodup && decide ((vs.map (·.op)) ++ (ms.map (·.op))).Nodup && ((vs.map (·.slot)) ++ (ms.map (·.slot))).all (fun s=>decide (s < N))
theorem nodup_app_ne {α : Type} {xs ys : List α} (h : (xs ++ ys).Nodup) {a b : α} (ha : a ∈ xs) (hb : b ∈ ys) : a ≠ b:=(List.nodup_append.1 h).2.2 a ha b hb
structure RG (W : World) (T0 : Array Value) (vs : List VS) (ms : List MS) (L : Array Bool) (T : Array Value) (w : World) : Prop where
 wf : wellRG T0.size vs ms = true
 lv : ∀s ∈ vs,LastsB s.P
 size : T.size = T0.size
 keep : ∀j,(∀s ∈ vs,s.slot ≠ j)->(∀m ∈ ms,m.slot ≠ j)->T[j]? = T0[j]?
 bel : Below W.heap.size W w
 val : ∀s ∈ vs,L[s.op]? = some true->∃v,T[s.slot]? = some v/\s.P w v
 gh : ∃bot top : Nat->Nat,(∀m ∈ ms,L[m.op]? = some true->W.heap.size<=bot m.op/\top m.op<=w.heap.size/\∃v,T[m.slot]? = some v/\Within m.R m.C m.F (bot m.op) (top m.op) w v) ∧
  ∀m ∈ ms,∀m' ∈ ms,m.op < m'.op->L[m.op]? = some true->L[m'.op]? = some true->top m.op<=bot m'.op
section
variable {W : World} {T0 : Array Value} {vs : List VS} {ms : List MS} {L : Array Bool} {T : Array Value} {w w' : World}
theorem RG.parts (h : RG W T0 vs ms L T w) : (vs.map (·.slot)).Nodup/\(vs.map (·.op)).Nodup/\(ms.map (·.slot)).Nodup/\(ms.map (·.op)).Nodup/\(∀s ∈ vs,∀m ∈ ms,s.slot ≠ m.slot/\s.op ≠ m.op)/\(∀s ∈ vs,s.slot < T0.size)/\(∀m ∈ ms,m.slot < T0.size):=by
 have hwf:=h.wf
 unfold wellRG at hwf
 simp only [Bool.and_eq_true,decide_eq_true_eq,List.all_eq_true] at hwf
 obtain ⟨⟨w1,w2⟩,w3⟩:=hwf
 refine ⟨(List.nodup_append.1 w1).1,(List.nodup_append.1 w2).1,(List.nodup_append.1 w1).2.1,(List.nodup_append.1 w2).2.1,fun s hs m hm=>⟨nodup_app_ne w1 (List.mem_map.2 ⟨s,hs,rfl⟩) (List.mem_map.2 ⟨m,hm,rfl⟩),nodup_app_ne w2 (List.mem_map.2 ⟨s,hs,rfl⟩) (List.mem_map.2 ⟨m,hm,rfl⟩)⟩,
  fun s hs=>w3 _ (List.mem_append.2 (.inl (List.mem_map.2 ⟨s,hs,rfl⟩))),fun m hm=>w3 _ (List.mem_append.2 (.inr (List.mem_map.2 ⟨m,hm,rfl⟩)))⟩
theorem RG.start (hwf : wellRG T0.size vs ms = true:=by kernel_rfl) (hv : ∀s ∈ vs,LastsB s.P:=by repeat' (first | exact lastsB_int _ | exact lastsB_eq _ | exact lastsB_mat _ _ _ | exact lastsB_vec _ | assumption | refine List.forall_mem_cons.2 ⟨?_,?_⟩ | exact List.forall_mem_nil _)) {n : Nat} : RG W T0 vs ms (Array.replicate n false) T0 W.drew:=by
 have hf : ∀k : Nat,(Array.replicate n false)[k]? ≠ some true:=by
  intro k h
  rw [Array.getElem?_replicate] at h
  split at h <;> simp at h
 exact ⟨hwf,hv,rfl,fun _ _ _=>rfl,dr _,fun s _ h=>absurd h (hf _),fun _=>0,fun _=>0,fun m _ h=>absurd h (hf _),fun m _ m' _ _ h=>absurd h (hf _)⟩
theorem RG.world (h : RG W T0 vs ms L T w) (hb : Below w.heap.size w w') : RG W T0 vs ms L T w':=by
 obtain ⟨bot,top,g1,g2⟩:=h.gh
 refine ⟨h.wf,h.lv,h.size,h.keep,nx h.bel hb,fun s hs hl=>by
  obtain ⟨v,h1,h2⟩:=h.val s hs hl
  exact ⟨v,h1,h.lv s hs _ _ _ hb h2⟩,bot,top,fun m hm hl=>?_,g2⟩
 obtain ⟨e1,e2,v,e3,e4⟩:=g1 m hm hl
 exact ⟨e1,Nat.le_trans e2 hb.size,v,e3,e4.below hb⟩
theorem RG.value {k : Nat} {v : Value} (h : RG W T0 vs ms L T w) (s : VS) (hs : s ∈ vs) (hk : s.op = k) (hP : s.P w v) : RG W T0 vs ms (L.setIfInBounds k true) (T.setIfInBounds s.slot v) w:=by
 subst hk
 obtain ⟨p1,p2,p3,p4,p5,p6,p7⟩:=h.parts
 obtain ⟨bot,top,g1,g2⟩:=h.gh
 have hm' : ∀m ∈ ms,(L.setIfInBounds s.op true)[m.op]? = some true->L[m.op]? = some true:=fun m hm hl=>set_true hl (p5 s hs m hm).2
 refine ⟨h.wf,h.lv,by simp [h.size],fun j h1 h2=>by rw [Array.getElem?_setIfInBounds_ne (h1 s hs)]; exact h.keep j h1 h2,h.bel,?_,bot,top,fun m hm hl=>?_,fun m hm m' hm2 hlt l1 l2=>g2 m hm m' hm2 hlt (hm' m hm l1) (hm' m' hm2 l2)⟩
 ·intro t ht hl
  by_cases he : t = s
  ·subst he
   exact ⟨v,by rw [Array.getElem?_setIfInBounds_self_of_lt (by rw [h.size]; exact p6 _ hs)],hP⟩
  ·have n1 : t.op ≠ s.op:=fun e=>he (inj_of_nodup p2 ht hs e)
   have n2 : t.slot ≠ s.slot:=fun e=>he (inj_of_nodup p1 ht hs e)
   obtain ⟨u,h1,h2⟩:=h.val t ht (set_true hl (Ne.symm n1))
   exact ⟨u,by rw [Array.getElem?_setIfInBounds_ne (Ne.symm n2)]; exact h1,h2⟩
 ·obtain ⟨e1,e2,u,e3,e4⟩:=g1 m hm (hm' m hm hl)
  exact ⟨e1,e2,u,by rw [Array.getElem?_setIfInBounds_ne (p5 s hs m hm).1]; exact e3,e4⟩
theorem RG.v {s : VS} (h : RG W T0 vs ms L T w) (hs : s ∈ vs) (hl : L[s.op]? = some true) : ∃v,T[s.slot]? = some v/\s.P w v:=h.val s hs hl
theorem RG.y {k : Nat} {v : Value} (h : RG W T0 vs ms L T w) {s : VS} (hs : s ∈ vs) (hP : s.P w v) (hk : s.op = k:=by rfl) : RG W T0 vs ms (L.setIfInBounds k true) (T.setIfInBounds s.slot v) w:=h.value s hs hk hP
theorem RG.mat {ops : Array Oper} {k : Nat} {v : Value} (h : RG W T0 vs ms L T w) (hcl : ClosedL ops L) (hL : L[k]? = some false) (m : MS) (hm : m ∈ ms) (hk : m.op = k) (hb : Below w.heap.size w w') (hw : Within m.R m.C m.F w.heap.size w'.heap.size w' v)
  (hlt : (ms.all fun m'=>!decide (k < m'.op) || reach ops 9 m'.op k) = true) : RG W T0 vs ms (L.setIfInBounds k true) (T.setIfInBounds m.slot v) w':=by
 subst hk
 have h':=h.world hb
 obtain ⟨p1,p2,p3,p4,p5,p6,p7⟩:=h.parts
 obtain ⟨bot,top,g1,g2⟩:=h.gh
 have hno : ∀m' ∈ ms,m.op < m'.op->L[m'.op]? ≠ some true:=fun m' hm' hlt' hh=>by
  have h3:=List.all_eq_true.1 hlt m' hm'
  simp only [hlt',decide_true,Bool.not_true,Bool.false_or] at h3
  have:=reach_spec hcl h3 hh
  rw [hL] at this
  cases this
 have hold : ∀m' ∈ ms,m' ≠ m->(L.setIfInBounds m.op true)[m'.op]? = some true->L[m'.op]? = some true:=fun m' hm' hne hl=>set_true hl (fun e=>hne (inj_of_nodup p4 hm' hm e.symm))
 refine ⟨h.wf,h.lv,by simp [h.size],fun j h1 h2=>by rw [Array.getElem?_setIfInBounds_ne (h2 m hm)]; exact h.keep j h1 h2,h'.bel,?_,fun i=>if i = m.op then w.heap.size else bot i,fun i=>if i = m.op then w'.heap.size else top i,fun m' hm' hl=>?_,fun a ha b hb' hlt' l1 l2=>?_⟩
 ·intro t ht hl
  obtain ⟨u,h1,h2⟩:=h'.val t ht (set_true hl (Ne.symm (p5 t ht m hm).2))
  exact ⟨u,by rw [Array.getElem?_setIfInBounds_ne (Ne.symm (p5 t ht m hm).1)]; exact h1,h2⟩
 ·by_cases he : m' = m
  ·subst he
   simp only [if_true]
   exact ⟨h.bel.size,Nat.le_refl _,v,by rw [Array.getElem?_setIfInBounds_self_of_lt (by rw [h.size]; exact p7 _ hm)],hw⟩
  ·have n1 : m'.op ≠ m.op:=fun e=>he (inj_of_nodup p4 hm' hm e)
   have n2 : m'.slot ≠ m.slot:=fun e=>he (inj_of_nodup p3 hm' hm e)
   simp only [if_neg n1]
   obtain ⟨e1,e2,u,e3,e4⟩:=g1 m' hm' (hold m' hm' he hl)
   exact ⟨e1,Nat.le_trans e2 hb.size,u,by rw [Array.getElem?_setIfInBounds_ne (Ne.symm n2)]; exact e3,e4.below hb⟩
 ·by_cases hb2 : b = m
  ·subst hb2
   by_cases ha2 : a = b
   ·subst ha2; omega
   ·have n1 : a.op ≠ b.op:=fun e=>ha2 (inj_of_nodup p4 ha hm e)
    simp only [if_true,if_neg n1]
    exact (g1 a ha (hold a ha ha2 l1)).2.1
  ·by_cases ha2 : a = m
   ·subst ha2
    exact absurd (hold b hb' hb2 l2) (hno b hb' hlt')
   ·have n1 : a.op ≠ m.op:=fun e=>ha2 (inj_of_nodup p4 ha hm e)
    have n2 : b.op ≠ m.op:=fun e=>hb2 (inj_of_nodup p4 hb' hm e)
    simp only [if_neg n1,if_neg n2]
    exact g2 a ha b hb' hlt' (hold a ha ha2 l1) (hold b hb' hb2 l2)
theorem RG.cell {b o : Nat} {v : Value} (h : RG W T0 vs ms L T w) (hc : W.cell? ⟨b,o,none⟩ = some v) : w.cell? ⟨b,o,none⟩ = some v:=kc_below hc h.bel
theorem RG.matv (h : RG W T0 vs ms L T w) (m : MS) (hm : m ∈ ms) (hl : L[m.op]? = some true) : ∃v,T[m.slot]? = some v/\∃o c,v = .agg #[.int .i64 m.R,.int .i64 m.C,.slice o m.R c]:=by
 obtain ⟨bot,top,g1,g2⟩:=h.gh
 obtain ⟨e1,e2,v,e3,o,c,bs,e4,-⟩:=g1 m hm hl
 exact ⟨v,e3,o,c,e4⟩
end
structure FiveV (n0 R C Cu Cw : Nat) (z : W5) (w : World) (v : Value) : Prop where
 ex : ∃so sc uo uc vo vc wo wc xo xc bS bU bV bW bX,v = .agg #[.int .i64 R,.int .i64 C,.slice so R sc,.int .i64 R,.int .i64 Cu,.slice uo R uc,.int .i64 R,.int .i64 Cu,.slice vo R vc,.int .i64 C,.int .i64 Cw,.slice wo C wc,.int .i64 C,.int .i64 Cw,.slice xo C xc] ∧
  Wri w (.slice so R sc) R C bS z.s/\Wri w (.slice uo R uc) R Cu bU z.u/\Wri w (.slice vo R vc) R Cu bV z.v/\Wri w (.slice wo C wc) C Cw bW z.w/\Wri w (.slice xo C xc) C Cw bX z.x ∧
  (∀b,Zn (.slice so R sc) bS b ∨ Zn (.slice uo R uc) bU b ∨ Zn (.slice vo R vc) bV b ∨ Zn (.slice wo C wc) bW b ∨ Zn (.slice xo C xc) bX b->n0<=b) ∧
  Ap (.slice so R sc) bS (.slice uo R uc) bU/\Ap (.slice so R sc) bS (.slice vo R vc) bV/\Ap (.slice so R sc) bS (.slice wo C wc) bW/\Ap (.slice so R sc) bS (.slice xo C xc) bX/\Ap (.slice uo R uc) bU (.slice vo R vc) bV ∧
  Ap (.slice uo R uc) bU (.slice wo C wc) bW/\Ap (.slice uo R uc) bU (.slice xo C xc) bX/\Ap (.slice vo R vc) bV (.slice wo C wc) bW/\Ap (.slice vo R vc) bV (.slice xo C xc) bX/\Ap (.slice wo C wc) bW (.slice xo C xc) bX
theorem ap_range {A A' : Value} {bs bs' : List Nat} {a b c d : Nat} (h : ∀x,Zn A bs x->a<=x/\x < b) (h' : ∀x,Zn A' bs' x->c<=x/\x < d) (hbc : b<=c) : Ap A bs A' bs':=fun x h1 h2=>by
 have:=h x h1
 have:=h' x h2
 omega
def StH (lo R C : Nat) (F : Nat->Nat->Int) : World->Value->Prop:=fun w v=>∃bs,Wri w v R C bs F/\∀b,Zn v bs b->lo<=b
def StM (lo R C : Nat) (F : Nat->Nat->Int) : World->Value->Prop:=fun w v=>∃o c,v = .agg #[.int .i64 R,.int .i64 C,.slice o R c]/\StH lo R C F w (.slice o R c)
def NilP (R : Nat) : World->Value->Prop:=fun w v=>NilW w v R
def StB (lo R C : Nat) (F : Nat->Nat->Int) : World->Value->Prop:=fun w v=>∃Ah Au Av,v = .agg #[Ah,Au,Av]/\StH lo R C F w Ah/\NilW w Au R/\NilW w Av R
theorem StH.below {lo R C : Nat} {F : Nat->Nat->Int} {w w' : World} {v : Value} (h : StH lo R C F w v) (hb : Below w.heap.size w w') : StH lo R C F w' v:=by
 obtain ⟨bs,h1,h2⟩:=h
 exact ⟨bs,h1.below hb,h2⟩
structure RowsX (w : World) (base : Nat) (A : Value) (C : Nat) (bs : List Nat) (M : List (List Int)) : Prop where
 own : w.ownsRow base tR 1 A bs.length (rowPtrs C bs)
 len : M.length = bs.length
 row : ∀(k : Nat) (b : Nat) (r : List Int),bs[k]? = some b->M[k]? = some r->r.length = C/\RowAt w b r
 nodup : bs.Nodup
 cb : C<=1099511627776
theorem RowsX.below {w w' : World} {base : Nat} {A : Value} {C : Nat} {bs : List Nat} {M : List (List Int)} (h : RowsX w base A C bs M) (hb : Below w.heap.size w w') : RowsX w' base A C bs M:=
 ⟨h.own.kept (row:=none) ⟨hb.os,hb.tape,hb.output,hb.size,fun k hk _=>hb.block k hk⟩ (by cases hv : A.ownBlock <;> simp),h.len,fun k b r h1 h2=>by
  obtain ⟨e2,e3⟩:=h.row k b r h1 h2
  exact ⟨e2,e3.below hb⟩,h.nodup,h.cb⟩
theorem RowsX.nil (w : World) (base C : Nat) (hC : C<=1099511627776) : RowsX w base (.slice none 0 0) C [] []:=⟨⟨rfl,.inl ⟨rfl,rfl⟩⟩,rfl,fun k b r h1=>by simp at h1,by simp,hC⟩
theorem RowsX.mono {w : World} {base a : Nat} {A : Value} {C : Nat} {bs : List Nat} {M : List (List Int)} (h : RowsX w base A C bs M) (ha : a<=base) : RowsX w a A C bs M:=by
 refine ⟨⟨h.own.1,?_⟩,h.len,h.row,h.nodup,h.cb⟩
 rcases h.own.2 with h3 | ⟨g,cap,cur,rfl,k1,k2⟩
 ·exact .inl h3
 ·exact .inr ⟨g,cap,cur,rfl,by omega,k2⟩
theorem RowsX.off {w w' : World} {base : Nat} {A : Value} {C : Nat} {bs : List Nat} {M : List (List Int)} {g : Nat} {T : TypeId} {cs : Array Value} (h : RowsX w base A C bs M) (hg : Blk w g T cs) (hT : ¬ T = tI) (hgb : g < base) (ho : ∀k,k ≠ g->w'.heap[k]? = w.heap[k]?) (hx : LExt w w') : RowsX w' base A C bs M:=by
 refine ⟨⟨h.own.1,?_⟩,h.len,fun k b r h1 h2=>?_,h.nodup,h.cb⟩
 ·rcases h.own.2 with h3 | ⟨g',cap,cur,rfl,k1,k2,k3⟩
  ·exact .inl h3
  ·exact .inr ⟨g',cap,cur,rfl,k1,(ho g' oM).trans k2,k3⟩
 ·obtain ⟨e2,e3⟩:=h.row k b r h1 h2
  exact ⟨e2,e3.old (ho b (fun e=>blk_ne hg e3 hT e.symm)) hx⟩
theorem RowsX.shape {w : World} {base : Nat} {A : Value} {C : Nat} {bs : List Nat} {M : List (List Int)} (h : RowsX w base A C bs M) : ∃o n c,A = .slice o n c:=by
 rcases h.own.2 with ⟨rfl,-⟩ | ⟨g,cap,cur,rfl,-⟩
 ·exact ⟨_,_,_,rfl⟩
 ·exact ⟨_,_,_,rfl⟩
theorem OwnN.cell {w : World} {base : Nat} {v : Value} {xs : List Nat} (h : OwnN w base v xs) {k x : Nat} (hk : xs[k]? = some x) : ∃g cap,v = .slice (some ⟨g,0,none⟩) xs.length cap/\g < w.heap.size/\w.cell? ⟨g,k,none⟩ = some (.int .i64 x):=by
 rcases h.2.2 with ⟨rfl,h0⟩ | ⟨g,cap,cur,rfl,hg,hh,hn,hc,hs,ht⟩
 ·rw [List.eq_nil_of_length_eq_zero h0] at hk
  simp at hk
 ·refine ⟨g,cap,rfl,(Array.getElem?_eq_some_iff.1 hh).1,?_⟩
  rw [cell_of_row w g k cur tNn _ hh]
  have hk' : (xs.map fun n=>Value.int .i64 (n : Nat))[k]? = some (.int .i64 (x : Nat)):=by simp [hk]
  rw [<-ht,List.getElem?_take] at hk'
  split at hk'
  ·simpa using hk'
  ·cases hk'
abbrev SlR (b C : Nat) : World->Value->Prop:=fun w v=>∃g,v = .slice (some ⟨g,0,none⟩) 1 1/\Blk w g tR #[.slice (some ⟨b,0,none⟩) C C]
structure AS where
 op : Nat
 slot : Nat
 m : MS
structure RX (W : World) (T0 : Array Value) (vs : List VS) (ms : List MS) (al_ : List AS) (L : Array Bool) (T : Array Value) (w : World) : Prop where
 g : RG W T0 vs ms L T w
 wf : ∀a ∈ al_,a.m ∈ ms/\∃s ∈ vs,s.op = a.op/\s.slot = a.slot
 al : ∀a ∈ al_,L[a.op]? = some true->L[a.m.op]? = some true/\∃o c,T[a.m.slot]? = some (.agg #[.int .i64 a.m.R,.int .i64 a.m.C,.slice o a.m.R c])/\T[a.slot]? = some (.slice o a.m.R c)
section
variable {W : World} {T0 : Array Value} {vs : List VS} {ms : List MS} {al_ : List AS} {L : Array Bool} {T : Array Value} {w w' : World}
theorem RX.start (hwf : wellRG T0.size vs ms = true) (hv : ∀s ∈ vs,LastsB s.P) (ha : ∀a ∈ al_,a.m ∈ ms/\∃s ∈ vs,s.op = a.op/\s.slot = a.slot) {n : Nat} : RX W T0 vs ms al_ (Array.replicate n false) T0 W.drew:=
 ⟨RG.start hwf hv,ha,fun a _ h=>by
  rw [Array.getElem?_replicate] at h
  split at h <;> simp at h⟩
theorem RX.world (h : RX W T0 vs ms al_ L T w) (hb : Below w.heap.size w w') : RX W T0 vs ms al_ L T w':=⟨h.g.world hb,h.wf,h.al⟩
theorem RX.value {k : Nat} {v : Value} (h : RX W T0 vs ms al_ L T w) (s : VS) (hs : s ∈ vs) (hk : s.op = k) (hP : s.P w v) (hn : ∀a ∈ al_,a.op ≠ k) : RX W T0 vs ms al_ (L.setIfInBounds k true) (T.setIfInBounds s.slot v) w:=by
 obtain ⟨p1,p2,p3,p4,p5,p6,p7⟩:=h.g.parts
 refine ⟨h.g.value s hs hk hP,h.wf,fun a ha hl=>?_⟩
 subst hk
 obtain ⟨e1,t,ht,e2,e3⟩:=h.wf a ha
 have hl' : L[a.op]? = some true:=set_true hl (fun e=>hn a ha e.symm)
 obtain ⟨q1,o,c,q2,q3⟩:=h.al a ha hl'
 have n1 : s.slot ≠ a.m.slot:=(p5 s hs _ e1).1
 have n2 : s.slot ≠ a.slot:=by
  rw [<-e3]
  intro e
  have:=inj_of_nodup p1 hs ht e
  subst this
  exact hn a ha e2.symm
 refine ⟨?_,o,c,by rw [Array.getElem?_setIfInBounds_ne n1]; exact q2,by rw [Array.getElem?_setIfInBounds_ne n2]; exact q3⟩
 rw [Array.getElem?_setIfInBounds_ne (p5 s hs _ e1).2]
 exact q1
theorem RX.y {k : Nat} {v : Value} (h : RX W T0 vs ms al_ L T w) {s : VS} (hs : s ∈ vs) (hP : s.P w v) (hn : ∀a ∈ al_,a.op ≠ k) (hk : s.op = k:=by rfl) : RX W T0 vs ms al_ (L.setIfInBounds k true) (T.setIfInBounds s.slot v) w:=h.value s hs hk hP hn
theorem RX.mat {ops : Array Oper} {k : Nat} {v : Value} (h : RX W T0 vs ms al_ L T w) (hcl : ClosedL ops L) (hL : L[k]? = some false) (m : MS) (hm : m ∈ ms) (hk : m.op = k) (hb : Below w.heap.size w w') (hw : Within m.R m.C m.F w.heap.size w'.heap.size w' v)
  (hlt : (ms.all fun m'=>!decide (k < m'.op) || reach ops 9 m'.op k) = true) : RX W T0 vs ms al_ (L.setIfInBounds k true) (T.setIfInBounds m.slot v) w':=by
 obtain ⟨p1,p2,p3,p4,p5,p6,p7⟩:=h.g.parts
 refine ⟨h.g.mat hcl hL m hm hk hb hw hlt,h.wf,fun a ha hl=>?_⟩
 subst hk
 obtain ⟨e1,t,ht,e2,e3⟩:=h.wf a ha
 have no : m.op ≠ a.op:=by rw [<-e2]; exact fun e=>(p5 t ht m hm).2 e.symm
 have ns : m.slot ≠ a.slot:=by rw [<-e3]; exact fun e=>(p5 t ht m hm).1 e.symm
 obtain ⟨q1,o,c,q2,q3⟩:=h.al a ha (set_true hl no)
 have hne : m ≠ a.m:=fun e=>by
  rw [<-e,hL] at q1
  cases q1
 have n1 : m.slot ≠ a.m.slot:=fun e=>hne (inj_of_nodup p3 hm e1 e)
 have n2 : m.op ≠ a.m.op:=fun e=>hne (inj_of_nodup p4 hm e1 e)
 exact ⟨by rw [Array.getElem?_setIfInBounds_ne n2]; exact q1,o,c,by rw [Array.getElem?_setIfInBounds_ne n1]; exact q2,by rw [Array.getElem?_setIfInBounds_ne ns]; exact q3⟩
end
def RXS (W : World) (T0 : Array Value) (vs : List VS) (ms : List MS) (al_ : List AS) (q : Nat) (st : Array Value->World->World) (L : Array Bool) (T : Array Value) (w : World) : Prop:=
 ∃w0,RX W T0 vs ms al_ L T w0/\(L[q]? ≠ some true->w = w0)/\(L[q]? = some true->w = st T w0)
section
variable {W : World} {T0 : Array Value} {vs : List VS} {ms : List MS} {al_ : List AS} {L : Array Bool} {T : Array Value} {w w' : World} {q : Nat} {st : Array Value->World->World}
theorem RXS.start {n : Nat} (h : RX W T0 vs ms al_ (Array.replicate n false) T0 W.drew) : RXS W T0 vs ms al_ q st (Array.replicate n false) T0 W.drew:=
 ⟨_,h,fun _=>rfl,fun hh=>by
  rw [Array.getElem?_replicate] at hh
  split at hh <;> simp at hh⟩
theorem RX.mark (h : RX W T0 vs ms al_ L T w) (hq : ∀s ∈ vs,s.op ≠ q) (hm : ∀m ∈ ms,m.op ≠ q) : RX W T0 vs ms al_ (L.setIfInBounds q true) T w:=by
 obtain ⟨bot,top,g1,g2⟩:=h.g.gh
 have um : ∀m ∈ ms,(L.setIfInBounds q true)[m.op]? = some true->L[m.op]? = some true:=fun m hm' hl=>set_true hl (Ne.symm (hm m hm'))
 refine ⟨⟨h.g.wf,h.g.lv,h.g.size,h.g.keep,h.g.bel,fun s hs hl=>h.g.val s hs (set_true hl (Ne.symm (hq s hs))),bot,top,fun m hm' hl=>g1 m hm' (um m hm' hl),fun m hm' m' hm2 hlt l1 l2=>g2 m hm' m' hm2 hlt (um m hm' l1) (um m' hm2 l2)⟩,h.wf,fun a ha hl=>?_⟩
 obtain ⟨e1,t,ht,e2,e3⟩:=h.wf a ha
 obtain ⟨q1,q2⟩:=h.al a ha (set_true hl (by rw [<-e2]; exact Ne.symm (hq t ht)))
 exact ⟨by rw [Array.getElem?_setIfInBounds_ne (Ne.symm (hm _ e1))]; exact q1,q2⟩
theorem RXS.step {k : Nat} {T' : Array Value} (h : RXS W T0 vs ms al_ q st L T w) (hx : ∀w0,RX W T0 vs ms al_ L T w0->RX W T0 vs ms al_ (L.setIfInBounds k true) T' w0) (hne : k ≠ q) (hst : ∀w,st T' w = st T w) : RXS W T0 vs ms al_ q st (L.setIfInBounds k true) T' w:=by
 obtain ⟨w0,h0,h1,h2⟩:=h
 exact ⟨w0,hx w0 h0,fun hn=>h1 fun hh=>hn (listed_mono hh),fun hh=>(h2 (set_true hh hne)).trans (hst w0).symm⟩
theorem RXS.store (h : RX W T0 vs ms al_ L T w) (hL : L[q]? = some false) (hq : ∀s ∈ vs,s.op ≠ q) (hm : ∀m ∈ ms,m.op ≠ q) (hw : w' = st T w) : RXS W T0 vs ms al_ q st (L.setIfInBounds q true) T w':=
 ⟨w,h.mark hq hm,fun hn=>absurd (Array.getElem?_setIfInBounds_self_of_lt (Array.getElem?_eq_some_iff.1 hL).1) hn,fun _=>hw⟩
end
theorem RG.five {W : World} {T0 : Array Value} {vs : List VS} {L : Array Bool} {T : Array Value} {w : World} {k1 k2 k3 k4 k5 s1 s2 s3 s4 s5 R C Cu Cw : Nat} {F1 F2 F3 F4 F5 : Nat->Nat->Int}
  (h : RG W T0 vs [⟨k1,s1,R,C,F1⟩,⟨k2,s2,R,Cu,F2⟩,⟨k3,s3,R,Cu,F3⟩,⟨k4,s4,C,Cw,F4⟩,⟨k5,s5,C,Cw,F5⟩] L T w) (o1 : k1 < k2) (o2 : k2 < k3) (o3 : k3 < k4) (o4 : k4 < k5)
  (l1 : L[k1]? = some true) (l2 : L[k2]? = some true) (l3 : L[k3]? = some true) (l4 : L[k4]? = some true) (l5 : L[k5]? = some true) :
  ∃so sc uo uc vo vc wo wc xo xc,T[s1]? = some (.agg #[.int .i64 R,.int .i64 C,.slice so R sc])/\T[s2]? = some (.agg #[.int .i64 R,.int .i64 Cu,.slice uo R uc])/\T[s3]? = some (.agg #[.int .i64 R,.int .i64 Cu,.slice vo R vc]) ∧
   T[s4]? = some (.agg #[.int .i64 C,.int .i64 Cw,.slice wo C wc])/\T[s5]? = some (.agg #[.int .i64 C,.int .i64 Cw,.slice xo C xc]) ∧
   FiveV W.heap.size R C Cu Cw ⟨F1,F2,F3,F4,F5⟩ w (.agg #[.int .i64 R,.int .i64 C,.slice so R sc,.int .i64 R,.int .i64 Cu,.slice uo R uc,.int .i64 R,.int .i64 Cu,.slice vo R vc,.int .i64 C,.int .i64 Cw,.slice wo C wc,.int .i64 C,.int .i64 Cw,.slice xo C xc]):=by
 obtain ⟨bot,top,g1,g2⟩:=h.gh
 have M1 : (⟨k1,s1,R,C,F1⟩ : MS) ∈ [(⟨k1,s1,R,C,F1⟩ : MS),⟨k2,s2,R,Cu,F2⟩,⟨k3,s3,R,Cu,F3⟩,⟨k4,s4,C,Cw,F4⟩,⟨k5,s5,C,Cw,F5⟩]:=by simp
 have M2 : (⟨k2,s2,R,Cu,F2⟩ : MS) ∈ [(⟨k1,s1,R,C,F1⟩ : MS),⟨k2,s2,R,Cu,F2⟩,⟨k3,s3,R,Cu,F3⟩,⟨k4,s4,C,Cw,F4⟩,⟨k5,s5,C,Cw,F5⟩]:=by simp
 have M3 : (⟨k3,s3,R,Cu,F3⟩ : MS) ∈ [(⟨k1,s1,R,C,F1⟩ : MS),⟨k2,s2,R,Cu,F2⟩,⟨k3,s3,R,Cu,F3⟩,⟨k4,s4,C,Cw,F4⟩,⟨k5,s5,C,Cw,F5⟩]:=by simp
 have M4 : (⟨k4,s4,C,Cw,F4⟩ : MS) ∈ [(⟨k1,s1,R,C,F1⟩ : MS),⟨k2,s2,R,Cu,F2⟩,⟨k3,s3,R,Cu,F3⟩,⟨k4,s4,C,Cw,F4⟩,⟨k5,s5,C,Cw,F5⟩]:=by simp
 have M5 : (⟨k5,s5,C,Cw,F5⟩ : MS) ∈ [(⟨k1,s1,R,C,F1⟩ : MS),⟨k2,s2,R,Cu,F2⟩,⟨k3,s3,R,Cu,F3⟩,⟨k4,s4,C,Cw,F4⟩,⟨k5,s5,C,Cw,F5⟩]:=by simp
 obtain ⟨a1,a2,_,a3,so,sc,bS,rfl,a5,a6⟩:=g1 _ M1 l1
 obtain ⟨b1,b2,_,b3,uo,uc,bU,rfl,b5,b6⟩:=g1 _ M2 l2
 obtain ⟨c1,c2,_,c3,vo,vc,bV,rfl,c5,c6⟩:=g1 _ M3 l3
 obtain ⟨d1,d2,_,d3,wo,wc,bW,rfl,d5,d6⟩:=g1 _ M4 l4
 obtain ⟨e1,e2,_,e3,xo,xc,bX,rfl,e5,e6⟩:=g1 _ M5 l5
 have r12:=g2 _ M1 _ M2 o1 l1 l2
 have r13:=g2 _ M1 _ M3 (by dsimp only; omega) l1 l3
 have r14:=g2 _ M1 _ M4 (by dsimp only; omega) l1 l4
 have r15:=g2 _ M1 _ M5 (by dsimp only; omega) l1 l5
 have r23:=g2 _ M2 _ M3 (by dsimp only; omega) l2 l3
 have r24:=g2 _ M2 _ M4 (by dsimp only; omega) l2 l4
 have r25:=g2 _ M2 _ M5 (by dsimp only; omega) l2 l5
 have r34:=g2 _ M3 _ M4 (by dsimp only; omega) l3 l4
 have r35:=g2 _ M3 _ M5 (by dsimp only; omega) l3 l5
 have r45:=g2 _ M4 _ M5 (by dsimp only; omega) l4 l5
 refine ⟨so,sc,uo,uc,vo,vc,wo,wc,xo,xc,a3,b3,c3,d3,e3,⟨so,sc,uo,uc,vo,vc,wo,wc,xo,xc,bS,bU,bV,bW,bX,rfl,a5,b5,c5,d5,e5,?_,ap_range a6 b6 r12,ap_range a6 c6 r13,ap_range a6 d6 r14,ap_range a6 e6 r15,ap_range b6 c6 r23,ap_range b6 d6 r24,ap_range b6 e6 r25,ap_range c6 d6 r34,ap_range c6 e6 r35,ap_range d6 e6 r45⟩⟩
 rintro b (hb | hb | hb | hb | hb)
 ·exact Nat.le_trans a1 (a6 b hb).1
 ·exact Nat.le_trans b1 (b6 b hb).1
 ·exact Nat.le_trans c1 (c6 b hb).1
 ·exact Nat.le_trans d1 (d6 b hb).1
 ·exact Nat.le_trans e1 (e6 b hb).1
def Zero15 : Array Value:=#[.int .i64 0,.int .i64 0,.slice none 0 0,.int .i64 0,.int .i64 0,.slice none 0 0,.int .i64 0,.int .i64 0,.slice none 0 0,.int .i64 0,.int .i64 0,.slice none 0 0,.int .i64 0,.int .i64 0,.slice none 0 0]
def MatR (R C : Nat) (F : Nat->Nat->Int) : World->Value->Prop:=fun w v=>∃o c,v = .agg #[.int .i64 R,.int .i64 C,.slice o R c]/\RowsV w (.slice o R c) (genM R C F)
theorem below_only {B base : Nat} {w a b : World} (h : Below B w a) (ho : OnlyZ (fun k=>base<=k) a b) (hB : B<=base) (hsz : B<=a.heap.size) : Below B w b:=
 ⟨ho.bel.os.trans h.os,ho.bel.tape.trans h.tape,ho.bel.output.trans h.output,Nat.le_trans h.size ho.bel.size,fun k hk=>(ho.old k oM oM).trans (h.block k hk)⟩
theorem RowsV.off {w w' : World} {v : Value} {M : List (List Int)} {g : Nat} {T : TypeId} {cs : Array Value} (h : RowsV w v M) (hg : Blk w g T cs) (h1 : T ≠ tR) (h2 : T ≠ tI) (ho : ∀b,b ≠ g->w'.heap[b]? = w.heap[b]?) (hx : LExt w w') : RowsV w' v M:=by
 obtain ⟨ao,n,cap,e1,e2,e3,e4,e5⟩:=h
 refine ⟨ao,n,cap,e1,e2,e3,e4,fun hn=>?_⟩
 obtain ⟨b,cs',q1,q2,q3⟩:=e5 hn
 have hne : ∀{c : Nat} {U : TypeId} {ds : Array Value},w.heap[c]? = some (.cells ds U (0,0))->T ≠ U->c ≠ g:=by
  intro c U ds hc hT hh
  subst hh
  have hg' : w.heap[c]? = some (.cells cs T (0,0)):=hg
  rw [hg'] at hc
  injection hc with hc
  injection hc with _ ht
  exact hT ht
 refine ⟨b,cs',q1,(ho b (hne q2 h1)).trans q2,fun k zs hk=>?_⟩
 obtain ⟨rv,r1,ao',n',cap',r2,r3,r4,r5,r6⟩:=q3 k zs hk
 refine ⟨rv,r1,ao',n',cap',r2,r3,r4,r5,fun hz=>?_⟩
 obtain ⟨b',s1,cs2,s2,s3⟩:=r6 hz
 exact ⟨b',s1,cs2,(ho b' (hne s2 h2)).trans s2,fun k z hk=>by
  obtain ⟨a1,a2,a3,a4,a5,a6,a7⟩:=s3 k z hk
  exact ⟨a1,a2,a3,a4,a5,a6,a7.ext hx⟩⟩
def gk : Nat->Nat->Nat
 | 0,M=>M
 | k + 1,M=>gk k (2 * M * M)
theorem leB.mono {M M' n Cs Ct : Nat} {x : Bst} (h : leB M n Cs Ct x) (hm : M<=M') : leB M' n Cs Ct x:=⟨h.1.mono hm,h.2.1.mono hm,h.2.2.mono hm⟩
theorem leB.ok {M B n Cs Ct : Nat} {x : Bst} (h : leB M n Cs Ct x) (hm : M < B) : okB B n Cs Ct x:=⟨h.1.ok hm,h.2.1.ok hm,h.2.2.ok hm⟩
def vw (ρ : Nat->Nat) (F : Nat->Nat->Int) : Nat->Nat->Int:=fun a t=>F (ρ a) t
def rowL (L : List (Nat × Nat)) (k : Nat) : Nat:=(L.getD k (0,0)).1
def colL (L : List (Nat × Nat)) (k : Nat) : Nat:=(L.getD k (0,0)).2
structure JC (n Cs Ct M0 : Nat) (x0 : Bst) (b g : Nat) (x : Bst) (L : List (Nat × Nat)) : Prop where
 ops : ∃l,okOps n l/\x = opsB l x0
 row : ∀k,k < L.length->rowL L k < b
 inj : ∀i j,i < j->j < L.length->rowL L i ≠ rowL L j
 len : L.length<=b
 ech : Ech Cs L.length (colL L) (vw (rowL L) x.s)
 zero : ∀a,a < b->(∀k,k < L.length->rowL L k ≠ a)->∀t,t < Cs->x.s a t = 0
 bd : leB (gk g M0) n Cs Ct x
def es : Nat->Nat
 | 0=>0
 | m + 1=>es m + m + m * (m + 1) / 2
def esr (r : Nat) : Nat->Nat
 | 0=>0
 | m + 1=>esr r m + min m r + min m r * (min m r + 1) / 2
def RkB (r n Cs : Nat) (x0 : Bst) : Prop:=∀(l : List Op) (k : Nat) (ρ κ : Nat->Nat),okOps n l->k<=n->(∀j,j < k->ρ j < n)->(∀i j,i < j->j < k->ρ i ≠ ρ j)->Ech Cs k κ (vw ρ (opsB l x0).s)->k<=r
theorem RkB.all {n Cs : Nat} {x0 : Bst} : RkB n n Cs x0:=fun _ _ _ _ _ h _ _ _=>h
def JH (ex : Nat->Nat) (r n Cs Ct M0 : Nat) (x0 : Bst) (m : Nat) (x : Bst) (L : List (Nat × Nat)) : Prop:=
 m<=n/\(∃g,g<=L.length/\(m < n->∀i,i < g->lead Cs x.s m < 0 ∨ (colL L i : Int) < lead Cs x.s m)/\(m = n->g = 0)/\JC n Cs Ct M0 x0 m (ex m + g) x L)/\(m = n->RedOn (fun _ _=>True) L.length (colL L) (vw (rowL L) x.s))
def JH' (ex : Nat->Nat) (r n Cs Ct M0 : Nat) (x0 : Bst) (m : Nat) (x : Bst) (L : List (Nat × Nat)) : Prop:=JC n Cs Ct M0 x0 (m + 1) (ex m + min m r) x L
section
variable {ex : Nat->Nat} {B r n Cs Ct M0 : Nat} {x0 : Bst}
theorem opsB_ex {x y : Bst} {l l' : List Op} (h1 : okOps n l) (h2 : x = opsB l x0) (h3 : okOps n l') (h4 : y = opsB l' x) : ∃l,okOps n l/\y = opsB l x0:=⟨l ++ l',h1.app h3,by rw [opsB_app,<-h2]; exact h4⟩
def mixJ (x : Bst) (r m c : Nat) (s t : Int) : Bst:=x.mix r m s t (-(x.s m c / ((Int.gcd (x.s r c) (x.s m c) : Nat) : Int))) (x.s r c / ((Int.gcd (x.s r c) (x.s m c) : Nat) : Int))
def okMix' (B n Cs Ct G m c : Nat) (x : Bst) (r : Nat) (s t : Int) : Prop:=G < B->okMix B n Cs Ct x r m s t (-(x.s m c / ((Int.gcd (x.s r c) (x.s m c) : Nat) : Int))) (x.s r c / ((Int.gcd (x.s r c) (x.s m c) : Nat) : Int))
theorem JH.fin {x : Bst} {L : List (Nat × Nat)} (h : JH ex r n Cs Ct M0 x0 n x L) : JC n Cs Ct M0 x0 n (ex n) x L/\RedOn (fun _ _=>True) L.length (colL L) (vw (rowL L) x.s):=by
 obtain ⟨-,⟨g,-,-,g3,g4⟩,h3⟩:=h
 rw [g3 rfl] at g4
 exact ⟨g4,h3 rfl⟩
end
def NewC (t : TypeId) (n0 : Nat) (cs : Array Value) : World->Value->Prop:=fun w v=>∃b,v = .pointer (some ⟨b,0,none⟩)/\n0<=b/\Blk w b t cs
abbrev tHe : TypeId:=179
def SlP (R : Nat) : World->Value->Prop:=fun _ v=>∃o c,v = .slice o R c
theorem Blk.neT {w : World} {a b : Nat} {T T' : TypeId} {cs cs' : Array Value} (h : Blk w a T cs) (k : Blk w b T' cs') (hT : T ≠ T') : a ≠ b:=by
 intro e
 subst e
 have h' : w.heap[a]? = some (.cells cs T (0,0)):=h
 have k' : w.heap[a]? = some (.cells cs' T' (0,0)):=k
 rw [h'] at k'
 injection k' with q1
 injection q1 with _ ht
 exact hT ht
theorem Wri.nzb {w : World} {A : Value} {R C : Nat} {bs : List Nat} {F : Nat->Nat->Int} (h : Wri w A R C bs F) {wb : Nat} {T : TypeId} {cs : Array Value} (hw : Blk w wb T cs) (h1 : T ≠ tR) (h2 : T ≠ tI) : ¬ Zn A bs wb:=by
 intro hh
 have hw' : w.heap[wb]? = some (.cells cs T (0,0)):=hw
 rcases hh with hb | hb
 ·obtain ⟨r,cs',q1,-⟩:=h.blk hb
  rw [hw'] at q1
  injection q1 with q1
  injection q1 with _ ht
  exact h2 ht
 ·rcases (RowsO.own h).2 with ⟨rfl,-⟩ | ⟨g,cap,cur,rfl,-,hh,-⟩
  ·cases hb
  ·simp only [Value.ownBlock,Option.some.injEq] at hb
   subst hb
   rw [hw'] at hh
   injection hh with q1
   injection q1 with _ ht
   exact h1 ht
def ordL (n C : Nat) (F : Nat->Nat->Int) (L : List (Nat × Nat)) : List Nat:=L.map (·.1) ++ (List.range n).filter fun i=>decide (lead C F i < 0)
theorem OwnN.type {w : World} {base : Nat} {v : Value} {xs : List Nat} (h : OwnN w base v xs) : ∀g,v.ownBlock = some g->∃cs,Blk w g tNn cs:=by
 intro g hg
 rcases h.2.2 with ⟨rfl,-⟩ | ⟨g',cap,cur,rfl,-,hh,-⟩
 ·cases hg
 ·simp only [Value.ownBlock,Option.some.injEq] at hg
  subst hg
  exact ⟨_,hh⟩
theorem OwnN.ne {w : World} {base : Nat} {v : Value} {xs : List Nat} (h : OwnN w base v xs) {b : Nat} {T : TypeId} {cs : Array Value} (hb : Blk w b T cs) (hT : T ≠ tNn) : v.ownBlock ≠ some b:=by
 intro e
 obtain ⟨cs',h2⟩:=h.type b e
 exact Blk.neT hb h2 hT rfl
theorem OwnN.far {w : World} {base : Nat} {v : Value} {xs : List Nat} (h : OwnN w base v xs) {b : Nat} {T : TypeId} {cs : Array Value} (hb : Blk w b T cs) (hT : T ≠ tNn) (i : Nat) (u : Value) : OwnN (w.setCell ⟨b,i,none⟩ u) base v xs:=by
 obtain ⟨h1,h2,h3⟩:=id h
 refine ⟨h1,h2,?_⟩
 rcases h3 with h3 | ⟨g,cap,cur,rfl,k1,k2,k3⟩
 ·exact .inl h3
 ·exact .inr ⟨g,cap,cur,rfl,k1,(setCell_old _ _ _ _ _ (fun e=>h.ne hb hT (by simp [Value.ownBlock,e]))).trans k2,k3⟩
def MatL (R C : Nat) (M : List (List Int)) : World->Value->Prop:=fun w v=>∃o c,v = .agg #[.int .i64 R,.int .i64 C,.slice o R c]/\RowsV w (.slice o R c) M
theorem RowsV.slice {w : World} {v : Value} {M : List (List Int)} (h : RowsV w v M) : ∃o c,v = .slice o M.length c:=by
 obtain ⟨ao,n,cap,e1,e2,-⟩:=h
 exact ⟨ao,cap,by rw [e1,e2]⟩
structure HermV (w : World) (f : Value) (R C : Nat) (H U V : List (List Int)) : Prop where
 ex : ∃h u v,f = .agg #[.int .i64 R,.int .i64 C,h,.int .i64 R,.int .i64 R,u,.int .i64 R,.int .i64 R,v]/\RowsV w h H/\RowsV w u U/\RowsV w v V
theorem HermV.below {w w' : World} {f : Value} {R C : Nat} {H U V : List (List Int)} (h : HermV w f R C H U V) (hb : Below w.heap.size w w') : HermV w' f R C H U V:=by
 obtain ⟨a,b,c,h1,h2,h3,h4⟩:=h.ex
 exact ⟨a,b,c,h1,h2.below hb,h3.below hb,h4.below hb⟩
def HermP (R C : Nat) (H U V : List (List Int)) : World->Value->Prop:=fun w f=>∃ho hc uo uc vo vc,f = .agg #[.int .i64 R,.int .i64 C,.slice ho R hc,.int .i64 R,.int .i64 R,.slice uo R uc,.int .i64 R,.int .i64 R,.slice vo R vc]/\RowsV w (.slice ho R hc) H/\RowsV w (.slice uo R uc) U/\RowsV w (.slice vo R vc) V
theorem Tryz.sizeHe : (Tryz.prog.info? tHe).map (·.size) = some 9:=by kernel_rfl
theorem Spans.refl (n C : Nat) (F : Nat->Nat->Int) : Spans n C F F:=⟨idf,fun _ ha b _=>idf_sum ha fun t=>F t b⟩
theorem Spans.trans {n C : Nat} {F G H : Nat->Nat->Int} (h : Spans n C F G) (k : Spans n C G H) : Spans n C F H:=by
 obtain ⟨X,hx⟩:=h
 obtain ⟨Y,hy⟩:=k
 refine ⟨fun a t=>sumN n fun s=>Y a s * X s t,fun a ha b hb=>?_⟩
 rw [hy a ha b hb]
 have : sumN n (fun s=>Y a s * G s b) = sumN n fun s=>sumN n fun t=>Y a s * (X s t * F t b):=sumN_congr fun s hs=>by rw [hx s hs b hb,sumN_mul]
 rw [this,sumN_swap]
 refine sumN_congr fun t ht=>?_
 rw [<-sumN_mulr]
 exact sumN_congr fun s hs=>by rw [Int.mul_assoc]
theorem Spans.congr {n C : Nat} {F F' G G' : Nat->Nat->Int} (h : Spans n C F G) (e1 : ∀a,a < n->∀b,b < C->F' a b = F a b) (e2 : ∀a,a < n->∀b,b < C->G' a b = G a b) : Spans n C F' G':=by
 obtain ⟨X,hx⟩:=h
 exact ⟨X,fun a ha b hb=>by rw [e2 a ha b hb,hx a ha b hb]; exact sumN_congr fun t ht=>by rw [e1 t ht b hb]⟩
structure HForm (R C r : Nat) (c : Nat->Nat) (A H U V : Nat->Nat->Int) : Prop where
 hnf : Hnf C R r c H
 mul : ∀a,a < R->∀b,b < C->H a b = sumN R fun t=>U a t * A t b
 inv : ∀a,a < R->∀b,b < R->sumN R (fun t=>U a t * V t b) = idf a b
 back : ∀a,a < R->∀b,b < C->A a b = sumN R fun t=>V a t * H t b
theorem HForm.sp {R C r : Nat} {c : Nat->Nat} {A H U V : Nat->Nat->Int} (h : HForm R C r c A H U V) : Spans R C H A:=⟨V,h.back⟩
theorem HForm.sp' {R C r : Nat} {c : Nat->Nat} {A H U V : Nat->Nat->Int} (h : HForm R C r c A H U V) : Spans R C A H:=⟨U,h.mul⟩
def ordA (n C : Nat) (F : Nat->Nat->Int) (L : List (Nat × Nat)) (a : Nat) : Nat:=(ordL n C F L).getD a 0
theorem BD_ex : ∃n : Nat,n = B32 ^ DLIM:=⟨_,rfl⟩
noncomputable def BD : Nat:=BD_ex.choose
theorem BD_eq : BD = B32 ^ DLIM:=BD_ex.choose_spec
theorem BD_bsd : BSd BD:=⟨fun z hz=>by rw [BD_eq] at hz; exact ⟨hz⟩⟩
theorem E40_ex : ∃n : Nat,n = 2 ^ 40:=⟨_,rfl⟩
noncomputable def E40 : Nat:=E40_ex.choose
theorem pow_le_B32 {a D : Nat} (h : a<=32 * D) : 2 ^ a<=B32 ^ D:=by
 rw [show B32 = 2 ^ 32 from rfl,<-Nat.pow_mul]
 exact Nat.pow_le_pow_right oM h
theorem idf_leM (n M : Nat) (h : 1<=M) : leM M n n idf:=fun a _ b _=>by
 unfold idf
 split <;> simp <;> omega
theorem OwnN.keepZ {w w' : World} {base : Nat} {v : Value} {xs : List Nat} {Z : Nat->Prop} (h : OwnN w base v xs) (ho : OnlyZ Z w w') (hz : ∀g,v.ownBlock = some g->¬ Z g) : OwnN w' base v xs:=by
 obtain ⟨h1,h2,h3⟩:=id h
 refine ⟨h1,h2,?_⟩
 rcases h3 with h3 | ⟨g,cap,cur,rfl,k1,k2,k3⟩
 ·exact .inl h3
 ·exact .inr ⟨g,cap,cur,rfl,k1,(ho.old g (Array.getElem?_eq_some_iff.1 k2).1 (hz g rfl)).trans k2,k3⟩
theorem RowsX.keepZ {w w' : World} {base : Nat} {A : Value} {C : Nat} {bs : List Nat} {M : List (List Int)} {Z : Nat->Prop} (h : RowsX w base A C bs M) (ho : OnlyZ Z w w') (hz : ∀b,Zn A bs b->¬ Z b) : RowsX w' base A C bs M:=by
 refine ⟨⟨h.own.1,?_⟩,h.len,fun k b r h1 h2=>?_,h.nodup,h.cb⟩
 ·rcases h.own.2 with h3 | ⟨g,cap,cur,rfl,k1,k2,k3⟩
  ·exact .inl h3
  ·exact .inr ⟨g,cap,cur,rfl,k1,(ho.old g (Array.getElem?_eq_some_iff.1 k2).1 (hz g (.inr rfl))).trans k2,k3⟩
 ·obtain ⟨e2,e3⟩:=h.row k b r h1 h2
  exact ⟨e2,e3.old (ho.old b e3.lt (hz b (.inl (List.mem_of_getElem? h1)))) ho.lext⟩
abbrev tMt : TypeId:=41
structure HLat (R C r : Nat) (c : Nat->Nat) (A H : Nat->Nat->Int) : Prop where
 hnf : Hnf C R r c H
 sp : Spans R C H A
 sp' : Spans R C A H
theorem HForm.lat {R C r : Nat} {c : Nat->Nat} {A H U V : Nat->Nat->Int} (h : HForm R C r c A H U V) : HLat R C r c A H:=⟨h.hnf,h.sp,h.sp'⟩
theorem HLat.eq {R C r r' : Nat} {c c' : Nat->Nat} {A H H' : Nat->Nat->Int} (h : HLat R C r c A H) (h' : HLat R C r' c' A H') : r = r'/\genM R C H = genM R C H':=by
 obtain ⟨e1,-,e2⟩:=hnf_unique h.hnf h'.hnf (h.sp.trans h'.sp') (h'.sp.trans h.sp')
 exact ⟨e1,genM_congr fun i hi j hj=>(e2 i hi j hj).symm⟩
def rowOk (C : Nat) (F : Nat->Nat->Int) (i : Nat) : Prop:=
 lead C F i < 0 ∨ ∃c : Nat,lead C F i = (c : Int)/\(∀k,k < i->0<=lead C F k/\lead C F k < c)/\0 < F i c/\∀k,k < i->0<=F k c/\F k c < F i c
def IsHP (R C : Int) (M : List (List Int)) : Prop:=ValidM R C M/\∀i,i < M.length->rowOk C.toNat (ent M) i
theorem rowOk.split {C : Nat} {F : Nat->Nat->Int} : ∀n,(∀i,i < n->rowOk C F i)->∃r,r<=n/\(∀k,k < r->0<=lead C F k)/\∀k,r<=k->k < n->lead C F k < 0
 | 0,_=>⟨0,Nat.le_refl _,fun k hk=>by omega,fun k _ hk=>by omega⟩
 | n + 1,h=>by
  obtain ⟨r,h1,h2,h3⟩:=rowOk.split n fun i hi=>h i oM
  rcases h n oM with hl | ⟨c,hc,hk,-⟩
  ·refine ⟨r,by omega,h2,fun k hk1 hk2=>?_⟩
   by_cases e : k = n
   ·rw [e]; exact hl
   ·exact h3 k hk1 oM
  ·refine ⟨n + 1,Nat.le_refl _,fun k hk2=>?_,fun k _ _=>by omega⟩
   by_cases e : k = n
   ·rw [e,hc]; omega
   ·exact (hk k oM).1
theorem hnf_of_rows {C n : Nat} {F : Nat->Nat->Int} (h : ∀i,i < n->rowOk C F i) : ∃r c,Hnf C n r c F:=by
 obtain ⟨r,h1,h2,h3⟩:=rowOk.split n h
 have hr : ∀k,k < r->∃c : Nat,lead C F k = (c : Int)/\(∀j,j < k->0<=lead C F j/\lead C F j < c)/\0 < F k c/\∀j,j < k->0<=F j c/\F j c < F k c:=fun k hk=>by
  rcases h k oM with hl | hl
  ·have:=h2 k hk; omega
  ·exact hl
 refine ⟨r,fun k=>(lead C F k).toNat,h1,⟨fun k hk=>lead_lt (by have:=h2 k hk; omega),fun k hk=>?_,fun k hk t ht=>?_,fun k l hkl hl=>?_⟩,fun i j hij hj _=>?_,fun a h1 h2 t ht=>lead_lt0 (h3 a h1 h2) t ht⟩
 ·obtain ⟨c,e,-,hp,-⟩:=hr k hk
  simp only [e,Int.toNat_natCast]
  exact hp
 ·obtain ⟨c,e,e2,e3,hz⟩:=lead_nat (C:=C) (F:=F) (i:=k) (by have:=h2 k hk; omega)
  simp only [e,Int.toNat_natCast] at ht
  exact hz t ht
 ·obtain ⟨c,e,e2,-⟩:=hr l hl
  have:=e2 k hkl
  simp only [e,Int.toNat_natCast]
  omega
 ·obtain ⟨c,e,-,-,e2⟩:=hr j hj
  simp only [e,Int.toNat_natCast]
  exact e2 i hij
theorem Hnf.lead_lo {C n r : Nat} {c : Nat->Nat} {F : Nat->Nat->Int} (h : Hnf C n r c F) {k : Nat} (hk : k < r) : lead C F k = (c k : Int):=h.ech.lead hk
theorem Hnf.lead_hi {C n r : Nat} {c : Nat->Nat} {F : Nat->Nat->Int} (h : Hnf C n r c F) {k : Nat} (h1 : r<=k) (h2 : k < n) : lead C F k = -1:=lead_neg (h.zero k h1 h2)
theorem rows_of_hnf {C n r : Nat} {c : Nat->Nat} {F : Nat->Nat->Int} (h : Hnf C n r c F) {i : Nat} (hi : i < n) : rowOk C F i:=by
 rcases Nat.lt_or_ge i r with hr | hr
 ·refine .inr ⟨c i,h.lead_lo hr,fun k hk=>?_,h.ech.pos i hr,fun k hk=>h.red k i hk hr trivial⟩
  rw [h.lead_lo (k:=k) oM]
  have:=h.ech.inc k i hk hr
  omega
 ·exact .inl (by rw [h.lead_hi hr hi]; decide)
theorem rowOk.congr {C : Nat} {F G : Nat->Nat->Int} {n i : Nat} (hi : i < n) (e : ∀a,a < n->∀b,b < C->G a b = F a b) (h : rowOk C F i) : rowOk C G i:=by
 have hl : ∀k,k < n->lead C G k = lead C F k:=fun k hk=>lead_congr (e k hk)
 rcases h with h | ⟨c,h1,h2,h3,h4⟩
 ·exact .inl (by rw [hl i hi]; exact h)
 ·have hc:=(lead_lt' h1).1
  refine .inr ⟨c,by rw [hl i hi]; exact h1,fun k hk=>by rw [hl k oM]; exact h2 k hk,by rw [e i hi c hc]; exact h3,fun k hk=>by rw [e i hi c hc,e k oM c hc]; exact h4 k hk⟩
theorem isHP_genM {R C : Nat} {F : Nat->Nat->Int} : IsHP R C (genM R C F) ↔ ∃r c,Hnf C R r c F:=by
 have hlen : (genM R C F).length = R:=(genM_fits R C F).1
 constructor
 ·rintro ⟨-,h⟩
  rw [hlen] at h
  exact hnf_of_rows fun i hi=>(h i hi).congr (F:=ent (genM R C F)) hi fun a ha b hb=>(ent_genM ha hb).symm
 ·rintro ⟨r,c,h⟩
  refine ⟨(genM_fits R C F).valid,fun i hi=>?_⟩
  rw [hlen] at hi
  exact (rows_of_hnf h hi).congr hi fun a ha b hb=>ent_genM ha hb
theorem isHP_iff {R C : Nat} {M : List (List Int)} (hF : Fits R C M) : IsHP R C M ↔ ∃r c,Hnf C R r c (ent M):=by
 rw [fits_genM hF,isHP_genM]
 constructor
 ·rintro ⟨r,c,h⟩
  exact hnf_of_rows fun i hi=>(rows_of_hnf h hi).congr hi fun a ha b hb=>ent_genM ha hb
 ·rintro ⟨r,c,h⟩
  exact hnf_of_rows fun i hi=>(rows_of_hnf h hi).congr hi fun a ha b hb=>(ent_genM ha hb).symm
def RetB (P : Prop) (w : World) (e : Ending) (w' : World) : Prop:=∃b,e = .returned (.bool b)/\(b = true ↔ P)/\Below w.heap.size w w'
theorem RetB.of {P : Prop} {w w' : World} (b : Bool) (h : b = true ↔ P) (hb : Below w.heap.size w w') : RetB P w (.returned (.bool b)) w':=⟨b,rfl,h,hb⟩
theorem RowsV.take {w : World} {ao : Option Addr} {n cap : Nat} {M : List (List Int)} (h : RowsV w (.slice ao n cap) M) {i : Nat} (hi : i<=n) : RowsV w (.slice ao i cap) (M.take i):=by
 obtain ⟨ao',n',cap',e1,e2,e3,e4,e5⟩:=h
 cases e1
 refine ⟨_,_,_,rfl,by simp; omega,by omega,e4,fun hn=>?_⟩
 obtain ⟨b,cs,h1,h2,h3⟩:=e5 (by rintro rfl; simp at hn)
 refine ⟨b,cs,h1,h2,fun k zs hk=>h3 k zs ?_⟩
 rw [List.getElem?_take] at hk
 split at hk
 ·exact hk
 ·cases hk
theorem Fits.row_eq {R C : Nat} {M : List (List Int)} (h : Fits R C M) {i : Nat} {zs : List Int} (hz : M[i]? = some zs) : zs = genV C (ent M i):=by
 have hl:=h.2 zs (List.mem_of_getElem? hz)
 refine List.ext_getElem (by simp [genV,hl]) fun j h1 h2=>?_
 simp only [genV,List.getElem_map,List.getElem_range]
 rw [ent_of hz (List.getElem?_eq_getElem h1)]
structure IsInv (C : Nat) (F : Nat->Nat->Int) (i : Nat) (last : Int) (en : Bool) : Prop where
 ok : ∀k,k < i->rowOk C F k
 ended : en = true ↔ ∃k,k < i/\lead C F k < 0
 lst : en = false->∀c : Int,0<=c->(last < c ↔ ∀k,k < i->lead C F k < c)
theorem IsInv.start (C : Nat) (F : Nat->Nat->Int) : IsInv C F 0 (-1) false:=
 ⟨fun k hk=>by omega,⟨(fun h=>by cases h),(fun ⟨k,hk,_⟩=>by omega)⟩,fun _ c hc=>⟨fun _ k hk=>by omega,fun _=>by omega⟩⟩
theorem IsInv.zero {C : Nat} {F : Nat->Nat->Int} {i : Nat} {last last' : Int} {en : Bool} (h : IsInv C F i last en) (hl : lead C F i < 0) : IsInv C F (i + 1) last' true:=
 ⟨fun k hk=>by
  by_cases e : k = i
  ·rw [e]; exact .inl hl
  ·exact h.ok k oM,⟨fun _=>⟨i,by omega,hl⟩,fun _=>rfl⟩,fun e=>by cases e⟩
theorem IsInv.row {C : Nat} {F : Nat->Nat->Int} {i c : Nat} {last : Int} {en : Bool} (h : IsInv C F i last en) (hl : lead C F i = (c : Int)) :
  rowOk C F i ↔ en = false/\last < c/\¬ F i c < 0/\¬ ∃k,k < i/\(F k c < 0 ∨ F i c<=F k c):=by
 have hz:=(lead_lt' hl).2
 constructor
 ·rintro (h1 | ⟨c',h1,h2,h3,h4⟩)
  ·omega
  ·obtain rfl : c' = c:=by omega
   have he : en = false:=by
    cases en
    ·rfl
    ·obtain ⟨k,hk,hk2⟩:=h.ended.1 rfl
     have:=(h2 k hk).1; omega
   exact ⟨he,(h.lst he c' oM).2 fun k hk=>(h2 k hk).2,by omega,fun ⟨k,hk,hk2⟩=>by have:=h4 k hk; omega⟩
 ·rintro ⟨he,h2,h3,h4⟩
  refine .inr ⟨c,hl,fun k hk=>⟨?_,(h.lst he c oM).1 h2 k hk⟩,by omega,fun k hk=>?_⟩
  ·refine Int.not_lt.1 fun hn=>?_
   have:=h.ended.2 ⟨k,hk,hn⟩
   rw [he] at this; cases this
  ·rcases Int.lt_or_le (F k c) 0 with g | g
   ·exact absurd ⟨k,hk,.inl g⟩ h4
   ·rcases Int.lt_or_le (F k c) (F i c) with g2 | g2
    ·exact ⟨g,g2⟩
    ·exact absurd ⟨k,hk,.inr g2⟩ h4
theorem IsInv.step {C : Nat} {F : Nat->Nat->Int} {i c : Nat} {last : Int} (h : IsInv C F i last false) (hl : lead C F i = (c : Int)) (hr : rowOk C F i) : IsInv C F (i + 1) c false:=by
 refine ⟨fun k hk=>?_,⟨(fun h=>by cases h),(fun ⟨k,hk,hk2⟩=>?_)⟩,fun _ d hd=>⟨fun hlt k hk=>?_,fun hk=>by have:=hk i oM; omega⟩⟩
 ·by_cases e : k = i
  ·rw [e]; exact hr
  ·exact h.ok k oM
 ·by_cases e : k = i
  ·rw [e] at hk2; omega
  ·exact h.ended.2 ⟨k,by omega,hk2⟩
 ·by_cases e : k = i
  ·rw [e]; omega
  ·rcases hr with h1 | ⟨c',h1,h2,-⟩
   ·omega
   ·have:=(h2 k oM).2; omega
def gx (E M : Nat) : Nat:=(2 * M) ^ E / 2
theorem gx_two {E M : Nat} (hE : 1<=E) : 2 * gx E M = (2 * M) ^ E:=by
 obtain ⟨e,rfl⟩ : ∃e,E = e + 1:=⟨E - 1,by omega⟩
 have h : (2 * M) ^ (e + 1) = 2 * (M * (2 * M) ^ e):=by rw [Nat.pow_succ,Nat.mul_comm ((2 * M) ^ e),Nat.mul_assoc]
 unfold gx
 rw [h,Nat.mul_div_cancel_left _ oM]
theorem gx_one (M : Nat) : gx 1 M = M:=by
 have:=gx_two (E:=1) (M:=M) oM
 rw [Nat.pow_one] at this
 omega
theorem gx_mono {a b M : Nat} (hM : 1<=M) (h : a<=b) : gx a M<=gx b M:=Nat.div_le_div_right (Nat.pow_le_pow_right oM h)
theorem gx_ge {E M : Nat} (hM : 1<=M) (hE : 1<=E) : M<=gx E M:=by have:=gx_mono hM hE; rwa [gx_one] at this
theorem gx_gx {a b M : Nat} (ha : 1<=a) : gx b (gx a M) = gx (a * b) M:=by
 have h:=gx_two (M:=M) ha
 unfold gx at h ⊢
 rw [h,<-Nat.pow_mul]
theorem div_abs (a b : Int) : (a / b).natAbs<=a.natAbs:=Int.natAbs_ediv_le_natAbs a b
structure KCore (n C : Nat) (x0 : Bst) (c r : Nat) (κ : Nat->Nat) (x : Bst) : Prop where
 ops : ∃l,okOps n l/\x = opsB l x0
 rn : r<=n
 ech : Ech C r κ x.s
 lt : ∀k,k < r->κ k < c
 red : RedOn (fun _ _=>True) r κ x.s
 zero : ∀a,r<=a->a < n->∀t,t < c->t < C->x.s a t = 0
section
variable {n C Ct M0 B : Nat} {x0 x : Bst} {c r : Nat} {κ : Nat->Nat}
theorem KCore.op (h : KCore n C x0 c r κ x) {o : Op} (ho : o.ok n) (hl : ∀a,a < r->∀t,(∀b,r<=b->b < n->x.s b t = 0) ∨ True->(o.b x).s a t = x.s a t) (hz : ∀t,(∀b,r<=b->b < n->x.s b t = 0)->∀a,r<=a->a < n->(o.b x).s a t = 0) : KCore n C x0 c r κ (o.b x):=by
 obtain ⟨l,l1,l2⟩:=h.ops
 refine ⟨opsB_ex l1 l2 (okOps.cons ho okOps.nil) rfl,h.rn,⟨h.ech.lt,fun k hk=>?_,fun k hk t ht=>?_,h.ech.inc⟩,h.lt,fun i j h1 h2 h3=>?_,fun a h1 h2 t h3 h4=>?_⟩
 ·rw [hl k hk _ (.inr trivial)]; exact h.ech.pos k hk
 ·rw [hl k hk _ (.inr trivial)]; exact h.ech.zero k hk t ht
 ·rw [hl i oM _ (.inr trivial),hl j h2 _ (.inr trivial)]; exact h.red i j h1 h2 h3
 ·exact hz t (fun b g1 g2=>h.zero b g1 g2 t h3 h4) a h1 h2
theorem KCore.add (h : KCore n C x0 c r κ x) {i j : Nat} (k : Int) (hi : i < n) (hj : j < n) (hij : i ≠ j) (hri : r<=i) (hrj : r<=j) : KCore n C x0 c r κ (x.add i j k):=by
 refine h.op (o:=.add i j k) ⟨hi,hj,hij⟩ (fun a ha t _=>?_) (fun t ht a h1 h2=>?_)
 ·show addF x.s i j k a t = _
  unfold addF; rw [if_neg oM]
 ·show addF x.s i j k a t = _
  unfold addF; split
  ·rw [ht i hri hi,ht j hrj hj]; omega
  ·exact ht a h1 h2
theorem KCore.swap (h : KCore n C x0 c r κ x) {i j : Nat} (hi : i < n) (hj : j < n) (hri : r<=i) (hrj : r<=j) : KCore n C x0 c r κ (x.swap i j):=by
 refine h.op (o:=.swap i j) ⟨hi,hj⟩ (fun a ha t _=>?_) (fun t ht a h1 h2=>?_)
 ·show x.s (swp i j a) t = _
  rw [show swp i j a = a by unfold swp; rw [if_neg oM,if_neg oM]]
 ·show x.s (swp i j a) t = _
  refine ht _ ?_ (swp_lt hi hj h2)
  unfold swp; split <;> (try split) <;> omega
theorem KCore.neg (h : KCore n C x0 c r κ x) {i : Nat} (hi : i < n) (hri : r<=i) : KCore n C x0 c r κ (x.neg i):=by
 refine h.op (o:=.neg i) hi (fun a ha t _=>?_) (fun t ht a h1 h2=>?_)
 ·show negF x.s i a t = _
  unfold negF; rw [if_neg oM]
 ·show negF x.s i a t = _
  unfold negF; split
  ·rw [ht a h1 h2]; rfl
  ·exact ht a h1 h2
theorem KCore.redAdd (h : KCore n C x0 c r κ x) {i : Nat} (k : Int) (hi : i < r) (hr : r < n) (hc : c < C) : KCore n C x0 c r κ (x.add i r k):=by
 obtain ⟨l,l1,l2⟩:=h.ops
 have hz : ∀t,t < c->x.s r t = 0:=fun t ht=>h.zero r (Nat.le_refl _) hr t ht oM
 have hs : ∀a t,t < c->(x.add i r k).s a t = x.s a t:=fun a t ht=>by
  show addF x.s i r k a t = _
  unfold addF; split
  ·rename_i e; rw [hz t ht,Int.mul_zero,Int.add_zero,e]
  ·rfl
 refine ⟨opsB_ex l1 l2 (okOps.cons (o:=.add i r k) ⟨by omega,hr,by omega⟩ okOps.nil) rfl,h.rn,⟨h.ech.lt,fun k hk=>?_,fun k hk t ht=>?_,h.ech.inc⟩,h.lt,fun i j h1 h2 h3=>?_,fun a h1 h2 t h3 h4=>?_⟩
 ·rw [hs _ _ (h.lt _ hk)]; exact h.ech.pos _ hk
 ·rw [hs _ _ (by have:=h.lt _ hk; omega)]; exact h.ech.zero _ hk t ht
 ·rw [hs _ _ (h.lt _ h2),hs _ _ (h.lt _ h2)]; exact h.red i j h1 h2 h3
 ·rw [hs _ _ h3]; exact h.zero a h1 h2 t h3 h4
structure KI (n C Ct b0 : Nat) (x0 : Bst) (c r : Nat) (κ : Nat->Nat) (i : Nat) (x : Bst) : Prop where
 core : KCore n C x0 c r κ x
 col : ∀a,r < a->a < i->x.s a c = 0
 same : x.s r c = 0->leB b0 n C Ct x
 cb : ∀a,a < n->(x.s a c).natAbs<=b0
theorem gx_add {a b M : Nat} (ha : 1<=a) (hb : 1<=b) : gx (a + b) M = 2 * gx a M * gx b M:=by
 have h1:=gx_two (M:=M) ha
 have h2:=gx_two (M:=M) hb
 have h3:=gx_two (E:=a + b) (M:=M) oM
 rw [Nat.pow_add,<-h1,<-h2,Nat.mul_mul_mul_comm] at h3
 rw [Nat.mul_assoc]
 omega
def fm (u m : Nat) : Nat:=16 * (u * u * u * u * m)
theorem gx_fm {e a M : Nat} (he : 1<=e) (ha : 1<=a) : gx (a + 4 * e) M = fm (gx e M) (gx a M):=by
 have h4 : gx (4 * e) M = 8 * (gx e M * gx e M * gx e M * gx e M):=by
  have h:=gx_two (E:=4) (M:=gx e M) oM
  rw [Nat.mul_pow,show (2 : Nat) ^ 4 = 16 from rfl] at h
  simp only [Nat.pow_succ,Nat.pow_zero,Nat.one_mul] at h
  rw [Nat.mul_comm,<-gx_gx he]
  omega
 rw [gx_add ha oM,h4]
 unfold fm
 rw [Nat.mul_comm (2 * gx a M),Nat.mul_assoc 8,Nat.mul_left_comm _ 2,<-Nat.mul_assoc 8 2]
def EBd (n C Ct m u : Nat) (X Y : Int) (x : Bst) : Prop:=
 leB m n C Ct x ∨ (0<=Y/\leB (2 * u * m) n C Ct x) ∨ (0<=X/\0<=Y/\∃a,1<=a/\leB a n C Ct x/\a<=fm u m/\a * (2 * X.natAbs * Y.natAbs)<=fm u m)
theorem four_a {u m : Nat} (hu : 1<=u) (hm : 1<=m) : 2 * u * m * (1 + u)<=fm u m/\2 * u * m * (1 + u) * (2 * u * u)<=fm u m/\m * (1 + u)<=2 * u * m/\2 * u * m<=fm u m/\m<=fm u m:=by
 unfold fm
 have e0 : u * u * u * u * m = u * (u * (u * (u * m))):=by simp only [Nat.mul_assoc]
 have e1 : 2 * u * m * (1 + u) = 2 * (u * m) + 2 * (u * (u * m)):=by
  rw [Nat.mul_add,Nat.mul_one,Nat.mul_assoc 2 u m,Nat.mul_assoc 2 (u * m) u,Nat.mul_comm (u * m) u]
 have e2 : 2 * u * m * (1 + u) * (2 * u * u) = 4 * (u * (u * (u * m))) + 4 * (u * (u * (u * (u * m)))):=by
  rw [e1,Nat.add_mul]
  have a1 : ∀t : Nat,2 * t * (2 * u * u) = 4 * (u * (u * t)):=fun t=>by
   rw [Nat.mul_assoc 2 u u,Nat.mul_mul_mul_comm,Nat.mul_comm t,Nat.mul_assoc u u t]
  rw [a1,a1]
 have e3 : m * (1 + u) = m + u * m:=by rw [Nat.mul_add,Nat.mul_one,Nat.mul_comm m u]
 have e4 : 2 * u * m = 2 * (u * m):=Nat.mul_assoc _ _ _
 rw [e2,e1,e3,e4,e0]
 have h : ∀t : Nat,t<=u * t:=fun t=>Nat.le_mul_of_pos_left t hu
 have h1:=h m
 have h2:=h (u * m)
 have h3:=h (u * (u * m))
 have h4:=h (u * (u * (u * m)))
 refine ⟨by omega,by omega,by omega,by omega,by omega⟩
theorem EBd.le {m u : Nat} {X Y : Int} (hu : 1<=u) (hm : 1<=m) (h : EBd n C Ct m u X Y x) : leB (fm u m) n C Ct x:=by
 obtain ⟨-,-,-,h4,h5⟩:=four_a hu hm
 rcases h with h | ⟨-,h⟩ | ⟨-,-,a,-,h,h2,-⟩
 ·exact h.mono h5
 ·exact h.mono h4
 ·exact h.mono h2
theorem leB_swap {m i j : Nat} (h : leB m n C Ct x) (hi : i < n) (hj : j < n) : leB m n C Ct (x.swap i j):=by
 have:=leB_b (o:=.swap i j) h ⟨hi,hj⟩
 rwa [show Op.g (.swap i j) = 1 from rfl,Nat.mul_one] at this
theorem leB_neg {m i : Nat} (h : leB m n C Ct x) (hi : i < n) : leB m n C Ct (x.neg i):=by
 have:=leB_b (o:=.neg i) h hi
 rwa [show Op.g (.neg i) = 1 from rfl,Nat.mul_one] at this
theorem swap_at (x : Bst) (i j t : Nat) : (x.swap i j).s i t = x.s j t/\(x.swap i j).s j t = x.s i t/\∀a,a ≠ i->a ≠ j->(x.swap i j).s a t = x.s a t:=by
 refine ⟨?_,?_,fun a h1 h2=>?_⟩
 ·show x.s (swp i j i) t = _
  unfold swp; rw [if_pos rfl]
 ·show x.s (swp i j j) t = _
  unfold swp; split
  ·rename_i e; rw [e]
  ·rw [if_pos rfl]
 ·show x.s (swp i j a) t = _
  unfold swp; rw [if_neg h1,if_neg h2]
theorem KI.swap0 {b0 i m : Nat} (h : KI n C Ct b0 x0 c r κ i x) (hri : r < i) (hi : i < n) (hX : x.s r c = 0) (hY : x.s i c ≠ 0) (he : EBd n C Ct m b0 (x.s r c) (x.s i c) x) :
  KI n C Ct b0 x0 c r κ i (x.swap r i)/\EBd n C Ct m b0 ((x.swap r i).s r c) ((x.swap r i).s i c) (x.swap r i)/\(x.swap r i).s i c = 0:=by
 obtain ⟨s1,s2,s3⟩:=swap_at x r i c
 have hr : r < n:=by omega
 rw [s1,s2]
 refine ⟨⟨h.core.swap hr hi (Nat.le_refl _) oM,fun a h1 h2=>?_,fun e=>?_,fun a ha=>?_⟩,?_,hX⟩
 ·rw [s3 a oM oM]; exact h.col a h1 h2
 ·rw [s1] at e; exact absurd e hY
 ·by_cases e1 : a = r
  ·rw [e1,s1]; exact h.cb i hi
  ·by_cases e2 : a = i
   ·rw [e2,s2]; exact h.cb r hr
   ·rw [s3 a e1 e2]; exact h.cb a ha
 ·rw [hX]
  rcases he with h | ⟨h1,h4⟩ | ⟨h1,h2,a,h3,h4,h5,h6⟩
  ·exact .inl (leB_swap h hr hi)
  ·exact .inr (.inl ⟨by omega,leB_swap h4 hr hi⟩)
  ·exact .inr (.inr ⟨h2,by omega,a,h3,leB_swap h4 hr hi,h5,by simp⟩)
theorem pot_le {X Y q r : Nat} (h : X = q * Y + r) : (1 + q) * (2 * Y * r)<=2 * X * Y ∨ Y < r:=by
 rcases Nat.lt_or_ge Y r with h1 | h1
 ·exact .inr h1
 ·refine .inl ?_
  have h2 : q * r<=q * Y:=Nat.mul_le_mul_left _ h1
  have h3 : (1 + q) * r<=X:=by rw [Nat.add_mul,Nat.one_mul]; omega
  have h4 : (1 + q) * (2 * Y * r) = 2 * Y * ((1 + q) * r):=by rw [Nat.mul_left_comm]
  have h5 : 2 * X * Y = 2 * Y * X:=by rw [Nat.mul_assoc,Nat.mul_assoc,Nat.mul_comm X]
  rw [h4,h5]
  exact Nat.mul_le_mul_left _ h3
theorem KI.step {b0 i m : Nat} (h : KI n C Ct b0 x0 c r κ i x) (hri : r < i) (hi : i < n) (hc : c < C) (hu : 1<=b0) (hm : 1<=m) (hX : x.s r c ≠ 0) (hY : x.s i c ≠ 0) (he : EBd n C Ct m b0 (x.s r c) (x.s i c) x) (hB : fm b0 m < B) :
  okAdd B n C Ct x r i (-(x.s r c / x.s i c))/\KI n C Ct b0 x0 c r κ i ((x.add r i (-(x.s r c / x.s i c))).swap r i)/\EBd n C Ct m b0 (((x.add r i (-(x.s r c / x.s i c))).swap r i).s r c) (((x.add r i (-(x.s r c / x.s i c))).swap r i).s i c) ((x.add r i (-(x.s r c / x.s i c))).swap r i) ∧
   (((x.add r i (-(x.s r c / x.s i c))).swap r i).s i c).natAbs < (x.s i c).natAbs:=by
 have hr : r < n:=by omega
 obtain ⟨f1,f2,f3,f4,f5⟩:=four_a hu hm
 have hdm:=Int.mul_ediv_add_emod (x.s r c) (x.s i c)
 have hr0:=Int.emod_nonneg (x.s r c) hY
 have hrl:=Int.emod_lt (x.s r c) hY
 have hqX:=div_abs (x.s r c) (x.s i c)
 have bX:=h.cb r hr
 have bY:=h.cb i hi
 obtain ⟨q,hq⟩ : ∃q,x.s r c / x.s i c = q:=⟨_,rfl⟩
 obtain ⟨p,hp⟩ : ∃p,x.s r c % x.s i c = p:=⟨_,rfl⟩
 rw [hq] at hqX hdm ⊢
 rw [hp] at hdm hr0 hrl
 have hsr : (x.add r i (-q)).s r c = p:=by
  show addF x.s r i (-q) r c = _
  unfold addF; rw [if_pos rfl,Int.neg_mul,Int.mul_comm q]; omega
 have hsi : ∀a,a ≠ r->(x.add r i (-q)).s a c = x.s a c:=fun a ha=>by
  show addF x.s r i (-q) a c = _
  unfold addF; rw [if_neg ha]
 obtain ⟨s1,s2,s3⟩:=swap_at (x.add r i (-q)) r i c
 rw [hsi i oM] at s1
 rw [hsr] at s2
 have hoa : (Op.add r i (-q)).ok n:=⟨hr,hi,by omega⟩
 have hg : ∀{a : Nat},leB a n C Ct x->leB (a * (1 + q.natAbs)) n C Ct ((x.add r i (-q)).swap r i):=fun h=>by
  have:=leB_b h hoa
  rw [show (Op.add r i (-q)).g = 1 + q.natAbs by simp [Op.g]] at this
  exact leB_swap this hr hi
 have hk : ∀{a : Nat},1<=a->leB a n C Ct x->a * (1 + q.natAbs)<=fm b0 m->okAdd B n C Ct x r i (-q):=fun h1 h2 h3=>okAdd_of h2 hr hi oM h1 (by rw [Int.natAbs_neg]; omega)
 have hlast : p.natAbs < (x.s i c).natAbs:=by omega
 have hKI : KI n C Ct b0 x0 c r κ i ((x.add r i (-q)).swap r i):=⟨(h.core.add _ hr hi oM (Nat.le_refl _) oM).swap hr hi (Nat.le_refl _) oM,fun a h1 h2=>by
   rw [s3 a oM oM,hsi a oM]; exact h.col a h1 h2,fun e=>by rw [s1] at e; exact absurd e hY,fun a ha=>by
   by_cases e1 : a = r
   ·rw [e1,s1]; exact bY
   ·by_cases e2 : a = i
    ·rw [e2,s2]; omega
    ·rw [s3 a e1 e2,hsi a e1]; exact h.cb a ha⟩
 rw [s1,s2]
 rcases he with he | ⟨e1,e4⟩ | ⟨e1,e2,a,e3,e4,e5,e6⟩
 ·have hb : m * (1 + q.natAbs)<=2 * b0 * m:=Nat.le_trans (Nat.mul_le_mul_left _ oM) f3
  exact ⟨hk hm he oM,hKI,.inr (.inl ⟨hr0,(hg he).mono hb⟩),hlast⟩
 ·have hb : 2 * b0 * m * (1 + q.natAbs)<=2 * b0 * m * (1 + b0):=Nat.mul_le_mul_left _ oM
  have h1 : 1<=2 * b0 * m:=Nat.mul_pos (Nat.mul_pos dE hu) hm
  have hy : (x.s i c).natAbs * p.natAbs<=b0 * b0:=Nat.mul_le_mul bY oM
  refine ⟨hk h1 e4 oM,hKI,.inr (.inr ⟨e1,hr0,_,Nat.mul_pos h1 oM,hg e4,by omega,?_⟩),hlast⟩
  refine Nat.le_trans (Nat.mul_le_mul hb ?_) f2
  rw [Nat.mul_assoc,Nat.mul_assoc]
  exact Nat.mul_le_mul_left _ hy
 ·have hY0 : 0 < x.s i c:=by omega
  have hq0 : 0<=q:=by rw [<-hq]; exact Int.ediv_nonneg e1 e2
  have hXe : (x.s r c).natAbs = q.natAbs * (x.s i c).natAbs + p.natAbs:=by
   have h5 : ((q.natAbs * (x.s i c).natAbs + p.natAbs : Nat) : Int) = x.s r c:=by
    rw [Int.natCast_add,Int.natCast_mul,Int.natAbs_of_nonneg hq0,Int.natAbs_of_nonneg e2,Int.natAbs_of_nonneg hr0,Int.mul_comm]; exact hdm
   omega
  have hp1 : 1 + q.natAbs<=2 * (x.s r c).natAbs * (x.s i c).natAbs:=by
   have g1 : 2 * (x.s r c).natAbs * 1<=2 * (x.s r c).natAbs * (x.s i c).natAbs:=Nat.mul_le_mul_left _ oM
   omega
  have hp2 : (1 + q.natAbs) * (2 * (x.s i c).natAbs * p.natAbs)<=2 * (x.s r c).natAbs * (x.s i c).natAbs:=by
   rcases pot_le hXe with g | g
   ·exact g
   ·omega
  have b1 : a * (1 + q.natAbs)<=fm b0 m:=Nat.le_trans (Nat.mul_le_mul_left _ hp1) e6
  refine ⟨hk e3 e4 b1,hKI,.inr (.inr ⟨e2,hr0,_,Nat.mul_pos e3 oM,hg e4,b1,?_⟩),hlast⟩
  rw [Nat.mul_assoc]
  exact Nat.le_trans (Nat.mul_le_mul_left _ hp2) e6
def eE (n : Nat) : Nat->Nat
 | 0=>1
 | r + 1=>eE n r * (1 + 4 * (n - (r + 1)) + r)
theorem eE_pos (n : Nat) : ∀r,1<=eE n r
 | 0=>Nat.le_refl _
 | r + 1=>Nat.mul_pos (eE_pos n r) oM
theorem eE_mono (n : Nat) {a b : Nat} (h : a<=b) : eE n a<=eE n b:=by
 obtain ⟨d,rfl⟩:=Nat.exists_eq_add_of_le h
 clear h
 induction d with
 | zero=>exact Nat.le_refl _
 | succ d ih=>
  refine Nat.le_trans ih ?_
  show _<=eE n (a + d) * _
  exact Nat.le_mul_of_pos_right _ oM
def eI (n r i : Nat) : Nat:=eE n r + 4 * ((i - (r + 1)) * eE n r)
theorem eI_pos (n r i : Nat) : 1<=eI n r i:=Nat.le_trans (eE_pos n r) (Nat.le_add_right _ _)
theorem eI_start (n r : Nat) : eI n r (r + 1) = eE n r:=by unfold eI; rw [Nat.sub_self,Nat.zero_mul,Nat.mul_zero,Nat.add_zero]
theorem eI_succ {n r i : Nat} (h : r < i) : eI n r (i + 1) = eI n r i + 4 * eE n r:=by
 unfold eI
 rw [show i + 1 - (r + 1) = (i - (r + 1)) + 1 by omega,Nat.add_mul,Nat.one_mul,Nat.mul_add,Nat.add_assoc]
theorem eI_last (n r j : Nat) (hr : r < n) (hj : j<=r) : eI n r n + j * eE n r<=eE n (r + 1):=by
 show _<=eE n r * (1 + 4 * (n - (r + 1)) + r)
 unfold eI
 rw [Nat.mul_add,Nat.mul_add,Nat.mul_one,Nat.mul_comm (eE n r) r,Nat.mul_left_comm (eE n r) 4,Nat.mul_comm (eE n r) (n - (r + 1))]
 exact Nat.add_le_add_left (Nat.mul_le_mul_right _ hj) _
theorem eI_le {n r i : Nat} (hr : r < n) (hi : i<=n) : eI n r i<=eE n (r + 1):=by
 refine Nat.le_trans ?_ (eI_last n r 0 hr oM)
 rw [Nat.zero_mul,Nat.add_zero]
 exact Nat.add_le_add_left (Nat.mul_le_mul_left _ (Nat.mul_le_mul_right _ oM)) _
def KO (n C Ct M0 : Nat) (x0 : Bst) (c r : Nat) (κ : Nat->Nat) (x : Bst) : Prop:=KCore n C x0 c r κ x/\leB (gx (eE n r) M0) n C Ct x
def KR (n C Ct M0 : Nat) (x0 : Bst) (c r : Nat) (κ : Nat->Nat) (i : Nat) (x : Bst) : Prop:=KI n C Ct (gx (eE n r) M0) x0 c r κ i x/\leB (gx (eI n r i) M0) n C Ct x
def KEu (n C Ct M0 : Nat) (x0 : Bst) (c r : Nat) (κ : Nat->Nat) (i : Nat) (x : Bst) : Prop:=KI n C Ct (gx (eE n r) M0) x0 c r κ i x/\EBd n C Ct (gx (eI n r i) M0) (gx (eE n r) M0) (x.s r c) (x.s i c) x
theorem KO.start (M1 : leB M0 n C Ct x0) : KO n C Ct M0 x0 0 0 κ x0:=
 ⟨⟨⟨[],okOps.nil,rfl⟩,Nat.zero_le _,⟨fun k hk=>by omega,fun k hk=>by omega,fun k hk=>by omega,fun k l _ hl=>by omega⟩,fun k hk=>by omega,fun i j _ hj=>by omega,fun a _ _ t ht=>by omega⟩,by
  show leB (gx 1 M0) n C Ct x0
  rw [gx_one]; exact M1⟩
theorem KO.enter (h : KO n C Ct M0 x0 c r κ x) (hc : c < C) : KR n C Ct M0 x0 c r κ (r + 1) x:=⟨⟨h.1,fun a h1 h2=>by omega,fun _=>h.2,fun a ha=>h.2.1 a ha c hc⟩,by rw [eI_start]; exact h.2⟩
theorem KR.enter {i : Nat} (h : KR n C Ct M0 x0 c r κ i x) : KEu n C Ct M0 x0 c r κ i x:=⟨h.1,.inl h.2⟩
theorem KEu.all {i : Nat} (hM0 : 1<=M0) (h : KEu n C Ct M0 x0 c r κ i x) (hri : r < i) : leB (gx (eI n r (i + 1)) M0) n C Ct x:=by
 rw [eI_succ hri,gx_fm (eE_pos _ _) (eI_pos _ _ _)]
 exact h.2.le (Nat.le_trans hM0 (gx_ge hM0 (eE_pos _ _))) (Nat.le_trans hM0 (gx_ge hM0 (eI_pos _ _ _)))
theorem KEu.exit {i : Nat} (hM0 : 1<=M0) (h : KEu n C Ct M0 x0 c r κ i x) (hri : r < i) (hY : x.s i c = 0) : KR n C Ct M0 x0 c r κ (i + 1) x:=
 ⟨⟨h.1.core,fun a h1 h2=>by
  by_cases e : a = i
  ·rw [e]; exact hY
  ·exact h.1.col a h1 oM,h.1.same,h.1.cb⟩,h.all hM0 hri⟩
theorem KR.none (h : KR n C Ct M0 x0 c r κ n x) (hX : x.s r c = 0) : KO n C Ct M0 x0 (c + 1) r κ x:=by
 obtain ⟨h1,h2⟩:=h
 refine ⟨⟨h1.core.ops,h1.core.rn,h1.core.ech,fun k hk=>Nat.lt_succ_of_lt (h1.core.lt k hk),h1.core.red,fun a g1 g2 t g3 g4=>?_⟩,h1.same hX⟩
 by_cases e : t = c
 ·subst e
  by_cases e2 : a = r
  ·rw [e2]; exact hX
  ·exact h1.col a oM g2
 ·exact h1.core.zero a g1 g2 t oM g4
structure KD (n C Ct M0 : Nat) (x0 : Bst) (c r : Nat) (κ : Nat->Nat) (i : Nat) (x : Bst) : Prop where
 core : KCore n C x0 c r κ x
 pos : 0 < x.s r c
 col : ∀a,r < a->a < n->x.s a c = 0
 red : ∀a,a < i->0<=x.s a c/\x.s a c < x.s r c
 bd : leB (gx (eI n r n + i * eE n r) M0) n C Ct x
 cb : ∀a,i<=a->a < r->(x.s a c).natAbs<=gx (eE n r) M0
theorem KR.pos (h : KR n C Ct M0 x0 c r κ n x) (hX : 0 < x.s r c) : KD n C Ct M0 x0 c r κ 0 x:=
 ⟨h.1.core,hX,fun a h1 h2=>h.1.col a h1 h2,fun a ha=>by omega,by rw [Nat.zero_mul,Nat.add_zero]; exact h.2,fun a _ ha=>h.1.cb a (by have:=h.1.core.rn; omega)⟩
theorem KR.neg (h : KR n C Ct M0 x0 c r κ n x) (hr : r < n) (hX : x.s r c < 0) : KD n C Ct M0 x0 c r κ 0 (x.neg r):=by
 have hs : ∀a t,(x.neg r).s a t = if a = r then -(x.s a t) else x.s a t:=fun a t=>rfl
 refine ⟨h.1.core.neg hr (Nat.le_refl _),?_,fun a h1 h2=>?_,fun a ha=>by omega,?_,fun a _ ha=>?_⟩
 ·rw [hs,if_pos rfl]; omega
 ·rw [hs,if_neg oM]; exact h.1.col a h1 h2
 ·rw [Nat.zero_mul,Nat.add_zero]; exact leB_neg h.2 hr
 ·rw [hs,if_neg oM]; exact h.1.cb a oM
theorem KD.step {i : Nat} (hM0 : 1<=M0) (h : KD n C Ct M0 x0 c r κ i x) (hi : i < r) (hr : r < n) (hc : c < C) (hB : gx (eE n (r + 1)) M0 < B) :
  okAdd B n C Ct x i r (-(x.s i c / x.s r c))/\KD n C Ct M0 x0 c r κ (i + 1) (x.add i r (-(x.s i c / x.s r c))):=by
 obtain ⟨h1,h2,h3,h4,h5,h6⟩:=h
 have hdm:=Int.mul_ediv_add_emod (x.s i c) (x.s r c)
 have hr0:=Int.emod_nonneg (x.s i c) (b:=x.s r c) oM
 have hrl:=Int.emod_lt_of_pos (x.s i c) h2
 have hq:=div_abs (x.s i c) (x.s r c)
 have hui:=h6 i (Nat.le_refl _) hi
 obtain ⟨q,hq'⟩ : ∃q,x.s i c / x.s r c = q:=⟨_,rfl⟩
 rw [hq'] at hdm hq ⊢
 have hep : 1<=eI n r n + i * eE n r:=Nat.le_trans (eI_pos _ _ _) (Nat.le_add_right _ _)
 have hm1 : 1<=gx (eI n r n + i * eE n r) M0:=Nat.le_trans hM0 (gx_ge hM0 hep)
 have hu1 : 1<=gx (eE n r) M0:=Nat.le_trans hM0 (gx_ge hM0 (eE_pos _ _))
 have hgg : 2 * gx (eI n r n + i * eE n r) M0 * gx (eE n r) M0 = gx (eI n r n + (i + 1) * eE n r) M0:=by
  rw [<-gx_add hep (eE_pos _ _),Nat.add_mul,Nat.one_mul,Nat.add_assoc]
 have hst : gx (eI n r n + i * eE n r) M0 * (1 + q.natAbs)<=gx (eI n r n + (i + 1) * eE n r) M0:=by
  rw [<-hgg,Nat.mul_comm 2,Nat.mul_assoc]
  exact Nat.mul_le_mul_left _ oM
 have hle : gx (eI n r n + (i + 1) * eE n r) M0<=gx (eE n (r + 1)) M0:=gx_mono hM0 (eI_last n r (i + 1) hr oM)
 have hs : ∀a t,(x.add i r (-q)).s a t = if a = i then x.s i t + -q * x.s r t else x.s a t:=fun a t=>rfl
 have hb:=leB_b (o:=.add i r (-q)) h5 ⟨by omega,hr,by omega⟩
 rw [show (Op.add i r (-q)).g = 1 + q.natAbs by simp [Op.g]] at hb
 refine ⟨okAdd_of h5 oM hr oM hm1 (by rw [Int.natAbs_neg]; omega),⟨h1.redAdd _ hi hr hc,?_,fun a g1 g2=>?_,fun a ha=>?_,hb.mono hst,fun a g1 g2=>?_⟩⟩
 ·rw [hs,if_neg oM]; exact h2
 ·rw [hs,if_neg oM]; exact h3 a g1 g2
 ·rw [hs,hs,if_neg (show ¬ r = i by omega)]
  split
  ·rename_i e
   rw [Int.neg_mul,Int.mul_comm q]
   constructor <;> omega
  ·exact h4 a oM
 ·rw [hs,if_neg oM]; exact h6 a oM g2
theorem KD.exit (hM0 : 1<=M0) (h : KD n C Ct M0 x0 c r κ r x) (hr : r < n) (hc : c < C) : KO n C Ct M0 x0 (c + 1) (r + 1) (fun k=>if k = r then c else κ k) x:=by
 obtain ⟨h1,h2,h3,h4,h5,-⟩:=h
 have e1 : ∀k,k < r->(if k = r then c else κ k) = κ k:=fun k hk=>if_neg oM
 refine ⟨⟨h1.ops,hr,⟨fun k hk=>?_,fun k hk=>?_,fun k hk t ht=>?_,fun k l h hl=>?_⟩,fun k hk=>?_,fun i j g1 g2 _=>?_,fun a g1 g2 t g3 g4=>?_⟩,h5.mono (gx_mono hM0 (eI_last n r r hr (Nat.le_refl _)))⟩
 ·by_cases e : k = r
  ·rw [if_pos e]; exact hc
  ·rw [e1 k oM]; exact h1.ech.lt k oM
 ·by_cases e : k = r
  ·rw [if_pos e,e]; exact h2
  ·rw [e1 k oM]; exact h1.ech.pos k oM
 ·skip
  by_cases e : k = r
  ·rw [if_pos e] at ht; rw [e]; exact h1.zero r (Nat.le_refl _) hr t ht oM
  ·rw [e1 k oM] at ht; exact h1.ech.zero k oM t ht
 ·rw [e1 k oM]
  by_cases e : l = r
  ·rw [if_pos e]; exact h1.lt k oM
  ·rw [e1 l oM]; exact h1.ech.inc k l h oM
 ·by_cases e : k = r
  ·rw [if_pos e]; omega
  ·rw [e1 k oM]; have:=h1.lt k oM; omega
 ·by_cases e : j = r
  ·rw [if_pos e,e]; exact h4 i oM
  ·rw [e1 j oM]; exact h1.red i j g1 oM trivial
 ·by_cases e : t = c
  ·rw [e]; exact h3 a oM g2
  ·exact h1.zero a oM g2 t oM g4
theorem KO.form {R C : Nat} {A : Nat->Nat->Int} (h : KO R C R M0 ⟨A,idf,idf⟩ c r κ x) (he : c = C ∨ r = R) : HForm R C r κ A x.s x.t (fun a b=>x.i b a):=by
 obtain ⟨h1,h2⟩:=h
 obtain ⟨l,hl,hx⟩:=h1.ops
 rw [opsB_eq] at hx
 have hs : x.s = opsF l A:=by rw [hx]
 have ht : x.t = opsF l idf:=by rw [hx]
 have hi : x.i = opsD l idf:=by rw [hx]
 refine ⟨⟨h1.rn,h1.ech,h1.red,fun a g1 g2 t g3=>?_⟩,fun a ha b hb=>?_,fun a ha b hb=>?_,fun a ha b hb=>?_⟩
 ·rcases he with e | e
  ·exact h1.zero a g1 g2 t oM g3
  ·omega
 ·rw [hs,ht]; exact ops_mat hl A a ha b
 ·rw [ht,hi]; exact ops_dot hl (P:=idf) (Q:=idf) (C:=R) (fun a ha b hb=>dot_idf R a ha b hb) a ha b hb
 ·rw [hs,hi]; exact ops_back hl A a ha b
end

theorem Blk.nine {w : World} {g : Nat} {t : TypeId} {c0 c1 c2 c3 c4 c5 c6 c7 c8 : Value} (h : Blk w g t #[c0,c1,c2,c3,c4,c5,c6,c7,c8]) :
  w.cell? ⟨g,0,none⟩ = some c0/\w.cell? ⟨g,1,none⟩ = some c1/\w.cell? ⟨g,2,none⟩ = some c2/\w.cell? ⟨g,3,none⟩ = some c3/\w.cell? ⟨g,4,none⟩ = some c4/\w.cell? ⟨g,5,none⟩ = some c5/\w.cell? ⟨g,6,none⟩ = some c6/\w.cell? ⟨g,7,none⟩ = some c7/\w.cell? ⟨g,8,none⟩ = some c8:=
 ⟨h.cell 0,h.cell 1,h.cell 2,h.cell 3,h.cell 4,h.cell 5,h.cell 6,h.cell 7,h.cell 8⟩
structure HermW (w : World) (f : Value) (hr hc : Int) (H : List (List Int)) (ur uc : Int) (U : List (List Int)) (vr vc : Int) (V : List (List Int)) : Prop where
 ex : ∃h u v,f = .agg #[.int .i64 hr,.int .i64 hc,h,.int .i64 ur,.int .i64 uc,u,.int .i64 vr,.int .i64 vc,v]/\RowsV w h H/\RowsV w u U/\RowsV w v V
theorem HermW.below {w w' : World} {f : Value} {hr hc ur uc vr vc : Int} {H U V : List (List Int)} (h : HermW w f hr hc H ur uc U vr vc V) (hb : Below w.heap.size w w') : HermW w' f hr hc H ur uc U vr vc V:=by
 obtain ⟨a,b,c,h1,h2,h3,h4⟩:=h.ex
 exact ⟨a,b,c,h1,h2.below hb,h3.below hb,h4.below hb⟩
structure ChkP (R C : Nat) (A : List (List Int)) (hr hc : Int) (H : List (List Int)) (ur uc : Int) (U : List (List Int)) (vr vc : Int) (V : List (List Int)) : Prop where
 is : IsHP hr hc H
 er : hr = R
 ec : hc = C
 u : ur = R/\uc = R/\ValidM ur uc U
 v : vr = R/\vc = R/\ValidM vr vc V
 mul : genM R C (mulf U A R) = H
 inv : genM R R (mulf U V R) = genM R R idf
abbrev tWk : TypeId:=192
def upR (F G : Nat->Nat->Int) (i c : Nat) : Nat->Nat->Int:=fun a b=>if a = i/\b < c then G a b else F a b
def upC (F G : Nat->Nat->Int) (j r : Nat) : Nat->Nat->Int:=fun a b=>if b = j/\a < r then G a b else F a b
def putF (F : Nat->Nat->Int) (i c : Nat) (z : Int) : Nat->Nat->Int:=fun a b=>if a = i/\b = c then z else F a b
theorem upR_zero (F G : Nat->Nat->Int) (i : Nat) : upR F G i 0 = F:=by funext a b; unfold upR; rw [if_neg oM]
theorem upC_zero (F G : Nat->Nat->Int) (j : Nat) : upC F G j 0 = F:=by funext a b; unfold upC; rw [if_neg oM]
theorem upR_put {F G : Nat->Nat->Int} {i c : Nat} {z : Int} (hz : z = G i c) : putF (upR F G i c) i c z = upR F G i (c + 1):=by
 subst hz
 funext a b
 unfold putF upR
 by_cases h1 : a = i/\b = c
 ·obtain ⟨rfl,rfl⟩:=h1
  rw [if_pos ⟨rfl,rfl⟩,if_pos ⟨rfl,by omega⟩]
 ·rw [if_neg h1]
  by_cases h2 : a = i/\b < c
  ·rw [if_pos h2,if_pos ⟨h2.1,by omega⟩]
  ·rw [if_neg h2,if_neg (fun h=>h2 ⟨h.1,by omega⟩)]
theorem upC_put {F G : Nat->Nat->Int} {j r : Nat} {z : Int} (hz : z = G r j) : putF (upC F G j r) r j z = upC F G j (r + 1):=by
 subst hz
 funext a b
 unfold putF upC
 by_cases h1 : a = r/\b = j
 ·obtain ⟨rfl,rfl⟩:=h1
  rw [if_pos ⟨rfl,rfl⟩,if_pos ⟨rfl,by omega⟩]
 ·rw [if_neg h1]
  by_cases h2 : b = j/\a < r
  ·rw [if_pos h2,if_pos ⟨h2.1,by omega⟩]
  ·rw [if_neg h2,if_neg (fun h=>h2 ⟨h.1,by omega⟩)]
theorem upR_at (F G : Nat->Nat->Int) (i c : Nat) : upR F G i c i c = F i c:=by unfold upR; rw [if_neg oM]
theorem upR_ne {F G : Nat->Nat->Int} {i j : Nat} (c b : Nat) (h : i ≠ j) : upR F G i c j b = F j b:=by unfold upR; rw [if_neg (fun e=>h e.1.symm)]
theorem upC_at (F G : Nat->Nat->Int) (j r : Nat) : upC F G j r r j = F r j:=by unfold upC; rw [if_neg oM]
theorem upC_ne {F G : Nat->Nat->Int} {i j : Nat} (r b : Nat) (h : j ≠ i) : upC F G j r b i = F b i:=by unfold upC; rw [if_neg (fun e=>h e.1.symm)]
theorem oz2 {w : World} {b i j : Nat} {u v : Value} (hx : LExt w ((w.setCell ⟨b,i,none⟩ u).setCell ⟨b,j,none⟩ v)) : OnlyZ (fun k=>k = b) w ((w.setCell ⟨b,i,none⟩ u).setCell ⟨b,j,none⟩ v):=
 ⟨bset (bset (Below.refl _ _) (Nat.zero_le _) _ _) (Nat.zero_le _) _ _,hx,fun k _ hk=>set2_old _ _ _ _ _ _ _ hk⟩
section
variable {w : World} {A : Value} {g n cap R C : Nat} {bs : List Nat} {F : Nat->Nat->Int}
theorem Wri.congr {G : Nat->Nat->Int} (h : Wri w A R C bs F) (e : ∀a,a < R->∀b,b < C->F a b = G a b) : Wri w A R C bs G:=by
 unfold Wri at h ⊢
 rwa [<-genM_congr e]
theorem Wri.base (h : Wri w A R C bs F) (hR : 0 < R) : ∃g cap,A = .slice (some ⟨g,0,none⟩) R cap:=by
 obtain ⟨ao,n,cap,rfl,-⟩:=id (RowsO.rows h)
 obtain ⟨g,b,rfl,-,-,-,-,e⟩:=RowsO.at_ h (i:=0) (by rw [h.len]; exact hR)
 rw [h.len] at e
 subst e
 exact ⟨g,cap,rfl⟩
theorem Wri.rowc (h : Wri w (.slice (some ⟨g,0,none⟩) n cap) R C bs F) {i b : Nat} (hi : i < R) (hb : bs[i]? = some b) : w.cell? ⟨g,i,none⟩ = some (.slice (some ⟨b,0,none⟩) C C):=by
 obtain ⟨g',b',e,-,hb',-,o,-⟩:=RowsO.at_ h (i:=i) (by rw [h.len]; exact hi)
 obtain rfl : g = g':=by injection e with e; injection e
 rw [hb] at hb'
 injection hb' with hb'
 subst hb'
 exact o
theorem Wri.bex (h : Wri w A R C bs F) {i : Nat} (hi : i < R) : ∃b,bs[i]? = some b:=⟨_,List.getElem?_eq_getElem (by rw [h.len]; exact hi)⟩
theorem Wri.elem (h : Wri w A R C bs F) {i b c : Nat} (hi : i < R) (hb : bs[i]? = some b) (hc : c < C) :
  ∃s a l k,w.cell? ⟨b,c * 2,none⟩ = some (.bool s)/\w.cell? ⟨b,c * 2 + 1,none⟩ = some (.slice a l k)/\w.frozen? ⟨b,c * 2,none⟩ = false/\w.frozen? ⟨b,c * 2 + 1,none⟩ = false/\IntV w (.agg #[.bool s,.slice a l k]) (F i c):=by
 have:=RowsO.cellAt h hb hc
 rwa [ent_genM hi hc] at this
theorem Wri.putc (h : Wri w A R C bs F) {i b c : Nat} (hi : i < R) (hb : bs[i]? = some b) (hc : c < C) {s : Bool} {a : Option Addr} {l k : Nat} {z : Int} (hv : IntV w (.agg #[.bool s,.slice a l k]) z) :
  Wri ((w.setCell ⟨b,c * 2,none⟩ (.bool s)).setCell ⟨b,c * 2 + 1,none⟩ (.slice a l k)) A R C bs (putF F i c z)/\OnlyZ (fun k=>k = b) w ((w.setCell ⟨b,c * 2,none⟩ (.bool s)).setCell ⟨b,c * 2 + 1,none⟩ (.slice a l k)):=by
 obtain ⟨h1,h2,-⟩:=RowsO.set h hb hc hv
 rw [setM_genM z hi hc] at h1
 exact ⟨h1,oz2 h2⟩
theorem Wri.keep1 (h : Wri w A R C bs F) {w' : World} {b : Nat} (ho : OnlyZ (fun k=>k = b) w w') (hb : ¬ Zn A bs b) : Wri w' A R C bs F:=h.keepZ ho fun k hk e=>hb (by rw [<-e]; exact hk)
end
structure K9 (w : World) (bw : Nat) (AM AU AV : Value) (R C : Nat) (bm bu bv : List Nat) (S T V : Nat->Nat->Int) : Prop where
 blk : Blk w bw tWk #[.int .i64 R,.int .i64 C,AM,.int .i64 R,.int .i64 R,AU,.int .i64 R,.int .i64 R,AV]
 m : Wri w AM R C bm S
 u : Wri w AU R R bu T
 v : Wri w AV R R bv V
 mu : Ap AM bm AU bu
 mv : Ap AM bm AV bv
 uv : Ap AU bu AV bv
section
variable {w w' : World} {bw : Nat} {AM AU AV : Value} {R C : Nat} {bm bu bv : List Nat} {S T V : Nat->Nat->Int}
theorem K9.below (h : K9 w bw AM AU AV R C bm bu bv S T V) (hb : Below w.heap.size w w') : K9 w' bw AM AU AV R C bm bu bv S T V:=⟨h.blk.below hb,h.m.below hb,h.u.below hb,h.v.below hb,h.mu,h.mv,h.uv⟩
theorem K9.nm (h : K9 w bw AM AU AV R C bm bu bv S T V) : ¬ Zn AM bm bw:=h.m.nzb h.blk dE dE
theorem K9.nu (h : K9 w bw AM AU AV R C bm bu bv S T V) : ¬ Zn AU bu bw:=h.u.nzb h.blk dE dE
theorem K9.nv (h : K9 w bw AM AU AV R C bm bu bv S T V) : ¬ Zn AV bv bw:=h.v.nzb h.blk dE dE
theorem K9.putM (h : K9 w bw AM AU AV R C bm bu bv S T V) {i b c : Nat} (hi : i < R) (hb : bm[i]? = some b) (hc : c < C) {s : Bool} {a : Option Addr} {l k : Nat} {z : Int} (hv : IntV w (.agg #[.bool s,.slice a l k]) z) :
  K9 ((w.setCell ⟨b,c * 2,none⟩ (.bool s)).setCell ⟨b,c * 2 + 1,none⟩ (.slice a l k)) bw AM AU AV R C bm bu bv (putF S i c z) T V/\OnlyZ (fun k=>k = b) w ((w.setCell ⟨b,c * 2,none⟩ (.bool s)).setCell ⟨b,c * 2 + 1,none⟩ (.slice a l k)):=by
 obtain ⟨h1,h2⟩:=h.m.putc hi hb hc hv
 have hz : Zn AM bm b:=.inl (List.mem_of_getElem? hb)
 exact ⟨⟨h2.blk h.blk (fun e=>h.nm (by rw [e]; exact hz)),h1,h.u.keep1 h2 (h.mu b hz),h.v.keep1 h2 (h.mv b hz),h.mu,h.mv,h.uv⟩,h2⟩
theorem K9.putU (h : K9 w bw AM AU AV R C bm bu bv S T V) {i b c : Nat} (hi : i < R) (hb : bu[i]? = some b) (hc : c < R) {s : Bool} {a : Option Addr} {l k : Nat} {z : Int} (hv : IntV w (.agg #[.bool s,.slice a l k]) z) :
  K9 ((w.setCell ⟨b,c * 2,none⟩ (.bool s)).setCell ⟨b,c * 2 + 1,none⟩ (.slice a l k)) bw AM AU AV R C bm bu bv S (putF T i c z) V/\OnlyZ (fun k=>k = b) w ((w.setCell ⟨b,c * 2,none⟩ (.bool s)).setCell ⟨b,c * 2 + 1,none⟩ (.slice a l k)):=by
 obtain ⟨h1,h2⟩:=h.u.putc hi hb hc hv
 have hz : Zn AU bu b:=.inl (List.mem_of_getElem? hb)
 exact ⟨⟨h2.blk h.blk (fun e=>h.nu (by rw [e]; exact hz)),h.m.keep1 h2 (fun hh=>h.mu b hh hz),h1,h.v.keep1 h2 (h.uv b hz),h.mu,h.mv,h.uv⟩,h2⟩
theorem K9.putV (h : K9 w bw AM AU AV R C bm bu bv S T V) {i b c : Nat} (hi : i < R) (hb : bv[i]? = some b) (hc : c < R) {s : Bool} {a : Option Addr} {l k : Nat} {z : Int} (hv : IntV w (.agg #[.bool s,.slice a l k]) z) :
  K9 ((w.setCell ⟨b,c * 2,none⟩ (.bool s)).setCell ⟨b,c * 2 + 1,none⟩ (.slice a l k)) bw AM AU AV R C bm bu bv S T (putF V i c z)/\OnlyZ (fun k=>k = b) w ((w.setCell ⟨b,c * 2,none⟩ (.bool s)).setCell ⟨b,c * 2 + 1,none⟩ (.slice a l k)):=by
 obtain ⟨h1,h2⟩:=h.v.putc hi hb hc hv
 have hz : Zn AV bv b:=.inl (List.mem_of_getElem? hb)
 exact ⟨⟨h2.blk h.blk (fun e=>h.nv (by rw [e]; exact hz)),h.m.keep1 h2 (fun hh=>h.mv b hh hz),h.u.keep1 h2 (fun hh=>h.uv b hh hz),h1,h.mu,h.mv,h.uv⟩,h2⟩
theorem K9.congr {S' T' V' : Nat->Nat->Int} (h : K9 w bw AM AU AV R C bm bu bv S T V) (e1 : ∀a,a < R->∀b,b < C->S a b = S' a b) (e2 : ∀a,a < R->∀b,b < R->T a b = T' a b) (e3 : ∀a,a < R->∀b,b < R->V a b = V' a b) : K9 w bw AM AU AV R C bm bu bv S' T' V':=
 ⟨h.blk,h.m.congr e1,h.u.congr e2,h.v.congr e3,h.mu,h.mv,h.uv⟩
def Z3 (AM AU AV : Value) (bm bu bv : List Nat) (b : Nat) : Prop:=Zn AM bm b ∨ Zn AU bu b ∨ Zn AV bv b
theorem K9.zlt (h : K9 w bw AM AU AV R C bm bu bv S T V) {b : Nat} (hb : Z3 AM AU AV bm bu bv b) : b < w.heap.size:=by
 rcases hb with hb | hb | hb
 ·exact h.m.zlt hb
 ·exact h.u.zlt hb
 ·exact h.v.zlt hb
theorem K9.nz (h : K9 w bw AM AU AV R C bm bu bv S T V) : ¬ Z3 AM AU AV bm bu bv bw:=by
 rintro (hb | hb | hb)
 ·exact h.nm hb
 ·exact h.nu hb
 ·exact h.nv hb
end
def KW (Z : Nat->Prop) (w : World) (bw R C : Nat) (x : Bst) : Prop:=∃AM AU AV bm bu bv,K9 w bw AM AU AV R C bm bu bv x.s x.t (fun a b=>x.i b a)/\∀b,Z3 AM AU AV bm bu bv b->Z b
theorem KW.below {Z : Nat->Prop} {w w' : World} {bw R C : Nat} {x : Bst} (h : KW Z w bw R C x) (hb : Below w.heap.size w w') : KW Z w' bw R C x:=by
 obtain ⟨a,b,c,d,e,f,h1,h2⟩:=h
 exact ⟨a,b,c,d,e,f,h1.below hb,h2⟩
def zf : Nat->Nat->Int:=fun _ _=>0
def nzL (l : List Int) : List Int:=l.filter (fun z=>decide (z ≠ 0))
theorem diagL_genM {R C n : Nat} {F : Nat->Nat->Int} (h : n<=R) (h2 : n<=C) : diagL (genM R C F) n = genV n (fun i=>F i i):=by
 unfold diagL genV
 refine List.map_congr_left fun k hk=>?_
 have hk':=List.mem_range.1 hk
 exact ent_genM oM oM


instance (B R C Cu Cw : Nat) (z : W5) : Decidable (okW B R C Cu Cw z):=by unfold okW; infer_instance
theorem DivR.same {n : Nat} {z y : W5} (h : DivR n z y) (hd : ∀i j,i < j->j < n->z.s i i ∣ z.s j j) : y = z:=by
 induction h with
 | refl=>rfl
 | step y i j s t h1 h2 h3 h4 h5 ih=>
  have e:=ih
  subst e
  exact absurd (hd i j h2 h3) h4
def lessL (B : Nat) (M : List (List Int)) : Bool:=M.all fun r=>r.all fun z=>decide (z.natAbs < B)
def MulB (B : Nat) (X Y : List (List Int)) (R m C : Nat) : Prop:=∀i,i < R->∀j,j < C->∀k,k < m->(ent X i k).natAbs < B/\(ent Y k j).natAbs < B/\(ent X i k * ent Y k j).natAbs < B/\(mulf X Y k i j).natAbs < B
instance (B : Nat) (X Y : List (List Int)) (R m C : Nat) : Decidable (MulB B X Y R m C):=by unfold MulB; infer_instance
theorem MulB.sm {B : Nat} (hB : BSm B) {X Y : List (List Int)} {R m C : Nat} (h : MulB B X Y R m C) : MulSm X Y R m C:=fun i hi j hj k hk=>
 ⟨hB.sm _ (h i hi j hj k hk).1,hB.sm _ (h i hi j hj k hk).2.1,hB.sm _ (h i hi j hj k hk).2.2.1,hB.sm _ (h i hi j hj k hk).2.2.2⟩
end Go.Proofs.YtjdemlfceaikgaaGreat
