/- The law for regions that draw, where one operation (an append) may write into blocks S that nothing else reads. -/
import Derived.Test.YtnocgagoaldfnaaGreatD20
import Derived.Test.YtnocgagoaldfnaaGreatD32
import Derived.Test.YtnocgagoaldfnaaGreatD38
set_option linter.unusedVariables false
set_option linter.unusedSimpArgs false
set_option linter.unusedSectionVars false
namespace Go.Proofs.YtnocgagoaldfnaaGreat
open Go.RowKit
structure RA (S : List Nat) (k : Nat) (W : World) (T0 : Array Value) (vs : List VS) (L : Array Bool) (T : Array Value) (w : World) : Prop where
 wf : wellRV T0.size vs = true
 lv : ∀s ∈ vs,LastsB s.P
 size : T.size = T0.size
 keep : ∀j,(∀s ∈ vs,s.slot ≠ j)->T[j]? = T0[j]?
 onl : Only S W w
 bef : L[k]? = some false->Below W.heap.size W w
 val : ∀s ∈ vs,L[s.op]? = some true->∃v,T[s.slot]? = some v/\s.P w v
section
variable {S : List Nat} {p : Nat} {W : World} {T0 : Array Value} {vs : List VS} {L : Array Bool} {T : Array Value} {w w' : World}
theorem RA.start (hwf : wellRV T0.size vs = true) (hv : ∀s ∈ vs,LastsB s.P) {n : Nat} : RA S p W T0 vs (Array.replicate n false) T0 W.drew:=
 ⟨hwf,hv,rfl,fun _ _=>rfl,Only.of S (dr _),fun _=>dr _,fun s _ h=>by
  rw [Array.getElem?_replicate] at h
  split at h <;> simp at h⟩
theorem RA.world (h : RA S p W T0 vs L T w) (hb : Below w.heap.size w w') : RA S p W T0 vs L T w':=
 ⟨h.wf,h.lv,h.size,h.keep,h.onl.trans (Only.of S hb),fun hp=>nx (h.bef hp) hb,fun s hs hl=>by
  obtain ⟨v,h1,h2⟩:=h.val s hs hl
  exact ⟨v,h1,h.lv s hs _ _ _ hb h2⟩⟩
theorem RA.value {k : Nat} {v : Value} (h : RA S p W T0 vs L T w) (s : VS) (hs : s ∈ vs) (hk : s.op = k) (hP : s.P w v) : RA S p W T0 vs (L.setIfInBounds k true) (T.setIfInBounds s.slot v) w:=by
 subst hk
 have hwf:=h.wf
 unfold wellRV at hwf
 simp only [Bool.and_eq_true,decide_eq_true_eq,List.all_eq_true] at hwf
 obtain ⟨⟨w1,w2⟩,w3⟩:=hwf
 have hslot : s.slot < T0.size:=w3 _ (List.mem_map.2 ⟨s,hs,rfl⟩)
 refine ⟨h.wf,h.lv,by simp [h.size],fun j h1=>by rw [Array.getElem?_setIfInBounds_ne (h1 s hs)]; exact h.keep j h1,h.onl,fun hp=>h.bef ?_,?_⟩
 ·by_cases he : s.op = p
  ·subst he
   rw [Array.getElem?_setIfInBounds] at hp
   split at hp
   ·split at hp <;> cases hp
   ·exact hp
  ·rwa [Array.getElem?_setIfInBounds_ne he] at hp
 intro t ht hl
 by_cases he : t = s
 ·subst he
  exact ⟨v,by rw [Array.getElem?_setIfInBounds_self_of_lt (by rw [h.size]; exact hslot)],hP⟩
 ·have n1 : t.op ≠ s.op:=fun e=>he (inj_of_nodup w2 ht hs e)
  have n2 : t.slot ≠ s.slot:=fun e=>he (inj_of_nodup w1 ht hs e)
  obtain ⟨u,h1,h2⟩:=h.val t ht (set_true hl (Ne.symm n1))
  exact ⟨u,by rw [Array.getElem?_setIfInBounds_ne (Ne.symm n2)]; exact h1,h2⟩
theorem RA.turn {v : Value} (h : RA S p W T0 vs L T w) (s : VS) (hs : s ∈ vs) (hk : s.op = p) (hL : p < L.size) (ho : Only S w w') (hq : ∀t ∈ vs,t ≠ s->L[t.op]? = some true->∀v,t.P w v->t.P w' v) (hP : s.P w' v) : RA S p W T0 vs (L.setIfInBounds p true) (T.setIfInBounds s.slot v) w':=by
 subst hk
 have hwf:=h.wf
 unfold wellRV at hwf
 simp only [Bool.and_eq_true,decide_eq_true_eq,List.all_eq_true] at hwf
 obtain ⟨⟨w1,w2⟩,w3⟩:=hwf
 have hslot : s.slot < T0.size:=w3 _ (List.mem_map.2 ⟨s,hs,rfl⟩)
 refine ⟨h.wf,h.lv,by simp [h.size],fun j h1=>by rw [Array.getElem?_setIfInBounds_ne (h1 s hs)]; exact h.keep j h1,h.onl.trans ho,fun hp=>?_,?_⟩
 ·rw [Array.getElem?_setIfInBounds_self_of_lt hL] at hp
  cases hp
 intro t ht hl
 by_cases he : t = s
 ·subst he
  exact ⟨v,by rw [Array.getElem?_setIfInBounds_self_of_lt (by rw [h.size]; exact hslot)],hP⟩
 ·have n1 : t.op ≠ s.op:=fun e=>he (inj_of_nodup w2 ht hs e)
  have n2 : t.slot ≠ s.slot:=fun e=>he (inj_of_nodup w1 ht hs e)
  have hl':=set_true hl (Ne.symm n1)
  obtain ⟨u,h1,h2⟩:=h.val t ht hl'
  exact ⟨u,by rw [Array.getElem?_setIfInBounds_ne (Ne.symm n2)]; exact h1,hq t ht he hl' u h2⟩
theorem RA.v {s : VS} (h : RA S p W T0 vs L T w) (hs : s ∈ vs) (hl : L[s.op]? = some true) : ∃v,T[s.slot]? = some v/\s.P w v:=h.val s hs hl
theorem RA.y {k : Nat} {v : Value} (h : RA S p W T0 vs L T w) {s : VS} (hs : s ∈ vs) (hP : s.P w v) (hk : s.op = k:=by rfl) : RA S p W T0 vs (L.setIfInBounds k true) (T.setIfInBounds s.slot v) w:=h.value s hs hk hP
theorem RA.cell {b o : Nat} {v : Value} (h : RA S p W T0 vs L T w) (hb : b ∉ S) (hlt : b < W.heap.size) (hc : W.cell? ⟨b,o,none⟩ = some v) : w.cell? ⟨b,o,none⟩ = some v:=by
 have:=h.onl.old b hlt hb
 unfold World.cell? at hc ⊢
 rw [this]
 exact hc
end
def RAS (S : List Nat) (p : Nat) (W : World) (T0 : Array Value) (vs : List VS) (q : Nat) (st : Array Value->World->World) (L : Array Bool) (T : Array Value) (w : World) : Prop:=
 ∃w0,RA S p W T0 vs L T w0/\(L[q]? ≠ some true->w = w0)/\(L[q]? = some true->w = st T w0)
section
variable {S : List Nat} {p : Nat} {W : World} {T0 : Array Value} {vs : List VS} {L : Array Bool} {T : Array Value} {w w' : World} {q : Nat} {st : Array Value->World->World}
theorem RAS.start {n : Nat} (h : RA S p W T0 vs (Array.replicate n false) T0 W.drew) : RAS S p W T0 vs q st (Array.replicate n false) T0 W.drew:=
 ⟨_,h,fun _=>rfl,fun hh=>by
  rw [Array.getElem?_replicate] at hh
  split at hh <;> simp at hh⟩
theorem RA.mark (h : RA S p W T0 vs L T w) (hq : ∀s ∈ vs,s.op ≠ q) (hp : q ≠ p) : RA S p W T0 vs (L.setIfInBounds q true) T w:=
 ⟨h.wf,h.lv,h.size,h.keep,h.onl,fun hh=>h.bef (by rwa [Array.getElem?_setIfInBounds_ne hp] at hh),fun s hs hl=>h.val s hs (set_true hl (Ne.symm (hq s hs)))⟩
theorem StepAt.liftA {P : Program} {ops : Array Oper} {Q : Exit->Act->World->Prop} {ds : List Deferred} {i : Nat} {o : Oper} (hq : reach ops 5 q i = true) (hne : i ≠ q)
  (h : StepAt P ops Q ds (RA S p W T0 vs) i o) : StepAt P ops Q ds (RAS S p W T0 vs q st) i o:=by
 intro L T w hL hd hcl hI K hK
 obtain ⟨w0,h0,h1,h2⟩:=hI
 have hLq : L[q]? ≠ some true:=fun hh=>by
  have:=reach_spec hcl hq hh
  rw [hL] at this
  cases this
 obtain rfl:=h1 hLq
 exact h L T w hL @hd hcl h0 K (fun T' w' h'=>hK T' w' ⟨w',h',fun _=>rfl,fun hh=>absurd (set_true hh hne) hLq⟩)
theorem RAS.pure {k : Nat} {v : Value} (h : RAS S p W T0 vs q st L T w) (s : VS) (hs : s ∈ vs) (hk : s.op = k) (hP : ∀w,s.P w v) (hne : k ≠ q) (hst : ∀w,st (T.setIfInBounds s.slot v) w = st T w) : RAS S p W T0 vs q st (L.setIfInBounds k true) (T.setIfInBounds s.slot v) w:=by
 obtain ⟨w0,h0,h1,h2⟩:=h
 exact ⟨w0,h0.value s hs hk (hP w0),fun hn=>h1 fun hh=>hn (listed_mono hh),fun hh=>(h2 (set_true hh hne)).trans (hst w0).symm⟩
theorem RAS.store (h : RA S p W T0 vs L T w) (hL : L[q]? = some false) (hq : ∀s ∈ vs,s.op ≠ q) (hp : q ≠ p) (hw : w' = st T w) : RAS S p W T0 vs q st (L.setIfInBounds q true) T w':=
 ⟨w,h.mark hq hp,fun hn=>absurd (Array.getElem?_setIfInBounds_self_of_lt (Array.getElem?_eq_some_iff.1 hL).1) hn,fun _=>hw⟩
theorem RAS.here (h : RAS S p W T0 vs q st L T w) (hL : L[q]? = some false) : RA S p W T0 vs L T w:=by
 obtain ⟨w0,h0,h1,-⟩:=h
 obtain rfl:=h1 (by rw [hL]; simp)
 exact h0
end
def put3 (a b : Nat) (T : Array Value) (w : World) : World:=
 match T[a]?,T[b]? with
 | some (.pointer (some ⟨g,0,none⟩)),some (.agg #[x,y,z])=>((w.setCell ⟨g,0,none⟩ x).setCell ⟨g,1,none⟩ y).setCell ⟨g,2,none⟩ z
 | _,_=>w
theorem put3_at {a b g : Nat} {T : Array Value} {w : World} {x y z : Value} (h1 : T[a]? = some (.pointer (some ⟨g,0,none⟩))) (h2 : T[b]? = some (.agg #[x,y,z])) : put3 a b T w = ((w.setCell ⟨g,0,none⟩ x).setCell ⟨g,1,none⟩ y).setCell ⟨g,2,none⟩ z:=by
 unfold put3
 rw [h1,h2]
 rfl
theorem put3_set {a b c : Nat} {T : Array Value} {w : World} {v : Value} (h1 : c ≠ a) (h2 : c ≠ b) : put3 a b (T.setIfInBounds c v) w = put3 a b T w:=by
 unfold put3
 rw [Array.getElem?_setIfInBounds_ne h1,Array.getElem?_setIfInBounds_ne h2]
theorem only_grown {w w' : World} {v : Value} (hg : w.grownBy w' v.ownBlock) (hx : LExt w w') : Only v.ownBlock.toList w w':=
 ⟨(Below.refl 0 w).grown hg (Nat.zero_le _) (fun g _=>Nat.zero_le g),hx,fun k hk hn=>hg.block k hk (fun e=>hn (by rw [<-e]; simp))⟩
theorem Below.only {B : Nat} {S : List Nat} {w0 w w' : World} (h : Below B w0 w) (ho : Only S w w') (hB : B<=w0.heap.size) (hS : ∀b ∈ S,B<=b) : Below B w0 w':=
 h.trans ⟨ho.bel.os,ho.bel.tape,ho.bel.output,ho.bel.size,fun k hk=>ho.old k (Nat.lt_of_lt_of_le hk (Nat.le_trans hB h.size)) fun hm=>absurd (hS k hm) (by omega)⟩
theorem Blk.only {S : List Nat} {w w' : World} {b : Nat} {t : TypeId} {cs : Array Value} (h : Blk w b t cs) (ho : Only S w w') (hb : b ∉ S) : Blk w' b t cs:=(ho.old b h.lt hb).trans h
end Go.Proofs.YtnocgagoaldfnaaGreat
