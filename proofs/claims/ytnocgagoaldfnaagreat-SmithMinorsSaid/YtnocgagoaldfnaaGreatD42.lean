/- The law for regions that draw, where calls make matrices: one behind the other, so that they lie apart. smith.Form. -/
import Derived.Test.YtnocgagoaldfnaaGreatD41
set_option linter.unusedVariables false
set_option linter.unusedSimpArgs false
set_option linter.unusedSectionVars false
namespace Go.Proofs.YtnocgagoaldfnaaGreat
open Go.RowKit
def Within (R C : Nat) (F : Nat->Nat->Int) (lo hi : Nat) : World->Value->Prop:=fun w v=>∃o c bs,v = .agg #[.int .i64 R,.int .i64 C,.slice o R c]/\Wri w (.slice o R c) R C bs F/\∀b,Zn (.slice o R c) bs b->lo<=b/\b < hi
theorem Within.below {R C : Nat} {F : Nat->Nat->Int} {lo hi : Nat} {w w' : World} {v : Value} (h : Within R C F lo hi w v) (hb : Below w.heap.size w w') : Within R C F lo hi w' v:=by
 obtain ⟨o,c,bs,h1,h2,h3⟩:=h
 exact ⟨o,c,bs,h1,h2.below hb,h3⟩
theorem RetMat.within {w w' : World} {R C : Nat} {F : Nat->Nat->Int} {e : Ending} (h : RetMat w R C (genM R C F) e w') : ∃v,e = .returned v/\Within R C F w.heap.size w'.heap.size w' v/\Below w.heap.size w w':=by
 obtain ⟨v,bs,rfl,⟨hl,A',rfl,ho⟩,hb⟩:=h
 have hw : Wri w' A' R C bs F:=ho.mono (Nat.zero_le _)
 obtain ⟨o,c,rfl⟩:=hw.shape
 exact ⟨_,rfl,⟨o,c,bs,rfl,hw,fun b hz=>⟨ho.fresh hz,hw.zlt hz⟩⟩,hb⟩
structure MS where
 op : Nat
 slot : Nat
 R : Nat
 C : Nat
 F : Nat->Nat->Int
def wellRG (N : Nat) (vs : List VS) (ms : List MS) : Bool:=decide ((vs.map (·.slot)) ++ (ms.map (·.slot))).Nodup && decide ((vs.map (·.op)) ++ (ms.map (·.op))).Nodup && ((vs.map (·.slot)) ++ (ms.map (·.slot))).all (fun s=>decide (s < N))
theorem nodup_app_ne {α : Type} {xs ys : List α} (h : (xs ++ ys).Nodup) {a b : α} (ha : a ∈ xs) (hb : b ∈ ys) : a ≠ b:=(List.nodup_append.1 h).2.2 a ha b hb
structure RG (W : World) (T0 : Array Value) (vs : List VS) (ms : List MS) (L : Array Bool) (T : Array Value) (w : World) : Prop where
 wf : wellRG T0.size vs ms = true
 lv : ∀s ∈ vs,LastsB s.P
 size : T.size = T0.size
 keep : ∀j,(∀s ∈ vs,s.slot ≠ j)->(∀m ∈ ms,m.slot ≠ j)->T[j]? = T0[j]?
 bel : Below W.heap.size W w
 val : ∀s ∈ vs,L[s.op]? = some true->∃v,T[s.slot]? = some v/\s.P w v
 gh : ∃bot top : Nat->Nat,(∀m ∈ ms,L[m.op]? = some true->W.heap.size<=bot m.op/\top m.op<=w.heap.size/\∃v,T[m.slot]? = some v/\Within m.R m.C m.F (bot m.op) (top m.op) w v) ∧
  ∀m ∈ ms,∀m' ∈ ms,m.op < m'.op->L[m.op]? = some true->L[m'.op]? = some true->top m.op<=bot m'.op
section
variable {W : World} {T0 : Array Value} {vs : List VS} {ms : List MS} {L : Array Bool} {T : Array Value} {w w' : World}
theorem RG.parts (h : RG W T0 vs ms L T w) : (vs.map (·.slot)).Nodup/\(vs.map (·.op)).Nodup/\(ms.map (·.slot)).Nodup/\(ms.map (·.op)).Nodup/\(∀s ∈ vs,∀m ∈ ms,s.slot ≠ m.slot/\s.op ≠ m.op)/\(∀s ∈ vs,s.slot < T0.size)/\(∀m ∈ ms,m.slot < T0.size):=by
 have hwf:=h.wf
 unfold wellRG at hwf
 simp only [Bool.and_eq_true,decide_eq_true_eq,List.all_eq_true] at hwf
 obtain ⟨⟨w1,w2⟩,w3⟩:=hwf
 refine ⟨(List.nodup_append.1 w1).1,(List.nodup_append.1 w2).1,(List.nodup_append.1 w1).2.1,(List.nodup_append.1 w2).2.1,fun s hs m hm=>⟨nodup_app_ne w1 (List.mem_map.2 ⟨s,hs,rfl⟩) (List.mem_map.2 ⟨m,hm,rfl⟩),nodup_app_ne w2 (List.mem_map.2 ⟨s,hs,rfl⟩) (List.mem_map.2 ⟨m,hm,rfl⟩)⟩,
  fun s hs=>w3 _ (List.mem_append.2 (.inl (List.mem_map.2 ⟨s,hs,rfl⟩))),fun m hm=>w3 _ (List.mem_append.2 (.inr (List.mem_map.2 ⟨m,hm,rfl⟩)))⟩
theorem RG.start (hwf : wellRG T0.size vs ms = true:=by kernel_rfl) (hv : ∀s ∈ vs,LastsB s.P:=by repeat' (first | exact lastsB_int _ | exact lastsB_eq _ | exact lastsB_mat _ _ _ | exact lastsB_vec _ | assumption | refine List.forall_mem_cons.2 ⟨?_,?_⟩ | exact List.forall_mem_nil _)) {n : Nat} : RG W T0 vs ms (Array.replicate n false) T0 W.drew:=by
 have hf : ∀k : Nat,(Array.replicate n false)[k]? ≠ some true:=by
  intro k h
  rw [Array.getElem?_replicate] at h
  split at h <;> simp at h
 exact ⟨hwf,hv,rfl,fun _ _ _=>rfl,dr _,fun s _ h=>absurd h (hf _),fun _=>0,fun _=>0,fun m _ h=>absurd h (hf _),fun m _ m' _ _ h=>absurd h (hf _)⟩
theorem RG.world (h : RG W T0 vs ms L T w) (hb : Below w.heap.size w w') : RG W T0 vs ms L T w':=by
 obtain ⟨bot,top,g1,g2⟩:=h.gh
 refine ⟨h.wf,h.lv,h.size,h.keep,nx h.bel hb,fun s hs hl=>by
  obtain ⟨v,h1,h2⟩:=h.val s hs hl
  exact ⟨v,h1,h.lv s hs _ _ _ hb h2⟩,bot,top,fun m hm hl=>?_,g2⟩
 obtain ⟨e1,e2,v,e3,e4⟩:=g1 m hm hl
 exact ⟨e1,Nat.le_trans e2 hb.size,v,e3,e4.below hb⟩
theorem RG.value {k : Nat} {v : Value} (h : RG W T0 vs ms L T w) (s : VS) (hs : s ∈ vs) (hk : s.op = k) (hP : s.P w v) : RG W T0 vs ms (L.setIfInBounds k true) (T.setIfInBounds s.slot v) w:=by
 subst hk
 obtain ⟨p1,p2,p3,p4,p5,p6,p7⟩:=h.parts
 obtain ⟨bot,top,g1,g2⟩:=h.gh
 have hm' : ∀m ∈ ms,(L.setIfInBounds s.op true)[m.op]? = some true->L[m.op]? = some true:=fun m hm hl=>set_true hl (p5 s hs m hm).2
 refine ⟨h.wf,h.lv,by simp [h.size],fun j h1 h2=>by rw [Array.getElem?_setIfInBounds_ne (h1 s hs)]; exact h.keep j h1 h2,h.bel,?_,bot,top,fun m hm hl=>?_,fun m hm m' hm2 hlt l1 l2=>g2 m hm m' hm2 hlt (hm' m hm l1) (hm' m' hm2 l2)⟩
 ·intro t ht hl
  by_cases he : t = s
  ·subst he
   exact ⟨v,by rw [Array.getElem?_setIfInBounds_self_of_lt (by rw [h.size]; exact p6 _ hs)],hP⟩
  ·have n1 : t.op ≠ s.op:=fun e=>he (inj_of_nodup p2 ht hs e)
   have n2 : t.slot ≠ s.slot:=fun e=>he (inj_of_nodup p1 ht hs e)
   obtain ⟨u,h1,h2⟩:=h.val t ht (set_true hl (Ne.symm n1))
   exact ⟨u,by rw [Array.getElem?_setIfInBounds_ne (Ne.symm n2)]; exact h1,h2⟩
 ·obtain ⟨e1,e2,u,e3,e4⟩:=g1 m hm (hm' m hm hl)
  exact ⟨e1,e2,u,by rw [Array.getElem?_setIfInBounds_ne (p5 s hs m hm).1]; exact e3,e4⟩
theorem RG.v {s : VS} (h : RG W T0 vs ms L T w) (hs : s ∈ vs) (hl : L[s.op]? = some true) : ∃v,T[s.slot]? = some v/\s.P w v:=h.val s hs hl
theorem RG.y {k : Nat} {v : Value} (h : RG W T0 vs ms L T w) {s : VS} (hs : s ∈ vs) (hP : s.P w v) (hk : s.op = k:=by rfl) : RG W T0 vs ms (L.setIfInBounds k true) (T.setIfInBounds s.slot v) w:=h.value s hs hk hP
theorem RG.mat {ops : Array Oper} {k : Nat} {v : Value} (h : RG W T0 vs ms L T w) (hcl : ClosedL ops L) (hL : L[k]? = some false) (m : MS) (hm : m ∈ ms) (hk : m.op = k) (hb : Below w.heap.size w w') (hw : Within m.R m.C m.F w.heap.size w'.heap.size w' v)
  (hlt : (ms.all fun m'=>!decide (k < m'.op) || reach ops 9 m'.op k) = true) : RG W T0 vs ms (L.setIfInBounds k true) (T.setIfInBounds m.slot v) w':=by
 subst hk
 have h':=h.world hb
 obtain ⟨p1,p2,p3,p4,p5,p6,p7⟩:=h.parts
 obtain ⟨bot,top,g1,g2⟩:=h.gh
 have hno : ∀m' ∈ ms,m.op < m'.op->L[m'.op]? ≠ some true:=fun m' hm' hlt' hh=>by
  have h3:=List.all_eq_true.1 hlt m' hm'
  simp only [hlt',decide_true,Bool.not_true,Bool.false_or] at h3
  have:=reach_spec hcl h3 hh
  rw [hL] at this
  cases this
 have hold : ∀m' ∈ ms,m' ≠ m->(L.setIfInBounds m.op true)[m'.op]? = some true->L[m'.op]? = some true:=fun m' hm' hne hl=>set_true hl (fun e=>hne (inj_of_nodup p4 hm' hm e.symm))
 refine ⟨h.wf,h.lv,by simp [h.size],fun j h1 h2=>by rw [Array.getElem?_setIfInBounds_ne (h2 m hm)]; exact h.keep j h1 h2,h'.bel,?_,fun i=>if i = m.op then w.heap.size else bot i,fun i=>if i = m.op then w'.heap.size else top i,fun m' hm' hl=>?_,fun a ha b hb' hlt' l1 l2=>?_⟩
 ·intro t ht hl
  obtain ⟨u,h1,h2⟩:=h'.val t ht (set_true hl (Ne.symm (p5 t ht m hm).2))
  exact ⟨u,by rw [Array.getElem?_setIfInBounds_ne (Ne.symm (p5 t ht m hm).1)]; exact h1,h2⟩
 ·by_cases he : m' = m
  ·subst he
   simp only [if_true]
   exact ⟨h.bel.size,Nat.le_refl _,v,by rw [Array.getElem?_setIfInBounds_self_of_lt (by rw [h.size]; exact p7 _ hm)],hw⟩
  ·have n1 : m'.op ≠ m.op:=fun e=>he (inj_of_nodup p4 hm' hm e)
   have n2 : m'.slot ≠ m.slot:=fun e=>he (inj_of_nodup p3 hm' hm e)
   simp only [if_neg n1]
   obtain ⟨e1,e2,u,e3,e4⟩:=g1 m' hm' (hold m' hm' he hl)
   exact ⟨e1,Nat.le_trans e2 hb.size,u,by rw [Array.getElem?_setIfInBounds_ne (Ne.symm n2)]; exact e3,e4.below hb⟩
 ·by_cases hb2 : b = m
  ·subst hb2
   by_cases ha2 : a = b
   ·subst ha2; omega
   ·have n1 : a.op ≠ b.op:=fun e=>ha2 (inj_of_nodup p4 ha hm e)
    simp only [if_true,if_neg n1]
    exact (g1 a ha (hold a ha ha2 l1)).2.1
  ·by_cases ha2 : a = m
   ·subst ha2
    exact absurd (hold b hb' hb2 l2) (hno b hb' hlt')
   ·have n1 : a.op ≠ m.op:=fun e=>ha2 (inj_of_nodup p4 ha hm e)
    have n2 : b.op ≠ m.op:=fun e=>hb2 (inj_of_nodup p4 hb' hm e)
    simp only [if_neg n1,if_neg n2]
    exact g2 a ha b hb' hlt' (hold a ha ha2 l1) (hold b hb' hb2 l2)
theorem RG.cell {b o : Nat} {v : Value} (h : RG W T0 vs ms L T w) (hc : W.cell? ⟨b,o,none⟩ = some v) : w.cell? ⟨b,o,none⟩ = some v:=kc_below hc h.bel
theorem RG.matv (h : RG W T0 vs ms L T w) (m : MS) (hm : m ∈ ms) (hl : L[m.op]? = some true) : ∃v,T[m.slot]? = some v/\∃o c,v = .agg #[.int .i64 m.R,.int .i64 m.C,.slice o m.R c]:=by
 obtain ⟨bot,top,g1,g2⟩:=h.gh
 obtain ⟨e1,e2,v,e3,o,c,bs,e4,-⟩:=g1 m hm hl
 exact ⟨v,e3,o,c,e4⟩
end
structure FiveV (n0 R C Cu Cw : Nat) (z : W5) (w : World) (v : Value) : Prop where
 ex : ∃so sc uo uc vo vc wo wc xo xc bS bU bV bW bX,v = .agg #[.int .i64 R,.int .i64 C,.slice so R sc,.int .i64 R,.int .i64 Cu,.slice uo R uc,.int .i64 R,.int .i64 Cu,.slice vo R vc,.int .i64 C,.int .i64 Cw,.slice wo C wc,.int .i64 C,.int .i64 Cw,.slice xo C xc] ∧
  Wri w (.slice so R sc) R C bS z.s/\Wri w (.slice uo R uc) R Cu bU z.u/\Wri w (.slice vo R vc) R Cu bV z.v/\Wri w (.slice wo C wc) C Cw bW z.w/\Wri w (.slice xo C xc) C Cw bX z.x ∧
  (∀b,Zn (.slice so R sc) bS b ∨ Zn (.slice uo R uc) bU b ∨ Zn (.slice vo R vc) bV b ∨ Zn (.slice wo C wc) bW b ∨ Zn (.slice xo C xc) bX b->n0<=b) ∧
  Ap (.slice so R sc) bS (.slice uo R uc) bU/\Ap (.slice so R sc) bS (.slice vo R vc) bV/\Ap (.slice so R sc) bS (.slice wo C wc) bW/\Ap (.slice so R sc) bS (.slice xo C xc) bX/\Ap (.slice uo R uc) bU (.slice vo R vc) bV ∧
  Ap (.slice uo R uc) bU (.slice wo C wc) bW/\Ap (.slice uo R uc) bU (.slice xo C xc) bX/\Ap (.slice vo R vc) bV (.slice wo C wc) bW/\Ap (.slice vo R vc) bV (.slice xo C xc) bX/\Ap (.slice wo C wc) bW (.slice xo C xc) bX
theorem lastsB_five (n0 R C Cu Cw : Nat) (z : W5) : LastsB (FiveV n0 R C Cu Cw z):=by
 intro w w' v hb ⟨so,sc,uo,uc,vo,vc,wo,wc,xo,xc,bS,bU,bV,bW,bX,h1,h2,h3,h4,h5,h6,h7⟩
 exact ⟨so,sc,uo,uc,vo,vc,wo,wc,xo,xc,bS,bU,bV,bW,bX,h1,h2.below hb,h3.below hb,h4.below hb,h5.below hb,h6.below hb,h7⟩
theorem ap_range {A A' : Value} {bs bs' : List Nat} {a b c d : Nat} (h : ∀x,Zn A bs x->a<=x/\x < b) (h' : ∀x,Zn A' bs' x->c<=x/\x < d) (hbc : b<=c) : Ap A bs A' bs':=fun x h1 h2=>by
 have:=h x h1
 have:=h' x h2
 omega
theorem RG.five {W : World} {T0 : Array Value} {vs : List VS} {L : Array Bool} {T : Array Value} {w : World} {k1 k2 k3 k4 k5 s1 s2 s3 s4 s5 R C Cu Cw : Nat} {F1 F2 F3 F4 F5 : Nat->Nat->Int}
  (h : RG W T0 vs [⟨k1,s1,R,C,F1⟩,⟨k2,s2,R,Cu,F2⟩,⟨k3,s3,R,Cu,F3⟩,⟨k4,s4,C,Cw,F4⟩,⟨k5,s5,C,Cw,F5⟩] L T w) (o1 : k1 < k2) (o2 : k2 < k3) (o3 : k3 < k4) (o4 : k4 < k5)
  (l1 : L[k1]? = some true) (l2 : L[k2]? = some true) (l3 : L[k3]? = some true) (l4 : L[k4]? = some true) (l5 : L[k5]? = some true) :
  ∃so sc uo uc vo vc wo wc xo xc,T[s1]? = some (.agg #[.int .i64 R,.int .i64 C,.slice so R sc])/\T[s2]? = some (.agg #[.int .i64 R,.int .i64 Cu,.slice uo R uc])/\T[s3]? = some (.agg #[.int .i64 R,.int .i64 Cu,.slice vo R vc]) ∧
   T[s4]? = some (.agg #[.int .i64 C,.int .i64 Cw,.slice wo C wc])/\T[s5]? = some (.agg #[.int .i64 C,.int .i64 Cw,.slice xo C xc]) ∧
   FiveV W.heap.size R C Cu Cw ⟨F1,F2,F3,F4,F5⟩ w (.agg #[.int .i64 R,.int .i64 C,.slice so R sc,.int .i64 R,.int .i64 Cu,.slice uo R uc,.int .i64 R,.int .i64 Cu,.slice vo R vc,.int .i64 C,.int .i64 Cw,.slice wo C wc,.int .i64 C,.int .i64 Cw,.slice xo C xc]):=by
 obtain ⟨bot,top,g1,g2⟩:=h.gh
 have M1 : (⟨k1,s1,R,C,F1⟩ : MS) ∈ [(⟨k1,s1,R,C,F1⟩ : MS),⟨k2,s2,R,Cu,F2⟩,⟨k3,s3,R,Cu,F3⟩,⟨k4,s4,C,Cw,F4⟩,⟨k5,s5,C,Cw,F5⟩]:=by simp
 have M2 : (⟨k2,s2,R,Cu,F2⟩ : MS) ∈ [(⟨k1,s1,R,C,F1⟩ : MS),⟨k2,s2,R,Cu,F2⟩,⟨k3,s3,R,Cu,F3⟩,⟨k4,s4,C,Cw,F4⟩,⟨k5,s5,C,Cw,F5⟩]:=by simp
 have M3 : (⟨k3,s3,R,Cu,F3⟩ : MS) ∈ [(⟨k1,s1,R,C,F1⟩ : MS),⟨k2,s2,R,Cu,F2⟩,⟨k3,s3,R,Cu,F3⟩,⟨k4,s4,C,Cw,F4⟩,⟨k5,s5,C,Cw,F5⟩]:=by simp
 have M4 : (⟨k4,s4,C,Cw,F4⟩ : MS) ∈ [(⟨k1,s1,R,C,F1⟩ : MS),⟨k2,s2,R,Cu,F2⟩,⟨k3,s3,R,Cu,F3⟩,⟨k4,s4,C,Cw,F4⟩,⟨k5,s5,C,Cw,F5⟩]:=by simp
 have M5 : (⟨k5,s5,C,Cw,F5⟩ : MS) ∈ [(⟨k1,s1,R,C,F1⟩ : MS),⟨k2,s2,R,Cu,F2⟩,⟨k3,s3,R,Cu,F3⟩,⟨k4,s4,C,Cw,F4⟩,⟨k5,s5,C,Cw,F5⟩]:=by simp
 obtain ⟨a1,a2,_,a3,so,sc,bS,rfl,a5,a6⟩:=g1 _ M1 l1
 obtain ⟨b1,b2,_,b3,uo,uc,bU,rfl,b5,b6⟩:=g1 _ M2 l2
 obtain ⟨c1,c2,_,c3,vo,vc,bV,rfl,c5,c6⟩:=g1 _ M3 l3
 obtain ⟨d1,d2,_,d3,wo,wc,bW,rfl,d5,d6⟩:=g1 _ M4 l4
 obtain ⟨e1,e2,_,e3,xo,xc,bX,rfl,e5,e6⟩:=g1 _ M5 l5
 have r12:=g2 _ M1 _ M2 o1 l1 l2
 have r13:=g2 _ M1 _ M3 (by dsimp only; omega) l1 l3
 have r14:=g2 _ M1 _ M4 (by dsimp only; omega) l1 l4
 have r15:=g2 _ M1 _ M5 (by dsimp only; omega) l1 l5
 have r23:=g2 _ M2 _ M3 (by dsimp only; omega) l2 l3
 have r24:=g2 _ M2 _ M4 (by dsimp only; omega) l2 l4
 have r25:=g2 _ M2 _ M5 (by dsimp only; omega) l2 l5
 have r34:=g2 _ M3 _ M4 (by dsimp only; omega) l3 l4
 have r35:=g2 _ M3 _ M5 (by dsimp only; omega) l3 l5
 have r45:=g2 _ M4 _ M5 (by dsimp only; omega) l4 l5
 refine ⟨so,sc,uo,uc,vo,vc,wo,wc,xo,xc,a3,b3,c3,d3,e3,⟨so,sc,uo,uc,vo,vc,wo,wc,xo,xc,bS,bU,bV,bW,bX,rfl,a5,b5,c5,d5,e5,?_,ap_range a6 b6 r12,ap_range a6 c6 r13,ap_range a6 d6 r14,ap_range a6 e6 r15,ap_range b6 c6 r23,ap_range b6 d6 r24,ap_range b6 e6 r25,ap_range c6 d6 r34,ap_range c6 e6 r35,ap_range d6 e6 r45⟩⟩
 rintro b (hb | hb | hb | hb | hb)
 ·exact Nat.le_trans a1 (a6 b hb).1
 ·exact Nat.le_trans b1 (b6 b hb).1
 ·exact Nat.le_trans c1 (c6 b hb).1
 ·exact Nat.le_trans d1 (d6 b hb).1
 ·exact Nat.le_trans e1 (e6 b hb).1
theorem Blk.all15 {w : World} {g : Nat} {t : TypeId} {c0 c1 c2 c3 c4 c5 c6 c7 c8 c9 c10 c11 c12 c13 c14 : Value} (h : Blk w g t #[c0,c1,c2,c3,c4,c5,c6,c7,c8,c9,c10,c11,c12,c13,c14]) :
  (w.cell? ⟨g,0,none⟩ = some c0/\w.cell? ⟨g,1,none⟩ = some c1/\w.cell? ⟨g,2,none⟩ = some c2/\w.cell? ⟨g,3,none⟩ = some c3/\w.cell? ⟨g,4,none⟩ = some c4/\w.cell? ⟨g,5,none⟩ = some c5/\w.cell? ⟨g,6,none⟩ = some c6/\w.cell? ⟨g,7,none⟩ = some c7/\w.cell? ⟨g,8,none⟩ = some c8/\w.cell? ⟨g,9,none⟩ = some c9/\w.cell? ⟨g,10,none⟩ = some c10/\w.cell? ⟨g,11,none⟩ = some c11/\w.cell? ⟨g,12,none⟩ = some c12/\w.cell? ⟨g,13,none⟩ = some c13/\w.cell? ⟨g,14,none⟩ = some c14)/\(w.frozen? ⟨g,0,none⟩ = false/\w.frozen? ⟨g,1,none⟩ = false/\w.frozen? ⟨g,2,none⟩ = false/\w.frozen? ⟨g,3,none⟩ = false/\w.frozen? ⟨g,4,none⟩ = false/\w.frozen? ⟨g,5,none⟩ = false/\w.frozen? ⟨g,6,none⟩ = false/\w.frozen? ⟨g,7,none⟩ = false/\w.frozen? ⟨g,8,none⟩ = false/\w.frozen? ⟨g,9,none⟩ = false/\w.frozen? ⟨g,10,none⟩ = false/\w.frozen? ⟨g,11,none⟩ = false/\w.frozen? ⟨g,12,none⟩ = false/\w.frozen? ⟨g,13,none⟩ = false/\w.frozen? ⟨g,14,none⟩ = false):=
 ⟨⟨h.cell 0,h.cell 1,h.cell 2,h.cell 3,h.cell 4,h.cell 5,h.cell 6,h.cell 7,h.cell 8,h.cell 9,h.cell 10,h.cell 11,h.cell 12,h.cell 13,h.cell 14⟩,⟨h.frozen 0,h.frozen 1,h.frozen 2,h.frozen 3,h.frozen 4,h.frozen 5,h.frozen 6,h.frozen 7,h.frozen 8,h.frozen 9,h.frozen 10,h.frozen 11,h.frozen 12,h.frozen 13,h.frozen 14⟩⟩
theorem Blk.put15 {w : World} {g : Nat} {t : TypeId} {c0 c1 c2 c3 c4 c5 c6 c7 c8 c9 c10 c11 c12 c13 c14 : Value} (h : Blk w g t #[c0,c1,c2,c3,c4,c5,c6,c7,c8,c9,c10,c11,c12,c13,c14]) (x0 x1 x2 x3 x4 x5 x6 x7 x8 x9 x10 x11 x12 x13 x14 : Value) : Blk (((((((((((((((w.setCell ⟨g,0,none⟩ x0).setCell ⟨g,1,none⟩ x1).setCell ⟨g,2,none⟩ x2).setCell ⟨g,3,none⟩ x3).setCell ⟨g,4,none⟩ x4).setCell ⟨g,5,none⟩ x5).setCell ⟨g,6,none⟩ x6).setCell ⟨g,7,none⟩ x7).setCell ⟨g,8,none⟩ x8).setCell ⟨g,9,none⟩ x9).setCell ⟨g,10,none⟩ x10).setCell ⟨g,11,none⟩ x11).setCell ⟨g,12,none⟩ x12).setCell ⟨g,13,none⟩ x13).setCell ⟨g,14,none⟩ x14) g t #[x0,x1,x2,x3,x4,x5,x6,x7,x8,x9,x10,x11,x12,x13,x14]:=by
 simpa using (((((((((((((((h.set_ 0 x0).set_ 1 x1).set_ 2 x2).set_ 3 x3).set_ 4 x4).set_ 5 x5).set_ 6 x6).set_ 7 x7).set_ 8 x8).set_ 9 x9).set_ 10 x10).set_ 11 x11).set_ 12 x12).set_ 13 x13).set_ 14 x14)
theorem Blk.lext15 {w : World} {g : Nat} {t : TypeId} {cs : Array Value} (h : Blk w g t cs) (hne : t ≠ tU) (x0 x1 x2 x3 x4 x5 x6 x7 x8 x9 x10 x11 x12 x13 x14 : Value) : LExt w (((((((((((((((w.setCell ⟨g,0,none⟩ x0).setCell ⟨g,1,none⟩ x1).setCell ⟨g,2,none⟩ x2).setCell ⟨g,3,none⟩ x3).setCell ⟨g,4,none⟩ x4).setCell ⟨g,5,none⟩ x5).setCell ⟨g,6,none⟩ x6).setCell ⟨g,7,none⟩ x7).setCell ⟨g,8,none⟩ x8).setCell ⟨g,9,none⟩ x9).setCell ⟨g,10,none⟩ x10).setCell ⟨g,11,none⟩ x11).setCell ⟨g,12,none⟩ x12).setCell ⟨g,13,none⟩ x13).setCell ⟨g,14,none⟩ x14):=
 (((((((((((((((h.lext hne 0 x0).trans ((h.set_ 0 x0).lext hne 1 x1)).trans (((h.set_ 0 x0).set_ 1 x1).lext hne 2 x2)).trans ((((h.set_ 0 x0).set_ 1 x1).set_ 2 x2).lext hne 3 x3)).trans (((((h.set_ 0 x0).set_ 1 x1).set_ 2 x2).set_ 3 x3).lext hne 4 x4)).trans ((((((h.set_ 0 x0).set_ 1 x1).set_ 2 x2).set_ 3 x3).set_ 4 x4).lext hne 5 x5)).trans (((((((h.set_ 0 x0).set_ 1 x1).set_ 2 x2).set_ 3 x3).set_ 4 x4).set_ 5 x5).lext hne 6 x6)).trans ((((((((h.set_ 0 x0).set_ 1 x1).set_ 2 x2).set_ 3 x3).set_ 4 x4).set_ 5 x5).set_ 6 x6).lext hne 7 x7)).trans (((((((((h.set_ 0 x0).set_ 1 x1).set_ 2 x2).set_ 3 x3).set_ 4 x4).set_ 5 x5).set_ 6 x6).set_ 7 x7).lext hne 8 x8)).trans ((((((((((h.set_ 0 x0).set_ 1 x1).set_ 2 x2).set_ 3 x3).set_ 4 x4).set_ 5 x5).set_ 6 x6).set_ 7 x7).set_ 8 x8).lext hne 9 x9)).trans (((((((((((h.set_ 0 x0).set_ 1 x1).set_ 2 x2).set_ 3 x3).set_ 4 x4).set_ 5 x5).set_ 6 x6).set_ 7 x7).set_ 8 x8).set_ 9 x9).lext hne 10 x10)).trans ((((((((((((h.set_ 0 x0).set_ 1 x1).set_ 2 x2).set_ 3 x3).set_ 4 x4).set_ 5 x5).set_ 6 x6).set_ 7 x7).set_ 8 x8).set_ 9 x9).set_ 10 x10).lext hne 11 x11)).trans (((((((((((((h.set_ 0 x0).set_ 1 x1).set_ 2 x2).set_ 3 x3).set_ 4 x4).set_ 5 x5).set_ 6 x6).set_ 7 x7).set_ 8 x8).set_ 9 x9).set_ 10 x10).set_ 11 x11).lext hne 12 x12)).trans ((((((((((((((h.set_ 0 x0).set_ 1 x1).set_ 2 x2).set_ 3 x3).set_ 4 x4).set_ 5 x5).set_ 6 x6).set_ 7 x7).set_ 8 x8).set_ 9 x9).set_ 10 x10).set_ 11 x11).set_ 12 x12).lext hne 13 x13)).trans (((((((((((((((h.set_ 0 x0).set_ 1 x1).set_ 2 x2).set_ 3 x3).set_ 4 x4).set_ 5 x5).set_ 6 x6).set_ 7 x7).set_ 8 x8).set_ 9 x9).set_ 10 x10).set_ 11 x11).set_ 12 x12).set_ 13 x13).lext hne 14 x14))
theorem set15_old (w : World) (g k : Nat) (x0 x1 x2 x3 x4 x5 x6 x7 x8 x9 x10 x11 x12 x13 x14 : Value) (hk : k ≠ g) : ((((((((((((((((w.setCell ⟨g,0,none⟩ x0).setCell ⟨g,1,none⟩ x1).setCell ⟨g,2,none⟩ x2).setCell ⟨g,3,none⟩ x3).setCell ⟨g,4,none⟩ x4).setCell ⟨g,5,none⟩ x5).setCell ⟨g,6,none⟩ x6).setCell ⟨g,7,none⟩ x7).setCell ⟨g,8,none⟩ x8).setCell ⟨g,9,none⟩ x9).setCell ⟨g,10,none⟩ x10).setCell ⟨g,11,none⟩ x11).setCell ⟨g,12,none⟩ x12).setCell ⟨g,13,none⟩ x13).setCell ⟨g,14,none⟩ x14)).heap[k]? = w.heap[k]?:=
 ((setCell_old _ g 14 k x14 hk).trans ((setCell_old _ g 13 k x13 hk).trans ((setCell_old _ g 12 k x12 hk).trans ((setCell_old _ g 11 k x11 hk).trans ((setCell_old _ g 10 k x10 hk).trans ((setCell_old _ g 9 k x9 hk).trans ((setCell_old _ g 8 k x8 hk).trans ((setCell_old _ g 7 k x7 hk).trans ((setCell_old _ g 6 k x6 hk).trans ((setCell_old _ g 5 k x5 hk).trans ((setCell_old _ g 4 k x4 hk).trans ((setCell_old _ g 3 k x3 hk).trans ((setCell_old _ g 2 k x2 hk).trans ((setCell_old _ g 1 k x1 hk).trans (setCell_old _ g 0 k x0 hk)))))))))))))))
theorem below15 {B : Nat} {a w : World} {g : Nat} (h : Below B a w) (hp : B<=g) (x0 x1 x2 x3 x4 x5 x6 x7 x8 x9 x10 x11 x12 x13 x14 : Value) : Below B a (((((((((((((((w.setCell ⟨g,0,none⟩ x0).setCell ⟨g,1,none⟩ x1).setCell ⟨g,2,none⟩ x2).setCell ⟨g,3,none⟩ x3).setCell ⟨g,4,none⟩ x4).setCell ⟨g,5,none⟩ x5).setCell ⟨g,6,none⟩ x6).setCell ⟨g,7,none⟩ x7).setCell ⟨g,8,none⟩ x8).setCell ⟨g,9,none⟩ x9).setCell ⟨g,10,none⟩ x10).setCell ⟨g,11,none⟩ x11).setCell ⟨g,12,none⟩ x12).setCell ⟨g,13,none⟩ x13).setCell ⟨g,14,none⟩ x14):=
 (bset (bset (bset (bset (bset (bset (bset (bset (bset (bset (bset (bset (bset (bset (bset h hp 0 x0) hp 1 x1) hp 2 x2) hp 3 x3) hp 4 x4) hp 5 x5) hp 6 x6) hp 7 x7) hp 8 x8) hp 9 x9) hp 10 x10) hp 11 x11) hp 12 x12) hp 13 x13) hp 14 x14)
abbrev tS : TypeId:=32
def Zero15 : Array Value:=#[.int .i64 0,.int .i64 0,.slice none 0 0,.int .i64 0,.int .i64 0,.slice none 0 0,.int .i64 0,.int .i64 0,.slice none 0 0,.int .i64 0,.int .i64 0,.slice none 0 0,.int .i64 0,.int .i64 0,.slice none 0 0]
def WorkNew (n : Nat) : World->Value->Prop:=fun w v=>∃g,v = .pointer (some ⟨g,0,none⟩)/\Blk w g tW #[.int .i64 0,.int .i64 0,.slice none 0 0,.int .i64 0,.int .i64 0,.slice none 0 0,.int .i64 0,.int .i64 0,.slice none 0 0,.int .i64 0,.int .i64 0,.slice none 0 0,.int .i64 0,.int .i64 0,.slice none 0 0]/\n<=g
theorem lastsB_workNew (n : Nat) : LastsB (WorkNew n):=fun _ _ _ x ⟨g,h1,h2,h3⟩=>⟨g,h1,h2.below x,h3⟩
theorem FiveV.work {w W : World} {n0 g R C Cu Cw : Nat} {z : W5} {so sc uo uc vo vc wo wc xo xc} {cs : Array Value} (hg : Blk w g tW cs) (hn : n0<=g)
  (h : FiveV n0 R C Cu Cw z w (.agg #[.int .i64 R,.int .i64 C,.slice so R sc,.int .i64 R,.int .i64 Cu,.slice uo R uc,.int .i64 R,.int .i64 Cu,.slice vo R vc,.int .i64 C,.int .i64 Cw,.slice wo C wc,.int .i64 C,.int .i64 Cw,.slice xo C xc]))
  (hW : Blk W g tW #[.int .i64 R,.int .i64 C,.slice so R sc,.int .i64 R,.int .i64 Cu,.slice uo R uc,.int .i64 R,.int .i64 Cu,.slice vo R vc,.int .i64 C,.int .i64 Cw,.slice wo C wc,.int .i64 C,.int .i64 Cw,.slice xo C xc])
  (ho : OnlyZ (fun b=>b = g) w W) : ∃bS bU bV bW bX,WorkV W n0 g R C R C Cu Cw (.slice so R sc) (.slice uo R uc) (.slice vo R vc) (.slice wo C wc) (.slice xo C xc) bS bU bV bW bX z:=by
 obtain ⟨so',sc',uo',uc',vo',vc',wo',wc',xo',xc',bS,bU,bV,bW,bX,e,m1,m2,m3,m4,m5,hz,a1,a2,a3,a4,a5,a6,a7,a8,a9,a10⟩:=h.ex
 injection e with e
 simp only [Array.mk.injEq,List.cons.injEq,Value.slice.injEq,true_and,and_true] at e
 obtain ⟨⟨rfl,rfl⟩,⟨rfl,rfl⟩,⟨rfl,rfl⟩,⟨rfl,rfl⟩,rfl,rfl⟩:=e
 refine ⟨bS,bU,bV,bW,bX,hW,hn,m1.keepZ ho ?_,m2.keepZ ho ?_,m3.keepZ ho ?_,m4.keepZ ho ?_,m5.keepZ ho ?_,hz,a1,a2,a3,a4,a5,a6,a7,a8,a9,a10⟩
 ·rintro b hb rfl; exact m1.nwb hg hb
 ·rintro b hb rfl; exact m2.nwb hg hb
 ·rintro b hb rfl; exact m3.nwb hg hb
 ·rintro b hb rfl; exact m4.nwb hg hb
 ·rintro b hb rfl; exact m5.nwb hg hb
end Go.Proofs.YtnocgagoaldfnaaGreat
