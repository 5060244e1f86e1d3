/- smith: work.run. -/
import Derived.Test.YtnocgagoaldfnaaGreatD34
set_option linter.unusedVariables false
set_option linter.unusedSimpArgs false
set_option linter.unusedSectionVars false
namespace Go.Proofs.YtnocgagoaldfnaaGreat
open Go.RowKit
theorem VecO.shape {w : World} {base : Nat} {v : Value} {zs : List Int} (h : VecO w base v zs) : ∃o c,v = .slice o zs.length c:=by
 obtain ⟨cells,h1,-⟩:=h
 rcases h1.2 with ⟨rfl,h0⟩ | ⟨g,cap,cur,rfl,-⟩
 ·exact ⟨none,0,by rw [h0]⟩
 ·exact ⟨_,_,rfl⟩
theorem divI_succ (m i : Nat) (F : Nat->Nat->Int) : divI (m + 1) i F = divI m (i + 1) (divJ i m (i + 1) F):=rfl
theorem divJ_succ (i m j : Nat) (F : Nat->Nat->Int) : divJ i (m + 1) j F = divJ i m (j + 1) (if F i i ∣ F j j then F else divS F i j):=rfl
theorem Exit.jump_normal {Q : Exit->Act->World->Prop} {a : Act} {w : World} {l : Nat} {J : Act->World->Prop} : Exit.jump l J Q .normal a w = Q .normal a w:=rfl
theorem diagGo_genM_aux {R C : Nat} {F : Nat->Nat->Int} : ∀(d i : Nat),i + d = R->(diagGo i ((genM R C F).drop i) = true ↔ ∀a,i<=a->a < R->∀b,b < C->a ≠ b->F a b = 0):=by
 intro d
 induction d with
 | zero=>
  intro i h
  have h1 : (genM R C F).drop i = []:=List.drop_eq_nil_of_le (by simp [genM]; omega)
  rw [h1]
  exact ⟨fun _ a h1 h2=>by omega,fun _=>rfl⟩
 | succ d ih=>
  intro i h
  have hi : i < R:=by omega
  rw [drop_cons (genM_row R C F hi)]
  unfold diagGo
  rw [Bool.and_eq_true,decide_eq_true_eq,ih (i + 1) oM]
  have hrow : OffZero i ((List.range C).map (F i)).length ((List.range C).map (F i)) ↔ ∀b,b < C->i ≠ b->F i b = 0:=by
   unfold OffZero
   rw [show ((List.range C).map (F i)).length = C by simp]
   refine ⟨fun hh b hb hn=>?_,fun hh k hk hn=>?_⟩
   ·have:=hh b hb (Ne.symm hn)
    rwa [show ((List.range C).map (F i)).getD b 0 = F i b by simp [List.getD_eq_getElem?_getD,hb]] at this
   ·rw [show ((List.range C).map (F i)).getD k 0 = F i k by simp [List.getD_eq_getElem?_getD,hk]]
    exact hh k hk (Ne.symm hn)
  rw [hrow]
  refine ⟨fun hh a h1 h2 b hb hn=>?_,fun hh=>⟨fun b hb hn=>hh i (Nat.le_refl _) hi b hb hn,fun a h1 h2 b hb hn=>hh a oM h2 b hb hn⟩⟩
  by_cases e : a = i
  ·subst e; exact hh.1 b hb hn
  ·exact hh.2 a oM h2 b hb hn
theorem diagGo_genM (R C : Nat) (F : Nat->Nat->Int) : diagGo 0 (genM R C F) = decide (diagF R C F):=by
 have h:=diagGo_genM_aux (R:=R) (C:=C) (F:=F) R 0 oM
 rw [List.drop_zero] at h
 by_cases hd : diagF R C F
 ·rw [decide_eq_true hd]
  exact h.2 (fun a _ ha=>hd a ha)
 ·rw [decide_eq_false hd]
  cases hb : diagGo 0 (genM R C F) with
  | false=>rfl
  | true=>exact absurd (fun a ha=>h.1 hb a (Nat.zero_le _) ha) hd
set_option maxHeartbeats 8000000 in
set_option maxRecDepth 20000 in
theorem wrun_any {B : Nat} (hB : BSd B) {w : World} {base wb R C Cu Cw : Nat} {AS AU AV AW AX : Value} {bS bU bV bW bX : List Nat} {z : W5} (h : WorkV w base wb R C R C Cu Cw AS AU AV AW AX bS bU bV bW bX z) (hbase : base<=w.heap.size) (hok : okW B R C Cu Cw z)
  (hR : R<=1000000) (hC : C<=1000000) (hCu : Cu<=1000000) (hCw : Cw<=1000000) {f rr : Nat} {y : W5} (hrun : runGo B R C Cu Cw f rr z = some y)
  (hdiv : ∀y',DivR (min R C) y y'->∀i j,i < j->j < min R C->¬ y'.s i i ∣ y'.s j j->DivOk B C Cu Cw y' i j) (hel : ∀y',DivR (min R C) y y'->∀i,i < min R C->(y'.s i i).natAbs < B) :
  Calls Tryz.prog 50 #[.pointer (some ⟨wb,0,none⟩)] w fun e w'=>(∃u,e = .returned u)/\OnlyZ (fun b=>base<=b) w w' ∧
   ∃AS' bS' bU' bV' bW' bX' y',DivR (min R C) y y'/\y'.s = divI (min R C) 0 y.s/\WorkV w' base wb R C R C Cu Cw AS' AU AV AW AX bS' bU' bV' bW' bX' y':=by
 have hBm:=hB.bsm
 obtain ⟨uo,uc,rfl⟩:=h.mU.shape
 obtain ⟨vo,vc,rfl⟩:=h.mV.shape
 obtain ⟨wo,wc,rfl⟩:=h.mW.shape
 obtain ⟨xo,xc,rfl⟩:=h.mX.shape
 have HDIV:=HidS.mk hdiv
 have HEL:=HidS.mk hel
 have HH:=HidS.mk h
 have HOK:=HidS.mk hok
 have HRUN:=HidS.mk hrun
 clear hdiv hel h hok hrun
 go_enter Tryz.func50,Tryz.ntmps50
 obtain ⟨JF,hJF⟩ : ∃JF : Nat->Act->World->Prop,∀r a' wt,JF r a' wt ↔ ∃(u5 u6 u7 u8 u9 u10 u11 u12 u13 u14 u15 u16 u17 u18 u19 u20 u21 u22 u23 u24 u25 u26 u27 u28 u29 u30 u31 u32 u33 u34 u35 u36 u37 u38 u39 u40 u41 u42 u43 u44 u45 u46 u47 u48 u49 u50 u51 u52 u53 u54 u55 u56 u57 u58 u59 u60 u61 u62 u63 u64 u65 u66 u67 u68 u69 u70 u71 : Value),a' = { tmps:=#[.pointer (some ⟨wb,0,none⟩),undef,undef,undef,undef,u5,u6,u7,u8,u9,u10,u11,u12,u13,u14,u15,u16,u17,u18,u19,u20,u21,u22,u23,u24,u25,u26,u27,u28,u29,u30,u31,u32,u33,u34,u35,u36,u37,u38,u39,u40,u41,u42,u43,u44,u45,u46,u47,u48,u49,u50,u51,u52,u53,u54,u55,u56,u57,u58,u59,u60,u61,u62,u63,u64,u65,u66,u67,u68,u69,u70,u71,undef,undef,undef,undef,undef,undef,undef,undef,undef,undef,undef,undef,undef,undef,undef,undef,undef,undef,undef,undef,undef,undef,undef,undef,undef,undef,undef,undef,undef,undef,undef,undef,undef,undef,undef,undef,undef,undef,undef,undef,undef,undef,undef,undef,undef,undef,undef,undef,undef],defers:=[] } ∧
  OnlyZ (fun b=>base<=b) w wt/\HidS (∃AS' bS' bU' bV' bW' bX' z',WorkV wt base wb R C R C Cu Cw AS' (.slice uo R uc) (.slice vo R vc) (.slice wo C wc) (.slice xo C xc) bS' bU' bV' bW' bX' z'/\okW B R C Cu Cw z'/\runGo B R C Cu Cw f r z' = some y):=⟨_,fun _ _ _=>Iff.rfl⟩
 have HJF:=HidS.mk hJF
 clear hJF
 refine wp_scope_label0 (fun a' wt=>∃r,JF r a' wt) (fun a' wt=>leastOf (fun r=>JF r a' wt)) ?_ ?_
 ·exact ⟨rr,(HJF.out _ _ _).2 ⟨_,_,_,_,_,_,_,_,_,_,_,_,_,_,_,_,_,_,_,_,_,_,_,_,_,_,_,_,_,_,_,_,_,_,_,_,_,_,_,_,_,_,_,_,_,_,_,_,_,_,_,_,_,_,_,_,_,_,_,_,_,_,_,_,_,_,_,rfl,OnlyZ.refl _ _,⟨⟨AS,bS,bU,bV,bW,bX,z,HH.out,HOK.out,HRUN.out⟩⟩⟩⟩
 ·intro a' wr hJ
  obtain ⟨f1,hJ⟩:=hJ
  replace hJ:=(leastOf_spec (P:=fun r=>JF r a' wr) hJ).1
  generalize leastOf (fun r=>JF r a' wr) = f0 at hJ ⊢
  rw [HJF.out] at hJ
  obtain ⟨u5,u6,u7,u8,u9,u10,u11,u12,u13,u14,u15,u16,u17,u18,u19,u20,u21,u22,u23,u24,u25,u26,u27,u28,u29,u30,u31,u32,u33,u34,u35,u36,u37,u38,u39,u40,u41,u42,u43,u44,u45,u46,u47,u48,u49,u50,u51,u52,u53,u54,u55,u56,u57,u58,u59,u60,u61,u62,u63,u64,u65,u66,u67,u68,u69,u70,u71,rfl,hO,hox⟩:=hJ
  obtain ⟨AS0,bS0,bU0,bV0,bW0,bX0,z0,hw,hok,hrun⟩:=hox.out
  obtain ⟨ao,ac,rfl⟩:=hw.mS.shape
  clear hox HOK HRUN HH
  cases f0 with
  | zero=>cases hrun
  | succ r=>
   unfold runGo at hrun
   rw [Option.bind_eq_some_iff] at hrun
   obtain ⟨y1,hround,hrest⟩:=hrun
   unfold roundW at hround
   rw [Option.bind_eq_some_iff] at hround
   obtain ⟨e1,hech1,h2⟩:=hround
   rw [Option.bind_eq_some_iff] at h2
   obtain ⟨e2,hech2,h3⟩:=h2
   injection h3 with h3
   have HY1:=HidS.mk h3
   have HREST:=HidS.mk hrest
   have HE1:=HidS.mk hech1
   have HE2:=HidS.mk hech2
   have HOK:=HidS.mk hok
   have HW:=HidS.mk hw
   clear hrest hech1 hech2 h3 hok
   obtain ⟨k0,k1,k2,k5,k8,k11,k14,-,-,-⟩:=hw.blk.fifteen
   have lw0:=hw.blk.lt
   clear hw
   go_upto_region 0 with (fail)
   refine wp_region_headed 19 rfl (RI wr (wr.heap.size) _ 45
     [⟨0,5,fun _ v=>v = .pointer (some ⟨wb,0,none⟩)⟩,⟨1,6,fun _ v=>v = .pointer (some ⟨wb,0,none⟩)⟩,⟨2,7,fun _ v=>v = .pointer (some ⟨wb,0,none⟩)⟩,⟨3,8,fun _ v=>v = .pointer (some ⟨wb,0,none⟩)⟩,⟨4,9,fun _ v=>v = .pointer (some ⟨wb,2,none⟩)⟩,⟨5,10,fun _ v=>v = .slice ao R ac⟩,⟨6,11,fun _ v=>v = .pointer (some ⟨wb,0,none⟩)⟩,⟨7,12,fun _ v=>v = .pointer (some ⟨wb,0,none⟩)⟩,⟨8,13,fun _ v=>v = .pointer (some ⟨wb,0,none⟩)⟩,⟨9,14,fun _ v=>v = .pointer (some ⟨wb,3,none⟩)⟩,⟨10,15,fun _ v=>v = .pointer (some ⟨wb,5,none⟩)⟩,⟨11,16,fun _ v=>v = .slice uo R uc⟩,⟨12,17,fun _ v=>v = .pointer (some ⟨wb,0,none⟩)⟩,⟨13,18,fun _ v=>v = .pointer (some ⟨wb,0,none⟩)⟩,⟨14,19,fun _ v=>v = .pointer (some ⟨wb,0,none⟩)⟩,⟨15,20,fun _ v=>v = .pointer (some ⟨wb,6,none⟩)⟩,⟨16,21,fun _ v=>v = .pointer (some ⟨wb,8,none⟩)⟩,⟨17,22,fun _ v=>v = .slice vo R vc⟩,⟨18,23,fun _ v=>v = .agg #[.slice ao R ac,.slice uo R uc,.slice vo R vc]⟩]
     [] []) kR RI.start ?fin1 ?steps1
   case steps1=>
    refine ⟨?_,?_,?_,?_,?_,?_,?_,?_,?_,?_,?_,?_,?_,?_,?_,?_,?_,?_,?_,trivial⟩ <;> (intro L T wS hL hd hcl hI K hK; try refine step_wanted rfl ?_)
    ·have zt : T[0]? = some (.pointer (some ⟨wb,0,none⟩)):=hI.keep 0 sI sI
     go_simp
     exact hK _ _ (hI.y mm0 rfl)
    ·obtain ⟨v0,zt0,rfl⟩:=hI.v mm0 (hd 0)
     go_simp
     exact hK _ _ (hI.y mm1 rfl)
    ·obtain ⟨v1,zt1,rfl⟩:=hI.v mm1 (hd 1)
     go_simp
     exact hK _ _ (hI.y mm2 rfl)
    ·obtain ⟨v2,zt2,rfl⟩:=hI.v mm2 (hd 2)
     go_simp
     exact hK _ _ (hI.y mm3 rfl)
    ·obtain ⟨v3,zt3,rfl⟩:=hI.v mm3 (hd 3)
     go_simp
     exact hK _ _ (hI.y mm4 rfl)
    ·obtain ⟨v4,zt4,rfl⟩:=hI.v mm4 (hd 4)
     have cc0:=hI.cell k2 oM nom
     go_simp
     exact hK _ _ (hI.y mm5 rfl)
    ·have zt : T[0]? = some (.pointer (some ⟨wb,0,none⟩)):=hI.keep 0 sI sI
     go_simp
     exact hK _ _ (hI.y mm6 rfl)
    ·obtain ⟨v6,zt6,rfl⟩:=hI.v mm6 (hd 6)
     go_simp
     exact hK _ _ (hI.y mm7 rfl)
    ·obtain ⟨v7,zt7,rfl⟩:=hI.v mm7 (hd 7)
     go_simp
     exact hK _ _ (hI.y mm8 rfl)
    ·obtain ⟨v8,zt8,rfl⟩:=hI.v mm8 (hd 8)
     go_simp
     exact hK _ _ (hI.y mm9 rfl)
    ·obtain ⟨v9,zt9,rfl⟩:=hI.v mm9 (hd 9)
     go_simp
     exact hK _ _ (hI.y mm10 rfl)
    ·obtain ⟨v10,zt10,rfl⟩:=hI.v mm10 (hd 10)
     have cc0:=hI.cell k5 oM nom
     go_simp
     exact hK _ _ (hI.y mm11 rfl)
    ·have zt : T[0]? = some (.pointer (some ⟨wb,0,none⟩)):=hI.keep 0 sI sI
     go_simp
     exact hK _ _ (hI.y mm12 rfl)
    ·obtain ⟨v12,zt12,rfl⟩:=hI.v mm12 (hd 12)
     go_simp
     exact hK _ _ (hI.y mm13 rfl)
    ·obtain ⟨v13,zt13,rfl⟩:=hI.v mm13 (hd 13)
     go_simp
     exact hK _ _ (hI.y mm14 rfl)
    ·obtain ⟨v14,zt14,rfl⟩:=hI.v mm14 (hd 14)
     go_simp
     exact hK _ _ (hI.y mm15 rfl)
    ·obtain ⟨v15,zt15,rfl⟩:=hI.v mm15 (hd 15)
     go_simp
     exact hK _ _ (hI.y mm16 rfl)
    ·obtain ⟨v16,zt16,rfl⟩:=hI.v mm16 (hd 16)
     have cc0:=hI.cell k8 oM nom
     go_simp
     exact hK _ _ (hI.y mm17 rfl)
    ·obtain ⟨v5,zt5,rfl⟩:=hI.v mm5 (hd 5)
     obtain ⟨v11,zt11,rfl⟩:=hI.v mm11 (hd 11)
     obtain ⟨v17,zt17,rfl⟩:=hI.v mm17 (hd 17)
     go_simp
     exact hK _ _ (hI.y mm18 rfl)
   intro T w1 hI
   obtain ⟨va0,q0,rfl⟩:=hI.v mm0 rfl
   obtain ⟨va1,q1,rfl⟩:=hI.v mm1 rfl
   obtain ⟨va2,q2,rfl⟩:=hI.v mm2 rfl
   obtain ⟨va3,q3,rfl⟩:=hI.v mm3 rfl
   obtain ⟨va4,q4,rfl⟩:=hI.v mm4 rfl
   obtain ⟨va5,q5,rfl⟩:=hI.v mm5 rfl
   obtain ⟨va6,q6,rfl⟩:=hI.v mm6 rfl
   obtain ⟨va7,q7,rfl⟩:=hI.v mm7 rfl
   obtain ⟨va8,q8,rfl⟩:=hI.v mm8 rfl
   obtain ⟨va9,q9,rfl⟩:=hI.v mm9 rfl
   obtain ⟨va10,q10,rfl⟩:=hI.v mm10 rfl
   obtain ⟨va11,q11,rfl⟩:=hI.v mm11 rfl
   obtain ⟨va12,q12,rfl⟩:=hI.v mm12 rfl
   obtain ⟨va13,q13,rfl⟩:=hI.v mm13 rfl
   obtain ⟨va14,q14,rfl⟩:=hI.v mm14 rfl
   obtain ⟨va15,q15,rfl⟩:=hI.v mm15 rfl
   obtain ⟨va16,q16,rfl⟩:=hI.v mm16 rfl
   obtain ⟨va17,q17,rfl⟩:=hI.v mm17 rfl
   obtain ⟨va18,q18,rfl⟩:=hI.v mm18 rfl
   have hT:=tmps_set [(5,.pointer (some ⟨wb,0,none⟩)),(6,.pointer (some ⟨wb,0,none⟩)),(7,.pointer (some ⟨wb,0,none⟩)),(8,.pointer (some ⟨wb,0,none⟩)),(9,.pointer (some ⟨wb,2,none⟩)),(10,.slice ao R ac),(11,.pointer (some ⟨wb,0,none⟩)),(12,.pointer (some ⟨wb,0,none⟩)),(13,.pointer (some ⟨wb,0,none⟩)),(14,.pointer (some ⟨wb,3,none⟩)),(15,.pointer (some ⟨wb,5,none⟩)),(16,.slice uo R uc),(17,.pointer (some ⟨wb,0,none⟩)),(18,.pointer (some ⟨wb,0,none⟩)),(19,.pointer (some ⟨wb,0,none⟩)),(20,.pointer (some ⟨wb,6,none⟩)),(21,.pointer (some ⟨wb,8,none⟩)),(22,.slice vo R vc),(23,.agg #[.slice ao R ac,.slice uo R uc,.slice vo R vc])]
    (fun j hj=>hI.keep j (by simp only [List.forall_mem_cons] at hj ⊢; simp [hj]) (by simp only [List.forall_mem_cons] at hj ⊢; simp [hj]))
    (by simp only [List.forall_mem_cons]; simp [q0,q1,q2,q3,q4,q5,q6,q7,q8,q9,q10,q11,q12,q13,q14,q15,q16,q17,q18]) hI.size
   have hlw1:=hI.lext
   have hbw1:=hI.bel (wr.heap.size) oM nom
   have holdw1:=hI.old
   clear hI
   simp only [List.foldl_cons,List.foldl_nil,List.setIfInBounds_toArray,List.set_cons_zero,List.set_cons_succ,ptr] at hT
   subst hT
   clear q0 q1 q2 q3 q4 q5 q6 q7 q8 q9 q10 q11 q12 q13 q14 q15 q16 q17 q18
   simp only [List.drop_succ_cons,List.drop_zero]
   have hO:=hO.trans (OnlyZ.of _ hbw1)
   have HW:=HidS.mk (HW.out.below hbw1)
   clear k0 k1 k2 k5 k8 k11 k14 lw0
   go_wp2_with fail
   refine (echelon_any hBm HW.out.zlt1 HW.out.band1 ⟨HOK.out.1,HOK.out.2.1,HOK.out.2.2.1⟩ hR hC hCu HE1.out).mono ?_
   rintro e w2 ⟨⟨uu2,rfl⟩,hO2,hz2,hok2⟩
   obtain ⟨⟨bS1,bU1,bV1,hw2⟩,hO2'⟩:=HW.out.after1 hO2 hz2
   have hO:=hO.trans hO2'
   have HW2:=HidS.mk hw2
   have HOK2:=HidS.mk hok2
   obtain ⟨k0,k1,k2,k5,k8,k11,k14,k15,k16,k17⟩:=hw2.blk.fifteen
   have lw0:=hw2.blk.lt
   clear hw2 hok2 hz2 HW
   go_wp2_with fail
   refine (transposeW hBm HW2.out.mS HOK2.out.1 hR hC).mono ?_
   rintro e w3 ⟨so,sc,bs3,rfl,hs3,hf3,hb3⟩
   have k0:=kc_below k0 hb3
   obtain ⟨q0,q1,q2,q5,q8,q11,q14,q15,q16,q17⟩:=(HW2.out.below hb3).blk.fifteen
   have hset:=(HW2.out.below hb3).setS hs3 hf3 HW2.out.zltR (by have:=HW2.out.wbb; omega)
   have HSET:=HidS.mk hset
   have hszb:=hb3.size
   clear k0 k1 k2 k5 k8 k11 k14 k15 k16 k17 hset hs3 hf3
   go_upto_region 2 with (fail)
   refine wp_world ?_
   intro W4 hW4
   rw [<-hW4.out] at HSET
   obtain ⟨hw4,hO4⟩:=HSET.out
   have hO:=(hO.trans (OnlyZ.of _ hb3)).trans hO4
   have HW:=HidS.mk hw4
   obtain ⟨k0,k1,k2,k5,k8,k11,k14,-,-,-⟩:=hw4.blk.fifteen
   have lw0:=hw4.blk.lt
   clear hw4 hO4 HSET q0 q1 q2 q5 q8 q11 q14 q15 q16 q17 hW4 HW2
   refine wp_region_headed 19 rfl (RI W4 (W4.heap.size) _ 45
     [⟨0,35,fun _ v=>v = .pointer (some ⟨wb,0,none⟩)⟩,⟨1,36,fun _ v=>v = .pointer (some ⟨wb,0,none⟩)⟩,⟨2,37,fun _ v=>v = .pointer (some ⟨wb,0,none⟩)⟩,⟨3,38,fun _ v=>v = .pointer (some ⟨wb,0,none⟩)⟩,⟨4,39,fun _ v=>v = .pointer (some ⟨wb,2,none⟩)⟩,⟨5,40,fun _ v=>v = .slice so C sc⟩,⟨6,41,fun _ v=>v = .pointer (some ⟨wb,0,none⟩)⟩,⟨7,42,fun _ v=>v = .pointer (some ⟨wb,0,none⟩)⟩,⟨8,43,fun _ v=>v = .pointer (some ⟨wb,0,none⟩)⟩,⟨9,44,fun _ v=>v = .pointer (some ⟨wb,9,none⟩)⟩,⟨10,45,fun _ v=>v = .pointer (some ⟨wb,11,none⟩)⟩,⟨11,46,fun _ v=>v = .slice wo C wc⟩,⟨12,47,fun _ v=>v = .pointer (some ⟨wb,0,none⟩)⟩,⟨13,48,fun _ v=>v = .pointer (some ⟨wb,0,none⟩)⟩,⟨14,49,fun _ v=>v = .pointer (some ⟨wb,0,none⟩)⟩,⟨15,50,fun _ v=>v = .pointer (some ⟨wb,12,none⟩)⟩,⟨16,51,fun _ v=>v = .pointer (some ⟨wb,14,none⟩)⟩,⟨17,52,fun _ v=>v = .slice xo C xc⟩,⟨18,53,fun _ v=>v = .agg #[.slice so C sc,.slice wo C wc,.slice xo C xc]⟩]
     [] []) kR RI.start ?fin2 ?steps2
   case steps2=>
    refine ⟨?_,?_,?_,?_,?_,?_,?_,?_,?_,?_,?_,?_,?_,?_,?_,?_,?_,?_,?_,trivial⟩ <;> (intro L T wS hL hd hcl hI K hK; try refine step_wanted rfl ?_)
    ·have zt : T[0]? = some (.pointer (some ⟨wb,0,none⟩)):=hI.keep 0 sI sI
     go_simp
     exact hK _ _ (hI.y mm0 rfl)
    ·obtain ⟨v0,zt0,rfl⟩:=hI.v mm0 (hd 0)
     go_simp
     exact hK _ _ (hI.y mm1 rfl)
    ·obtain ⟨v1,zt1,rfl⟩:=hI.v mm1 (hd 1)
     go_simp
     exact hK _ _ (hI.y mm2 rfl)
    ·obtain ⟨v2,zt2,rfl⟩:=hI.v mm2 (hd 2)
     go_simp
     exact hK _ _ (hI.y mm3 rfl)
    ·obtain ⟨v3,zt3,rfl⟩:=hI.v mm3 (hd 3)
     go_simp
     exact hK _ _ (hI.y mm4 rfl)
    ·obtain ⟨v4,zt4,rfl⟩:=hI.v mm4 (hd 4)
     have cc0:=hI.cell k2 oM nom
     go_simp
     exact hK _ _ (hI.y mm5 rfl)
    ·have zt : T[0]? = some (.pointer (some ⟨wb,0,none⟩)):=hI.keep 0 sI sI
     go_simp
     exact hK _ _ (hI.y mm6 rfl)
    ·obtain ⟨v6,zt6,rfl⟩:=hI.v mm6 (hd 6)
     go_simp
     exact hK _ _ (hI.y mm7 rfl)
    ·obtain ⟨v7,zt7,rfl⟩:=hI.v mm7 (hd 7)
     go_simp
     exact hK _ _ (hI.y mm8 rfl)
    ·obtain ⟨v8,zt8,rfl⟩:=hI.v mm8 (hd 8)
     go_simp
     exact hK _ _ (hI.y mm9 rfl)
    ·obtain ⟨v9,zt9,rfl⟩:=hI.v mm9 (hd 9)
     go_simp
     exact hK _ _ (hI.y mm10 rfl)
    ·obtain ⟨v10,zt10,rfl⟩:=hI.v mm10 (hd 10)
     have cc0:=hI.cell k11 oM nom
     go_simp
     exact hK _ _ (hI.y mm11 rfl)
    ·have zt : T[0]? = some (.pointer (some ⟨wb,0,none⟩)):=hI.keep 0 sI sI
     go_simp
     exact hK _ _ (hI.y mm12 rfl)
    ·obtain ⟨v12,zt12,rfl⟩:=hI.v mm12 (hd 12)
     go_simp
     exact hK _ _ (hI.y mm13 rfl)
    ·obtain ⟨v13,zt13,rfl⟩:=hI.v mm13 (hd 13)
     go_simp
     exact hK _ _ (hI.y mm14 rfl)
    ·obtain ⟨v14,zt14,rfl⟩:=hI.v mm14 (hd 14)
     go_simp
     exact hK _ _ (hI.y mm15 rfl)
    ·obtain ⟨v15,zt15,rfl⟩:=hI.v mm15 (hd 15)
     go_simp
     exact hK _ _ (hI.y mm16 rfl)
    ·obtain ⟨v16,zt16,rfl⟩:=hI.v mm16 (hd 16)
     have cc0:=hI.cell k14 oM nom
     go_simp
     exact hK _ _ (hI.y mm17 rfl)
    ·obtain ⟨v5,zt5,rfl⟩:=hI.v mm5 (hd 5)
     obtain ⟨v11,zt11,rfl⟩:=hI.v mm11 (hd 11)
     obtain ⟨v17,zt17,rfl⟩:=hI.v mm17 (hd 17)
     go_simp
     exact hK _ _ (hI.y mm18 rfl)
   intro T w5 hI
   obtain ⟨vb0,q0,rfl⟩:=hI.v mm0 rfl
   obtain ⟨vb1,q1,rfl⟩:=hI.v mm1 rfl
   obtain ⟨vb2,q2,rfl⟩:=hI.v mm2 rfl
   obtain ⟨vb3,q3,rfl⟩:=hI.v mm3 rfl
   obtain ⟨vb4,q4,rfl⟩:=hI.v mm4 rfl
   obtain ⟨vb5,q5,rfl⟩:=hI.v mm5 rfl
   obtain ⟨vb6,q6,rfl⟩:=hI.v mm6 rfl
   obtain ⟨vb7,q7,rfl⟩:=hI.v mm7 rfl
   obtain ⟨vb8,q8,rfl⟩:=hI.v mm8 rfl
   obtain ⟨vb9,q9,rfl⟩:=hI.v mm9 rfl
   obtain ⟨vb10,q10,rfl⟩:=hI.v mm10 rfl
   obtain ⟨vb11,q11,rfl⟩:=hI.v mm11 rfl
   obtain ⟨vb12,q12,rfl⟩:=hI.v mm12 rfl
   obtain ⟨vb13,q13,rfl⟩:=hI.v mm13 rfl
   obtain ⟨vb14,q14,rfl⟩:=hI.v mm14 rfl
   obtain ⟨vb15,q15,rfl⟩:=hI.v mm15 rfl
   obtain ⟨vb16,q16,rfl⟩:=hI.v mm16 rfl
   obtain ⟨vb17,q17,rfl⟩:=hI.v mm17 rfl
   obtain ⟨vb18,q18,rfl⟩:=hI.v mm18 rfl
   have hT:=tmps_set [(35,.pointer (some ⟨wb,0,none⟩)),(36,.pointer (some ⟨wb,0,none⟩)),(37,.pointer (some ⟨wb,0,none⟩)),(38,.pointer (some ⟨wb,0,none⟩)),(39,.pointer (some ⟨wb,2,none⟩)),(40,.slice so C sc),(41,.pointer (some ⟨wb,0,none⟩)),(42,.pointer (some ⟨wb,0,none⟩)),(43,.pointer (some ⟨wb,0,none⟩)),(44,.pointer (some ⟨wb,9,none⟩)),(45,.pointer (some ⟨wb,11,none⟩)),(46,.slice wo C wc),(47,.pointer (some ⟨wb,0,none⟩)),(48,.pointer (some ⟨wb,0,none⟩)),(49,.pointer (some ⟨wb,0,none⟩)),(50,.pointer (some ⟨wb,12,none⟩)),(51,.pointer (some ⟨wb,14,none⟩)),(52,.slice xo C xc),(53,.agg #[.slice so C sc,.slice wo C wc,.slice xo C xc])]
    (fun j hj=>hI.keep j (by simp only [List.forall_mem_cons] at hj ⊢; simp [hj]) (by simp only [List.forall_mem_cons] at hj ⊢; simp [hj]))
    (by simp only [List.forall_mem_cons]; simp [q0,q1,q2,q3,q4,q5,q6,q7,q8,q9,q10,q11,q12,q13,q14,q15,q16,q17,q18]) hI.size
   have hlw5:=hI.lext
   have hbw5:=hI.bel (W4.heap.size) oM nom
   have holdw5:=hI.old
   clear hI
   simp only [List.foldl_cons,List.foldl_nil,List.setIfInBounds_toArray,List.set_cons_zero,List.set_cons_succ,ptr] at hT
   subst hT
   clear q0 q1 q2 q3 q4 q5 q6 q7 q8 q9 q10 q11 q12 q13 q14 q15 q16 q17 q18
   simp only [List.drop_succ_cons,List.drop_zero]
   have hO:=hO.trans (OnlyZ.of _ hbw5)
   have HW:=HidS.mk (HW.out.below hbw5)
   clear k0 k1 k2 k5 k8 k11 k14 lw0
   have hokt : okF B C R (trF e1.s):=fun a ha b hb=>HOK2.out.1 b hb a ha
   go_wp2_with fail
   refine (echelon_any hBm HW.out.zlt2 HW.out.band2 ⟨hokt,HOK.out.2.2.2.1,HOK.out.2.2.2.2⟩ hC hR hCw HE2.out).mono ?_
   rintro e w6 ⟨⟨uu6,rfl⟩,hO6,hz6,hok6⟩
   obtain ⟨⟨bS3,bW3,bX3,hw6⟩,hO6'⟩:=HW.out.after2 hO6 hz6
   have hO:=hO.trans hO6'
   have HW2:=HidS.mk hw6
   have HOK6:=HidS.mk hok6
   obtain ⟨k0,k1,k2,k5,k8,k11,k14,k15,k16,k17⟩:=hw6.blk.fifteen
   have lw0:=hw6.blk.lt
   clear hw6 hok6 hz6 HW hokt
   go_wp2_with fail
   refine (transposeW hBm HW2.out.mS HOK6.out.1 hC hR).mono ?_
   rintro e w7 ⟨so7,sc7,bs7,rfl,hs7,hf7,hb7⟩
   obtain ⟨q0,q1,q2,q5,q8,q11,q14,q15,q16,q17⟩:=(HW2.out.below hb7).blk.fifteen
   have hset:=(HW2.out.below hb7).setS hs7 hf7 HW2.out.zltR (by have:=HW2.out.wbb; omega)
   have HSET:=HidS.mk hset
   clear k0 k1 k2 k5 k8 k11 k14 k15 k16 k17 hset hs7 hf7
   go_upto_region 4 with (fail)
   refine wp_world ?_
   intro W8 hW8
   rw [<-hW8.out] at HSET
   obtain ⟨hw8,hO8⟩:=HSET.out
   have hO:=(hO.trans (OnlyZ.of _ hb7)).trans hO8
   have hy1 : (⟨trF e2.s,e1.t,e1.i,e2.t,e2.i⟩ : W5) = y1:=HY1.out
   replace hw8 : WorkV W8 base wb R C R C Cu Cw _ _ _ _ _ _ _ _ _ _ y1:=hy1 ▸ hw8
   have hok1 : okW B R C Cu Cw y1:=hy1 ▸ ⟨fun a ha b hb=>HOK6.out.1 b hb a ha,HOK2.out.2.1,HOK2.out.2.2,HOK6.out.2.1,HOK6.out.2.2⟩
   have HW:=HidS.mk hw8
   have HOKY:=HidS.mk hok1
   obtain ⟨k0,k1,k2,k5,k8,k11,k14,-,-,-⟩:=hw8.blk.fifteen
   have lw0:=hw8.blk.lt
   clear hw8 hok1 hy1 HY1 hO8 HSET q0 q1 q2 q5 q8 q11 q14 q15 q16 q17 hW8 HW2 HOK HOK2 HOK6 HE1 HE2
   go_wp2_with fail
   refine (diagonal_any _ R C (genM R C y1.s) W8 HW.out.mS.mat).mono ?_
   rintro e w9 ⟨rfl,hb9⟩
   rw [diagGo_genM]
   have hO:=hO.trans (OnlyZ.of _ hb9)
   have HW:=HidS.mk (HW.out.below hb9)
   clear k0 k1 k2 k5 k8 k11 k14 lw0
   have hrest:=HREST.out
   clear HREST
   by_cases hd : diagF R C y1.s
   ·rw [if_pos hd] at hrest
    injection hrest with hrest
    subst hrest
    rw [decide_eq_true hd]
    clear hd
    obtain ⟨k0,k1,k2,k5,k8,k11,k14,-,-,-⟩:=HW.out.blk.fifteen
    have lw0:=HW.out.blk.lt
    go_wp2_with fail
    refine (elements_any _ R C (genM R C y1.s) w9 HW.out.mS.mat (genM_fits _ _ _) hR hC).mono ?_
    rintro e w10 ⟨u10,rfl,hvo,hb10⟩
    obtain ⟨eo,ec,rfl⟩:=hvo.shape
    rw [diagL_length]
    have hO:=hO.trans (OnlyZ.of _ hb10)
    have HW:=HidS.mk (HW.out.below hb10)
    clear k0 k1 k2 k5 k8 k11 k14 lw0 hvo
    obtain ⟨n,hn⟩ : ∃n,n = min R C:=⟨_,rfl⟩
    rw [<-hn]
    have hnR : n<=R:=by omega
    have hnC : n<=C:=by omega
    rw [<-hn] at HDIV HEL
    have HN:=HidS.mk hn
    clear hn
    go_wp2
    go_loopw [80] (fun iv wt=>∃(i : Nat) (bS' bU' bV' bW' bX' : List Nat) (y' : W5),iv = .int .i64 i/\i<=n/\OnlyZ (fun b=>base<=b) w wt/\HidS (WorkV wt base wb R C R C Cu Cw (.slice so7 R sc7) (.slice uo R uc) (.slice vo R vc) (.slice wo C wc) (.slice xo C xc) bS' bU' bV' bW' bX' y'/\DivR n y1 y'/\divI (n - i) i y'.s = divI n 0 y1.s)) (fun iv _=>n - (intOf iv).toNat)
    case atStart=>exact ⟨0,_,_,_,_,_,y1,rfl,Nat.zero_le _,hO,⟨⟨HW.out,DivR.refl _,by rw [Nat.sub_zero]⟩⟩⟩
    case round=>
     rename World=>wq
     obtain ⟨i,bS',bU',bV',bW',bX',y',rfl,hi,hO,hH⟩:=hrel
     by_cases hlt : i < n
     ·go_wp2
      go_loopw [4] (fun jv wt=>∃(j : Nat) (bS' bU' bV' bW' bX' : List Nat) (y' : W5),jv = .int .i64 j/\i + 1<=j/\j<=n/\OnlyZ (fun b=>base<=b) w wt/\HidS (WorkV wt base wb R C R C Cu Cw (.slice so7 R sc7) (.slice uo R uc) (.slice vo R vc) (.slice wo C wc) (.slice xo C xc) bS' bU' bV' bW' bX' y'/\DivR n y1 y'/\divI (n - (i + 1)) (i + 1) (divJ i (n - j) j y'.s) = divI n 0 y1.s)) (fun jv _=>n - (intOf jv).toNat)
      case atStart=>
       refine ⟨i + 1,_,_,_,_,_,y',by simp,by omega,by omega,hO,⟨⟨hH.out.1,hH.out.2.1,?_⟩⟩⟩
       have h3:=hH.out.2.2
       obtain ⟨m,hm⟩ : ∃m,n - i = m + 1:=⟨n - i - 1,by omega⟩
       rw [hm,divI_succ] at h3
       rw [show n - (i + 1) = m by omega]
       exact h3
      case round=>
       rename World=>wt
       obtain ⟨j,bS',bU',bV',bW',bX',y',rfl,hij,hj,hO,hH⟩:=hrel
       by_cases hjn : j < n
       ·have h3:=hH.out.2.2
        obtain ⟨m,hm⟩ : ∃m,n - j = m + 1:=⟨n - j - 1,by omega⟩
        have hm2 : n - (j + 1) = m:=by omega
        rw [hm,divJ_succ] at h3
        rw [<-hm2] at h3
        have HT:=HidS.mk h3
        have HD:=HidS.mk hH.out.2.1
        have HW:=HidS.mk hH.out.1
        have S1 : HidS (Smd (y'.s i i)):=⟨hB.smd _ (HEL.out y' HD.out i hlt)⟩
        have S2 : HidS (Smd (y'.s j j)):=⟨hB.smd _ (HEL.out y' HD.out j hjn)⟩
        clear h3 hm hm2 hH
        have hiR : i < R:=by omega
        have hjR : j < R:=by omega
        have hiC : i < C:=by omega
        have hjC : j < C:=by omega
        obtain ⟨gs,bi,eg,hgs,hbi,hbi2,o1,-⟩:=RowsO.at_ HW.out.mS (i:=i) (by rw [HW.out.mS.len]; exact hiR)
        subst eg
        obtain ⟨g2,bj,eg,hg2,hbj,hbj2,o2,-⟩:=RowsO.at_ HW.out.mS (i:=j) (by rw [HW.out.mS.len]; exact hjR)
        obtain rfl : gs = g2:=by injection eg with eg; injection eg
        clear eg
        obtain ⟨xs,xa,xl,xc',p1,p2,-,-,hx⟩:=(HW.out.mS.rowAt hiR hbi).cell (genV_get hiC)
        obtain ⟨ys,ya,yl,yc,r1,r2,-,-,hy⟩:=(HW.out.mS.rowAt hjR hbj).cell (genV_get hjC)
        obtain ⟨k0,k1,k2,k5,k8,k11,k14,-,-,-⟩:=HW.out.blk.fifteen
        have lw0:=HW.out.blk.lt
        go_upto_region 12 with (fail)
        refine wp_region_headed 24 rfl (RI wt (wt.heap.size) _ 45
          [⟨0,90,fun _ v=>v = .pointer (some ⟨wb,0,none⟩)⟩,⟨1,91,fun _ v=>v = .pointer (some ⟨wb,0,none⟩)⟩,⟨2,92,fun _ v=>v = .pointer (some ⟨wb,0,none⟩)⟩,⟨3,93,fun _ v=>v = .pointer (some ⟨wb,0,none⟩)⟩,⟨4,94,fun _ v=>v = .pointer (some ⟨wb,2,none⟩)⟩,⟨5,95,fun _ v=>v = .slice (some ⟨gs,0,none⟩) R sc7⟩,⟨6,96,fun _ v=>v = .int .i64 i⟩,⟨7,97,fun _ v=>v = .pointer (some ⟨gs,i,none⟩)⟩,⟨8,98,fun _ v=>v = .slice (some ⟨bi,0,none⟩) C C⟩,⟨9,99,fun _ v=>v = .int .i64 i⟩,⟨10,100,fun _ v=>v = .pointer (some ⟨bi,i * 2,none⟩)⟩,⟨11,101,fun _ v=>v = .agg #[.bool xs,.slice xa xl xc']⟩,⟨12,102,fun _ v=>v = .pointer (some ⟨wb,0,none⟩)⟩,⟨13,103,fun _ v=>v = .pointer (some ⟨wb,0,none⟩)⟩,⟨14,104,fun _ v=>v = .pointer (some ⟨wb,0,none⟩)⟩,⟨15,105,fun _ v=>v = .pointer (some ⟨wb,0,none⟩)⟩,⟨16,106,fun _ v=>v = .pointer (some ⟨wb,2,none⟩)⟩,⟨17,107,fun _ v=>v = .slice (some ⟨gs,0,none⟩) R sc7⟩,⟨18,108,fun _ v=>v = .int .i64 j⟩,⟨19,109,fun _ v=>v = .pointer (some ⟨gs,j,none⟩)⟩,⟨20,110,fun _ v=>v = .slice (some ⟨bj,0,none⟩) C C⟩,⟨21,111,fun _ v=>v = .int .i64 j⟩,⟨22,112,fun _ v=>v = .pointer (some ⟨bj,j * 2,none⟩)⟩,⟨23,113,fun _ v=>v = .agg #[.bool ys,.slice ya yl yc]⟩]
          [] []) kR RI.start ?fin3 ?steps3
        case steps3=>
         refine ⟨?_,?_,?_,?_,?_,?_,?_,?_,?_,?_,?_,?_,?_,?_,?_,?_,?_,?_,?_,?_,?_,?_,?_,?_,trivial⟩ <;> (intro L T wS hL hd hcl hI K hK; try refine step_wanted rfl ?_)
         ·have zt : T[0]? = some (.pointer (some ⟨wb,0,none⟩)):=hI.keep 0 sI sI
          go_simp
          exact hK _ _ (hI.y mm0 rfl)
         ·obtain ⟨v0,zt0,rfl⟩:=hI.v mm0 (hd 0)
          go_simp
          exact hK _ _ (hI.y mm1 rfl)
         ·obtain ⟨v1,zt1,rfl⟩:=hI.v mm1 (hd 1)
          go_simp
          exact hK _ _ (hI.y mm2 rfl)
         ·obtain ⟨v2,zt2,rfl⟩:=hI.v mm2 (hd 2)
          go_simp
          exact hK _ _ (hI.y mm3 rfl)
         ·obtain ⟨v3,zt3,rfl⟩:=hI.v mm3 (hd 3)
          go_simp
          exact hK _ _ (hI.y mm4 rfl)
         ·obtain ⟨v4,zt4,rfl⟩:=hI.v mm4 (hd 4)
          have cc0:=hI.cell k2 oM nom
          go_simp
          exact hK _ _ (hI.y mm5 rfl)
         ·have zt : T[3]? = some (.int .i64 i):=hI.keep 3 sI sI
          go_simp
          exact hK _ _ (hI.y mm6 rfl)
         ·obtain ⟨v5,zt5,rfl⟩:=hI.v mm5 (hd 5)
          obtain ⟨v6,zt6,rfl⟩:=hI.v mm6 (hd 6)
          go_simp
          exact hK _ _ (hI.y mm7 rfl)
         ·obtain ⟨v7,zt7,rfl⟩:=hI.v mm7 (hd 7)
          have cc0:=hI.cell o1 oM nom
          go_simp
          exact hK _ _ (hI.y mm8 rfl)
         ·have zt : T[3]? = some (.int .i64 i):=hI.keep 3 sI sI
          go_simp
          exact hK _ _ (hI.y mm9 rfl)
         ·obtain ⟨v8,zt8,rfl⟩:=hI.v mm8 (hd 8)
          obtain ⟨v9,zt9,rfl⟩:=hI.v mm9 (hd 9)
          go_simp
          exact hK _ _ (hI.y mm10 rfl)
         ·obtain ⟨v10,zt10,rfl⟩:=hI.v mm10 (hd 10)
          have cc0:=hI.cell p1 oM nom
          have cc1:=hI.cell p2 oM nom
          go_simp
          exact hK _ _ (hI.y mm11 rfl)
         ·have zt : T[0]? = some (.pointer (some ⟨wb,0,none⟩)):=hI.keep 0 sI sI
          go_simp
          exact hK _ _ (hI.y mm12 rfl)
         ·obtain ⟨v12,zt12,rfl⟩:=hI.v mm12 (hd 12)
          go_simp
          exact hK _ _ (hI.y mm13 rfl)
         ·obtain ⟨v13,zt13,rfl⟩:=hI.v mm13 (hd 13)
          go_simp
          exact hK _ _ (hI.y mm14 rfl)
         ·obtain ⟨v14,zt14,rfl⟩:=hI.v mm14 (hd 14)
          go_simp
          exact hK _ _ (hI.y mm15 rfl)
         ·obtain ⟨v15,zt15,rfl⟩:=hI.v mm15 (hd 15)
          go_simp
          exact hK _ _ (hI.y mm16 rfl)
         ·obtain ⟨v16,zt16,rfl⟩:=hI.v mm16 (hd 16)
          have cc0:=hI.cell k2 oM nom
          go_simp
          exact hK _ _ (hI.y mm17 rfl)
         ·have zt : T[4]? = some (.int .i64 j):=hI.keep 4 sI sI
          go_simp
          exact hK _ _ (hI.y mm18 rfl)
         ·obtain ⟨v17,zt17,rfl⟩:=hI.v mm17 (hd 17)
          obtain ⟨v18,zt18,rfl⟩:=hI.v mm18 (hd 18)
          go_simp
          exact hK _ _ (hI.y mm19 rfl)
         ·obtain ⟨v19,zt19,rfl⟩:=hI.v mm19 (hd 19)
          have cc0:=hI.cell o2 oM nom
          go_simp
          exact hK _ _ (hI.y mm20 rfl)
         ·have zt : T[4]? = some (.int .i64 j):=hI.keep 4 sI sI
          go_simp
          exact hK _ _ (hI.y mm21 rfl)
         ·obtain ⟨v20,zt20,rfl⟩:=hI.v mm20 (hd 20)
          obtain ⟨v21,zt21,rfl⟩:=hI.v mm21 (hd 21)
          go_simp
          exact hK _ _ (hI.y mm22 rfl)
         ·obtain ⟨v22,zt22,rfl⟩:=hI.v mm22 (hd 22)
          have cc0:=hI.cell r1 oM nom
          have cc1:=hI.cell r2 oM nom
          go_simp
          exact hK _ _ (hI.y mm23 rfl)
        intro T wv hI
        obtain ⟨vd0,q0,rfl⟩:=hI.v mm0 rfl
        obtain ⟨vd1,q1,rfl⟩:=hI.v mm1 rfl
        obtain ⟨vd2,q2,rfl⟩:=hI.v mm2 rfl
        obtain ⟨vd3,q3,rfl⟩:=hI.v mm3 rfl
        obtain ⟨vd4,q4,rfl⟩:=hI.v mm4 rfl
        obtain ⟨vd5,q5,rfl⟩:=hI.v mm5 rfl
        obtain ⟨vd6,q6,rfl⟩:=hI.v mm6 rfl
        obtain ⟨vd7,q7,rfl⟩:=hI.v mm7 rfl
        obtain ⟨vd8,q8,rfl⟩:=hI.v mm8 rfl
        obtain ⟨vd9,q9,rfl⟩:=hI.v mm9 rfl
        obtain ⟨vd10,q10,rfl⟩:=hI.v mm10 rfl
        obtain ⟨vd11,q11,rfl⟩:=hI.v mm11 rfl
        obtain ⟨vd12,q12,rfl⟩:=hI.v mm12 rfl
        obtain ⟨vd13,q13,rfl⟩:=hI.v mm13 rfl
        obtain ⟨vd14,q14,rfl⟩:=hI.v mm14 rfl
        obtain ⟨vd15,q15,rfl⟩:=hI.v mm15 rfl
        obtain ⟨vd16,q16,rfl⟩:=hI.v mm16 rfl
        obtain ⟨vd17,q17,rfl⟩:=hI.v mm17 rfl
        obtain ⟨vd18,q18,rfl⟩:=hI.v mm18 rfl
        obtain ⟨vd19,q19,rfl⟩:=hI.v mm19 rfl
        obtain ⟨vd20,q20,rfl⟩:=hI.v mm20 rfl
        obtain ⟨vd21,q21,rfl⟩:=hI.v mm21 rfl
        obtain ⟨vd22,q22,rfl⟩:=hI.v mm22 rfl
        obtain ⟨vd23,q23,rfl⟩:=hI.v mm23 rfl
        have hT:=tmps_set [(90,.pointer (some ⟨wb,0,none⟩)),(91,.pointer (some ⟨wb,0,none⟩)),(92,.pointer (some ⟨wb,0,none⟩)),(93,.pointer (some ⟨wb,0,none⟩)),(94,.pointer (some ⟨wb,2,none⟩)),(95,.slice (some ⟨gs,0,none⟩) R sc7),(96,.int .i64 i),(97,.pointer (some ⟨gs,i,none⟩)),(98,.slice (some ⟨bi,0,none⟩) C C),(99,.int .i64 i),(100,.pointer (some ⟨bi,i * 2,none⟩)),(101,.agg #[.bool xs,.slice xa xl xc']),(102,.pointer (some ⟨wb,0,none⟩)),(103,.pointer (some ⟨wb,0,none⟩)),(104,.pointer (some ⟨wb,0,none⟩)),(105,.pointer (some ⟨wb,0,none⟩)),(106,.pointer (some ⟨wb,2,none⟩)),(107,.slice (some ⟨gs,0,none⟩) R sc7),(108,.int .i64 j),(109,.pointer (some ⟨gs,j,none⟩)),(110,.slice (some ⟨bj,0,none⟩) C C),(111,.int .i64 j),(112,.pointer (some ⟨bj,j * 2,none⟩)),(113,.agg #[.bool ys,.slice ya yl yc])]
         (fun j hj=>hI.keep j (by simp only [List.forall_mem_cons] at hj ⊢; simp [hj]) (by simp only [List.forall_mem_cons] at hj ⊢; simp [hj]))
         (by simp only [List.forall_mem_cons]; simp [q0,q1,q2,q3,q4,q5,q6,q7,q8,q9,q10,q11,q12,q13,q14,q15,q16,q17,q18,q19,q20,q21,q22,q23]) hI.size
        have hlwv:=hI.lext
        have hbwv:=hI.bel (wt.heap.size) oM nom
        have holdwv:=hI.old
        clear hI
        simp only [List.foldl_cons,List.foldl_nil,List.setIfInBounds_toArray,List.set_cons_zero,List.set_cons_succ,ptr] at hT
        subst hT
        clear q0 q1 q2 q3 q4 q5 q6 q7 q8 q9 q10 q11 q12 q13 q14 q15 q16 q17 q18 q19 q20 q21 q22 q23
        simp only [List.drop_succ_cons,List.drop_zero]
        have hO:=hO.trans (OnlyZ.of _ hbwv)
        have HW:=HidS.mk (HW.out.below hbwv)
        have hx:=hx.ext (lx hbwv)
        have hy:=hy.ext (lx hbwv)
        clear k0 k1 k2 k5 k8 k11 k14 lw0 o1 o2 p1 p2 r1 r2
        go_wp2_with fail
        refine (divides_any _ _ (y'.s i i) (y'.s j j) wv hx hy S1.out S2.out).mono ?_
        rintro e w12 ⟨rfl,hb12⟩
        have hO:=hO.trans (OnlyZ.of _ hb12)
        have HW:=HidS.mk (HW.out.below hb12)
        have h3:=HT.out
        clear hx hy HT
        by_cases hdv : y'.s i i ∣ y'.s j j
        ·rw [if_pos hdv] at h3
         rw [decide_eq_true hdv]
         have HT:=HidS.mk h3
         clear h3 hdv
         go_wp2
         go_roundw
         case rel=>exact ⟨j + 1,_,_,_,_,_,y',by simp,by omega,by omega,hO,⟨⟨HW.out,HD.out,HT.out⟩⟩⟩
         case measure=>simp [intOf]; omega
        ·rw [if_neg hdv] at h3
         rw [decide_eq_false hdv]
         have HT:=HidS.mk h3
         have HDV:=HidS.mk hdv
         clear h3 hdv
         go_wp2_with fail
         refine (wdivide_any hB HW.out oM hjR hjC hR hC hCu hCw (HDIV.out y' HD.out i j oM hjn HDV.out)).mono ?_
         rintro e w13 ⟨⟨uu13,rfl⟩,hO13,s,t,hbz,hw13⟩
         have hO:=hO.trans hO13
         have HW:=HidS.mk hw13
         have HD:=HidS.mk (DivR.step y1 y' i j s t HD.out oM hjn HDV.out hbz)
         clear hw13 hbz HDV
         go_wp2
         go_roundw
         case rel=>exact ⟨j + 1,_,_,_,_,_,_,by simp,by omega,by omega,hO,⟨⟨HW.out,HD.out,HT.out⟩⟩⟩
         case measure=>simp [intOf]; omega
       ·obtain rfl : j = n:=by omega
        have h3:=hH.out.2.2
        rw [Nat.sub_self] at h3
        have HT:=HidS.mk (show divI (j - (i + 1)) (i + 1) y'.s = divI j 0 y1.s from h3)
        clear h3
        go_wp2
        go_roundw
        case rel=>exact ⟨i + 1,_,_,_,_,_,y',by simp,by omega,hO,⟨⟨hH.out.1,hH.out.2.1,HT.out⟩⟩⟩
        case measure=>simp [intOf]; omega
     ·obtain rfl : i = n:=by omega
      have h3:=hH.out.2.2
      rw [Nat.sub_self] at h3
      have HT:=HidS.mk (show y'.s = divI i 0 y1.s from h3)
      clear h3
      go_wp2
      rw [<-HN.out]
      rw [Exit.jump_normal]
      exact bodyPost_end (results_none rfl _ _ _) rfl ⟨⟨_,rfl⟩,hO,_,_,_,_,_,_,y',hH.out.2.1,HT.out,hH.out.1⟩
   ·rw [if_neg hd] at hrest
    rw [decide_eq_false hd]
    have HREST:=HidS.mk hrest
    clear hd hrest
    go_wp2
    go_step3
    refine ⟨rfl,⟨r,(HJF.out _ _ _).2 ⟨_,_,_,_,_,_,_,_,_,_,_,_,_,_,_,_,_,_,_,_,_,_,_,_,_,_,_,_,_,_,_,_,_,_,_,_,_,_,_,_,_,_,_,_,_,_,_,_,_,_,_,_,_,_,_,_,_,_,_,_,_,_,_,_,_,_,_,rfl,hO,⟨⟨_,_,_,_,_,_,_,HW.out,HOKY.out,HREST.out⟩⟩⟩⟩,leastOf_lt ((HJF.out _ _ _).2 ⟨_,_,_,_,_,_,_,_,_,_,_,_,_,_,_,_,_,_,_,_,_,_,_,_,_,_,_,_,_,_,_,_,_,_,_,_,_,_,_,_,_,_,_,_,_,_,_,_,_,_,_,_,_,_,_,_,_,_,_,_,_,_,_,_,_,_,_,rfl,hO,⟨⟨_,_,_,_,_,_,_,HW.out,HOKY.out,HREST.out⟩⟩⟩) (Nat.lt_succ_self r)⟩
end Go.Proofs.YtnocgagoaldfnaaGreat
