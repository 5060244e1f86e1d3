/- torsionlaw12.HermiteMatchesReference: whatever the input, it returns true, and the input reads as it did. No conditions. -/
import Derived.Test.YtgnmdddaiefooaaGreatRows
import Derived.Test.YtgnmdddaiefooaaGreatD43
import Derived.Test.YtgnmdddaiefooaaGreatD44
import Derived.Test.YtgnmdddaiefooaaGreatD48
import Derived.Test.YtgnmdddaiefooaaGreatD49
set_option linter.unusedVariables false
set_option linter.unusedSimpArgs false
set_option linter.unusedSectionVars false
set_option maxHeartbeats 16000000
set_option maxRecDepth 100000
namespace Go.Proofs.YtgnmdddaiefooaaGreat
open Go.RowKit
theorem r12rank_any (v : Value) (R C r : Nat) (κ : Nat->Nat) (M : List (List Int)) (w : World) (h : MatV w v R C M) (hF : Fits R C M) (hH : Hnf C R r κ (ent M)) :
  Calls Tryz.prog 30 #[v] w fun e w'=>e = .returned (.int .i64 r)/\Below w.heap.size w w':=by
 obtain ⟨A,rfl,h⟩:=h;obtain ⟨ao,n,cap,rfl,e2,e3,e4,-⟩:=id h;obtain rfl : R = n:=by rw [<-e2,hF.1]
 have HX:=xgw e2;have HF:=xgv hF;have hle:=hH.le;have HLO : HidS (∀k,k < r->0<=lead C (ent M) k):=⟨fun k hk=>by rw [hH.ech.lead hk]; omega⟩;have HHI : HidS (∀k,r<=k->k < R->lead C (ent M) k < 0):=⟨fun k h1 h2=>by rw [lead_neg (hH.zero k h1 h2)]; decide⟩;clear e2 hF hH;go_enter Tryz.func30,Tryz.ntmps30;go_upto_region 1 with (fail)
 refine wp_world ?_;intro W0 hW0;obtain ⟨hB0,bx,hs0⟩:=world1 hW0;clear hW0;go_wp2;go_loopw [3,4] (fun nv iv wr=>∃(i m : Nat),i<=R/\nv = .int .i64 m/\iv = .int .i64 i/\Below w.heap.size w wr/\Blk wr w.heap.size 28 #[.int .i64 R,.int .i64 C,.slice ao R cap]/\HidS (m = min i r)) (fun _ iv _=>R - (intOf iv).toNat)
 case atStart=>exact ⟨0,0,by omega,rfl,rfl,hB0,bx,⟨by omega⟩⟩
 case round=>
  clear bx hB0;obtain ⟨i,m,hi,rfl,rfl,hb,bx,hm⟩:=hrel;obtain ⟨c1,c2,c3,c4,c5,c6⟩:=bx.three;by_cases hlt : i < R
  ·obtain ⟨b,ra,rn,rc,zs,rfl,hbl,hz,p1,hrv⟩:=(h.below hb).row (k:=i) (by rw [HX.out]; exact hlt)
   obtain rfl:=HF.out.row_eq hz;have hmR : m < R:=by have:=hm.out; omega
   go_wp2_with fail
   refine (pivot_any _ (genV C (ent M i)) wr hrv).mono ?_;rintro e w7 ⟨rfl,hb7⟩;have hb8:=nx hb hb7;have bx:=bx.below hb7;clear c1 c2 c3 c4 c5 c6 p1 hz hrv;obtain ⟨L,hL⟩ : ∃L,leadGo 0 (genV C (ent M i)) = L:=⟨_,rfl⟩;rw [hL];have HL:=xgw (show lead C (ent M) i = L from hL);clear hL;by_cases hir : i < r
   ·have h0 : (L ≥ 0) = True:=eq_true (by rw [<-HL.out]; exact HLO.out i hir)
    have h1 : 0<=L:=by rw [<-HL.out]; exact HLO.out i hir
    have hm' : HidS (m + 1 = min (i + 1) r):=⟨by have:=hm.out; omega⟩;clear hir;go_wp2;go_roundw
    case rel=>exact ⟨i + 1,m + 1,by omega,by simp,by simp,hb8,bx,hm'⟩
    case measure=>simp [intOf]; omega
   ·have h1 : ¬ 0<=L:=by rw [<-HL.out]; have:=HHI.out i oM hlt; omega
    have hm' : HidS (m = min (i + 1) r):=⟨by have:=hm.out; omega⟩;clear hir;go_wp2;go_roundw
    case rel=>exact ⟨i + 1,m,by omega,rfl,by simp,hb8,bx,hm'⟩
    case measure=>simp [intOf]; omega
  ·obtain rfl : m = r:=by have:=hm.out; omega
   go_wp2;go_ret;exact ⟨rfl,hb⟩
theorem r12rankT (v : Value) (R C r : Nat) (κ : Nat->Nat) (M : List (List Int)) (w : World) (h : MatV w v R C M) (hF : Fits R C M) (hH : Hnf C R r κ (ent M)) :
  Calls Tryz.prog 30 #[v] w fun e w'=>∃v,e = .returned v/\v = .int .i64 r/\Below w.heap.size w w':=
 (r12rank_any v R C r κ M w h hF hH).mono fun _ _ ⟨h1,h2⟩=>⟨_,h1,rfl,h2⟩
theorem r12top_any (v : Value) (R C m : Nat) (M : List (List Int)) (w : World) (h : MatV w v R C M) (hF : Fits R C M) (hm : m<=R) :
  Calls Tryz.prog 39 #[v,.int .i64 m] w fun e w'=>∃v',e = .returned v'/\MatV w' v' m C (M.take m)/\Below w.heap.size w w':=by
 obtain ⟨A,rfl,h⟩:=h;obtain ⟨ao,n,cap,rfl,e2,e3,e4,-⟩:=id h;obtain rfl : R = n:=by rw [<-e2,hF.1]
 have hmc : m<=cap:=by omega
 clear hF e2;go_enter Tryz.func39,Tryz.ntmps39;go_upto_region 1 with (fail)
 refine wp_world ?_;intro W0 hW0;obtain ⟨hB0,bx,br,hs0⟩:=world2 hW0;obtain ⟨c1,c2,c3,c4,c5,c6⟩:=bx.three;have lbx:=bx.lt;clear hW0;refine wp_region_headed 8 rfl (RV W0 _ [VN 0 5 m,VP 1 6 w.heap.size 1,VN 2 7 C,VP 3 8 w.heap.size 2,E 4 9 (.slice ao R cap),VN 5 10 m,E 6 11 (.slice ao m cap),E 7 12 (.agg #[.int .i64 m,.int .i64 C,.slice ao m cap])]) kR RV.start (RV.fin kR ?fin1) ?steps1
 case steps1=>
  refine ⟨?_,?_,?_,?_,?_,?_,?_,?_,trivial⟩ <;> (intro L T wS hL hd hcl hI K hK; try refine step_wanted rfl ?_)
  ·exact xgs (hI.k 1 rfl kR)
  ·exact xgs (hI.k 2 rfl kR)
  ·have zt1:=hI.e mm1 (hd 1)
   have cc0:=hI.cell c2; exact xgu
  ·exact xgs (hI.k 2 rfl kR)
  ·have zt3:=hI.e mm3 (hd 3)
   have cc0:=hI.cell c3; exact xgu
  ·exact xgs (hI.k 1 rfl kR)
  ·exact xgt (hI.e mm4 (hd 4)) (hI.e mm5 (hd 5))
  ·have zt0:=hI.e mm0 (hd 0)
   exact xgt (hI.e mm2 (hd 2)) (hI.e mm6 (hd 6))
 intro w2 hbw2 T hT;simp only [Fin,E,EI,VP,VSl,VN,xgg,xgh,xgi,xgj] at hT;subst hT;simp only [xgl,xgk];have br:=br.below hbw2;have hB2:=nx hB0 hbw2;have hr2:=(h.take hm).below hB2;obtain ⟨r1,r2,r3,r4,r5,r6⟩:=br.three;clear c1 c2 c3 c4 c5 c6;go_wp2;refine bodyPost_mat (r:=w.heap.size + 1) rfl rfl rfl (br.put3 _ _ _) ⟨_,rfl,MatV.keep3 ⟨_,rfl,hr2⟩ br _ _ _,bset (bset (bset hB2 oM 0 _) oM 1 _) oM 2 _⟩
theorem take_genM {R C m : Nat} (h : m<=R) (F : Nat->Nat->Int) : (genM R C F).take m = genM m C F:=by
 unfold genM;rw [<-List.map_take,List.take_range,Nat.min_eq_left h]
theorem r12form_small {M0 e : Nat} (hM1 : 1<=M0) (hM : 2 * M0<=2 ^ e) (he : e<=15) (v : Value) (M : List (List Int)) (R C : Nat) (w : World) (h : MatV w v R C M) (hF : Fits R C M) (hR : R<=4) (hC : C<=4) (hA : leM M0 R C (ent M)) :
  Calls Tryz.prog 43 #[v] w fun e w'=>∃v r c H U V,e = .returned v/\HForm R C r c (ent M) H U V/\leM (24 * (8 * M0) ^ 4) R C H/\leM (gk 40 M0) R R U/\leM (gk 40 M0) R R V/\HermV w' v R C (genM R C H) (genM R R U) (genM R R V)/\Below w.heap.size w w':=by
 have hE : eE R R<=2 ^ 20:=eE_le hR (xgf _);have hg : gx (eE R R) M0<=gk 40 M0:=by
  rw [<-gx_gk];exact gx_mono hM1 (Nat.le_trans hE (Nat.pow_le_pow_right oM oM))
 have hgB : gx (eE R R) M0 < BD:=Nat.lt_of_le_of_lt hg (gk_BD (xgf _) hM1 hM oM);refine (r12form_any hM1 v M R C w h hF oM oM hA hgB).mono ?_;rintro ee w' ⟨v,c,r,κ,x,rfl,hko,hcr,hv,hb⟩;have hf:=hko.form hcr;have hle:=hko.2.mono (Nat.le_trans (gx_mono hM1 (eE_mono R hko.1.rn)) hg);exact ⟨v,r,κ,_,_,_,rfl,hf,hf.bound hR hM1 hA,hle.2.1,fun a ha b hb=>hle.2.2 b hb a ha,hv,hb⟩
theorem r12basis_small {M0 e : Nat} (hM1 : 1<=M0) (hM : 2 * M0<=2 ^ e) (he : e<=15) (v : Value) (M : List (List Int)) (R C : Nat) (w : World) (h : MatV w v R C M) (hF : Fits R C M) (hR : R<=4) (hC : C<=4) (hA : leM M0 R C (ent M)) :
  Calls Tryz.prog 18 #[v] w fun e w'=>∃v r c H,e = .returned v/\HLat R C r c (ent M) H/\leM (24 * (8 * M0) ^ 4) R C H/\MatV w' v r C (genM r C H)/\Below w.heap.size w w':=by
 have h0:=h;obtain ⟨A,rfl,h⟩:=h;obtain ⟨ao,n,cap,rfl,-,-,-,-⟩:=id h;have H0:=xgv h0;have HF:=xgv hF;have HA:=xgv hA;have HM:=xgv (And.intro hM1 hM);clear h0 hF hA hM hM1 h;go_enter Tryz.func18,Tryz.ntmps18;go_upto_region 1 with (fail)
 refine wp_world ?_;intro W0 hW0;obtain ⟨hB0,bx,br,hs0⟩:=world2 hW0;obtain ⟨c1,c2,c3,c4,c5,c6⟩:=bx.three;clear hW0;go_wp2_with fail
 refine (r12form_small HM.out.1 HM.out.2 he _ M R C W0 (H0.out.below hB0) HF.out hR hC HA.out).mono ?_;rintro ee w2 ⟨fv,r,κ,H,U,V,rfl,hf,b1,-,-,hv,hb2⟩;obtain ⟨f1,f2,f3,f4,f5,f6,f7,f8,f9,rfl,hfh⟩:=hv.agg;have HL:=xgv (And.intro hf.lat b1);have hHn : Hnf C R r κ (ent (genM R C H)):=by
  obtain ⟨q1,q2,q3,q4⟩:=hf.hnf;have e : ∀a,a < R->∀b,b < C->ent (genM R C H) a b = H a b:=fun a ha b hb=>ent_genM ha hb
  exact ⟨q1,⟨q2.lt,fun k hk=>by rw [e k oM _ (q2.lt k hk)]; exact q2.pos k hk,fun k hk t ht=>by rw [e k oM t (by have:=q2.lt k hk; omega)]; exact q2.zero k hk t ht,q2.inc⟩,
   fun i j h1 h2 h3=>by rw [e i oM _ (q2.lt j h2),e j oM _ (q2.lt j h2)]; exact q3 i j h1 h2 h3,fun a h1 h2 t h3=>by rw [e a h2 t h3]; exact q4 a h1 h2 t h3⟩
 have HHN:=xgv hHn;have hrR:=hHn.le;have br:=br.below hb2;have hB2:=nx hB0 hb2;clear c1 c2 c3 c4 c5 c6 hv hf b1 hHn;go_upto_region 2 with (fail)
 refine wp_world ?_;intro W3 hW3;obtain ⟨hB3,T3,hs3⟩:=world1 hW3;have HFH:=xgv (hfh.below hB3);have br:=br.below hB3;have hB3:=nx hB2 hB3;have lbr:=br.lt;clear hW3 hfh;obtain ⟨q0,q1,q2,-⟩:=T3.nine;refine wp_region_headed 6 rfl (RV W3 _ [VP 0 6 w2.heap.size 0,E 1 7 (.agg #[.int .i64 R,.int .i64 C,.slice f1 f2 f3]),VP 2 8 w2.heap.size 0,E 3 9 (.agg #[.int .i64 R,.int .i64 C,.slice f1 f2 f3]),VN 4 10 r,⟨5,11,fun w v=>MatV w v (r) (C) ((genM R C H).take r)⟩]) kR RV.start (RV.fin kR ?fin2) ?steps2
 case steps2=>
  refine ⟨?_,?_,?_,?_,?_,?_,trivial⟩ <;> (intro L T wS hL hd hcl hI K hK; try refine step_wanted rfl ?_)
  ·exact xgs (hI.k 3 rfl kR)
  ·have zt0:=hI.e mm0 (hd 0)
   have cc0:=hI.cell q0;have cc1:=hI.cell q1;have cc2:=hI.cell q2; exact xgu
  ·exact xgs (hI.k 3 rfl kR)
  ·have zt2:=hI.e mm2 (hd 2)
   have cc0:=hI.cell q0;have cc1:=hI.cell q1;have cc2:=hI.cell q2; exact xgu
  ·have zt3:=hI.e mm3 (hd 3)
   go_simp;refine (r12rankT _ R C r κ _ _ (HFH.out.below hI.bel) (genM_fits _ _ _) HHN.out).mono ?_;rintro e wa ⟨v,rfl,hv,hba⟩;exact hK _ _ ((hI.world hba).y mm4 hv)
  ·have zt1:=hI.e mm1 (hd 1)
   have zt4:=hI.e mm4 (hd 4);go_simp;refine (r12top_any _ R C r _ _ (HFH.out.below hI.bel) (genM_fits _ _ _) hrR).mono ?_;rintro e wa ⟨v,rfl,hv,hba⟩;exact hK _ _ ((hI.world hba).y mm5 hv)
 intro w4 hbw4 T hT;simp only [Fin,E,EI,VP,VSl,VN,xgg,xgh,xgi,xgj] at hT;obtain ⟨va5,ha5,rfl⟩:=hT;simp only [xgl,xgk];have hm : MatV w4 va5 r C (genM r C H):=by rw [<-take_genM hrR]; exact ha5
 obtain ⟨t1,t2,t3,rfl⟩:=hm.agg;have HMM:=xgv hm;have br:=br.below hbw4;have hB4:=nx hB3 hbw4;obtain ⟨r1,r2,r3,r4,r5,r6⟩:=br.three;clear q0 q1 q2 hm ha5;go_wp2;refine bodyPost_mat (r:=w.heap.size + 1) rfl rfl rfl (br.put3 _ _ _) ⟨_,r,κ,H,rfl,HL.out.1,HL.out.2,HMM.out.keep3 br _ _ _,bset (bset (bset hB4 oM 0 _) oM 1 _) oM 2 _⟩
theorem HLat.congr {R C r : Nat} {c : Nat->Nat} {A A' H H' : Nat->Nat->Int} (h : HLat R C r c A H) (e1 : ∀a,a < R->∀b,b < C->A' a b = A a b) (e2 : ∀a,a < R->∀b,b < C->H a b = H' a b) (hn : Hnf C R r c H') : HLat R C r c A' H':=
 ⟨hn,h.sp.congr (fun a ha b hb=>(e2 a ha b hb).symm) e1,h.sp'.congr e1 (fun a ha b hb=>(e2 a ha b hb).symm)⟩
theorem HLat.ops {R C r : Nat} {c : Nat->Nat} {A H : Nat->Nat->Int} {l : List Op} (hl : okOps R l) (h : HLat R C r c (opsF l A) H) : HLat R C r c A H:=
 ⟨h.hnf,h.sp.trans (spans_ops hl A).2,(spans_ops hl A).1.trans h.sp'⟩
def HMatV (R C : Nat) (W : List (List Int)) : World->Value->Prop:=fun w v=>∃U V,HermV w v R C W U V
theorem lastsB_hmat (R C : Nat) (W : List (List Int)) : LastsB (HMatV R C W):=fun _ _ _ hb ⟨U,V,h⟩=>⟨U,V,h.below hb⟩
theorem field_herm0 (a b c d e f g h i : Value) (W : World) : (Instr.field 62 (.agg #[a,b,c,d,e,f,g,h,i]) 0).run Tryz.prog W = .ok (.agg #[a,b,c]) W:=by
 kernel_rfl
theorem HLat.rows {R C r r' : Nat} {c c' : Nat->Nat} {A H H' : Nat->Nat->Int} (h : HLat R C r c A H) (h' : HLat R C r' c' A H') : r' = r/\genM r' C H' = genM r C H:=by
 obtain ⟨rfl,-,e2⟩:=hnf_unique h.hnf h'.hnf (h.sp.trans h'.sp') (h'.sp.trans h.sp');exact ⟨rfl,genM_congr fun i hi j hj=>e2 i (Nat.lt_of_lt_of_le hi h.hnf.le) j hj⟩
theorem r12formE {M0 e : Nat} (hM1 : 1<=M0) (hM : 2 * M0<=2 ^ e) (he : e<=15) (v : Value) (M W : List (List Int)) (R C : Nat) (w : World) (h : MatV w v R C M) (hF : Fits R C M) (hR : R<=4) (hC : C<=4) (hA : leM M0 R C (ent M)) (hW : ∀r c H,HLat R C r c (ent M) H->genM R C H = W) :
  Calls Tryz.prog 43 #[v] w fun e w'=>∃v,e = .returned v/\HMatV R C W w' v/\Below w.heap.size w w':=by
 refine (r12form_small hM1 hM he v M R C w h hF hR hC hA).mono ?_;rintro ee w' ⟨v,r,c,H,U,V,rfl,hf,-,-,-,hv,hb⟩;rw [hW r c H hf.lat] at hv;exact ⟨v,rfl,⟨_,_,hv⟩,hb⟩
theorem hbasisE {M0 e r0 : Nat} {Z : List (List Int)} (hM1 : 1<=M0) (hM : 2 * M0<=2 ^ e) (he : e<=31) (v : Value) (M : List (List Int)) (R C : Nat) (w : World) (h : MatV w v R C M) (hF : Fits R C M) (hR : R<=4) (hC : C<=4) (hA : leM M0 R C (ent M)) (hW : ∀r c H,HLat R C r c (ent M) H->r = r0/\genM r C H = Z) :
  Calls Tryz.prog 44 #[v] w fun e w'=>∃v,e = .returned v/\MatV w' v r0 C Z/\Below w.heap.size w w':=by
 refine (hbasis_small hM1 hM he v M R C w h hF hR hC hA).mono ?_;rintro ee w' ⟨v,r,c,H,rfl,hl,-,hv,hb⟩;obtain ⟨rfl,e2⟩:=hW r c H hl;rw [e2] at hv;exact ⟨v,rfl,hv,hb⟩
theorem r12basisE {M0 e r0 : Nat} {Z : List (List Int)} (hM1 : 1<=M0) (hM : 2 * M0<=2 ^ e) (he : e<=15) (v : Value) (M : List (List Int)) (R C : Nat) (w : World) (h : MatV w v R C M) (hF : Fits R C M) (hR : R<=4) (hC : C<=4) (hA : leM M0 R C (ent M)) (hW : ∀r c H,HLat R C r c (ent M) H->r = r0/\genM r C H = Z) :
  Calls Tryz.prog 18 #[v] w fun e w'=>∃v,e = .returned v/\MatV w' v r0 C Z/\Below w.heap.size w w':=by
 refine (r12basis_small hM1 hM he v M R C w h hF hR hC hA).mono ?_;rintro ee w' ⟨v,r,c,H,rfl,hl,-,hv,hb⟩;obtain ⟨rfl,e2⟩:=hW r c H hl;rw [e2] at hv;exact ⟨v,rfl,hv,hb⟩
theorem hermiteMatchesReference_any (v : Value) (r c : Nat) (ls : List Int) (w : World) (h : I8V w v ls) (hr : r<=255) (hc : c<=255) :
  Calls Tryz.prog 7 #[.agg #[.int .u8 r,.int .u8 c,v]] w fun e w'=>e = .returned (.bool true)/\Below w.heap.size w w':=by
 obtain ⟨ao,n,cap,rfl,-,-,-,-,-⟩:=id h;obtain ⟨R,hR⟩ : ∃R : Nat,R = r % 5:=⟨_,rfl⟩;obtain ⟨C,hC⟩ : ∃C : Nat,C = c % 5:=⟨_,rfl⟩;have hR4 : R<=4:=by omega
 have hC4 : C<=4:=by omega
 have HR:=xgw hR;have HC:=xgw hC;clear hR hC;obtain ⟨M,hM⟩ : ∃M,genM R C (digF C ls) = M:=⟨_,rfl⟩;have HMade : HidS (∀w,I8V w (.slice ao n cap) ls->Calls Tryz.prog 14 #[.agg #[.int .u8 r,.int .u8 c,.slice ao n cap]] w fun e w'=>∃v,e = .returned v/\MatV w' v R C M/\Below w.heap.size w w'):=⟨fun w h=>by
  rw [<-hM];exact madeM _ r c ls w h hr hc R C HR.out HC.out⟩
 have HF : HidS (Fits R C M):=⟨by rw [<-hM]; exact genM_fits _ _ _⟩;have HA9 : HidS (leM 9 R C (ent M)):=⟨by rw [<-hM]; exact ent_leM (digF_leM R C C ls)⟩;clear hM;go_enter Tryz.func7,Tryz.ntmps7;go_upto_region 1 with (fail)
 refine wp_world ?_;intro W0 hW0;obtain ⟨hB0,bx,hs0⟩:=world1 hW0;clear hW0;go_wp2_with fail
 refine (sanity12_any W0).mono ?_;rintro e w1 ⟨rfl,hb1⟩;have hB:=nx hB0 hb1;have bx:=bx.below hb1;obtain ⟨c1,c2,c3,c4,c5,c6⟩:=bx.three;go_wp2_with fail
 refine (HMade.out w1 (h.below hB)).mono ?_;rintro e w2 ⟨va,rfl,hm,hb2⟩;obtain ⟨ro,rn,rc,rfl⟩:=hm.agg;have hB:=nx hB hb2;clear c1 c2 c3 c4 c5 c6 bx;go_upto_region 3 with (fail)
 refine wp_world ?_;intro W3 hW3;obtain ⟨hB3,T6,hs3⟩:=world1 hW3;have HM:=xgv (hm.below hB3);have hB:=nx hB hB3;clear hW3 hm;obtain ⟨c1,c2,c3,c4,c5,c6⟩:=T6.three;go_wp2_with fail
 refine (hform_good (M0:=9) (e:=5) dE dE dE _ M R C W3 HM.out HF.out hR4 hC4 HA9.out).mono ?_;rintro e w4 ⟨fv,W,U,V,rfl,hf,hg,hb4⟩;obtain ⟨f1,f2,f3,f4,f5,f6,f7,f8,f9,rfl,hfh⟩:=hf.agg;obtain ⟨rk,kc,H,hl,hWH⟩:=hg.lat;have HL:=xgv hl;have HE : HidS (∀r c H',HLat R C r c (ent M) H'->genM R C H' = W):=⟨fun r c H' h'=>by rw [hWH]; exact (h'.eq HL.out).2⟩;obtain ⟨Z,hZ⟩ : ∃Z,genM rk C H = Z:=⟨_,rfl⟩;have HEZ : HidS (∀r c H',HLat R C r c (ent M) H'->r = rk/\genM r C H' = Z):=⟨fun r c H' h'=>by rw [<-hZ]; exact HL.out.rows h'⟩;have HG:=xgv hg;have HFV:=xgv hf;have HFH:=xgv hfh;have HM:=xgv (HM.out.below hb4);have T6:=T6.below hb4;have hB:=nx hB hb4;clear c1 c2 c3 c4 c5 c6 hf hl hg hfh hWH hZ;go_upto_region 4 with (fail)
 refine wp_world ?_;intro W5 hW5;obtain ⟨hB5,T7,hs5⟩:=world1 hW5;have HM:=xgv (HM.out.below hB5);have HFH:=xgv (HFH.out.below hB5);have HFV:=xgv (HFV.out.below hB5);have T6:=T6.below hB5;have hB:=nx hB hB5;clear hW5;obtain ⟨c1,c2,c3,c4,c5,c6⟩:=T6.three;obtain ⟨q0,q1,q2,q3,q4,q5,q6,q7,q8⟩:=T7.nine;have hl1:=lastsB_hmat R C W;refine wp_region_each rfl (RV W5 _ [E 0 11 (.bool true),E 1 12 (.bool true),E 2 13 (.agg #[.int .i64 R,.int .i64 C,.slice ro rn rc]),E 3 14 (.agg #[.int .i64 R,.int .i64 C,.slice f1 f2 f3,.int .i64 R,.int .i64 R,.slice f4 f5 f6,.int .i64 R,.int .i64 R,.slice f7 f8 f9]),E 4 15 (.bool true),E 5 16 (.bool true),E 6 17 (.bool true),VP 7 18 w4.heap.size 0,E 8 19 (.agg #[.int .i64 R,.int .i64 C,.slice f1 f2 f3]),E 9 20 (.agg #[.int .i64 R,.int .i64 C,.slice ro rn rc]),⟨10,21,HMatV R C W⟩,⟨11,22,fun w v=>MatV w v (R) (C) (W)⟩,E 12 23 (.bool true),E 13 24 (.bool true),E 14 25 (.bool true),E 15 26 (.agg #[.int .i64 R,.int .i64 C,.slice ro rn rc]),⟨16,27,fun w v=>MatV w v (rk) (C) (Z)⟩,E 17 28 (.agg #[.int .i64 R,.int .i64 C,.slice ro rn rc]),⟨18,29,fun w v=>MatV w v (rk) (C) (Z)⟩,E 19 30 (.bool true),E 20 31 (.bool true),E 21 32 (.bool true),E 22 33 (.agg #[.int .i64 R,.int .i64 C,.slice ro rn rc]),E 23 34 (.agg #[.int .i64 R,.int .i64 C,.slice f1 f2 f3,.int .i64 R,.int .i64 R,.slice f4 f5 f6,.int .i64 R,.int .i64 R,.slice f7 f8 f9]),E 24 35 (.bool true),E 25 36 (.bool true),E 26 2 (.bool true)]) kR RV.start (RV.fin kR ?fin1) ?steps1
 case steps1=>
  refine ⟨?_,?_,?_,?_,?_,?_,?_,?_,?_,?_,?_,?_,?_,?_,?_,?_,?_,?_,?_,?_,?_,?_,?_,?_,?_,?_,?_,trivial⟩ <;> (intro L T wS hL hd hcl hI K hK; try refine step_wanted rfl ?_)
  ·exact xgs (hI.k 3 rfl kR)
  ·exact xgs (hI.e mm0 (hd 0))
  ·have zg:=hI.e mm1 (hd 1)
   refine step_wanted xgp ?_;have zt:=hI.k 4 rfl kR;have cc0:=hI.cell c1;have cc1:=hI.cell c2;have cc2:=hI.cell c3; exact xgu
  ·have zg:=hI.e mm1 (hd 1)
   refine step_wanted xgp ?_;have zt:=hI.k 5 rfl kR;have cc0:=hI.cell q0;have cc1:=hI.cell q1;have cc2:=hI.cell q2;have cc3:=hI.cell q3;have cc4:=hI.cell q4;have cc5:=hI.cell q5;have cc6:=hI.cell q6;have cc7:=hI.cell q7;have cc8:=hI.cell q8; exact xgu
  ·have zg:=hI.e mm1 (hd 1)
   refine step_wanted xgp ?_;have zt2:=hI.e mm2 (hd 2);have zt3:=hI.e mm3 (hd 3);go_simp;refine (r12checkT _ _ R C _ _ U V _ (HM.out.below hI.bel) HF.out (HFV.out.below hI.bel) hR4 hC4 HG.out).mono ?_;rintro e wa ⟨v,rfl,hv,hba⟩;exact hK _ _ ((hI.world hba).y mm4 hv)
  ·exact xgt (hI.e mm1 (hd 1)) (hI.e mm4 (hd 4))
  ·exact xgs (hI.e mm5 (hd 5))
  ·have zg:=hI.e mm6 (hd 6)
   refine step_wanted xgp ?_;exact xgs (hI.k 5 rfl kR)
  ·have zg:=hI.e mm6 (hd 6)
   refine step_wanted xgp ?_;have zt7:=hI.e mm7 (hd 7);have cc0:=hI.cell q0;have cc1:=hI.cell q1;have cc2:=hI.cell q2; exact xgu
  ·have zg:=hI.e mm6 (hd 6)
   refine step_wanted xgp ?_;have zt:=hI.k 4 rfl kR;have cc0:=hI.cell c1;have cc1:=hI.cell c2;have cc2:=hI.cell c3; exact xgu
  ·have zg:=hI.e mm6 (hd 6)
   refine step_wanted xgp ?_;have zt9:=hI.e mm9 (hd 9);go_simp;refine (r12formE (M0:=9) (e:=5) dE dE dE _ M W R C _ (HM.out.below hI.bel) HF.out hR4 hC4 HA9.out HE.out).mono ?_;rintro e wa ⟨v,rfl,hv,hba⟩;exact hK _ _ ((hI.world hba).y mm10 hv)
  ·have zg:=hI.e mm6 (hd 6)
   refine step_wanted xgp ?_;obtain ⟨v3,zt3,h3⟩:=hI.v mm10 (hd 10);obtain ⟨U3,V3,hf3⟩ : HMatV R C W wS v3:=h3;obtain ⟨x1,x2,x3,x4,x5,x6,x7,x8,x9,rfl,hx⟩:=hf3.agg;have hfl:=field_herm0;go_simp;exact hK _ _ (hI.y mm11 hx)
  ·have zg:=hI.e mm6 (hd 6)
   refine step_wanted xgp ?_;have zt8:=hI.e mm8 (hd 8);obtain ⟨v11,zt11,h11⟩:=hI.v mm11 (hd 11);go_simp;refine (sameT _ _ R C W _ (HFH.out.below hI.bel) h11).mono ?_;rintro e wa ⟨v,rfl,hv,hba⟩;exact hK _ _ ((hI.world hba).y mm12 hv)
  ·exact xgt (hI.e mm6 (hd 6)) (hI.e mm12 (hd 12))
  ·exact xgs (hI.e mm13 (hd 13))
  ·have zg:=hI.e mm14 (hd 14)
   refine step_wanted xgp ?_;have zt:=hI.k 4 rfl kR;have cc0:=hI.cell c1;have cc1:=hI.cell c2;have cc2:=hI.cell c3; exact xgu
  ·have zg:=hI.e mm14 (hd 14)
   refine step_wanted xgp ?_;have zt15:=hI.e mm15 (hd 15);go_simp;refine (hbasisE (M0:=9) (e:=5) dE dE dE _ M R C _ (HM.out.below hI.bel) HF.out hR4 hC4 HA9.out HEZ.out).mono ?_;rintro e wa ⟨v,rfl,hv,hba⟩;exact hK _ _ ((hI.world hba).y mm16 hv)
  ·have zg:=hI.e mm14 (hd 14)
   refine step_wanted xgp ?_;have zt:=hI.k 4 rfl kR;have cc0:=hI.cell c1;have cc1:=hI.cell c2;have cc2:=hI.cell c3; exact xgu
  ·have zg:=hI.e mm14 (hd 14)
   refine step_wanted xgp ?_;have zt17:=hI.e mm17 (hd 17);go_simp;refine (r12basisE (M0:=9) (e:=5) dE dE dE _ M R C _ (HM.out.below hI.bel) HF.out hR4 hC4 HA9.out HEZ.out).mono ?_;rintro e wa ⟨v,rfl,hv,hba⟩;exact hK _ _ ((hI.world hba).y mm18 hv)
  ·have zg:=hI.e mm14 (hd 14)
   refine step_wanted xgp ?_;obtain ⟨v16,zt16,h16⟩:=hI.v mm16 (hd 16);obtain ⟨v18,zt18,h18⟩:=hI.v mm18 (hd 18);go_simp;refine (sameT _ _ rk C Z _ h16 h18).mono ?_;rintro e wa ⟨v,rfl,hv,hba⟩;exact hK _ _ ((hI.world hba).y mm19 hv)
  ·exact xgt (hI.e mm14 (hd 14)) (hI.e mm19 (hd 19))
  ·exact xgs (hI.e mm20 (hd 20))
  ·have zg:=hI.e mm21 (hd 21)
   refine step_wanted xgp ?_;have zt:=hI.k 4 rfl kR;have cc0:=hI.cell c1;have cc1:=hI.cell c2;have cc2:=hI.cell c3; exact xgu
  ·have zg:=hI.e mm21 (hd 21)
   refine step_wanted xgp ?_;have zt:=hI.k 5 rfl kR;have cc0:=hI.cell q0;have cc1:=hI.cell q1;have cc2:=hI.cell q2;have cc3:=hI.cell q3;have cc4:=hI.cell q4;have cc5:=hI.cell q5;have cc6:=hI.cell q6;have cc7:=hI.cell q7;have cc8:=hI.cell q8; exact xgu
  ·have zg:=hI.e mm21 (hd 21)
   refine step_wanted xgp ?_;have zt22:=hI.e mm22 (hd 22);have zt23:=hI.e mm23 (hd 23);go_simp;refine (hcheckT _ _ R C _ _ U V _ (HM.out.below hI.bel) HF.out (HFV.out.below hI.bel) hR4 hC4 HG.out).mono ?_;rintro e wa ⟨v,rfl,hv,hba⟩;exact hK _ _ ((hI.world hba).y mm24 hv)
  ·exact xgt (hI.e mm21 (hd 21)) (hI.e mm24 (hd 24))
  ·exact xgs (hI.e mm25 (hd 25))
 intro wb hbwb T hT;simp only [Fin,E,EI,VP,VSl,VN,xgg,xgh,xgi,xgj] at hT;obtain ⟨va10,ha10,va11,ha11,va16,ha16,va18,ha18,rfl⟩:=hT;have hBF:=nx hB hbwb;go_wp2;go_ret;exact ⟨rfl,hBF⟩
end Go.Proofs.YtgnmdddaiefooaaGreat

namespace Go.Proofs.YtgnmdddaiefooaaGreat
open Go.ChangeShapes Go.WideShapes Go.ChangeAt Go.RowKit
theorem hermiteMatchesReference_lifted (os : Os) (started : os.Started) (H : Type) (enc : TypeId × Value->H) :
  ReturnsInHanded {} Tryz.checked os 7 .any (Rows.hermiteMatchesReferenceSpec.pre6 enc Tryz.prog Tryz.f7 Rows.hermiteMatchesReferenceRow.domain false) (Rows.hermiteMatchesReferenceSpec.post enc Tryz.prog Tryz.f7 false true false false):=by
 refine returnsInHanded_of_change (C:=Tryz.checked) Tryz.own started kR Tryz.func7
  (ChangeSpec.witness6 (enc:=enc) (C:=Tryz.checked) false ⟨#[],#[.agg #[.int .u8 0,.int .u8 0,.slice none 0 0]],[]⟩ 8 kR kR kR kR) ?_
 intro W base args ds gs before hval0 hW hcnd _;have hval : ∀(j : Nat) t v,Tryz.f7.params[j]? = some t->args[j]? = some v->Value.okWide Tryz.prog W .any base t v:=hval0;have hW':=hW;obtain ⟨p,q,hA0,hV,rfl,hfz,hnd⟩:=hW;have hA : DataW.TrodAll enc Tryz.prog W 0 (fun _=>true) true Tryz.f7.params.toList args.toList ds p:=hA0;rw [Tryz.params7] at hA hval;obtain ⟨v0,d0,rfl,rfl,h0⟩:=trodAll_one hA;obtain ⟨rfl,rfl⟩:=trodVars_none hV;clear hA0 hval0;simp only [List.append_nil] at hW';have hlt0 : ∀x ∈ p,x.block < W.heap.size:=fun x hx=>hW'.lt x (by simp [hx])
 obtain ⟨a,b,sv,ls,rfl,ha,hb,hI⟩:=open_raw (hval 0 24 v0 rfl rfl) h0 hlt0;refine (hermiteMatchesReference_any sv a b ls W hI ha hb).mono fun e W' ⟨he,hB⟩=>?_
 subst he;refine ⟨_,rfl,_,_,_,[],p,[],hW',?_,?_,rfl,hB.frame _,fun h=>by cases h⟩
 ·exact trodAll_mk1 (shut_bool Tryz.underlying4 true)
 ·exact trodAll_mk1 (Below.trod Tryz.laidOut kR (of_decide_eq_true kR) h0 hB hlt0)
theorem hermiteMatchesReference_holds : Rows.HermiteMatchesReferenceSaid:=
 OpenClaim.holds_of_wide 7 Tryz.f7 rfl rfl rfl rfl rfl rfl rfl ⟨rfl,rfl,rfl,rfl,rfl⟩ rfl rfl rfl rfl rfl kR Tryz.func7 kR
  (of_decide_eq_true kR) (by unfold Func.isWrapper; first | (rw [if_pos (by decide +kernel)]; kernel_rfl) | (rw [if_neg (by decide +kernel)]; exact ⟨rfl,rfl⟩))
  (fun os started H enc _=>hermiteMatchesReference_lifted os started H enc)
end Go.Proofs.YtgnmdddaiefooaaGreat
