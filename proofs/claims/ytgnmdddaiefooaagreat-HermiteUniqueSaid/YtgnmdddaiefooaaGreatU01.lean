/- torsionlaw12.HermiteUnique: whatever the input, it returns true, and the input reads as it did. No conditions. -/
import Derived.Test.YtgnmdddaiefooaaGreatRows
import Derived.Test.YtgnmdddaiefooaaGreatD43
import Derived.Test.YtgnmdddaiefooaaGreatD44
import Derived.Test.YtgnmdddaiefooaaGreatD48
set_option linter.unusedVariables false
set_option linter.unusedSimpArgs false
set_option linter.unusedSectionVars false
set_option maxHeartbeats 16000000
set_option maxRecDepth 100000
namespace Go.Proofs.YtgnmdddaiefooaaGreat
open Go.RowKit
theorem HLat.congr {R C r : Nat} {c : Nat->Nat} {A A' H H' : Nat->Nat->Int} (h : HLat R C r c A H) (e1 : ∀a,a < R->∀b,b < C->A' a b = A a b) (e2 : ∀a,a < R->∀b,b < C->H a b = H' a b) (hn : Hnf C R r c H') : HLat R C r c A' H':=
 ⟨hn,h.sp.congr (fun a ha b hb=>(e2 a ha b hb).symm) e1,h.sp'.congr e1 (fun a ha b hb=>(e2 a ha b hb).symm)⟩
theorem HLat.ops {R C r : Nat} {c : Nat->Nat} {A H : Nat->Nat->Int} {l : List Op} (hl : okOps R l) (h : HLat R C r c (opsF l A) H) : HLat R C r c A H:=
 ⟨h.hnf,h.sp.trans (spans_ops hl A).2,(spans_ops hl A).1.trans h.sp'⟩
theorem HLat.self {R C r : Nat} {c : Nat->Nat} {H : Nat->Nat->Int} (h : Hnf C R r c H) : HLat R C r c H H:=⟨h,Spans.refl _ _ _,Spans.refl _ _ _⟩
theorem HLat.src {R C r : Nat} {c : Nat->Nat} {A A' H : Nat->Nat->Int} (h : HLat R C r c A H) (e1 : ∀a,a < R->∀b,b < C->A' a b = A a b) : HLat R C r c A' H:=h.congr e1 (fun _ _ _ _=>rfl) h.hnf
theorem hformL {M0 e : Nat} (hM1 : 1<=M0) (hM0 : 2 * M0<=2 ^ e) (he : e<=31) (v : Value) (M : List (List Int)) (R C : Nat) (w : World) (h : MatV w v R C M) (hF : Fits R C M) (hR : R<=4) (hC : C<=4) (hA : leM M0 R C (ent M)) :
  Calls Tryz.prog 41 #[v] w fun e w'=>∃v H U V,e = .returned v/\HermV w' v R C (genM R C H) U V/\(∃r c,HLat R C r c (ent M) H)/\leM (24 * (8 * M0) ^ 4) R C H/\Below w.heap.size w w':=by
 refine (hform_small hM1 hM0 he v M R C w h hF hR hC hA).mono ?_;rintro ee w' ⟨v,r,c,H,U,V,rfl,hf,b1,b2,b3,hv,hb⟩;exact ⟨v,H,_,_,rfl,hv,⟨r,c,hf.lat⟩,b1,hb⟩
theorem hformE {M0 e : Nat} (hM1 : 1<=M0) (hM0 : 2 * M0<=2 ^ e) (he : e<=31) (v : Value) (M W : List (List Int)) (R C : Nat) (w : World) (h : MatV w v R C M) (hF : Fits R C M) (hR : R<=4) (hC : C<=4) (hA : leM M0 R C (ent M)) (hW : ∀r c H,HLat R C r c (ent M) H->genM R C H = W) :
  Calls Tryz.prog 41 #[v] w fun e w'=>∃v U V,e = .returned v/\HermV w' v R C W U V/\Below w.heap.size w w':=by
 refine (hformL hM1 hM0 he v M R C w h hF hR hC hA).mono ?_;rintro ee w' ⟨v,H,U,V,rfl,hv,⟨r,c,hl⟩,-,hb⟩;rw [hW r c H hl] at hv;exact ⟨v,U,V,rfl,hv,hb⟩
theorem r12isT (v : Value) (R C : Int) (M : List (List Int)) (w : World) (h : MatV w v R C M) (hS : ∀r ∈ M,∀z ∈ r,Sm z) (hb : IsHP R C M) :
  Calls Tryz.prog 29 #[v] w fun e w'=>∃v,e = .returned v/\v = .bool true/\Below w.heap.size w w':=by
 refine (r12is_any v R C M w h hS).mono ?_;rintro e w' ⟨d,rfl,hd,hb'⟩;exact ⟨_,rfl,by rw [hd.2 hb],hb'⟩
def HMatV (R C : Nat) (W : List (List Int)) : World->Value->Prop:=fun w v=>∃U V,HermV w v R C W U V
theorem lastsB_hmat (R C : Nat) (W : List (List Int)) : LastsB (HMatV R C W):=fun _ _ _ hb ⟨U,V,h⟩=>⟨U,V,h.below hb⟩
theorem field_herm0 (a b c d e f g h i : Value) (W : World) : (Instr.field 62 (.agg #[a,b,c,d,e,f,g,h,i]) 0).run Tryz.prog W = .ok (.agg #[a,b,c]) W:=by
 kernel_rfl
theorem nine_two : 24 * (8 * 9) ^ 4 = 644972544:=by decide
theorem hermiteUnique_any (v lv : Value) (r c : Nat) (ls : List Int) (st : List (Nat × Nat × Nat × Int)) (w : World) (h : I8V w v ls) (hst : StV w lv st) (hr : r<=255) (hc : c<=255) :
  Calls Tryz.prog 8 #[.agg #[.int .u8 r,.int .u8 c,v],lv] w fun e w'=>e = .returned (.bool true)/\Below w.heap.size w w':=by
 obtain ⟨ao,n,cap,rfl,-,-,-,-,-⟩:=id h;obtain ⟨so,sn,sc,rfl,-,-,-,-,-⟩:=id hst;obtain ⟨R,hR⟩ : ∃R : Nat,R = r % 5:=⟨_,rfl⟩;obtain ⟨C,hC⟩ : ∃C : Nat,C = c % 5:=⟨_,rfl⟩;have hR4 : R<=4:=by omega
 have hC4 : C<=4:=by omega
 have HR:=xgw hR;have HC:=xgw hC;clear hR hC;obtain ⟨M,hM⟩ : ∃M,genM R C (digF C ls) = M:=⟨_,rfl⟩;have HMade : HidS (∀w,I8V w (.slice ao n cap) ls->Calls Tryz.prog 14 #[.agg #[.int .u8 r,.int .u8 c,.slice ao n cap]] w fun e w'=>∃v,e = .returned v/\MatV w' v R C M/\Below w.heap.size w w'):=⟨fun w h=>by
  rw [<-hM];exact madeM _ r c ls w h hr hc R C HR.out HC.out⟩
 have HF : HidS (Fits R C M):=⟨by rw [<-hM]; exact genM_fits _ _ _⟩;have HA9 : HidS (leM 9 R C (ent M)):=⟨by rw [<-hM]; exact ent_leM (digF_leM R C C ls)⟩;clear hM;go_enter Tryz.func8,Tryz.ntmps8;go_upto_region 1 with (fail)
 refine wp_world ?_;intro W0 hW0;obtain ⟨hB0,bx,hs0⟩:=world1 hW0;clear hW0;go_wp2_with fail
 refine (sanity12_any W0).mono ?_;rintro e w1 ⟨rfl,hb1⟩;have hB:=nx hB0 hb1;have bx:=bx.below hb1;obtain ⟨c1,c2,c3,c4,c5,c6⟩:=bx.three;go_wp2_with fail
 refine (HMade.out w1 (h.below hB)).mono ?_;rintro e w2 ⟨va,rfl,hm,hb2⟩;obtain ⟨ro,rn,rc,rfl⟩:=hm.agg;have hB:=nx hB hb2;clear c1 c2 c3 c4 c5 c6 bx;go_upto_region 3 with (fail)
 refine wp_world ?_;intro W3 hW3;obtain ⟨hB3,T6,hs3⟩:=world1 hW3;have HM:=xgv (hm.below hB3);have hB:=nx hB hB3;clear hW3 hm;obtain ⟨c1,c2,c3,c4,c5,c6⟩:=T6.three;go_wp2_with fail
 refine (hformL (M0:=9) (e:=5) dE dE dE _ M R C W3 HM.out HF.out hR4 hC4 HA9.out).mono ?_;rintro e w4 ⟨fv,H,U,V,rfl,hf,⟨rk,kc,hl⟩,hle,hb4⟩;obtain ⟨f1,f2,f3,f4,f5,f6,f7,f8,f9,rfl,hfh⟩:=hf.agg;obtain ⟨W,hW⟩ : ∃W,genM R C H = W:=⟨_,rfl⟩;have HFW : HidS (Fits R C W):=⟨by rw [<-hW]; exact genM_fits _ _ _⟩;have HLEW : HidS (leM 644972544 R C (ent W)):=⟨by rw [<-hW,<-nine_two]; exact ent_leM hle⟩;have HEW : HidS (∀a,a < R->∀b,b < C->ent W a b = H a b):=⟨fun a ha b hb=>by rw [<-hW]; exact ent_genM ha hb⟩;have HWG:=xgv hW;rw [hW] at hfh;have HL:=xgv hl;have HFH:=xgv hfh;have HM:=xgv (HM.out.below hb4);have T6:=T6.below hb4;have hB:=nx hB hb4;clear c1 c2 c3 c4 c5 c6 hf hl hle hfh hW;have hfl:=field_herm0;go_upto_region 4 with (fail)
 refine wp_world ?_;intro W5 hW5;obtain ⟨hB5,T7,hs5⟩:=world1 hW5;have HM:=xgv (HM.out.below hB5);have HFH:=xgv (HFH.out.below hB5);have T6:=T6.below hB5;have hB:=nx hB hB5;clear hW5;obtain ⟨c1,c2,c3,c4,c5,c6⟩:=T6.three;go_wp2_with fail
 refine (moved_any _ _ R C M st 9 W5 HM.out HF.out oM oM (hst.below hB) oM dE HA9.out).mono ?_;rintro e w6 ⟨mv,l,rfl,hol,hmv,hml,hb6⟩;obtain ⟨m1,m2,m3,rfl⟩:=hmv.agg;have HFH:=xgv (HFH.out.below hb6);have T7:=T7.below hb6;have hB:=nx hB hb6;have HE : HidS (∀r c H',HLat R C r c (ent (genM R C (opsF l (ent M)))) H'->genM R C H' = W):=⟨fun r c H' h'=>by
  rw [<-HWG.out];exact ((h'.src fun a ha b hb=>(ent_genM ha hb).symm).ops hol |>.eq HL.out).2⟩
 clear c1 c2 c3 c4 c5 c6 HM T6;go_wp2_with fail
 refine (hformE (M0:=9 * 4 ^ 12) (e:=29) dE dE dE _ _ W R C w6 hmv (genM_fits _ _ _) hR4 hC4 (ent_leM hml) HE.out).mono ?_;rintro e w7 ⟨fv,U2,V2,rfl,hf,hb7⟩;obtain ⟨g1,g2,g3,g4,g5,g6,g7,g8,g9,rfl,hfh2⟩:=hf.agg;have HFH:=xgv (HFH.out.below hb7);have HFH2:=xgv hfh2;have T7:=T7.below hb7;have hB:=nx hB hb7;clear hf hfh2 hmv hml HE;go_upto_region 5 with (fail)
 refine wp_world ?_;intro W8 hW8;obtain ⟨hB8,T8,hs8⟩:=world1 hW8;have HFH:=xgv (HFH.out.below hB8);have HFH2:=xgv (HFH2.out.below hB8);have T7:=T7.below hB8;have hB:=nx hB hB8;clear hW8;obtain ⟨c1,c2,c3,c4,c5,c6⟩:=T7.three;obtain ⟨d1,d2,d3,d4,d5,d6⟩:=T8.three;go_wp2_with fail
 refine (sameT _ _ R C W W8 HFH.out HFH2.out).mono ?_;rintro e w9 ⟨_,rfl,rfl,hb9⟩;have HFH:=xgv (HFH.out.below hb9);have T7:=T7.below hb9;have hB:=nx hB hb9;clear c1 c2 c3 c4 c5 c6 d1 d2 d3 d4 d5 d6 T8 HFH2;obtain ⟨c1,c2,c3,c4,c5,c6⟩:=T7.three;go_wp2_with fail
 refine (r12isT _ R C W w9 HFH.out (by rw [<-HWG.out]; exact genM_all fun a ha b hb=>BD_sm (bd90 (Nat.le_trans (by rw [<-HEW.out a ha b hb]; exact HLEW.out a ha b hb) dE))) (by rw [<-HWG.out]; exact isHP_genM.2 ⟨_,_,HL.out.hnf⟩)).mono ?_;rintro e wa ⟨_,rfl,rfl,hba⟩;have HFH:=xgv (HFH.out.below hba);have T7:=T7.below hba;have hB:=nx hB hba;clear c1 c2 c3 c4 c5 c6;obtain ⟨c1,c2,c3,c4,c5,c6⟩:=T7.three;have HE : HidS (∀r c H',HLat R C r c (ent W) H'->genM R C H' = W):=⟨fun r c H' h'=>by
  rw [<-HWG.out];exact ((h'.src fun a ha b hb=>(HEW.out a ha b hb).symm).eq (HLat.self HL.out.hnf)).2⟩
 have hl1:=lastsB_hmat R C W;have lT:=T7.lt;go_upto_region 7 with (fail)
 refine wp_region_each rfl (RV wa _ [E 0 29 (.bool true),E 1 30 (.bool true),E 2 31 (.agg #[.int .i64 R,.int .i64 C,.slice f1 f2 f3]),⟨3,32,HMatV R C W⟩,⟨4,33,fun w v=>MatV w v (R) (C) (W)⟩,E 5 34 (.agg #[.int .i64 R,.int .i64 C,.slice f1 f2 f3]),E 6 35 (.bool true),E 7 36 (.bool true),E 8 4 (.bool true)]) kR RV.start (RV.fin kR ?fin1) ?steps1
 case steps1=>
  refine ⟨?_,?_,?_,?_,?_,?_,?_,?_,?_,trivial⟩ <;> (intro L T wS hL hd hcl hI K hK; try refine step_wanted rfl ?_)
  ·exact xgs (hI.k 5 rfl kR)
  ·exact xgs (hI.e mm0 (hd 0))
  ·have zg:=hI.e mm1 (hd 1)
   refine step_wanted xgp ?_;have zt:=hI.k 7 rfl kR;have cc0:=hI.cell c1;have cc1:=hI.cell c2;have cc2:=hI.cell c3; exact xgu
  ·have zg:=hI.e mm1 (hd 1)
   refine step_wanted xgp ?_;obtain ⟨_,zt2,rfl⟩:=hI.v mm2 (hd 2);go_simp;refine (hformE (M0:=644972544) (e:=31) dE dE dE _ W W R C _ (HFH.out.below hI.bel) HFW.out hR4 hC4 HLEW.out HE.out).mono ?_;rintro e wx ⟨fv,U3,V3,rfl,hf,hbx⟩;exact hK _ _ ((hI.world hbx).y mm3 ⟨_,_,hf⟩)
  ·have zg:=hI.e mm1 (hd 1)
   refine step_wanted xgp ?_;obtain ⟨v3,zt3,h3⟩:=hI.v mm3 (hd 3);obtain ⟨U3,V3,hf3⟩ : HMatV R C W wS v3:=h3;obtain ⟨x1,x2,x3,x4,x5,x6,x7,x8,x9,rfl,hx⟩:=hf3.agg;go_simp;exact hK _ _ (hI.y mm4 hx)
  ·have zg:=hI.e mm1 (hd 1)
   refine step_wanted xgp ?_;have zt:=hI.k 7 rfl kR;have cc0:=hI.cell c1;have cc1:=hI.cell c2;have cc2:=hI.cell c3; exact xgu
  ·have zg:=hI.e mm1 (hd 1)
   refine step_wanted xgp ?_;obtain ⟨v4,zt4,h4⟩:=hI.v mm4 (hd 4);have zt5:=hI.e mm5 (hd 5);go_simp;refine (sameT _ _ R C W _ h4 (HFH.out.below hI.bel)).mono ?_;rintro e wa ⟨v,rfl,hv,hba⟩;exact hK _ _ ((hI.world hba).y mm6 hv)
  ·exact xgt (hI.e mm1 (hd 1)) (hI.e mm6 (hd 6))
  ·exact xgs (hI.e mm7 (hd 7))
 intro wb hbwb T hT;simp only [Fin,E,EI,VP,VSl,VN,xgg,xgh,xgi,xgj] at hT;obtain ⟨va3,ha3,va4,ha4,rfl⟩:=hT;have hBF:=nx hB hbwb;go_wp2;go_ret;exact ⟨rfl,hBF⟩
end Go.Proofs.YtgnmdddaiefooaaGreat

namespace Go.Proofs.YtgnmdddaiefooaaGreat
open Go.ChangeShapes Go.WideShapes Go.ChangeAt Go.RowKit
theorem hermiteUnique_lifted (os : Os) (started : os.Started) (H : Type) (enc : TypeId × Value->H) :
  ReturnsInHanded {} Tryz.checked os 8 .any (Rows.hermiteUniqueSpec.pre6 enc Tryz.prog Tryz.f8 Rows.hermiteUniqueRow.domain false) (Rows.hermiteUniqueSpec.post enc Tryz.prog Tryz.f8 false true false false):=by
 refine returnsInHanded_of_change (C:=Tryz.checked) Tryz.own started kR Tryz.func8
  (ChangeSpec.witness6 (enc:=enc) (C:=Tryz.checked) false ⟨#[],#[.agg #[.int .u8 0,.int .u8 0,.slice none 0 0],.slice none 0 0],[]⟩ 8 kR kR kR kR) ?_
 intro W base args ds gs before hval0 hW hcnd _;have hval : ∀(j : Nat) t v,Tryz.f8.params[j]? = some t->args[j]? = some v->Value.okWide Tryz.prog W .any base t v:=hval0;have hW':=hW;obtain ⟨p,q,hA0,hV,rfl,hfz,hnd⟩:=hW;have hA : DataW.TrodAll enc Tryz.prog W 0 (fun _=>true) true Tryz.f8.params.toList args.toList ds p:=hA0;rw [Tryz.params8] at hA hval;obtain ⟨v0,v1,d0,d1,p0,p1,rfl,rfl,rfl,h0,h1⟩:=trodAll_two hA;obtain ⟨rfl,rfl⟩:=trodVars_none hV;clear hA0 hval0;simp only [List.append_nil] at hW';have hlt0 : ∀x ∈ p0,x.block < W.heap.size:=fun x hx=>hW'.lt x (by simp [hx])
 have hlt1 : ∀x ∈ p1,x.block < W.heap.size:=fun x hx=>hW'.lt x (by simp [hx])
 obtain ⟨a,b,sv,ls,rfl,ha,hb,hI⟩:=open_raw (hval 0 24 v0 rfl rfl) h0 hlt0;obtain ⟨st,hS⟩:=open_steps (hval 1 56 v1 rfl rfl) h1 hlt1;refine (hermiteUnique_any sv v1 a b ls st W hI hS ha hb).mono fun e W' ⟨he,hB⟩=>?_
 subst he;refine ⟨_,rfl,_,_,_,[],p0 ++ p1,[],hW',?_,?_,rfl,hB.frame _,fun h=>by cases h⟩
 ·exact trodAll_mk1 (shut_bool Tryz.underlying4 true)
 ·exact trodAll_mk2 (Below.trod Tryz.laidOut kR (of_decide_eq_true kR) h0 hB hlt0) (Below.trod Tryz.laidOut kR (of_decide_eq_true kR) h1 hB hlt1)
theorem hermiteUnique_holds : Rows.HermiteUniqueSaid:=
 OpenClaim.holds_of_wide 8 Tryz.f8 rfl rfl rfl rfl rfl rfl rfl ⟨rfl,rfl,rfl,rfl,rfl⟩ rfl rfl rfl rfl rfl kR Tryz.func8 kR
  (of_decide_eq_true kR) (by unfold Func.isWrapper; first | (rw [if_pos (by decide +kernel)]; kernel_rfl) | (rw [if_neg (by decide +kernel)]; exact ⟨rfl,rfl⟩))
  (fun os started H enc _=>hermiteUnique_lifted os started H enc)
end Go.Proofs.YtgnmdddaiefooaaGreat
