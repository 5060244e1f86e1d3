/- torsionref12: Rank, Top, Basis. torsionlaw12.HermiteUnique: the walk. torsionlaw12.HermiteMatchesReference: the walk. torsionlaw12.HermiteIs: the walk. -/
import Derived.Test.YtgnmdddaiefooaaGreatD43
import Derived.Test.YtgnmdddaiefooaaGreatD48
import Derived.Test.YtgnmdddaiefooaaGreatD49
set_option linter.unusedVariables false
set_option linter.unusedSimpArgs false
set_option linter.unusedSectionVars false
set_option maxHeartbeats 16000000
set_option maxRecDepth 100000
namespace Go.Proofs.YtgnmdddaiefooaaGreat
open Go.RowKit
theorem r12form_small {M0 e : Nat} (hM1 : 1<=M0) (hM : 2 * M0<=2 ^ e) (he : e<=15) (v : Value) (M : List (List Int)) (R C : Nat) (w : World) (h : MatV w v R C M) (hF : Fits R C M) (hR : R<=4) (hC : C<=4) (hA : leM M0 R C (ent M)) :
  Calls Tryz.prog 43 #[v] w fun e w'=>∃v r c H U V,e = .returned v/\HForm R C r c (ent M) H U V/\leM (24 * (8 * M0) ^ 4) R C H/\leM (gk 40 M0) R R U/\leM (gk 40 M0) R R V/\HermV w' v R C (genM R C H) (genM R R U) (genM R R V)/\Below w.heap.size w w':=by
 have hE : eE R R<=2 ^ 20:=eE_le hR (xgf _);have hg : gx (eE R R) M0<=gk 40 M0:=by
  rw [<-gx_gk];exact gx_mono hM1 (Nat.le_trans hE (Nat.pow_le_pow_right oM oM))
 have hgB : gx (eE R R) M0 < BD:=Nat.lt_of_le_of_lt hg (gk_BD (xgf _) hM1 hM oM);refine (r12form_any hM1 v M R C w h hF oM oM hA hgB).mono ?_;rintro ee w' ⟨v,c,r,κ,x,rfl,hko,hcr,hv,hb⟩;have hf:=hko.form hcr;have hle:=hko.2.mono (Nat.le_trans (gx_mono hM1 (eE_mono R hko.1.rn)) hg);exact ⟨v,r,κ,_,_,_,rfl,hf,hf.bound hR hM1 hA,hle.2.1,fun a ha b hb=>hle.2.2 b hb a ha,hv,hb⟩
theorem HLat.congr {R C r : Nat} {c : Nat->Nat} {A A' H H' : Nat->Nat->Int} (h : HLat R C r c A H) (e1 : ∀a,a < R->∀b,b < C->A' a b = A a b) (e2 : ∀a,a < R->∀b,b < C->H a b = H' a b) (hn : Hnf C R r c H') : HLat R C r c A' H':=
 ⟨hn,h.sp.congr (fun a ha b hb=>(e2 a ha b hb).symm) e1,h.sp'.congr e1 (fun a ha b hb=>(e2 a ha b hb).symm)⟩
theorem HLat.ops {R C r : Nat} {c : Nat->Nat} {A H : Nat->Nat->Int} {l : List Op} (hl : okOps R l) (h : HLat R C r c (opsF l A) H) : HLat R C r c A H:=
 ⟨h.hnf,h.sp.trans (spans_ops hl A).2,(spans_ops hl A).1.trans h.sp'⟩
def HMatV (R C : Nat) (W : List (List Int)) : World->Value->Prop:=fun w v=>∃U V,HermV w v R C W U V
theorem nine_two : 24 * (8 * 9) ^ 4 = 644972544:=by decide
theorem HLat.rows {R C r r' : Nat} {c c' : Nat->Nat} {A H H' : Nat->Nat->Int} (h : HLat R C r c A H) (h' : HLat R C r' c' A H') : r' = r/\genM r' C H' = genM r C H:=by
 obtain ⟨rfl,-,e2⟩:=hnf_unique h.hnf h'.hnf (h.sp.trans h'.sp') (h'.sp.trans h.sp');exact ⟨rfl,genM_congr fun i hi j hj=>e2 i (Nat.lt_of_lt_of_le hi h.hnf.le) j hj⟩

end Go.Proofs.YtgnmdddaiefooaaGreat
