/- torsionlaw14.DiophantFinds: whatever the input, it returns true, and the input reads as it did. No conditions. -/
import Derived.Test.YtnbmaipobhppcaaGreatRows
import Derived.Test.YtnbmaipobhppcaaGreatD29
import Derived.Test.YtnbmaipobhppcaaGreatD30
set_option linter.unusedVariables false
set_option linter.unusedSimpArgs false
set_option linter.unusedSectionVars false
set_option maxHeartbeats 16000000
set_option maxRecDepth 100000
namespace Go.Proofs.YtnbmaipobhppcaaGreat
open Go.RowKit
theorem zGH.flag{R C:Nat}{A:Nat->Nat->Int}{y:Nat->Int}{w:World}{u:Value}(h:zGH R C A y w u):∃f o n k o' n' k',u= .agg #[.bool f,.slice o n k,.slice o' n' k']/\(f=true↔∃x,zJz R C A y x):=by
 rcases id h with⟨xv,x,rfl,hx,h1,-⟩|⟨yv,q,rfl,hp,h1,-⟩
 ·obtain⟨o,n,k,rfl,-⟩:=id hx
  exact⟨true,o,n,k,none,0,0,rfl,fun _=>⟨x,h1⟩,fun _=>rfl⟩
 ·obtain⟨o,n,k,rfl,-⟩:=id hp
  exact⟨false,none,0,0,o,n,k,rfl,nofun,fun⟨x,hx⟩=>(zIv hx h1).elim⟩
theorem zIS{R C:Nat}{A:Nat->Nat->Int}(h:leM 9 R C A):leM 1000 R C A:=fun a ha b hb=>Nat.le_trans (h a ha b hb) dE
theorem diophantFinds_any(v lv:Value)(r c:Nat)(ls l1:List Int)(w:World)(h:I8V w v ls)(hl:I8V w lv l1)(hr:r<=255)(hc:c<=255):
  Calls Tryz.prog 4 #[.agg #[.int .u8 r,.int .u8 c,v],lv] w fun e w'=>e= .returned (.bool true)/\Below w.heap.size w w':=by
 obtain⟨ao,n,cap,rfl,-,-,-,-,-⟩:=id h;obtain⟨R,hR⟩:∃R:Nat,R=r%5:=⟨_,rfl⟩;obtain⟨C,hC⟩:∃C:Nat,C=c%5:=⟨_,rfl⟩;have hR4:R<=4:=by omega
 have hC4:C<=4:=by omega
 have HR:=xgw hR;have HC:=xgw hC;clear hR hC;obtain⟨M,hM⟩:∃M,zX R C (zHL C ls)=M:=⟨_,rfl⟩;have HMade:qF (∀w,I8V w (.slice ao n cap) ls->Calls Tryz.prog 15 #[.agg #[.int .u8 r,.int .u8 c,.slice ao n cap]] w fun e w'=>∃v,e= .returned v/\yP w' v R C M/\Below w.heap.size w w'):=⟨fun w h=>by
  rw[<-hM];exact zP5 _ r c ls w h hr hc R C HR.out HC.out⟩
 have HF:qF (jK R C M):=⟨by rw[<-hM];exact zAV _ _ _⟩;have HA9:qF (leM 9 R C (ent M)):=⟨by rw[<-hM];exact zNz (zL6 R C C ls)⟩;clear hM;obtain⟨lo,ln,lc,rfl,-,-,-,-,-⟩:=id hl;obtain⟨x,hx0⟩:∃x:Nat->Int,zHL R l1 0=x:=⟨_,rfl⟩;have HVE:qF (∀w,I8V w (.slice lo ln lc) l1->Calls Tryz.prog 16 #[.slice lo ln lc,.int .i64 R] w fun e w'=>∃u,e= .returned u/\qT w' u (zM R x)/\Below w.heap.size w w'):=⟨fun w h=>hx0 ▸ zJo _ R l1 w h oM⟩;have HX9:qF (∀b,(x b).natAbs<=9):=⟨fun b=>hx0 ▸ zKH R l1 0 b⟩;clear hx0;obtain⟨y,hy⟩:∃y:Nat->Int,zCj [zM R x] M R 0=y:=⟨_,rfl⟩;have HY:qF (∀j,j<C->(y j).natAbs<=1000000):=⟨fun j hj=>hy ▸ Nat.le_trans (zMj HA9.out HX9.out hj (xgf R)) oM⟩;have HSX:qF (zJz R C (ent M) y x):=⟨fun j hj=>by
  rw[<-hy];unfold zCj;rw[zCL];exact zU fun i hi=>by rw[zAU (i:=0) (j:=i) rfl (zO hi)]⟩
 have HAC:qF (∀(v:Value) (w:World),yP w v R C M->∀xv,qT w xv (zM R x)->Calls Tryz.prog 21 #[xv,v] w fun e w'=>∃u,e= .returned u/\qT w' u (zM C y)/\Below w.heap.size w w'):=⟨fun v w hm xv hx=>hy ▸ zNl _ _ R C M x w hx hm HF.out oM oM (zPO hR4 HA9.out HX9.out)⟩;clear hy;go_enter Tryz.func4,Tryz.ntmps4;go_upto_region 1 with(fail)
 refine zB ?_;intro W0 hW0;obtain⟨hB0,bx,hs0⟩:=zK hW0;clear hW0;go_wp2_with fail
 refine(zG4 W0).mono ?_;rintro e w1 ⟨rfl,hb1⟩;have hB:=nx hB0 hb1;have bx:=bx.below hb1;obtain⟨c1,c2,c3,c4,c5,c6⟩:=bx.three;go_wp2_with fail
 refine(HMade.out w1 (h.below hB)).mono ?_;rintro e w2 ⟨va,rfl,hm,hb2⟩;obtain⟨ro,rn,rc,rfl⟩:=hm.agg;have hB:=nx hB hb2;clear c1 c2 c3 c4 c5 c6 bx;go_upto_region 3 with(fail)
 refine zB ?_;intro W3 hW3;obtain⟨hB3,T6,hs3⟩:=zK hW3;have HM:=xgv (hm.below hB3);have hB:=nx hB hB3;clear hW3 hm;obtain⟨c1,c2,c3,c4,c5,c6⟩:=T6.three;have hvx:=qW (zM R x);have hvy:=qW (zM C y);refine zE rfl (RV W3 _ [E 0 13 (.slice lo ln lc),VP 1 14 w2.heap.size 0,VN 2 15 R,⟨3,16,fun w v=>qT w v (zM R x)⟩,E 4 17 (.agg #[.int .i64 R,.int .i64 C,.slice ro rn rc]),⟨5,18,fun w v=>qT w v (zM C y)⟩,⟨6,7,fun w v=>qT w v (zM C y)⟩]) kR RV.start (RV.fin kR ?fin1) ?steps1
 case steps1=>
  refine⟨?_,?_,?_,?_,?_,?_,?_,trivial⟩<;>(intro L T wS hL hd hcl hI K hK;try refine zA rfl ?_)
  ·exact xgs (hI.k 1 rfl kR)
  ·exact xgs (hI.k 6 rfl kR)
  ·have zt1:=hI.e mm1 (hd 1)
   have cc0:=hI.cell c1;exact xgu
  ·have zt0:=hI.e mm0 (hd 0)
   have zt2:=hI.e mm2 (hd 2);go_simp;refine(HVE.out _ (hl.below (nx hB hI.bel))).mono ?_;rintro e wa ⟨v,rfl,hv,hba⟩;exact hK _ _ ((hI.world hba).y mm3 hv)
  ·have zt:=hI.k 6 rfl kR
   have cc0:=hI.cell c1;have cc1:=hI.cell c2;have cc2:=hI.cell c3;exact xgu
  ·obtain⟨v3,zt3,h3⟩:=hI.v mm3 (hd 3)
   have zt4:=hI.e mm4 (hd 4);go_simp;refine(HAC.out _ _ (HM.out.below hI.bel) _ h3).mono ?_;rintro e wa ⟨v,rfl,hv,hba⟩;exact hK _ _ ((hI.world hba).y mm5 hv)
  ·obtain⟨z5,zt5,hz5⟩:=hI.v mm5 (hd 5)
   go_simp;exact hK _ _ (hI.y mm6 hz5)
 intro w5 hbw5 T hT;simp only[Fin,E,EI,VP,VSl,VN,xgg,xgh,xgi,xgj]at hT;obtain⟨va3,ha3,va5,ha5,va6,ha6,rfl⟩:=hT;obtain⟨yo,yn,yc,rfl,-⟩:=id ha6;have HM:=xgv (HM.out.below hbw5);have T6:=T6.below hbw5;have hB:=nx hB hbw5;have HYV:=xgv ha6;clear c1 c2 c3 c4 c5 c6 ha6;obtain⟨c1,c2,c3,c4,c5,c6⟩:=T6.three;go_wp2_with fail
 refine(zFH _ _ R C M y w5 HM.out HF.out HYV.out hR4 hC4 HA9.out HY.out).mono ?_;rintro e w6 ⟨u,rfl,hs,hb6⟩;obtain⟨f,o1,n1,k1,o2,n2,k2,rfl,hf⟩:=hs.flag;obtain rfl:f=true:=hf.2 ⟨x,HSX.out⟩;have HS:=xgv hs;have HM:=xgv (HM.out.below hb6);have HYV:=xgv (HYV.out.below hb6);have T6:=T6.below hb6;have hB:=nx hB hb6;clear c1 c2 c3 c4 c5 c6 hs hf;go_upto_region 5 with(fail)
 refine zB ?_;intro W7 hW7;obtain⟨hB7,T8,hs7⟩:=zK hW7;have HS:=xgv (HS.out.below hB7);have HM:=xgv (HM.out.below hB7);have HYV:=xgv (HYV.out.below hB7);have T6:=T6.below hB7;have hB:=nx hB hB7;clear hW7;obtain⟨c1,c2,c3,c4,c5,c6⟩:=T6.three;obtain⟨d1,d2,d3,d4,d5,d6⟩:=T8.three;go_wp2_with fail
 refine(zIw _ _ _ R C M y W7 HS.out HM.out HF.out HYV.out hR4 hC4 (zIS HA9.out) HY.out).mono ?_;rintro e w8 ⟨_,rfl,rfl,hb8⟩;go_wp2;go_ret;exact⟨rfl,nx hB hb8⟩
end Go.Proofs.YtnbmaipobhppcaaGreat

namespace Go.Proofs.YtnbmaipobhppcaaGreat
open Go.ChangeShapes Go.WideShapes Go.ChangeAt Go.RowKit
theorem diophantFinds_lifted(os:Os)(started:os.Started)(H:Type)(enc:TypeId × Value->H):
  ReturnsInHanded {} Tryz.checked os 4 .any (Rows.diophantFindsSpec.pre6 enc Tryz.prog Tryz.f4 Rows.diophantFindsRow.domain false) (Rows.diophantFindsSpec.post enc Tryz.prog Tryz.f4 false true false false):=by
 refine returnsInHanded_of_change (C:=Tryz.checked) Tryz.own started kR Tryz.func4
  (ChangeSpec.witness6 (enc:=enc) (C:=Tryz.checked) false ⟨#[],#[.agg #[.int .u8 0,.int .u8 0,.slice none 0 0],.slice none 0 0],[]⟩ 8 kR kR kR kR) ?_
 intro W base args ds gs before hval0 hW hcnd _;have hval:∀(j:Nat) t v,Tryz.f4.params[j]?=some t->args[j]?=some v->Value.okWide Tryz.prog W .any base t v:=hval0;have hW':=hW;obtain⟨p,q,hA0,hV,rfl,hfz,hnd⟩:=hW;have hA:DataW.TrodAll enc Tryz.prog W 0 (fun _=>true) true Tryz.f4.params.toList args.toList ds p:=hA0;rw[Tryz.params4]at hA hval;obtain⟨v0,v1,d0,d1,p0,p1,rfl,rfl,rfl,h0,h1⟩:=trodAll_two hA;obtain⟨rfl,rfl⟩:=trodVars_none hV;clear hA0 hval0;simp only[List.append_nil]at hW';have hlt0:∀x∈p0,x.block<W.heap.size:=fun x hx=>hW'.lt x (by simp[hx])
 have hlt1:∀x∈p1,x.block<W.heap.size:=fun x hx=>hW'.lt x (by simp[hx])
 obtain⟨a,b,sv,ls,rfl,ha,hb,hI⟩:=zMp (hval 0 24 v0 rfl rfl) h0 hlt0;obtain⟨ls1,hI1⟩:=zMo (hval 1 22 v1 rfl rfl) h1 hlt1;refine(diophantFinds_any sv v1 a b ls ls1 W hI hI1 ha hb).mono fun e W' ⟨he,hB⟩=>?_
 subst he;refine⟨_,rfl,_,_,_,[],p0++p1,[],hW',?_,?_,rfl,hB.frame _,fun h=>by cases h⟩
 ·exact trodAll_mk1 (shut_bool Tryz.underlying4 true)
 ·exact trodAll_mk2 (Below.trod Tryz.laidOut kR (of_decide_eq_true kR) h0 hB hlt0) (Below.trod Tryz.laidOut kR (of_decide_eq_true kR) h1 hB hlt1)
theorem diophantFinds_j1:(Rows.diophantFindsRow.inPlace==Tryz.pinned.checked.prog.inPlace 4)=true:=by kernel_rfl
theorem diophantFinds_j2:(Rows.diophantFindsRow.unfollowed==Tryz.pinned.checked.prog.unfollowed 4)=true:=by kernel_rfl
theorem diophantFinds_j3:(Rows.diophantFindsRow.recurses==Tryz.pinned.checked.prog.recurses 4)=true:=by kernel_rfl
theorem diophantFinds_j4:(Rows.diophantFindsRow.named==Tryz.pinned.checked.prog.varsNamed 4)=true:=by kernel_rfl
theorem diophantFinds_joined:joinedFacts Tryz.pinned.checked.prog 4 Tryz.f4 Rows.diophantFindsSpec Rows.diophantFindsRow=true:=by
 unfold joinedFacts;rw[diophantFinds_j1,diophantFinds_j2,diophantFinds_j3,diophantFinds_j4];kernel_rfl
theorem diophantFinds_holds:Rows.DiophantFindsSaid:=
 OpenClaim.holds_of_wide 4 Tryz.f4 rfl rfl rfl rfl rfl rfl rfl ⟨rfl,rfl,rfl,rfl,rfl⟩ rfl rfl rfl rfl rfl kR Tryz.func4 diophantFinds_joined
  (of_decide_eq_true kR) (by unfold Func.isWrapper;first|(rw[if_pos (by decide+kernel)];kernel_rfl)|(rw[if_neg (by decide+kernel)];exact⟨rfl,rfl⟩))
  (fun os started H enc _=>diophantFinds_lifted os started H enc)
end Go.Proofs.YtnbmaipobhppcaaGreat
