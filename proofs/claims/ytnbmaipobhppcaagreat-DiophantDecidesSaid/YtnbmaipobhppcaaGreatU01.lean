/- torsionlaw14.DiophantDecides: whatever the input, it returns true, and the input reads as it did. No conditions. -/
import Derived.Test.YtnbmaipobhppcaaGreatRows
import Derived.Test.YtnbmaipobhppcaaGreatD29
import Derived.Test.YtnbmaipobhppcaaGreatD30
set_option linter.unusedVariables false
set_option linter.unusedSimpArgs false
set_option linter.unusedSectionVars false
set_option maxHeartbeats 16000000
set_option maxRecDepth 100000
namespace Go.Proofs.YtnbmaipobhppcaaGreat
open Go.RowKit
theorem zGH.flag{R C:Nat}{A:Nat->Nat->Int}{y:Nat->Int}{w:World}{u:Value}(h:zGH R C A y w u):∃f o n k o' n' k',u= .agg #[.bool f,.slice o n k,.slice o' n' k']/\(f=true↔∃x,zJz R C A y x):=by
 rcases id h with⟨xv,x,rfl,hx,h1,-⟩|⟨yv,q,rfl,hp,h1,-⟩
 ·obtain⟨o,n,k,rfl,-⟩:=id hx
  exact⟨true,o,n,k,none,0,0,rfl,fun _=>⟨x,h1⟩,fun _=>rfl⟩
 ·obtain⟨o,n,k,rfl,-⟩:=id hp
  exact⟨false,none,0,0,o,n,k,rfl,nofun,fun⟨x,hx⟩=>(zIv hx h1).elim⟩
theorem zPE{w:World}{b:Nat}{sn:Bool}{sa:Option Addr}{sl sc:Nat}{z:Int}(hb:Blk w b tI #[.bool sn,.slice sa sl sc])(hz:zH w (.agg #[.bool sn,.slice sa sl sc]) z):ZsV w (.slice (some ⟨b,0,none⟩) 1 1) [z]:=by
 obtain⟨c1,c2,-,-⟩:=hb.two;refine⟨_,1,1,rfl,rfl,fun _=>⟨b,0,[.bool sn,.slice sa sl sc],rfl,rfl,fun k y hk=>?_,fun j u hj=>?_⟩⟩
 ·rcases k with _|k
  ·obtain rfl:z=y:=by simpa using hk
   exact⟨_,_,_,_,rfl,rfl,hz⟩
  ·simp at hk
 ·rcases j with _|_|j
  ·obtain rfl:Value.bool sn=u:=by simpa using hj
   exact c1
  ·obtain rfl:Value.slice sa sl sc=u:=by simpa using hj
   exact c2
  ·simp at hj
theorem zIS{R C:Nat}{A:Nat->Nat->Int}(h:leM 9 R C A):leM 1000 R C A:=fun a ha b hb=>Nat.le_trans (h a ha b hb) dE
theorem zCe(v lv:Value)(r c n0:Nat)(ls l1:List Int)(w:World)(h:I8V w v ls)(hl:I8V w lv l1)(hr:r<=255)(hc:c<=255)(hn0:n0<=255):
  Calls Tryz.prog 3 #[.agg #[.int .u8 r,.int .u8 c,v],lv,.int .u8 n0] w fun e w'=>e= .returned (.bool true)/\Below w.heap.size w w':=by
 obtain⟨ao,n,cap,rfl,-,-,-,-,-⟩:=id h;obtain⟨R,hR⟩:∃R:Nat,R=r%5:=⟨_,rfl⟩;obtain⟨C,hC⟩:∃C:Nat,C=c%5:=⟨_,rfl⟩;have hR4:R<=4:=by omega
 have hC4:C<=4:=by omega
 have HR:=xgw hR;have HC:=xgw hC;clear hR hC;obtain⟨M,hM⟩:∃M,zX R C (zHL C ls)=M:=⟨_,rfl⟩;have HMade:qF (∀w,I8V w (.slice ao n cap) ls->Calls Tryz.prog 15 #[.agg #[.int .u8 r,.int .u8 c,.slice ao n cap]] w fun e w'=>∃v,e= .returned v/\yP w' v R C M/\Below w.heap.size w w'):=⟨fun w h=>by
  rw[<-hM];exact zP5 _ r c ls w h hr hc R C HR.out HC.out⟩
 have HF:qF (jK R C M):=⟨by rw[<-hM];exact zAV _ _ _⟩;have HA9:qF (leM 9 R C (ent M)):=⟨by rw[<-hM];exact zNz (zL6 R C C ls)⟩;clear hM;obtain⟨lo,ln,lc,rfl,-,-,-,-,-⟩:=id hl;obtain⟨y,hy0⟩:∃y:Nat->Int,zHL C l1 0=y:=⟨_,rfl⟩;have HVE:qF (∀w,I8V w (.slice lo ln lc) l1->Calls Tryz.prog 16 #[.slice lo ln lc,.int .i64 C] w fun e w'=>∃u,e= .returned u/\qT w' u (zM C y)/\Below w.heap.size w w'):=⟨fun w h=>hy0 ▸ zJo _ C l1 w h oM⟩;have HY:qF (∀j,j<C->(y j).natAbs<=1000000):=⟨fun j _=>hy0 ▸ Nat.le_trans (zKH C l1 0 j) dE⟩;clear hy0;go_enter Tryz.func3,Tryz.ntmps3;go_upto_region 1 with(fail)
 refine zB ?_;intro W0 hW0;obtain⟨hB0,bx,hs0⟩:=zK hW0;clear hW0;go_wp2_with fail
 refine(zG4 W0).mono ?_;rintro e w1 ⟨rfl,hb1⟩;have hB:=nx hB0 hb1;have bx:=bx.below hb1;obtain⟨c1,c2,c3,c4,c5,c6⟩:=bx.three;go_wp2_with fail
 refine(HMade.out w1 (h.below hB)).mono ?_;rintro e w2 ⟨va,rfl,hm,hb2⟩;obtain⟨ro,rn,rc,rfl⟩:=hm.agg;have hB:=nx hB hb2;clear c1 c2 c3 c4 c5 c6 bx;go_upto_region 3 with(fail)
 refine zB ?_;intro W3 hW3;obtain⟨hB3,T8,hs3⟩:=zK hW3;have HM:=xgv (hm.below hB3);have hB:=nx hB hB3;clear hW3 hm;obtain⟨c1,c2,c3,c4,c5,c6⟩:=T8.three;go_wp2_with fail
 refine(HVE.out W3 (hl.below hB)).mono ?_;rintro e w4 ⟨yv,rfl,hy,hb4⟩;obtain⟨yo,yn,yc,rfl,hyn,-⟩:=id hy;rw[zD]at hyn;obtain rfl:C=yn:=hyn;have HM:=xgv (HM.out.below hb4);have HYV:=xgv hy;have T8:=T8.below hb4;have hB:=nx hB hb4;clear c1 c2 c3 c4 c5 c6 hy;have hrm:Int.tmod (n0:Int) 8=((n0%8:Nat):Int):=by rw[Int.tmod_eq_emod_of_nonneg oM];omega
 obtain⟨c1,c2,c3,c4,c5,c6⟩:=T8.three;by_cases hn7:n0%8=7
 ·rw[hn7]at hrm
  have q4:=hB.size;go_wp2_with (at_builtin;go_loud (refine zQI 31 Tryz.underlying31 rfl _ _ rfl w4.heap.size (.slice (some ⟨w4.heap.size,0,none⟩) 0 0) [] rfl (zLi w4 (xgf _)) _ (zM C y) rfl (HYV.out.zs.below ((Below.refl _ _).alloc (xgf _) _)) (by rw[zD];simp;omega) sI ?_);intro v1 w5 hv1 hg1 hx1 ho1)
  have hg1:World.grownBy (w4.alloc (.cells #[] tI)) w5 (some w4.heap.size):=hg1;rw[List.nil_append]at hv1;have hb5:Below w4.heap.size w4 w5:=((Below.refl _ _).alloc (xgf _) _).grown hg1 sI (fun g hg=>by injection hg with hg;omega);obtain⟨o1,m1,k1,rfl,-⟩:∃o l c,v1= .slice o l c/\True:=by
   obtain⟨o,c,e,-⟩:=hv1.len;exact⟨o,_,c,e,trivial⟩
  go_wp2_with fail
  refine(zAF 1 w5 oM oM).mono ?_;rintro e w6 ⟨u,rfl,hu,hb6⟩;obtain⟨un,ua,ul,uc,ux,rfl,-⟩:=id hu;have hv1:=hv1.below hb6;have hb6:=nx hb5 hb6;have q6:=hb6.size;go_upto_region 6 with(at_builtin;go_loud (refine zQI 31 Tryz.underlying31 rfl _ _ rfl w4.heap.size (.slice o1 m1 k1) (zM C y) rfl (hv1.below ((Below.refl _ _).alloc (xgf _) _)) _ [1] rfl (zPE (Blk.new _ _ _) (hu.ext (lx ((Below.refl _ _).alloc (xgf _) _)))) (by rw[zD];simp;omega) (by simp;omega) ?_);intro v2 w7 hv2 hg2 hx2 ho2)
  have hb7:=(hb6.alloc q6 _).grown hg2 (by simp;omega) (fun g hg=>hv1.own g hg);obtain⟨o2,m2,k2,rfl,-⟩:∃o l c,v2= .slice o l c/\True:=by
   obtain⟨o,c,e,-⟩:=hv2.len;exact⟨o,_,c,e,trivial⟩
  have hv3:=hv2.vec;have hm2:m2=C+1:=by
   have:=hv3.len;simp only[List.length_append,zD,List.length_singleton]at this;omega
  subst hm2;have HV3:=xgv hv3;have HM:=xgv (HM.out.below hb7);have T8:=T8.below hb7;have hB:=nx hB hb7;clear c1 c2 c3 c4 c5 c6 hv1 hv2 hv3 hu hg1 hx1 ho1 hg2 hx2 ho2;obtain⟨c1,c2,c3,c4,c5,c6⟩:=T8.three;go_wp2_with fail
  refine(zFI _ _ R C M (zM C y++ [1]) w7 HM.out HF.out HV3.out (by simp[zD])).mono ?_;rintro e w8 ⟨rfl,hb8⟩;have T8:=T8.below hb8;have hB:=nx hB hb8;clear c1 c2 c3 c4 c5 c6;go_upto_region 7 with(fail)
  refine zB ?_;intro W9 hW9;obtain⟨hB9,T10,hs9⟩:=zK hW9;have T8:=T8.below hB9;have hB:=nx hB hB9;clear hW9;obtain⟨c1,c2,c3,c4,c5,c6⟩:=T8.three;obtain⟨d1,d2,d3,d4,d5,d6⟩:=T10.three;have hne:¬ ((C+1:Nat):Int)=(C:Int):=by omega
  go_wp2;go_ret;exact⟨rfl,hB⟩
 ·have hrm7:¬ ((n0%8:Nat):Int)=7:=by omega
  go_wp2_with fail
  refine(zFH _ _ R C M y w4 HM.out HF.out HYV.out hR4 hC4 HA9.out HY.out).mono ?_;rintro e w6 ⟨u,rfl,hs,hb6⟩;obtain⟨f,o1,n1,k1,o2,n2,k2,rfl,-⟩:=hs.flag;have HS:=xgv hs;have HM:=xgv (HM.out.below hb6);have HYV:=xgv (HYV.out.below hb6);have T8:=T8.below hb6;have hB:=nx hB hb6;clear c1 c2 c3 c4 c5 c6 hs;go_upto_region 7 with(fail)
  refine zB ?_;intro W7 hW7;obtain⟨hB7,T10,hs7⟩:=zK hW7;have HS:=xgv (HS.out.below hB7);have HM:=xgv (HM.out.below hB7);have HYV:=xgv (HYV.out.below hB7);have T8:=T8.below hB7;have hB:=nx hB hB7;clear hW7;obtain⟨c1,c2,c3,c4,c5,c6⟩:=T8.three;obtain⟨d1,d2,d3,d4,d5,d6⟩:=T10.three;go_wp2_with fail
  refine(zIw _ _ _ R C M y W7 HS.out HM.out HF.out HYV.out hR4 hC4 (zIS HA9.out) HY.out).mono ?_;rintro e w8 ⟨_,rfl,rfl,hb8⟩;have HS:=xgv (HS.out.below hb8);have HM:=xgv (HM.out.below hb8);have HYV:=xgv (HYV.out.below hb8);have T8:=T8.below hb8;have T10:=T10.below hb8;have hB:=nx hB hb8;clear c1 c2 c3 c4 c5 c6 d1 d2 d3 d4 d5 d6;obtain⟨c1,c2,c3,c4,c5,c6⟩:=T8.three;obtain⟨d1,d2,d3,d4,d5,d6⟩:=T10.three;go_wp2_with fail
  refine(zLa _ _ _ R C M y w8 HS.out HM.out HF.out HYV.out hR4 hC4 (zIS HA9.out) HY.out).mono ?_;rintro e w9 ⟨_,rfl,rfl,hb9⟩;go_wp2;go_ret;exact⟨rfl,nx hB hb9⟩
end Go.Proofs.YtnbmaipobhppcaaGreat

namespace Go.Proofs.YtnbmaipobhppcaaGreat
open Go.ChangeShapes Go.WideShapes Go.ChangeAt Go.RowKit
theorem zBt(os:Os)(started:os.Started)(H:Type)(enc:TypeId × Value->H):
  ReturnsInHanded {} Tryz.checked os 3 .any (Rows.diophantDecidesSpec.pre6 enc Tryz.prog Tryz.f3 Rows.diophantDecidesRow.domain false) (Rows.diophantDecidesSpec.post enc Tryz.prog Tryz.f3 false true false false):=by
 refine returnsInHanded_of_change (C:=Tryz.checked) Tryz.own started kR Tryz.func3
  (ChangeSpec.witness6 (enc:=enc) (C:=Tryz.checked) false ⟨#[],#[.agg #[.int .u8 0,.int .u8 0,.slice none 0 0],.slice none 0 0,.int .u8 0],[]⟩ 8 kR kR kR kR) ?_
 intro W base args ds gs before hval0 hW hcnd _;have hval:∀(j:Nat) t v,Tryz.f3.params[j]?=some t->args[j]?=some v->Value.okWide Tryz.prog W .any base t v:=hval0;have hW':=hW;obtain⟨p,q,hA0,hV,rfl,hfz,hnd⟩:=hW;have hA:DataW.TrodAll enc Tryz.prog W 0 (fun _=>true) true Tryz.f3.params.toList args.toList ds p:=hA0;rw[Tryz.params3]at hA hval;obtain⟨v0,v1,v2,d0,d1,d2,p0,p1,p2,rfl,rfl,rfl,h0,h1,h2⟩:=trodAll_three hA;obtain⟨rfl,rfl⟩:=trodVars_none hV;clear hA0 hval0;simp only[List.append_nil]at hW';have hlt0:∀x∈p0,x.block<W.heap.size:=fun x hx=>hW'.lt x (by simp[hx])
 have hlt1:∀x∈p1,x.block<W.heap.size:=fun x hx=>hW'.lt x (by simp[hx])
 have hlt2:∀x∈p2,x.block<W.heap.size:=fun x hx=>hW'.lt x (by simp[hx])
 obtain⟨a,b,sv,ls,rfl,ha,hb,hI⟩:=zMp (hval 0 24 v0 rfl rfl) h0 hlt0;obtain⟨ls1,hI1⟩:=zMo (hval 1 22 v1 rfl rfl) h1 hlt1;obtain⟨n2,rfl,hn2⟩:=zKw (hval 2 5 v2 rfl rfl) h2;refine(zCe sv v1 a b n2 ls ls1 W hI hI1 ha hb hn2).mono fun e W' ⟨he,hB⟩=>?_
 subst he;refine⟨_,rfl,_,_,_,[],p0++(p1++p2),[],hW',?_,?_,rfl,hB.frame _,fun h=>by cases h⟩
 ·exact trodAll_mk1 (shut_bool Tryz.underlying4 true)
 ·exact trodAll_mk3 (Below.trod Tryz.laidOut kR (of_decide_eq_true kR) h0 hB hlt0) (Below.trod Tryz.laidOut kR (of_decide_eq_true kR) h1 hB hlt1) (Below.trod Tryz.laidOut kR (of_decide_eq_true kR) h2 hB hlt2)
theorem zCy:(Rows.diophantDecidesRow.inPlace==Tryz.pinned.checked.prog.inPlace 3)=true:=by kernel_rfl
theorem zCz:(Rows.diophantDecidesRow.unfollowed==Tryz.pinned.checked.prog.unfollowed 3)=true:=by kernel_rfl
theorem zC0:(Rows.diophantDecidesRow.recurses==Tryz.pinned.checked.prog.recurses 3)=true:=by kernel_rfl
theorem zC1:(Rows.diophantDecidesRow.named==Tryz.pinned.checked.prog.varsNamed 3)=true:=by kernel_rfl
theorem zBs:joinedFacts Tryz.pinned.checked.prog 3 Tryz.f3 Rows.diophantDecidesSpec Rows.diophantDecidesRow=true:=by
 unfold joinedFacts;rw[zCy,zCz,zC0,zC1];kernel_rfl
theorem diophantDecides_holds:Rows.DiophantDecidesSaid:=
 OpenClaim.holds_of_wide 3 Tryz.f3 rfl rfl rfl rfl rfl rfl rfl ⟨rfl,rfl,rfl,rfl,rfl⟩ rfl rfl rfl rfl rfl kR Tryz.func3 zBs
  (of_decide_eq_true kR) (by unfold Func.isWrapper;first|(rw[if_pos (by decide+kernel)];kernel_rfl)|(rw[if_neg (by decide+kernel)];exact⟨rfl,rfl⟩))
  (fun os started H enc _=>zBt os started H enc)
end Go.Proofs.YtnbmaipobhppcaaGreat
