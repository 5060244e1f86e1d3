/- torsionlaw14.DiophantLattice: whatever the input, it returns true, and the input reads as it did. No conditions. -/
import Derived.Test.YtnbmaipobhppcaaGreatRows
import Derived.Test.YtnbmaipobhppcaaGreatD29
import Derived.Test.YtnbmaipobhppcaaGreatD30
set_option linter.unusedVariables false
set_option linter.unusedSimpArgs false
set_option linter.unusedSectionVars false
set_option maxHeartbeats 16000000
set_option maxRecDepth 100000
namespace Go.Proofs.YtnbmaipobhppcaaGreat
open Go.RowKit

theorem dsolveG(f:Bool)(y:Nat->Int)(v bv:Value)(R C:Nat)(M:List (List Int))(w:World)(hm:yP w v R C M)(hF:jK R C M)(hb:qT w bv (zM C y))(hR:R<=4)(hC:C<=4)(hA:leM 9 R C (ent M))(hy:∀j,j<C->(y j).natAbs<=1000000)(hf:f=true↔∃x,zJz R C (ent M) y x):
  Calls Tryz.prog 18 #[v,bv] w fun e w'=>∃u,e= .returned u/\zLu f R C (ent M) y w' u/\Below w.heap.size w w':=
 (zFH v bv R C M y w hm hF hb hR hC hA hy).mono fun e w' ⟨u,he,hs,hb⟩=>⟨_,he,⟨u,rfl,hs.kind hf⟩,hb⟩
theorem one_row(C:Nat)(y:Nat->Int):zX 1 C (fun _ j=>y j)= [zM C y]:=by simp[zX,zM]
theorem ent_row{C j:Nat}{y:Nat->Int}(hj:j<C):ent [zM C y] 0 j=y j:=zAU (i:=0) (j:=j) rfl (zO hj)
theorem row_fits(C:Nat)(y:Nat->Int):jK 1 C [zM C y]:=⟨rfl,fun r hr=>by rw[List.mem_singleton.1 hr,zD]⟩
theorem row_sm{C:Nat}{y:Nat->Int}(hy:∀j,j<C->(y j).natAbs<=1000000):∀r∈ [zM C y],∀z∈r,Sm z:=fun r hr z hz=>by
 obtain rfl:=List.mem_singleton.1 hr;obtain⟨b,hb,rfl⟩:=List.mem_map.1 hz;exact zHN (zDw (Nat.le_trans (hy b (List.mem_range.1 hb)) dE))
theorem one_add{C:Nat}{y z:Nat->Int}:zX 1 C (fun i j=>ent [zM C y] i j+ent [zM C z] i j)= [zM C fun j=>y j+z j]:=by
 rw[<-one_row C (fun j=>y j+z j)];exact qK fun i hi j hj=>by
  obtain rfl:i=0:=by omega
  rw[ent_row hj,ent_row hj]
theorem one_sub{C:Nat}{y z:Nat->Int}:zX 1 C (fun i j=>ent [zM C z] i j-ent [zM C y] i j)= [zM C fun j=>z j-y j]:=by
 rw[<-one_row C (fun j=>z j-y j)];exact qK fun i hi j hj=>by
  obtain rfl:i=0:=by omega
  rw[ent_row hj,ent_row hj]
theorem one_neg{C:Nat}{y:Nat->Int}:zX 1 C (fun i j=>ent [zM C y] i j*-1)= [zM C fun j=>-y j]:=by
 rw[<-one_row C (fun j=>-y j)];exact qK fun i hi j hj=>by
  obtain rfl:i=0:=by omega
  rw[ent_row hj];omega
theorem zJy.row{C:Nat}{y:Nat->Int}{w:World}{v:Value}(h:zJy (1:Nat) C [zM C y] w v):∃bb n k ra rc,v= .tuple #[.agg #[.int .i64 (1:Nat),.int .i64 C,.slice (some ⟨bb,0,none⟩) n k],.int .i64 0]/\0<n/\bb<w.heap.size/\w.cell? ⟨bb,0,none⟩=some (.slice ra C rc)/\qT w (.slice ra C rc) (zM C y):=by
 obtain⟨u,rfl,A2,rfl,hA2⟩:=h;obtain⟨oo,nn,kk,rfl,hn1,-⟩:=id hA2;obtain rfl:1=nn:=hn1;obtain⟨bb,ra,rn,rc,zs,rfl,hbl,hz,p1,hrv⟩:=hA2.row (k:=0) (Nat.zero_lt_one);obtain rfl:zM C y=zs:=Option.some.inj hz;have hl:=hrv.len;rw[zD]at hl;obtain rfl:C=rn:=hl.1;exact⟨bb,1,kk,ra,rc,rfl,by decide,hbl,p1,hrv⟩
theorem lattice_add{R C:Nat}{A:Nat->Nat->Int}{y z x0:Nat->Int}(h0:zJz R C A z x0):(∃x,zJz R C A y x)↔∃x,zJz R C A (fun j=>y j+z j) x:=by
 have e:∀(a b:Nat->Int) (j:Nat),(qE R fun i=>(a i+b i)*A i j)=(qE R fun i=>a i*A i j)+qE R fun i=>b i*A i j:=fun a b j=>by
  rw[<-zAb];exact zU fun i _=>Int.add_mul _ _ _
 have e2:∀(a b:Nat->Int) (j:Nat),(qE R fun i=>(a i-b i)*A i j)=(qE R fun i=>a i*A i j)-qE R fun i=>b i*A i j:=fun a b j=>by
  have:=e (fun i=>a i-b i) b j;rw[zU (g:=fun i=>a i*A i j) fun i _=>by rw[Int.sub_add_cancel]]at this;omega
 exact⟨fun⟨x,h⟩=>⟨fun i=>x i+x0 i,fun j hj=>by rw[e,<-h j hj,<-h0 j hj]⟩,fun⟨x,h⟩=>⟨fun i=>x i-x0 i,fun j hj=>by
  have:=h j hj;dsimp only at this;rw[e2,<-this,<-h0 j hj];omega⟩⟩
theorem lattice_sub{R C:Nat}{A:Nat->Nat->Int}{y z x0:Nat->Int}(h0:zJz R C A z x0):(∃x,zJz R C A y x)↔∃x,zJz R C A (fun j=>z j-y j) x:=by
 have e2:∀(a b:Nat->Int) (j:Nat),(qE R fun i=>(a i-b i)*A i j)=(qE R fun i=>a i*A i j)-qE R fun i=>b i*A i j:=fun a b j=>by
  have h:(qE R fun i=>(a i-b i+b i)*A i j)=(qE R fun i=>(a i-b i)*A i j)+qE R fun i=>b i*A i j:=by
   rw[<-zAb];exact zU fun i _=>Int.add_mul _ _ _
  rw[zU (g:=fun i=>a i*A i j) fun i _=>by rw[Int.sub_add_cancel]]at h;omega
 exact⟨fun⟨x,h⟩=>⟨fun i=>x0 i-x i,fun j hj=>by rw[e2,<-h j hj,<-h0 j hj]⟩,fun⟨x,h⟩=>⟨fun i=>x0 i-x i,fun j hj=>by
  have:=h j hj;dsimp only at this;rw[e2,<-this,<-h0 j hj];omega⟩⟩
theorem diophantLattice_any(v lv mv:Value)(r c:Nat)(ls l1 l2:List Int)(w:World)(h:I8V w v ls)(hl:I8V w lv l1)(hm2:I8V w mv l2)(hr:r<=255)(hc:c<=255):
  Calls Tryz.prog 5 #[.agg #[.int .u8 r,.int .u8 c,v],lv,mv] w fun e w'=>e= .returned (.bool true)/\Below w.heap.size w w':=by
 obtain⟨ao,n,cap,rfl,-,-,-,-,-⟩:=id h;obtain⟨R,hR⟩:∃R:Nat,R=r%5:=⟨_,rfl⟩;obtain⟨C,hC⟩:∃C:Nat,C=c%5:=⟨_,rfl⟩;have hR4:R<=4:=by omega
 have hC4:C<=4:=by omega
 have HR:=xgw hR;have HC:=xgw hC;clear hR hC;obtain⟨M,hM⟩:∃M,zX R C (zHL C ls)=M:=⟨_,rfl⟩;have HMade:qF (∀w,I8V w (.slice ao n cap) ls->Calls Tryz.prog 15 #[.agg #[.int .u8 r,.int .u8 c,.slice ao n cap]] w fun e w'=>∃v,e= .returned v/\yP w' v R C M/\Below w.heap.size w w'):=⟨fun w h=>by
  rw[<-hM];exact zP5 _ r c ls w h hr hc R C HR.out HC.out⟩
 have HF:qF (jK R C M):=⟨by rw[<-hM];exact zAV _ _ _⟩;have HA9:qF (leM 9 R C (ent M)):=⟨by rw[<-hM];exact zNz (zL6 R C C ls)⟩;clear hM;obtain⟨lo,ln,lc,rfl,-,-,-,-,-⟩:=id hl;obtain⟨mo,mn,mc,rfl,-,-,-,-,-⟩:=id hm2;obtain⟨y,hy0⟩:∃y:Nat->Int,zHL C l1 0=y:=⟨_,rfl⟩;have HVY:qF (∀w,I8V w (.slice lo ln lc) l1->Calls Tryz.prog 16 #[.slice lo ln lc,.int .i64 C] w fun e w'=>∃u,e= .returned u/\qT w' u (zM C y)/\Below w.heap.size w w'):=⟨fun w h=>hy0 ▸ zJo _ C l1 w h oM⟩;have hy9:∀j,(y j).natAbs<=9:=fun j=>hy0 ▸ zKH C l1 0 j
 clear hy0;obtain⟨x,hx0⟩:∃x:Nat->Int,zHL R l2 0=x:=⟨_,rfl⟩;have HVE:qF (∀w,I8V w (.slice mo mn mc) l2->Calls Tryz.prog 16 #[.slice mo mn mc,.int .i64 R] w fun e w'=>∃u,e= .returned u/\qT w' u (zM R x)/\Below w.heap.size w w'):=⟨fun w h=>hx0 ▸ zJo _ R l2 w h oM⟩;have HX9:qF (∀b,(x b).natAbs<=9):=⟨fun b=>hx0 ▸ zKH R l2 0 b⟩;clear hx0;obtain⟨z,hz⟩:∃z:Nat->Int,zCj [zM R x] M R 0=z:=⟨_,rfl⟩;have hz9:∀j,j<C->(z j).natAbs<=324:=fun j hj=>hz ▸ Nat.le_trans (zMj HA9.out HX9.out hj (xgf R)) oM
 have hsx:zJz R C (ent M) z x:=fun j hj=>by
  rw[<-hz];unfold zCj;rw[zCL];exact zU fun i hi=>by rw[zAU (i:=0) (j:=i) rfl (zO hi)]
 have HAC:qF (∀(v:Value) (w:World),yP w v R C M->∀xv,qT w xv (zM R x)->Calls Tryz.prog 21 #[xv,v] w fun e w'=>∃u,e= .returned u/\qT w' u (zM C z)/\Below w.heap.size w w'):=⟨fun v w hm xv hx=>hz ▸ zNl _ _ R C M x w hx hm HF.out oM oM (zPO hR4 HA9.out HX9.out)⟩;clear hz;have HY:qF (∀j,j<C->(y j).natAbs<=1000000):=⟨fun j _=>Nat.le_trans (hy9 j) dE⟩;have HZ:qF (∀j,j<C->(z j).natAbs<=1000000):=⟨fun j hj=>Nat.le_trans (hz9 j hj) dE⟩;obtain⟨s,hs⟩:∃s:Nat->Int,s=fun j=>y j+z j:=⟨_,rfl⟩
 obtain⟨t,ht⟩:∃t:Nat->Int,t=fun j=>z j-y j:=⟨_,rfl⟩
 have HS:qF (∀j,j<C->(s j).natAbs<=1000000):=⟨fun j hj=>by rw[hs];have:=hy9 j;have:=hz9 j hj;dsimp only;omega⟩;have HT:qF (∀j,j<C->(t j).natAbs<=1000000):=⟨fun j hj=>by rw[ht];have:=hy9 j;have:=hz9 j hj;dsimp only;omega⟩;obtain⟨f,hf⟩:∃f:Bool,f=true↔∃x,zJz R C (ent M) y x:=by
  by_cases g:∃x,zJz R C (ent M) y x
  ·exact⟨true,fun _=>g,fun _=>rfl⟩
  ·exact⟨false,nofun,fun g2=>absurd g2 g⟩
 have HF2:qF (f=true↔∃x,zJz R C (ent M) s x):=⟨hs ▸ hf.trans (lattice_add hsx)⟩;have HF3:qF (f=true↔∃x,zJz R C (ent M) t x):=⟨ht ▸ hf.trans (lattice_sub hsx)⟩;have HF1:=xgv hf;have HAD:qF (∀(v1 v2:Value) (w:World),yP w v1 (1:Nat) C [zM C y]->yP w v2 (1:Nat) C [zM C z]->Calls Tryz.prog 22 #[v1,v2] w fun e w'=>∃v,e= .returned v/\zJy (1:Nat) C [zM C s] w' v/\Below w.heap.size w w'):=⟨fun v1 v2 w h1 h2=>by
  rw[hs,<-one_add];exact zLB v1 v2 1 C _ _ w h1 h2 (row_fits _ _) (row_fits _ _) oM oM (row_sm HY.out) (row_sm HZ.out)⟩
 have HSU:qF (∀(v1 v2:Value) (w:World),yP w v1 (1:Nat) C [zM C z]->yP w v2 (1:Nat) C [zM C y]->Calls Tryz.prog 24 #[v1,v2] w fun e w'=>∃v,e= .returned v/\zJy (1:Nat) C [zM C t] w' v/\Below w.heap.size w w'):=⟨fun v1 v2 w h1 h2=>by
  rw[ht,<-one_sub];refine zPT v1 v2 1 C _ _ w h1 h2 (row_fits _ _) (row_fits _ _) oM oM (row_sm HZ.out) (row_sm HY.out) fun r hr q hq=>?_
  rw[one_neg]at hr;exact row_sm (y:=fun j=>-y j) (fun j hj=>by rw[Int.natAbs_neg];exact HY.out j hj) r hr q hq⟩
 clear hs ht hf hsx hy9 hz9;go_enter Tryz.func5,Tryz.ntmps5;go_upto_region 1 with(fail)
 refine zB ?_;intro W0 hW0;obtain⟨hB0,bx,hs0⟩:=zK hW0;clear hW0;go_wp2_with fail
 refine(zG4 W0).mono ?_;rintro e w1 ⟨rfl,hb1⟩;have hB:=nx hB0 hb1;have bx:=bx.below hb1;obtain⟨c1,c2,c3,c4,c5,c6⟩:=bx.three;go_wp2_with fail
 refine(HMade.out w1 (h.below hB)).mono ?_;rintro e w2 ⟨va,rfl,hm,hb2⟩;obtain⟨ro,rn,rc,rfl⟩:=hm.agg;have hB:=nx hB hb2;clear c1 c2 c3 c4 c5 c6 bx;go_upto_region 3 with(fail)
 refine zB ?_;intro W3 hW3;obtain⟨hB3,T8,hs3⟩:=zK hW3;have HM:=xgv (hm.below hB3);have hB:=nx hB hB3;clear hW3 hm;obtain⟨c1,c2,c3,c4,c5,c6⟩:=T8.three;have hvx:=qW (zM R x);have hvy:=qW (zM C y);have hvz:=qW (zM C z);refine zE rfl (RV W3 _ [E 0 24 (.slice lo ln lc),VP 1 25 w2.heap.size 1,VN 2 26 C,⟨3,27,fun w v=>qT w v (zM C y)⟩,E 4 28 (.slice mo mn mc),VP 5 29 w2.heap.size 0,VN 6 30 R,⟨7,31,fun w v=>qT w v (zM R x)⟩,E 8 32 (.agg #[.int .i64 R,.int .i64 C,.slice ro rn rc]),⟨9,33,fun w v=>qT w v (zM C z)⟩,⟨10,9,fun w v=>qT w v (zM C y)⟩,⟨11,10,fun w v=>qT w v (zM C z)⟩]) kR RV.start (RV.fin kR ?fin1) ?steps1
 case steps1=>
  refine⟨?_,?_,?_,?_,?_,?_,?_,?_,?_,?_,?_,?_,trivial⟩<;>(intro L T wS hL hd hcl hI K hK;try refine zA rfl ?_)
  ·exact xgs (hI.k 1 rfl kR)
  ·exact xgs (hI.k 8 rfl kR)
  ·have zt1:=hI.e mm1 (hd 1)
   have cc0:=hI.cell c2;exact xgu
  ·have zt0:=hI.e mm0 (hd 0)
   have zt2:=hI.e mm2 (hd 2);go_simp;refine(HVY.out _ (hl.below (nx hB hI.bel))).mono ?_;rintro e wa ⟨v,rfl,hv,hba⟩;exact hK _ _ ((hI.world hba).y mm3 hv)
  ·exact xgs (hI.k 2 rfl kR)
  ·exact xgs (hI.k 8 rfl kR)
  ·have zt5:=hI.e mm5 (hd 5)
   have cc0:=hI.cell c1;exact xgu
  ·have zt4:=hI.e mm4 (hd 4)
   have zt6:=hI.e mm6 (hd 6);go_simp;refine(HVE.out _ (hm2.below (nx hB hI.bel))).mono ?_;rintro e wa ⟨v,rfl,hv,hba⟩;exact hK _ _ ((hI.world hba).y mm7 hv)
  ·have zt:=hI.k 8 rfl kR
   have cc0:=hI.cell c1;have cc1:=hI.cell c2;have cc2:=hI.cell c3;exact xgu
  ·obtain⟨v7,zt7,h7⟩:=hI.v mm7 (hd 7)
   have zt8:=hI.e mm8 (hd 8);go_simp;refine(HAC.out _ _ (HM.out.below hI.bel) _ h7).mono ?_;rintro e wa ⟨v,rfl,hv,hba⟩;exact hK _ _ ((hI.world hba).y mm9 hv)
  ·obtain⟨z5,zt5,hz5⟩:=hI.v mm3 (hd 3)
   go_simp;exact hK _ _ (hI.y zAC hz5)
  ·obtain⟨z5,zt5,hz5⟩:=hI.v mm9 (hd 9)
   go_simp;exact hK _ _ (hI.y zAJ hz5)
 intro w5 hbw5 T hT;simp only[Fin,E,EI,VP,VSl,VN,xgg,xgh,xgi,xgj]at hT;obtain⟨va3,ha3,va7,ha7,va9,ha9,va10,ha10,va11,ha11,rfl⟩:=hT;obtain⟨yo,yn,yc,rfl,-⟩:=id ha10;obtain⟨zo,zn,zc,rfl,-⟩:=id ha11;have HM:=xgv (HM.out.below hbw5);have T8:=T8.below hbw5;have hB:=nx hB hbw5;have HYV:=xgv ha10;have HZV:=xgv ha11;clear c1 c2 c3 c4 c5 c6 ha10 ha11;go_wp2_with fail
 refine(zOf _ C y w5 HYV.out).mono ?_;rintro e w6 ⟨v6,rfl,h6,hb6⟩;have HM:=xgv (HM.out.below hb6);have HYV:=xgv (HYV.out.below hb6);have HZV:=xgv (HZV.out.below hb6);have T8:=T8.below hb6;have hB:=nx hB hb6;have H6:=xgv h6;clear h6;go_wp2_with fail
 refine(zOf _ C z w6 HZV.out).mono ?_;rintro e w7 ⟨v7,rfl,h7,hb7⟩;have HM:=xgv (HM.out.below hb7);have HYV:=xgv (HYV.out.below hb7);have HZV:=xgv (HZV.out.below hb7);have T8:=T8.below hb7;have hB:=nx hB hb7;have H6:=xgv (H6.out.below hb7);have H7:=xgv h7;clear h7;go_wp2_with fail
 refine(HAD.out _ _ w7 H6.out H7.out).mono ?_;rintro e w8 ⟨v8,rfl,h8,hb8⟩;have HM:=xgv (HM.out.below hb8);have HYV:=xgv (HYV.out.below hb8);have HZV:=xgv (HZV.out.below hb8);have T8:=T8.below hb8;have hB:=nx hB hb8;obtain⟨sb,sn,sk,sa,sc,rfl,hsn,hsb,p8,hv8⟩:=h8.row;clear h8 H6 H7;go_upto_region 5 with(fail)
 refine zB ?_;intro W9 hW9;obtain⟨hB9,T11,hs9⟩:=zK hW9;have HM:=xgv (HM.out.below hB9);have HYV:=xgv (HYV.out.below hB9);have HZV:=xgv (HZV.out.below hB9);have T8:=T8.below hB9;have hB:=nx hB hB9;have p8:=(hB9.cell (p:=⟨sb,0,none⟩) hsb).trans p8;have hsb:sb<W9.heap.size:=Nat.lt_of_lt_of_le hsb hB9.size;have HV8:=xgv (hv8.below hB9);clear hW9 hv8;go_wp2_with fail
 refine(zOf _ C z W9 HZV.out).mono ?_;rintro e w10 ⟨v6,rfl,h6,hb10⟩;have HM:=xgv (HM.out.below hb10);have HYV:=xgv (HYV.out.below hb10);have HZV:=xgv (HZV.out.below hb10);have T8:=T8.below hb10;have hB:=nx hB hb10;have T11:=T11.below hb10;have p8:=(hb10.cell (p:=⟨sb,0,none⟩) hsb).trans p8;have hsb:=Nat.lt_of_lt_of_le hsb hb10.size;have HV8:=xgv (HV8.out.below hb10);have H6:=xgv h6;clear h6;go_wp2_with fail
 refine(zOf _ C y w10 HYV.out).mono ?_;rintro e w11 ⟨v7,rfl,h7,hb11⟩;have HM:=xgv (HM.out.below hb11);have HYV:=xgv (HYV.out.below hb11);have HZV:=xgv (HZV.out.below hb11);have T8:=T8.below hb11;have hB:=nx hB hb11;have T11:=T11.below hb11;have p8:=(hb11.cell (p:=⟨sb,0,none⟩) hsb).trans p8;have hsb:=Nat.lt_of_lt_of_le hsb hb11.size;have HV8:=xgv (HV8.out.below hb11);have H6:=xgv (H6.out.below hb11);have H7:=xgv h7;clear h7;go_wp2_with fail
 refine(HSU.out _ _ w11 H6.out H7.out).mono ?_;rintro e w12 ⟨v8,rfl,h12,hb12⟩;have HM:=xgv (HM.out.below hb12);have HYV:=xgv (HYV.out.below hb12);have HZV:=xgv (HZV.out.below hb12);have T8:=T8.below hb12;have hB:=nx hB hb12;have T11:=T11.below hb12;have p8:=(hb12.cell (p:=⟨sb,0,none⟩) hsb).trans p8;have hsb:=Nat.lt_of_lt_of_le hsb hb12.size;have HV8:=xgv (HV8.out.below hb12);obtain⟨tb,tn,tk,ta,tc,rfl,htn,htb,p12,hv12⟩:=h12.row;clear h12 H6 H7;go_upto_region 6 with(fail)
 refine zB ?_;intro W13 hW13;obtain⟨hB13,T13,hs13⟩:=zK hW13;have HM:=xgv (HM.out.below hB13);have HYV:=xgv (HYV.out.below hB13);have HZV:=xgv (HZV.out.below hB13);have T8:=T8.below hB13;have hB:=nx hB hB13;have T11:=T11.below hB13;have p8:=(hB13.cell (p:=⟨sb,0,none⟩) hsb).trans p8;have hsb:=Nat.lt_of_lt_of_le hsb hB13.size;have HV8:=xgv (HV8.out.below hB13);have p12:=(hB13.cell (p:=⟨tb,0,none⟩) htb).trans p12;have htb:tb<W13.heap.size:=Nat.lt_of_lt_of_le htb hB13.size;have HV12:=xgv (hv12.below hB13);clear hW13 hv12;obtain⟨c1,c2,c3,c4,c5,c6⟩:=T8.three;go_wp2_with fail
 refine(dsolveG f y _ _ R C M W13 HM.out HF.out HYV.out hR4 hC4 HA9.out HY.out HF1.out).mono ?_;rintro e w14 ⟨_,rfl,hs14,hb14⟩;obtain⟨o1,n1,k1,o2,n2,k2,rfl,-⟩:=zFb hs14;have HM:=xgv (HM.out.below hb14);have HYV:=xgv (HYV.out.below hb14);have HZV:=xgv (HZV.out.below hb14);have T8:=T8.below hb14;have hB:=nx hB hb14;have T11:=T11.below hb14;have p8:=(hb14.cell (p:=⟨sb,0,none⟩) hsb).trans p8;have hsb:=Nat.lt_of_lt_of_le hsb hb14.size;have HV8:=xgv (HV8.out.below hb14);have T13:=T13.below hb14;have p12:=(hb14.cell (p:=⟨tb,0,none⟩) htb).trans p12;have htb:=Nat.lt_of_lt_of_le htb hb14.size;have HV12:=xgv (HV12.out.below hb14);clear hs14 c1 c2 c3 c4 c5 c6;go_upto_region 7 with(fail)
 refine zB ?_;intro W15 hW15;obtain⟨hB15,T15,hs15⟩:=zK hW15;have HM:=xgv (HM.out.below hB15);have HYV:=xgv (HYV.out.below hB15);have HZV:=xgv (HZV.out.below hB15);have T8:=T8.below hB15;have hB:=nx hB hB15;have T11:=T11.below hB15;have p8:=(hB15.cell (p:=⟨sb,0,none⟩) hsb).trans p8;have hsb:=Nat.lt_of_lt_of_le hsb hB15.size;have HV8:=xgv (HV8.out.below hB15);have T13:=T13.below hB15;have p12:=(hB15.cell (p:=⟨tb,0,none⟩) htb).trans p12;have htb:=Nat.lt_of_lt_of_le htb hB15.size;have HV12:=xgv (HV12.out.below hB15);clear hW15;have hP7:=zCh f R C (ent M) s;have hG7:=zCg f R C (ent M) s;have hN7:=zBV 39 W15.heap.size #[.bool false,.slice none 0 0,.slice none 0 0];obtain⟨c1,c2,c3,-,-,-⟩:=T8.three;obtain⟨d1,d2,d3,-,-,-⟩:=T11.three;have lt8:=T8.lt;have ltm:=T11.lt;refine zC 11 rfl (RAS ([]) 99 W15 _ [⟨0,57,fun _ v=>v= .agg #[.int .i64 R,.int .i64 C,.slice ro rn rc]⟩,⟨1,58,fun _ v=>v= .pointer (some ⟨w8.heap.size,2,none⟩)⟩,⟨2,59,fun _ v=>v= .slice (some ⟨sb,0,none⟩) sn sk⟩,⟨3,60,fun _ v=>v= .pointer (some ⟨sb,0,none⟩)⟩,⟨4,61,fun _ v=>v= .slice sa C sc⟩,⟨5,62,zLu f R C (ent M) s⟩,⟨6,56,zLu f R C (ent M) s⟩,⟨7,63,zFg f R C (ent M) s⟩,⟨8,64,fun _ v=>v= .int .i64 0⟩,⟨9,17,zNi 39 W15.heap.size #[.bool false,.slice none 0 0,.slice none 0 0]⟩] 10 (put3 17 63)) kR (RAS.start (RA.start kR (by repeat' (first|exact yJ _|exact jD _|exact yR _ _ _|exact qW _|assumption|refine xgm.2 ⟨?_,?_⟩|exact xgn _)))) ?fin2 ?steps2
 case steps2=>
  refine⟨?_,?_,?_,?_,?_,?_,?_,?_,?_,?_,?_,trivial⟩
  ·refine zF.liftA kR dE ?_
   intro L T wS hL hd hcl hI K hK;try refine zA rfl ?_
   have zt:T[8]?=some (.pointer (some ⟨w2.heap.size,0,none⟩)):=hI.keep 8 sI;have cc0:=hI.cell (sI) oM c1;have cc1:=hI.cell (sI) oM c2;have cc2:=hI.cell (sI) oM c3;go_simp;exact hK _ _ (hI.y mm0 rfl)
  ·refine zF.liftA kR dE ?_
   intro L T wS hL hd hcl hI K hK;try refine zA rfl ?_
   have zt:T[11]?=some (.pointer (some ⟨w8.heap.size,0,none⟩)):=hI.keep 11 sI;go_simp;exact hK _ _ (hI.y mm1 rfl)
  ·refine zF.liftA kR dE ?_
   intro L T wS hL hd hcl hI K hK;try refine zA rfl ?_
   obtain⟨_,zt1,rfl⟩:=hI.v mm1 (hd 1);have cc0:=hI.cell (sI) oM d3;go_simp;exact hK _ _ (hI.y mm2 rfl)
  ·refine zF.liftA kR dE ?_
   intro L T wS hL hd hcl hI K hK;try refine zA rfl ?_
   obtain⟨_,zt2,rfl⟩:=hI.v mm2 (hd 2);go_simp;exact hK _ _ (hI.y mm3 rfl)
  ·refine zF.liftA kR dE ?_
   intro L T wS hL hd hcl hI K hK;try refine zA rfl ?_
   obtain⟨_,zt3,rfl⟩:=hI.v mm3 (hd 3);have cc0:=hI.cell (sI) oM p8;go_simp;exact hK _ _ (hI.y mm4 rfl)
  ·refine zF.liftA kR dE ?_
   intro L T wS hL hd hcl hI K hK;try refine zA rfl ?_
   obtain⟨_,zt0,rfl⟩:=hI.v mm0 (hd 0);obtain⟨_,zt4,rfl⟩:=hI.v mm4 (hd 4);have hbS:=zBG hI.onl;go_simp;refine(dsolveG f s _ _ R C M _ (HM.out.below hbS) HF.out (HV8.out.below hbS) hR4 hC4 HA9.out HS.out HF2.out).mono ?_;rintro e wa ⟨v,rfl,hv,hba⟩;exact hK _ _ ((hI.world hba).y mm5 hv)
  ·refine zF.liftA kR dE ?_
   intro L T wS hL hd hcl hI K hK;try refine zA rfl ?_
   obtain⟨z3,zt3,hz3⟩:=hI.v mm5 (hd 5);go_simp;exact hK _ _ (hI.y mm6 hz3)
  ·refine zF.liftA kR dE ?_
   intro L T wS hL hd hcl hI K hK;try refine zA rfl ?_
   obtain⟨z4,zt4,hz4⟩:=hI.v mm6 (hd 6);obtain⟨u,rfl,hu⟩:=hz4;go_simp;exact hK _ _ (hI.y mm7 hu)
  ·intro L T wS hL hd hcl hI K hK
   try refine zA rfl ?_
   obtain⟨w0,hJ,-,-⟩:=id hI;obtain⟨z4,zt4,hz4⟩:=hJ.val _ mm6 (hd 6);obtain⟨u,rfl,hu⟩:=hz4;go_simp;exact hK _ _ (hI.pure ⟨8,64,_⟩ mm8 rfl (fun _=>rfl) dE (fun _=>zD8 dE dE))
  ·refine zF.liftA kR dE ?_
   intro L T wS hL hd hcl hI K hK;try refine zA rfl ?_
   go_simp;exact hK _ _ ((hI.world ((Below.refl _ _).alloc (xgf _) _)).y mm9 ⟨_,rfl,hI.onl.bel.size,Blk.new _ _ _⟩)
  ·intro L T wS hL hd hcl hI K hK
   try refine zA rfl ?_
   replace hI:=hI.here hL;obtain⟨z11,zt11,hz11⟩:=hI.v mm7 (hd 7);obtain⟨z13,zt13,hz13⟩:=hI.v mm9 (hd 9);obtain⟨vo,vn,vc,uo,un,uc,rfl,-⟩:=hz11;obtain⟨b7,rfl,-,T7⟩:=hz13;obtain⟨f1,f2,f3,f4,f5,f6⟩:=T7.three;go_simp;exact hK _ _ (RAS.store hI hL (by repeat' (first|exact xgn _|refine xgm.2 ⟨by dsimp only;decide,?_⟩)) dE (zB3 zt13 zt11).symm)
 intro T x7f hJ;obtain⟨x7,hI,-,hstx7⟩:=hJ;replace hstx7:=hstx7 kR;obtain⟨va0,q0,rfl⟩:=hI.v mm0 rfl;obtain⟨va1,q1,rfl⟩:=hI.v mm1 rfl;obtain⟨va2,q2,rfl⟩:=hI.v mm2 rfl;obtain⟨va3,q3,rfl⟩:=hI.v mm3 rfl;obtain⟨va4,q4,rfl⟩:=hI.v mm4 rfl;obtain⟨va5,q5,ha5⟩:=hI.v mm5 rfl;obtain⟨va6,q6,ha6⟩:=hI.v mm6 rfl;obtain⟨va7,q7,ha7⟩:=hI.v mm7 rfl;obtain⟨va8,q8,rfl⟩:=hI.v mm8 rfl;obtain⟨va9,q9,ha9⟩:=hI.v mm9 rfl;have hT:=zAH [(57,.agg #[.int .i64 R,.int .i64 C,.slice ro rn rc]),(58,.pointer (some ⟨w8.heap.size,2,none⟩)),(59,.slice (some ⟨sb,0,none⟩) sn sk),(60,.pointer (some ⟨sb,0,none⟩)),(61,.slice sa C sc),(62,va5),(56,va6),(63,va7),(64,.int .i64 0),(17,va9)]
  (fun j hj=>hI.keep j (by simp only[xgm]at hj ⊢;simp[hj]))
  (by simp only[xgm];simp[q0,q1,q2,q3,q4,q5,q6,q7,q8,q9]) hI.size
 have hox7:=hI.onl;clear hI;simp only[List.foldl_cons,List.foldl_nil,xgh,xgi,xgj,ptr]at hT;subst hT;clear q0 q1 q2 q3 q4 q5 q6 q7 q8 q9;simp only[xgl,xgk];have hbw7:=zBG hox7;replace ha7:zFg f R C (ent M) s x7 va7:=ha7;obtain⟨o7,n7,k7,o7',n7',k7',rfl,-⟩:=id ha7;obtain⟨g7,rfl,hg7,U7⟩:=ha9;have q7:=hbw7.size;have hw7:=hstx7.trans (zB3 rfl rfl);have T17:Blk x7f g7 39 #[.bool f,.slice o7 n7 k7,.slice o7' n7' k7']:=by rw[hw7];exact U7.put3 _ _ _
 have hbf7:Below W15.heap.size W15 x7f:=by
  rw[hw7];exact zT (zT (zT hbw7 oM 0 _) oM 1 _) oM 2 _
 clear c1 c2 c3 d1 d2 d3 ha7 U7 hw7 hstx7 hox7 hbw7 hP7 hG7 hN7;have HM:=xgv (HM.out.below hbf7);have HYV:=xgv (HYV.out.below hbf7);have HZV:=xgv (HZV.out.below hbf7);have T8:=T8.below hbf7;have hB:=nx hB hbf7;have T11:=T11.below hbf7;have p8:=(hbf7.cell (p:=⟨sb,0,none⟩) hsb).trans p8;have hsb:=Nat.lt_of_lt_of_le hsb hbf7.size;have HV8:=xgv (HV8.out.below hbf7);have T13:=T13.below hbf7;have p12:=(hbf7.cell (p:=⟨tb,0,none⟩) htb).trans p12;have htb:=Nat.lt_of_lt_of_le htb hbf7.size;have HV12:=xgv (HV12.out.below hbf7);have T15:=T15.below hbf7;go_upto_region 8 with(fail)
 have hP8:=zCh f R C (ent M) t;have hG8:=zCg f R C (ent M) t;have hN8:=zBV 39 x7f.heap.size #[.bool false,.slice none 0 0,.slice none 0 0];obtain⟨c1,c2,c3,-,-,-⟩:=T8.three;obtain⟨d1,d2,d3,-,-,-⟩:=T13.three;have lt8:=T8.lt;have ltm:=T13.lt;refine zC 11 rfl (RAS ([]) 99 x7f _ [⟨0,66,fun _ v=>v= .agg #[.int .i64 R,.int .i64 C,.slice ro rn rc]⟩,⟨1,67,fun _ v=>v= .pointer (some ⟨w12.heap.size,2,none⟩)⟩,⟨2,68,fun _ v=>v= .slice (some ⟨tb,0,none⟩) tn tk⟩,⟨3,69,fun _ v=>v= .pointer (some ⟨tb,0,none⟩)⟩,⟨4,70,fun _ v=>v= .slice ta C tc⟩,⟨5,71,zLu f R C (ent M) t⟩,⟨6,65,zLu f R C (ent M) t⟩,⟨7,72,zFg f R C (ent M) t⟩,⟨8,73,fun _ v=>v= .int .i64 0⟩,⟨9,19,zNi 39 x7f.heap.size #[.bool false,.slice none 0 0,.slice none 0 0]⟩] 10 (put3 19 72)) kR (RAS.start (RA.start kR (by repeat' (first|exact yJ _|exact jD _|exact yR _ _ _|exact qW _|assumption|refine xgm.2 ⟨?_,?_⟩|exact xgn _)))) ?fin3 ?steps3
 case steps3=>
  refine⟨?_,?_,?_,?_,?_,?_,?_,?_,?_,?_,?_,trivial⟩
  ·refine zF.liftA kR dE ?_
   intro L T wS hL hd hcl hI K hK;try refine zA rfl ?_
   have zt:T[8]?=some (.pointer (some ⟨w2.heap.size,0,none⟩)):=hI.keep 8 sI;have cc0:=hI.cell (sI) oM c1;have cc1:=hI.cell (sI) oM c2;have cc2:=hI.cell (sI) oM c3;go_simp;exact hK _ _ (hI.y mm0 rfl)
  ·refine zF.liftA kR dE ?_
   intro L T wS hL hd hcl hI K hK;try refine zA rfl ?_
   have zt:T[13]?=some (.pointer (some ⟨w12.heap.size,0,none⟩)):=hI.keep 13 sI;go_simp;exact hK _ _ (hI.y mm1 rfl)
  ·refine zF.liftA kR dE ?_
   intro L T wS hL hd hcl hI K hK;try refine zA rfl ?_
   obtain⟨_,zt1,rfl⟩:=hI.v mm1 (hd 1);have cc0:=hI.cell (sI) oM d3;go_simp;exact hK _ _ (hI.y mm2 rfl)
  ·refine zF.liftA kR dE ?_
   intro L T wS hL hd hcl hI K hK;try refine zA rfl ?_
   obtain⟨_,zt2,rfl⟩:=hI.v mm2 (hd 2);go_simp;exact hK _ _ (hI.y mm3 rfl)
  ·refine zF.liftA kR dE ?_
   intro L T wS hL hd hcl hI K hK;try refine zA rfl ?_
   obtain⟨_,zt3,rfl⟩:=hI.v mm3 (hd 3);have cc0:=hI.cell (sI) oM p12;go_simp;exact hK _ _ (hI.y mm4 rfl)
  ·refine zF.liftA kR dE ?_
   intro L T wS hL hd hcl hI K hK;try refine zA rfl ?_
   obtain⟨_,zt0,rfl⟩:=hI.v mm0 (hd 0);obtain⟨_,zt4,rfl⟩:=hI.v mm4 (hd 4);have hbS:=zBG hI.onl;go_simp;refine(dsolveG f t _ _ R C M _ (HM.out.below hbS) HF.out (HV12.out.below hbS) hR4 hC4 HA9.out HT.out HF3.out).mono ?_;rintro e wa ⟨v,rfl,hv,hba⟩;exact hK _ _ ((hI.world hba).y mm5 hv)
  ·refine zF.liftA kR dE ?_
   intro L T wS hL hd hcl hI K hK;try refine zA rfl ?_
   obtain⟨z3,zt3,hz3⟩:=hI.v mm5 (hd 5);go_simp;exact hK _ _ (hI.y mm6 hz3)
  ·refine zF.liftA kR dE ?_
   intro L T wS hL hd hcl hI K hK;try refine zA rfl ?_
   obtain⟨z4,zt4,hz4⟩:=hI.v mm6 (hd 6);obtain⟨u,rfl,hu⟩:=hz4;go_simp;exact hK _ _ (hI.y mm7 hu)
  ·intro L T wS hL hd hcl hI K hK
   try refine zA rfl ?_
   obtain⟨w0,hJ,-,-⟩:=id hI;obtain⟨z4,zt4,hz4⟩:=hJ.val _ mm6 (hd 6);obtain⟨u,rfl,hu⟩:=hz4;go_simp;exact hK _ _ (hI.pure ⟨8,73,_⟩ mm8 rfl (fun _=>rfl) dE (fun _=>zD8 dE dE))
  ·refine zF.liftA kR dE ?_
   intro L T wS hL hd hcl hI K hK;try refine zA rfl ?_
   go_simp;exact hK _ _ ((hI.world ((Below.refl _ _).alloc (xgf _) _)).y mm9 ⟨_,rfl,hI.onl.bel.size,Blk.new _ _ _⟩)
  ·intro L T wS hL hd hcl hI K hK
   try refine zA rfl ?_
   replace hI:=hI.here hL;obtain⟨z11,zt11,hz11⟩:=hI.v mm7 (hd 7);obtain⟨z13,zt13,hz13⟩:=hI.v mm9 (hd 9);obtain⟨vo,vn,vc,uo,un,uc,rfl,-⟩:=hz11;obtain⟨b7,rfl,-,T7⟩:=hz13;obtain⟨f1,f2,f3,f4,f5,f6⟩:=T7.three;go_simp;exact hK _ _ (RAS.store hI hL (by repeat' (first|exact xgn _|refine xgm.2 ⟨by dsimp only;decide,?_⟩)) dE (zB3 zt13 zt11).symm)
 intro T x8f hJ;obtain⟨x8,hI,-,hstx8⟩:=hJ;replace hstx8:=hstx8 kR;obtain⟨va0,q0,rfl⟩:=hI.v mm0 rfl;obtain⟨va1,q1,rfl⟩:=hI.v mm1 rfl;obtain⟨va2,q2,rfl⟩:=hI.v mm2 rfl;obtain⟨va3,q3,rfl⟩:=hI.v mm3 rfl;obtain⟨va4,q4,rfl⟩:=hI.v mm4 rfl;obtain⟨va5,q5,ha5⟩:=hI.v mm5 rfl;obtain⟨va6,q6,ha6⟩:=hI.v mm6 rfl;obtain⟨va7,q7,ha7⟩:=hI.v mm7 rfl;obtain⟨va8,q8,rfl⟩:=hI.v mm8 rfl;obtain⟨va9,q9,ha9⟩:=hI.v mm9 rfl;have hT:=zAH [(66,.agg #[.int .i64 R,.int .i64 C,.slice ro rn rc]),(67,.pointer (some ⟨w12.heap.size,2,none⟩)),(68,.slice (some ⟨tb,0,none⟩) tn tk),(69,.pointer (some ⟨tb,0,none⟩)),(70,.slice ta C tc),(71,va5),(65,va6),(72,va7),(73,.int .i64 0),(19,va9)]
  (fun j hj=>hI.keep j (by simp only[xgm]at hj ⊢;simp[hj]))
  (by simp only[xgm];simp[q0,q1,q2,q3,q4,q5,q6,q7,q8,q9]) hI.size
 have hox8:=hI.onl;clear hI;simp only[List.foldl_cons,List.foldl_nil,xgh,xgi,xgj,ptr]at hT;subst hT;clear q0 q1 q2 q3 q4 q5 q6 q7 q8 q9;simp only[xgl,xgk];have hbw8:=zBG hox8;replace ha7:zFg f R C (ent M) t x8 va7:=ha7;obtain⟨o8,n8,k8,o8',n8',k8',rfl,-⟩:=id ha7;obtain⟨g8,rfl,hg8,U8⟩:=ha9;have q8:=hbw8.size;have hw8:=hstx8.trans (zB3 rfl rfl);have T19:Blk x8f g8 39 #[.bool f,.slice o8 n8 k8,.slice o8' n8' k8']:=by rw[hw8];exact U8.put3 _ _ _
 have hbf8:Below x7f.heap.size x7f x8f:=by
  rw[hw8];exact zT (zT (zT hbw8 oM 0 _) oM 1 _) oM 2 _
 clear c1 c2 c3 d1 d2 d3 ha7 U8 hw8 hstx8 hox8 hbw8 hP8 hG8 hN8;have T15:=T15.below hbf8;have T17:=T17.below hbf8;have hB:=nx hB hbf8;obtain⟨c1,c2,c3,c4,c5,c6⟩:=T15.three;obtain⟨d1,d2,d3,d4,d5,d6⟩:=T17.three;obtain⟨e1,e2,e3,e4,e5,e6⟩:=T19.three;cases f
 ·go_wp2
  go_ret;exact⟨rfl,hB⟩
 ·go_wp2
  go_ret;exact⟨rfl,hB⟩
end Go.Proofs.YtnbmaipobhppcaaGreat

namespace Go.Proofs.YtnbmaipobhppcaaGreat
open Go.ChangeShapes Go.WideShapes Go.ChangeAt Go.RowKit
theorem diophantLattice_lifted(os:Os)(started:os.Started)(H:Type)(enc:TypeId × Value->H):
  ReturnsInHanded {} Tryz.checked os 5 .any (Rows.diophantLatticeSpec.pre6 enc Tryz.prog Tryz.f5 Rows.diophantLatticeRow.domain false) (Rows.diophantLatticeSpec.post enc Tryz.prog Tryz.f5 false true false false):=by
 refine returnsInHanded_of_change (C:=Tryz.checked) Tryz.own started kR Tryz.func5
  (ChangeSpec.witness6 (enc:=enc) (C:=Tryz.checked) false ⟨#[],#[.agg #[.int .u8 0,.int .u8 0,.slice none 0 0],.slice none 0 0,.slice none 0 0],[]⟩ 8 kR kR kR kR) ?_
 intro W base args ds gs before hval0 hW hcnd _;have hval:∀(j:Nat) t v,Tryz.f5.params[j]?=some t->args[j]?=some v->Value.okWide Tryz.prog W .any base t v:=hval0;have hW':=hW;obtain⟨p,q,hA0,hV,rfl,hfz,hnd⟩:=hW;have hA:DataW.TrodAll enc Tryz.prog W 0 (fun _=>true) true Tryz.f5.params.toList args.toList ds p:=hA0;rw[Tryz.params5]at hA hval;obtain⟨v0,v1,v2,d0,d1,d2,p0,p1,p2,rfl,rfl,rfl,h0,h1,h2⟩:=trodAll_three hA;obtain⟨rfl,rfl⟩:=trodVars_none hV;clear hA0 hval0;simp only[List.append_nil]at hW';have hlt0:∀x∈p0,x.block<W.heap.size:=fun x hx=>hW'.lt x (by simp[hx])
 have hlt1:∀x∈p1,x.block<W.heap.size:=fun x hx=>hW'.lt x (by simp[hx])
 have hlt2:∀x∈p2,x.block<W.heap.size:=fun x hx=>hW'.lt x (by simp[hx])
 obtain⟨a,b,sv,ls,rfl,ha,hb,hI⟩:=zMp (hval 0 24 v0 rfl rfl) h0 hlt0;obtain⟨ls1,hI1⟩:=zMo (hval 1 22 v1 rfl rfl) h1 hlt1;obtain⟨ls2,hI2⟩:=zMo (hval 2 22 v2 rfl rfl) h2 hlt2;refine(diophantLattice_any sv v1 v2 a b ls ls1 ls2 W hI hI1 hI2 ha hb).mono fun e W' ⟨he,hB⟩=>?_
 subst he;refine⟨_,rfl,_,_,_,[],p0++(p1++p2),[],hW',?_,?_,rfl,hB.frame _,fun h=>by cases h⟩
 ·exact trodAll_mk1 (shut_bool Tryz.underlying4 true)
 ·exact trodAll_mk3 (Below.trod Tryz.laidOut kR (of_decide_eq_true kR) h0 hB hlt0) (Below.trod Tryz.laidOut kR (of_decide_eq_true kR) h1 hB hlt1) (Below.trod Tryz.laidOut kR (of_decide_eq_true kR) h2 hB hlt2)
theorem diophantLattice_j1:(Rows.diophantLatticeRow.inPlace==Tryz.pinned.checked.prog.inPlace 5)=true:=by kernel_rfl
theorem diophantLattice_j2:(Rows.diophantLatticeRow.unfollowed==Tryz.pinned.checked.prog.unfollowed 5)=true:=by kernel_rfl
theorem diophantLattice_j3:(Rows.diophantLatticeRow.recurses==Tryz.pinned.checked.prog.recurses 5)=true:=by kernel_rfl
theorem diophantLattice_j4:(Rows.diophantLatticeRow.named==Tryz.pinned.checked.prog.varsNamed 5)=true:=by kernel_rfl
theorem diophantLattice_joined:joinedFacts Tryz.pinned.checked.prog 5 Tryz.f5 Rows.diophantLatticeSpec Rows.diophantLatticeRow=true:=by
 unfold joinedFacts;rw[diophantLattice_j1,diophantLattice_j2,diophantLattice_j3,diophantLattice_j4];kernel_rfl
theorem diophantLattice_holds:Rows.DiophantLatticeSaid:=
 OpenClaim.holds_of_wide 5 Tryz.f5 rfl rfl rfl rfl rfl rfl rfl ⟨rfl,rfl,rfl,rfl,rfl⟩ rfl rfl rfl rfl rfl kR Tryz.func5 diophantLattice_joined
  (of_decide_eq_true kR) (by unfold Func.isWrapper;first|(rw[if_pos (by decide+kernel)];kernel_rfl)|(rw[if_neg (by decide+kernel)];exact⟨rfl,rfl⟩))
  (fun os started H enc _=>diophantLattice_lifted os started H enc)
end Go.Proofs.YtnbmaipobhppcaaGreat
