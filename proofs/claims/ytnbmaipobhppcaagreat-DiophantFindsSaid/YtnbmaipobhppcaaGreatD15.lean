/- hermite: work.negate. hermite: work.add, mix, negate where the rows of u and v are nil. A mix of two rows by a matrix with determinant 1 is a list of elementary operations. Plain Lean. hermite: a run's state; join. -/
import Derived.Test.YtnbmaipobhppcaaGreatD13
import Derived.Test.YtnbmaipobhppcaaGreatD14
set_option linter.unusedVariables false
set_option linter.unusedSimpArgs false
set_option linter.unusedSectionVars false
set_option maxHeartbeats 16000000
set_option maxRecDepth 100000
namespace Go.Proofs.YtnbmaipobhppcaaGreat
open Go.RowKit
theorem zAf(t:TypeId)(n:Nat)(cs:Array Value)(k:Int)(j:Nat)(v:Value)(W:World)(h:Tryz.prog.underlying t=some (.array n tR))(hk:k=(j:Int))(hj:j<n)(hv:cs[j]?=some v):
  (Instr.index t (.agg cs) (.int .i64 k)).run Tryz.prog W= .ok v W:=by
 subst hk;obtain⟨i0,hi,hz0,hz1,hz2⟩:=info_parts Tryz.infoR;have hc:(0:Int)<=(j:Int)/\(j:Int)<(n:Int):=by omega
 have hu:=Tryz.underlying30;simp[Instr.index,run_underlying h,asIntOf,hc,part,isAgg,run_underlying hu,sizeOf,typeInfo,hi,hz1,hv,go_sem];intro h0;omega
theorem zNN(bw:Nat)(Ah Au Av:Value)(n Cs Ct i:Nat)(bss bst bsi:List Nat)(FS FT FI:Nat->Nat->Int)(w:World)(hbw:Blk w bw tHW #[Ah,Au,Av])(h:zDy w Ah Au Av n Cs Ct bss bst bsi FS FT FI)(hi:i<n)
  (hn:n<=1000000) (hCs:Cs<=1000000) (hCt:Ct<=1000000) (hS:∀a,a<n->∀b,b<Cs->Sm (FS a b)) (hT:∀a,a<n->∀b,b<Ct->Sm (FT a b)) (hI:∀a,a<n->∀b,b<Ct->Sm (FI a b)):
  Calls Tryz.prog 222 #[.pointer (some ⟨bw,0,none⟩),.int .i64 i] w fun e w'=>(∃u,e= .returned u)/\zY (fun b=>b∈bss∨b∈bst∨b∈bsi) w w'/\Blk w' bw tHW #[Ah,Au,Av]∧
   zDy w' Ah Au Av n Cs Ct bss bst bsi (zAq FS i) (zAq FT i) (zAq FI i):=by
 obtain⟨so,sn,sc,rfl,s1,s2,s3,-⟩:=id (zS.rows h.s);obtain⟨uo,tn,tc,rfl,t1,t2,t3,-⟩:=id (zS.rows h.t);obtain⟨io,in_,ic,rfl,i1,i2,i3,-⟩:=id (zS.rows h.i);have HS:=xgv hS;have HT:=xgv hT;have HI:=xgv hI;clear hS hT hI;obtain⟨hs,ht,hi_,fst_,fsi,fti,gst,gsi,gti⟩:=h;have GST:=xgv gst;have GSI:=xgv gsi;have GTI:=xgv gti;clear gst gsi gti;have e1:n=sn:=by rw[<-s1];simp[zX]
 have e2:n=tn:=by rw[<-t1];simp[zX]
 have e3:n=in_:=by rw[<-i1];simp[zX]
 subst e1;subst e2;subst e3;clear s1 t1 i1;obtain⟨gs,bi,rfl,hgs,hbi,-,o1,-⟩:=zS.at_ hs (i:=i) (by rw[hs.len];exact hi);obtain⟨gt,ci,rfl,hgt,hci,-,o2,-⟩:=zS.at_ ht (i:=i) (by rw[ht.len];exact hi);obtain⟨gi,di,rfl,hgi,hdi,-,o3,-⟩:=zS.at_ hi_ (i:=i) (by rw[hi_.len];exact hi);have hOz:=zY.refl (fun b=>b∈bss∨b∈bst∨b∈bsi) w;obtain⟨x1,x2,x3,x4,x5,x6⟩:=hbw.three;have lbw:=hbw.lt;go_enter Tryz.func222,Tryz.ntmps222;go_upto_region 0 with(fail)
 refine zE rfl (RI w (w.heap.size) _ 35
   [VP 0 8 bw 0,VP 1 9 bw 0,VP 2 10 bw 0,VSl 3 11 gs n sc,VN 4 12 i,VP 5 13 gs i,VSl 6 14 bi Cs Cs,VP 7 15 bw 0,VP 8 16 bw 0,VP 9 17 bw 1,VSl 10 18 gt n tc,VN 11 19 i,VP 12 20 gt i,VSl 13 21 ci Ct Ct,VP 14 22 bw 0,VP 15 23 bw 0,VP 16 24 bw 2,VSl 17 25 gi n ic,VN 18 26 i,VP 19 27 gi i,VSl 20 28 di Ct Ct,E 21 29 (.agg #[.slice (some ⟨bi,0,none⟩) Cs Cs,.slice (some ⟨ci,0,none⟩) Ct Ct,.slice (some ⟨di,0,none⟩) Ct Ct]),VN 22 30 0] [] []) kR RI.start (RI.fin kR ?fin1) ?steps1
 case steps1=>
  refine⟨?_,?_,?_,?_,?_,?_,?_,?_,?_,?_,?_,?_,?_,?_,?_,?_,?_,?_,?_,?_,?_,?_,?_,trivial⟩<;>(intro L T wS hL hd hcl hI K hK;try refine zA rfl ?_)
  ·exact xgs (hI.k 0 rfl kR)
  ·exact xgs (hI.e mm0 (hd 0))
  ·exact xgs (hI.e mm1 (hd 1))
  ·have zt2:=hI.e mm2 (hd 2)
   have cc0:=hI.cell x1 oM nom;exact xgu
  ·exact xgs (hI.k 1 rfl kR)
  ·exact xgt (hI.e mm3 (hd 3)) (hI.e mm4 (hd 4))
  ·have zt5:=hI.e mm5 (hd 5)
   have cc0:=hI.cell o1 oM nom;exact xgu
  ·exact xgs (hI.k 0 rfl kR)
  ·exact xgs (hI.e mm7 (hd 7))
  ·exact xgs (hI.e mm8 (hd 8))
  ·have zt9:=hI.e mm9 (hd 9)
   have cc0:=hI.cell x2 oM nom;exact xgu
  ·exact xgs (hI.k 1 rfl kR)
  ·exact xgt (hI.e zAC (hd 10)) (hI.e zAJ (hd 11))
  ·have zt12:=hI.e zAo (hd 12)
   have cc0:=hI.cell o2 oM nom;exact xgu
  ·exact xgs (hI.k 0 rfl kR)
  ·exact xgs (hI.e zBp (hd 14))
  ·exact xgs (hI.e zCS (hd 15))
  ·have zt16:=hI.e zDs (hd 16)
   have cc0:=hI.cell x3 oM nom;exact xgu
  ·exact xgs (hI.k 1 rfl kR)
  ·exact xgt (hI.e zEs (hd 17)) (hI.e zCT (hd 18))
  ·have zt19:=hI.e zEt (hd 19)
   have cc0:=hI.cell o3 oM nom;exact xgu
  ·have zt6:=hI.e mm6 (hd 6)
   exact xgt (hI.e zCF (hd 13)) (hI.e zEZ (hd 20))
  ·go_simp
   exact hK _ _ (hI.y zFT rfl)
 intro w0 hlw0 hbw0 holdw0 T hT;simp only[Fin,E,EI,VP,VSl,VN,xgg,xgh,xgi,xgj]at hT;subst hT;have hOz:=hOz.trans (zY.of _ hbw0);have bx:=hbw.below hbw0;have hs:=hs.below hbw0;have ht:=ht.below hbw0;have hi_:=hi_.below hbw0;clear o1 o2 o3 x1 x2 x3 x4 x5 x6 hbw hgs hgt hgi;go_wp2;go_loopw [30] (fun mv wr=>∃m:Nat,m<=3/\mv= .int .i64 m/\zY (fun b=>b∈bss∨b∈bst∨b∈bsi) w wr/\Blk wr bw tHW #[.slice (some ⟨gs,0,none⟩) n sc,.slice (some ⟨gt,0,none⟩) n tc,.slice (some ⟨gi,0,none⟩) n ic]∧
  Wri wr (.slice (some ⟨gs,0,none⟩) n sc) n Cs bss (if 0<m then zAq FS i else FS)/\Wri wr (.slice (some ⟨gt,0,none⟩) n tc) n Ct bst (if 1<m then zAq FT i else FT)/\Wri wr (.slice (some ⟨gi,0,none⟩) n ic) n Ct bsi (if 2<m then zAq FI i else FI)) (fun mv _=>3-(intOf mv).toNat)
 case atStart=>exact⟨0,by omega,rfl,hOz,bx,hs,ht,hi_⟩
 case round=>
  clear hOz bx hs ht hi_;obtain⟨m,hm,rfl,hOz,bx,hs,ht,hi_⟩:=hrel;by_cases hm0:m=0
  ·subst hm0
   rw[if_neg oM]at hs ht hi_;have hmi:=xgd hbi;have hri:=hs.rowAt hi hbi;have hix:=fun W=>zAf 303 3 #[.slice (some ⟨bi,0,none⟩) Cs Cs,.slice (some ⟨ci,0,none⟩) Ct Ct,.slice (some ⟨di,0,none⟩) Ct Ct] 0 0 _ W Tryz.underlying303 rfl oM rfl
   have hst:∀F:Nat->Int,zM Cs F=zM Cs (qA (fun t=>-F t) F 0):=fun F=>zP fun t _=>by unfold qA;rw[if_neg oM]
   rw[hst]at hri;clear hst;go_wp2;go_loopw [35] (fun jv wt=>∃j:Nat,j<=Cs/\jv= .int .i64 j/\yC [bi] wr wt/\(∃G,G=(fun t=>-FS i t)/\qC wt bi (zM Cs (qA G (FS i) j)))) (fun jv _=>Cs-(intOf jv).toNat)
   case atStart=>exact⟨0,by omega,rfl,yC.refl _ _,_,rfl,hri⟩
   case round=>
    rename World=>wt
    obtain⟨j,hj,rfl,hO,G,hG,hv⟩:=hrel;have HG:=xgv (congrFun hG);clear hG;have hOs:=hO.bel.size;by_cases hlt:j<Cs
    ·obtain⟨xs,xa,xl,xc,v1,v2,-,-,hx⟩:=hv.cell (zO hlt)
     have hyf:qA G (FS i) j j=FS i j:=by unfold qA;rw[if_neg oM]
     rw[hyf]at hx;have hlv:=hv.lt;go_upto_region 6 with(fail)
     refine zB ?_;intro W6 hW6;obtain⟨hB6,T7,hs6⟩:=zK hW6;obtain⟨d1,d2,d3,d4⟩:=T7.two;have hO:=hO.trans (yC.of [bi] hB6);have hv:=hv.below hB6;have hx:=hx.ext (lx hB6);have l7:=T7.lt;clear v1 v2 hW6;have HSJ:=xgv (HS.out i hi j hlt);go_wp2_with fail
     refine(jN _ (FS i j) W6 hx.weak HSJ.out).mono ?_;rintro e w9 ⟨u,rfl,hu,hbw9⟩;obtain⟨pn,pa,pl,pc,px,rfl,hpx⟩:=id hu;have HPX:=xgw hpx;clear hpx;have hv9:=hv.below hbw9;obtain⟨zs,za,zl,zc,z1,z2,z3,z4,-⟩:=hv9.cell (zO hlt);have hset:=hv9.set (k:=j) (by rw[zD];exact hlt) hu;have hO:=hO.trans (yC.of [bi] hbw9);go_wp2;go_roundw
     case rel=>
      have hq:(zM Cs (qA G (FS i) j)).set j (-(FS i j))=zM Cs (qA G (FS i) (j+1)):=by
       rw[zAi];exact zP fun t _=>by
        unfold qA;by_cases h2:t=j
        ·subst h2
         rw[if_pos rfl,if_pos oM,HG.out]
        ·rw[if_neg h2]
         by_cases h1:t<j
         ·rw[if_pos h1,if_pos oM]
         ·rw[if_neg h1,if_neg oM]
      rw[hq]at hset;refine⟨_,_,_,_,_,_,_,_,_,_,_,_,_,?_,rfl⟩;exact⟨j+1,by omega,by simp,hO.trans ⟨zT (zT (Below.refl _ _) (Nat.zero_le _) _ _) (Nat.zero_le _) _ _,hset.2,fun i _ hi=>zR _ _ _ _ _ _ _ (by simpa using hi)⟩,_,funext HG.out,hset.1⟩
     case measure=>simp[intOf];omega
    ·obtain rfl:j=Cs:=by omega
     have hq:zM j (qA G (FS i) j)=zM j (fun t=>-FS i t):=zP fun t ht=>by unfold qA;rw[if_pos ht];exact HG.out t
     rw[hq]at hv;go_wp2;go_roundw
     case measure=>simp[intOf]
     have hri0:=hs.rowAt hi hbi;exact⟨1,by omega,by simp,hOz.trans ⟨hO.bel,hO.lext,fun k hk hn=>hO.old k hk (by simp;rintro rfl;exact hn (.inl hmi))⟩,bx.row hO hri0 dE,by simpa using hs.negRow hi hbi hO hv,by simpa using ht.only hO (fun hh=>fst_ _ hmi hh) hri0,by simpa using hi_.only hO (fun hh=>fsi _ hmi hh) hri0⟩
  ·by_cases hm1:m=1
   ·subst hm1
    rw[if_pos oM]at hs;rw[if_neg oM]at ht hi_;have hmi:=xgd hci;have hri:=ht.rowAt hi hci;have hix:=fun W=>zAf 303 3 #[.slice (some ⟨bi,0,none⟩) Cs Cs,.slice (some ⟨ci,0,none⟩) Ct Ct,.slice (some ⟨di,0,none⟩) Ct Ct] 1 1 _ W Tryz.underlying303 rfl oM rfl
    have hst:∀F:Nat->Int,zM Ct F=zM Ct (qA (fun t=>-F t) F 0):=fun F=>zP fun t _=>by unfold qA;rw[if_neg oM]
    rw[hst]at hri;clear hst;go_wp2;go_loopw [35] (fun jv wt=>∃j:Nat,j<=Ct/\jv= .int .i64 j/\yC [ci] wr wt/\(∃G,G=(fun t=>-FT i t)/\qC wt ci (zM Ct (qA G (FT i) j)))) (fun jv _=>Ct-(intOf jv).toNat)
    case atStart=>exact⟨0,by omega,rfl,yC.refl _ _,_,rfl,hri⟩
    case round=>
     rename World=>wt
     obtain⟨j,hj,rfl,hO,G,hG,hv⟩:=hrel;have HG:=xgv (congrFun hG);clear hG;have hOs:=hO.bel.size;by_cases hlt:j<Ct
     ·obtain⟨xs,xa,xl,xc,v1,v2,-,-,hx⟩:=hv.cell (zO hlt)
      have hyf:qA G (FT i) j j=FT i j:=by unfold qA;rw[if_neg oM]
      rw[hyf]at hx;have hlv:=hv.lt;go_upto_region 6 with(fail)
      refine zB ?_;intro W6 hW6;obtain⟨hB6,T7,hs6⟩:=zK hW6;obtain⟨d1,d2,d3,d4⟩:=T7.two;have hO:=hO.trans (yC.of [ci] hB6);have hv:=hv.below hB6;have hx:=hx.ext (lx hB6);have l7:=T7.lt;clear v1 v2 hW6;have HSJ:=xgv (HT.out i hi j hlt);go_wp2_with fail
      refine(jN _ (FT i j) W6 hx.weak HSJ.out).mono ?_;rintro e w9 ⟨u,rfl,hu,hbw9⟩;obtain⟨pn,pa,pl,pc,px,rfl,hpx⟩:=id hu;have HPX:=xgw hpx;clear hpx;have hv9:=hv.below hbw9;obtain⟨zs,za,zl,zc,z1,z2,z3,z4,-⟩:=hv9.cell (zO hlt);have hset:=hv9.set (k:=j) (by rw[zD];exact hlt) hu;have hO:=hO.trans (yC.of [ci] hbw9);go_wp2;go_roundw
      case rel=>
       have hq:(zM Ct (qA G (FT i) j)).set j (-(FT i j))=zM Ct (qA G (FT i) (j+1)):=by
        rw[zAi];exact zP fun t _=>by
         unfold qA;by_cases h2:t=j
         ·subst h2
          rw[if_pos rfl,if_pos oM,HG.out]
         ·rw[if_neg h2]
          by_cases h1:t<j
          ·rw[if_pos h1,if_pos oM]
          ·rw[if_neg h1,if_neg oM]
       rw[hq]at hset;refine⟨_,_,_,_,_,_,_,_,_,_,_,_,_,?_,rfl⟩;exact⟨j+1,by omega,by simp,hO.trans ⟨zT (zT (Below.refl _ _) (Nat.zero_le _) _ _) (Nat.zero_le _) _ _,hset.2,fun i _ hi=>zR _ _ _ _ _ _ _ (by simpa using hi)⟩,_,funext HG.out,hset.1⟩
      case measure=>simp[intOf];omega
     ·obtain rfl:j=Ct:=by omega
      have hq:zM j (qA G (FT i) j)=zM j (fun t=>-FT i t):=zP fun t ht=>by unfold qA;rw[if_pos ht];exact HG.out t
      rw[hq]at hv;go_wp2;go_roundw
      case measure=>simp[intOf]
      have hri0:=ht.rowAt hi hci;exact⟨2,by omega,by simp,hOz.trans ⟨hO.bel,hO.lext,fun k hk hn=>hO.old k hk (by simp;rintro rfl;exact hn ((fun h=>.inr (.inl h)) hmi))⟩,bx.row hO hri0 dE,by simpa using hs.only hO (fun hh=>fst_ _ hh hmi) hri0,by simpa using ht.negRow hi hci hO hv,by simpa using hi_.only hO (fun hh=>fti _ hmi hh) hri0⟩
   ·by_cases hm2:m=2
    ·subst hm2
     rw[if_pos oM]at hs ht;rw[if_neg oM]at hi_;have hmi:=xgd hdi;have hri:=hi_.rowAt hi hdi;have hix:=fun W=>zAf 303 3 #[.slice (some ⟨bi,0,none⟩) Cs Cs,.slice (some ⟨ci,0,none⟩) Ct Ct,.slice (some ⟨di,0,none⟩) Ct Ct] 2 2 _ W Tryz.underlying303 rfl oM rfl
     have hst:∀F:Nat->Int,zM Ct F=zM Ct (qA (fun t=>-F t) F 0):=fun F=>zP fun t _=>by unfold qA;rw[if_neg oM]
     rw[hst]at hri;clear hst;go_wp2;go_loopw [35] (fun jv wt=>∃j:Nat,j<=Ct/\jv= .int .i64 j/\yC [di] wr wt/\(∃G,G=(fun t=>-FI i t)/\qC wt di (zM Ct (qA G (FI i) j)))) (fun jv _=>Ct-(intOf jv).toNat)
     case atStart=>exact⟨0,by omega,rfl,yC.refl _ _,_,rfl,hri⟩
     case round=>
      rename World=>wt
      obtain⟨j,hj,rfl,hO,G,hG,hv⟩:=hrel;have HG:=xgv (congrFun hG);clear hG;have hOs:=hO.bel.size;by_cases hlt:j<Ct
      ·obtain⟨xs,xa,xl,xc,v1,v2,-,-,hx⟩:=hv.cell (zO hlt)
       have hyf:qA G (FI i) j j=FI i j:=by unfold qA;rw[if_neg oM]
       rw[hyf]at hx;have hlv:=hv.lt;go_upto_region 6 with(fail)
       refine zB ?_;intro W6 hW6;obtain⟨hB6,T7,hs6⟩:=zK hW6;obtain⟨d1,d2,d3,d4⟩:=T7.two;have hO:=hO.trans (yC.of [di] hB6);have hv:=hv.below hB6;have hx:=hx.ext (lx hB6);have l7:=T7.lt;clear v1 v2 hW6;have HSJ:=xgv (HI.out i hi j hlt);go_wp2_with fail
       refine(jN _ (FI i j) W6 hx.weak HSJ.out).mono ?_;rintro e w9 ⟨u,rfl,hu,hbw9⟩;obtain⟨pn,pa,pl,pc,px,rfl,hpx⟩:=id hu;have HPX:=xgw hpx;clear hpx;have hv9:=hv.below hbw9;obtain⟨zs,za,zl,zc,z1,z2,z3,z4,-⟩:=hv9.cell (zO hlt);have hset:=hv9.set (k:=j) (by rw[zD];exact hlt) hu;have hO:=hO.trans (yC.of [di] hbw9);go_wp2;go_roundw
       case rel=>
        have hq:(zM Ct (qA G (FI i) j)).set j (-(FI i j))=zM Ct (qA G (FI i) (j+1)):=by
         rw[zAi];exact zP fun t _=>by
          unfold qA;by_cases h2:t=j
          ·subst h2
           rw[if_pos rfl,if_pos oM,HG.out]
          ·rw[if_neg h2]
           by_cases h1:t<j
           ·rw[if_pos h1,if_pos oM]
           ·rw[if_neg h1,if_neg oM]
        rw[hq]at hset;refine⟨_,_,_,_,_,_,_,_,_,_,_,_,_,?_,rfl⟩;exact⟨j+1,by omega,by simp,hO.trans ⟨zT (zT (Below.refl _ _) (Nat.zero_le _) _ _) (Nat.zero_le _) _ _,hset.2,fun i _ hi=>zR _ _ _ _ _ _ _ (by simpa using hi)⟩,_,funext HG.out,hset.1⟩
       case measure=>simp[intOf];omega
      ·obtain rfl:j=Ct:=by omega
       have hq:zM j (qA G (FI i) j)=zM j (fun t=>-FI i t):=zP fun t ht=>by unfold qA;rw[if_pos ht];exact HG.out t
       rw[hq]at hv;go_wp2;go_roundw
       case measure=>simp[intOf]
       have hri0:=hi_.rowAt hi hdi;exact⟨3,by omega,by simp,hOz.trans ⟨hO.bel,hO.lext,fun k hk hn=>hO.old k hk (by simp;rintro rfl;exact hn ((fun h=>.inr (.inr h)) hmi))⟩,bx.row hO hri0 dE,by simpa using hs.only hO (fun hh=>fsi _ hh hmi) hri0,by simpa using ht.only hO (fun hh=>fti _ hh hmi) hri0,by simpa using hi_.negRow hi hdi hO hv⟩
    ·obtain rfl:m=3:=by omega
     rw[if_pos oM]at hs ht hi_;go_wp2;exact bodyPost_end (results_none rfl _ _ _) rfl ⟨⟨_,rfl⟩,hOz,bx,hs,ht,hi_,fst_,fsi,fti,GST.out,GSI.out,GTI.out⟩
theorem zGT(mv:Value)(m0 m1 m2 m3:Int)(w:World)(hm:M4V w mv m0 m1 m2 m3):
  Calls Tryz.prog 261 #[.slice none 0 0,.slice none 0 0,mv] w fun e w'=>(∃u,e= .returned u)/\Below w.heap.size w w':=by
 obtain⟨n0,a0,l0,c0,n1,a1,l1,c1,n2,a2,l2,c2,n3,a3,l3,c3,rfl,-⟩:=id hm;go_enter Tryz.func261,Tryz.ntmps261;go_upto_region 1 with(fail)
 refine zB ?_;intro W0 hW0;obtain⟨hB0,bk,hs0⟩:=zK hW0;clear hW0;go_wp2;go_loopw [11] (fun iv wr=>iv= .int .i64 0/\wr=W0) (fun _ _=>0)
 case atStart=>exact⟨rfl,rfl⟩
 case round=>
  obtain⟨rfl,rfl⟩:=hrel;go_wp2;exact bodyPost_end (results_none rfl _ _ _) rfl ⟨⟨_,rfl⟩,hB0⟩
theorem zLk(bw:Nat)(Ah Au Av:Value)(n Cs i j:Nat)(bss:List Nat)(S:Nat->Nat->Int)(kv:Value)(k:Int)(w:World)(hbw:Blk w bw tHW #[Ah,Au,Av])(hs:Wri w Ah n Cs bss S)(hu:zBg w Au n)(hv:zBg w Av n)(hi:i<n)(hj:j<n)(hij:i≠j)(hk:zH w kv k)
  (hn:n<=1000000) (hCs:Cs<=1000000) (hS:zJt Cs S i j k) (hks:Sm k):
  Calls Tryz.prog 220 #[.pointer (some ⟨bw,0,none⟩),.int .i64 i,.int .i64 j,kv] w fun e w'=>(∃u,e= .returned u)/\zY (fun b=>b∈bss) w w'/\Blk w' bw tHW #[Ah,Au,Av]∧
   Wri w' Ah n Cs bss (zAt S i j k)/\zBg w' Au n/\zBg w' Av n:=by
 obtain⟨so,sn,sc,rfl,s1,s2,s3,-⟩:=id (zS.rows hs);obtain⟨kn,ka,kl,kc,kx,rfl,hkx⟩:=id hk;have HKX:=xgw hkx;have HS:=xgv hS;have HK:=xgv hks;clear hkx hS hks;have e1:n=sn:=by rw[<-s1];simp[zX]
 subst e1;clear s1;obtain⟨gs,_,rfl,-⟩:=zS.at_ hs (i:=i) (by rw[hs.len];exact hi);obtain⟨gt,tc,-,rfl,-⟩:=id hu;obtain⟨gi,ic,-,rfl,-⟩:=id hv;have hlt:∀b,b∈bss->b<w.heap.size:=fun b hb=>(hs.blk hb).elim fun r hr=>hr.lt
 go_enter Tryz.func220,Tryz.ntmps220;go_upto_region 1 with(fail)
 refine zB ?_;intro W0 hW0;obtain⟨hB0,bk,hs0⟩:=zK hW0;have bx:=hbw.below hB0;have hs:=hs.below hB0;have hu:=hu.below hB0;have hv:=hv.below hB0;have hk:=hk.ext (lx hB0);have hO:=zY.of (fun b=>b∈bss) hB0;clear hW0 hbw;obtain⟨g1,bi,eg1,hg1,hbi1,hb1,o1,-⟩:=zS.at_ hs (i:=i) (by rw[hs.len];exact hi);obtain⟨g2,bj,eg2,hg2,hbj1,hb2,o2,-⟩:=zS.at_ hs (i:=j) (by rw[hs.len];exact hj);obtain rfl:gs=g1:=by injection eg1 with eg1;injection eg1
 obtain rfl:gs=g2:=by injection eg2 with eg2;injection eg2
 clear eg1 eg2 hb1 hb2;have hm1:=xgd hbi1;obtain⟨ri,hri⟩:=hs.blk hm1;obtain⟨x1,x2,x3,x4,x5,x6⟩:=bx.three;obtain⟨d1,d2,d3,d4⟩:=bk.two;have lbx:=bx.lt;have lk:=bk.lt;refine zC 15 rfl (RI W0 (W0.heap.size) _ 35
   [VP 0 8 bw 0,VP 1 9 bw 0,VP 2 10 bw 0,VSl 3 11 gs n sc,VN 4 12 i,VP 5 13 gs i,VSl 6 14 bi Cs Cs,VP 7 15 bw 0,VP 8 16 bw 0,VP 9 17 bw 0,VSl 10 18 gs n sc,VN 11 19 j,VP 12 20 gs j,VSl 13 21 bj Cs Cs,E 14 22 (.agg #[.bool kn,.slice ka kl kc])] [] []) kR RI.start (RI.fin kR ?fin1) ?steps1
 case steps1=>
  refine⟨?_,?_,?_,?_,?_,?_,?_,?_,?_,?_,?_,?_,?_,?_,?_,trivial⟩<;>(intro L T wS hL hd hcl hI K hK;try refine zA rfl ?_)
  ·exact xgs (hI.k 0 rfl kR)
  ·exact xgs (hI.e mm0 (hd 0))
  ·exact xgs (hI.e mm1 (hd 1))
  ·have zt2:=hI.e mm2 (hd 2)
   have cc0:=hI.cell x1 oM nom;exact xgu
  ·exact xgs (hI.k 1 rfl kR)
  ·exact xgt (hI.e mm3 (hd 3)) (hI.e mm4 (hd 4))
  ·have zt5:=hI.e mm5 (hd 5)
   have cc0:=hI.cell o1 oM nom;exact xgu
  ·exact xgs (hI.k 0 rfl kR)
  ·exact xgs (hI.e mm7 (hd 7))
  ·exact xgs (hI.e mm8 (hd 8))
  ·have zt9:=hI.e mm9 (hd 9)
   have cc0:=hI.cell x1 oM nom;exact xgu
  ·exact xgs (hI.k 2 rfl kR)
  ·exact xgt (hI.e zAC (hd 10)) (hI.e zAJ (hd 11))
  ·have zt12:=hI.e zAo (hd 12)
   have cc0:=hI.cell o2 oM nom;exact xgu
  ·have zt:=hI.k 7 rfl kR
   have cc0:=hI.cell d1 oM nom;have cc1:=hI.cell d2 oM nom;exact xgu
 intro w8 hlw8 hbw8 holdw8 T hT;simp only[Fin,E,EI,VP,VSl,VN,xgg,xgh,xgi,xgj]at hT;subst hT;simp only[xgl,xgk];have hH8:=hs.below hbw8;have hri8:=hri.below hbw8;clear o1 o2 x1 x2 x3 x4 x5 x6 d1 d2 d3 d4;go_wp2_with fail
 refine(zFh hH8 hi hj hij hbi1 hbj1 _ (k) (hk.ext (lx0 hbw8)) hCs HS.out HK.out).mono ?_;rintro e w9 ⟨⟨u,rfl⟩,ho,hH9⟩;have hkne:w.heap.size≠bi:=by have:=hlt bi (by simp[hm1]);omega
 have bx:=(bx.below hbw8).row ho hri8 dE;have bk:Blk w9 w.heap.size 35 #[.bool kn,.slice ka kl kc]:=(ho.old _ (bk.below hbw8).lt (by simpa using hkne)).trans (bk.below hbw8);have hk:=(hk.ext (lx0 hbw8)).ext ho.lext;have hO:=(hO.trans (zY.of _ hbw8)).trans (⟨ho.bel,ho.lext,fun k hk hn=>ho.old k hk (by simp;rintro rfl;exact hn (by simp[hm1]))⟩:zY _ w8 w9);have hu:=(hu.below hbw8).row ho hri8;have hv:=(hv.below hbw8).row ho hri8;have hs:Wri w9 (.slice (some ⟨gs,0,none⟩) n sc) n Cs bss (zAt S i j k):=hH9;clear ho hri8 hri hH8 hH9 hm1 hkne hbi1 hbj1;go_upto_region 2 with(fail)
 obtain⟨g1,k1,eg1,o1⟩:=hu.at_ hi;obtain⟨g2,k2',eg2,o2⟩:=hu.at_ hj;obtain⟨rfl,rfl⟩:gt=g1/\tc=k1:=by simpa using eg1
 obtain⟨rfl,rfl⟩:gt=g2/\tc=k2':=by simpa using eg2
 have hg1:=World.block_lt_of_cell? _ _ o1;clear eg1 eg2;obtain⟨x1,x2,x3,x4,x5,x6⟩:=bx.three;obtain⟨d1,d2,d3,d4⟩:=bk.two;have lbx:=bx.lt;have lk:=bk.lt;refine zC 15 rfl (RI w9 (w9.heap.size) _ 35
   [VP 0 24 bw 0,VP 1 25 bw 0,VP 2 26 bw 1,VSl 3 27 gt n tc,VN 4 28 i,VP 5 29 gt i,E 6 30 (.slice none 0 0),VP 7 31 bw 0,VP 8 32 bw 0,VP 9 33 bw 1,VSl 10 34 gt n tc,VN 11 35 j,VP 12 36 gt j,E 13 37 (.slice none 0 0),E 14 38 (.agg #[.bool kn,.slice ka kl kc])] [] []) kR RI.start (RI.fin kR ?fin2) ?steps2
 case steps2=>
  refine⟨?_,?_,?_,?_,?_,?_,?_,?_,?_,?_,?_,?_,?_,?_,?_,trivial⟩<;>(intro L T wS hL hd hcl hI K hK;try refine zA rfl ?_)
  ·exact xgs (hI.k 0 rfl kR)
  ·exact xgs (hI.e mm0 (hd 0))
  ·exact xgs (hI.e mm1 (hd 1))
  ·have zt2:=hI.e mm2 (hd 2)
   have cc0:=hI.cell x2 oM nom;exact xgu
  ·exact xgs (hI.k 1 rfl kR)
  ·exact xgt (hI.e mm3 (hd 3)) (hI.e mm4 (hd 4))
  ·have zt5:=hI.e mm5 (hd 5)
   have cc0:=hI.cell o1 oM nom;exact xgu
  ·exact xgs (hI.k 0 rfl kR)
  ·exact xgs (hI.e mm7 (hd 7))
  ·exact xgs (hI.e mm8 (hd 8))
  ·have zt9:=hI.e mm9 (hd 9)
   have cc0:=hI.cell x2 oM nom;exact xgu
  ·exact xgs (hI.k 2 rfl kR)
  ·exact xgt (hI.e zAC (hd 10)) (hI.e zAJ (hd 11))
  ·have zt12:=hI.e zAo (hd 12)
   have cc0:=hI.cell o2 oM nom;exact xgu
  ·have zt:=hI.k 7 rfl kR
   have cc0:=hI.cell d1 oM nom;have cc1:=hI.cell d2 oM nom;exact xgu
 intro w10 hlw10 hbw10 holdw10 T hT;simp only[Fin,E,EI,VP,VSl,VN,xgg,xgh,xgi,xgj]at hT;subst hT;simp only[xgl,xgk];go_wp2_with fail
 refine(zGQ _ k _ (hk.ext (lx0 hbw10))).mono ?_;rintro e w11 ⟨⟨u,rfl⟩,hbq⟩;have hbz:=nx hbw10 hbq;have bx:=bx.below hbz;have bk:=bk.below hbz;have hO:=hO.trans (zY.of _ hbz);have hs:=hs.below hbz;have hu:=hu.below hbz;have hv:=hv.below hbz;have hk:=hk.ext (lx hbz);clear o1 o2 x1 x2 x3 x4 x5 x6 d1 d2 d3 d4 hbz hbq hg1;go_upto_region 3 with(fail)
 obtain⟨g1,k1,eg1,o1⟩:=hv.at_ hj;obtain⟨g2,k2',eg2,o2⟩:=hv.at_ hi;obtain⟨rfl,rfl⟩:gi=g1/\ic=k1:=by simpa using eg1
 obtain⟨rfl,rfl⟩:gi=g2/\ic=k2':=by simpa using eg2
 have hg1:=World.block_lt_of_cell? _ _ o1;clear eg1 eg2;obtain⟨x1,x2,x3,x4,x5,x6⟩:=bx.three;obtain⟨d1,d2,d3,d4⟩:=bk.two;have lbx:=bx.lt;have lk:=bk.lt;refine zC 16 rfl (RI w11 (w11.heap.size) _ 35
   [VP 0 40 bw 0,VP 1 41 bw 0,VP 2 42 bw 2,VSl 3 43 gi n ic,VN 4 44 j,VP 5 45 gi j,E 6 46 (.slice none 0 0),VP 7 47 bw 0,VP 8 48 bw 0,VP 9 49 bw 2,VSl 10 50 gi n ic,VN 11 51 i,VP 12 52 gi i,E 13 53 (.slice none 0 0),E 14 54 (.agg #[.bool kn,.slice ka kl kc]),EI 15 55 (-k)] [] []) kR RI.start (RI.fin kR ?fin3) ?steps3
 case steps3=>
  refine⟨?_,?_,?_,?_,?_,?_,?_,?_,?_,?_,?_,?_,?_,?_,?_,?_,trivial⟩<;>(intro L T wS hL hd hcl hI K hK;try refine zA rfl ?_)
  ·exact xgs (hI.k 0 rfl kR)
  ·exact xgs (hI.e mm0 (hd 0))
  ·exact xgs (hI.e mm1 (hd 1))
  ·have zt2:=hI.e mm2 (hd 2)
   have cc0:=hI.cell x3 oM nom;exact xgu
  ·exact xgs (hI.k 2 rfl kR)
  ·exact xgt (hI.e mm3 (hd 3)) (hI.e mm4 (hd 4))
  ·have zt5:=hI.e mm5 (hd 5)
   have cc0:=hI.cell o1 oM nom;exact xgu
  ·exact xgs (hI.k 0 rfl kR)
  ·exact xgs (hI.e mm7 (hd 7))
  ·exact xgs (hI.e mm8 (hd 8))
  ·have zt9:=hI.e mm9 (hd 9)
   have cc0:=hI.cell x3 oM nom;exact xgu
  ·exact xgs (hI.k 1 rfl kR)
  ·exact xgt (hI.e zAC (hd 10)) (hI.e zAJ (hd 11))
  ·have zt12:=hI.e zAo (hd 12)
   have cc0:=hI.cell o2 oM nom;exact xgu
  ·have zt:=hI.k 7 rfl kR
   have cc0:=hI.cell d1 oM nom;have cc1:=hI.cell d2 oM nom;exact xgu
  ·have zt14:=hI.e zBp (hd 14)
   go_simp;refine(jN _ k _ (hk.ext hI.lext).weak HK.out).mono ?_;exact xgo
 intro w12 hlw12 hbw12 holdw12 T hT;simp only[Fin,E,EI,VP,VSl,VN,xgg,xgh,xgi,xgj]at hT;obtain⟨vc15,hc15,rfl⟩:=hT;simp only[xgl,xgk];obtain⟨pn,pa,pl,pc,px,rfl,-⟩:=id hc15;go_wp2_with fail
 refine(zGQ _ (-k) _ hc15).mono ?_;rintro e w13 ⟨⟨u,rfl⟩,hbq⟩;have hbz:=nx hbw12 hbq;have bx:=bx.below hbz;have bk:=bk.below hbz;have hO:=hO.trans (zY.of _ hbz);have hs:=hs.below hbz;have hu:=hu.below hbz;have hv:=hv.below hbz;go_wp2;exact bodyPost_end (results_none rfl _ _ _) rfl ⟨⟨_,rfl⟩,hO,bx,hs,hu,hv⟩
theorem zLl(bw:Nat)(Ah Au Av mv:Value)(n Cs i j:Nat)(bss:List Nat)(S:Nat->Nat->Int)(m0 m1 m2 m3:Int)(w:World)(hbw:Blk w bw tHW #[Ah,Au,Av])(hs:Wri w Ah n Cs bss S)(hu:zBg w Au n)(hv:zBg w Av n)(hi:i<n)(hj:j<n)(hij:i≠j)(hm:M4V w mv m0 m1 m2 m3)
  (hn:n<=1000000) (hCs:Cs<=1000000) (hS:zNf Cs (S i) (S j) m0 m1 m2 m3) (hms:Sm m0/\Sm m1/\Sm m2/\Sm m3):
  Calls Tryz.prog 221 #[.pointer (some ⟨bw,0,none⟩),.int .i64 i,.int .i64 j,mv] w fun e w'=>(∃u,e= .returned u)/\zY (fun b=>b∈bss) w w'/\Blk w' bw tHW #[Ah,Au,Av]∧
   Wri w' Ah n Cs bss (qO S i j m0 m1 m2 m3)/\zBg w' Au n/\zBg w' Av n:=by
 obtain⟨so,sn,sc,rfl,s1,s2,s3,-⟩:=id (zS.rows hs);have HS:=xgv hS;have HK:=xgv hms;obtain⟨n0,a0,l0,c0,n1,a1,l1,c1,n2,a2,l2,c2,n3,a3,l3,c3,rfl,j0,j1,j2,j3⟩:=id hm;have HM0:=xgv (And.intro j0 (And.intro j1 (And.intro j2 j3)));clear hS hms hm j0 j1 j2 j3;have e1:n=sn:=by rw[<-s1];simp[zX]
 subst e1;clear s1;obtain⟨gs,_,rfl,-⟩:=zS.at_ hs (i:=i) (by rw[hs.len];exact hi);obtain⟨gt,tc,-,rfl,-⟩:=id hu;obtain⟨gi,ic,-,rfl,-⟩:=id hv;have hlt:∀b,b∈bss->b<w.heap.size:=fun b hb=>(hs.blk hb).elim fun r hr=>hr.lt
 go_enter Tryz.func221,Tryz.ntmps221;go_upto_region 1 with(fail)
 refine zB ?_;intro W0 hW0;obtain⟨hB0,bm,hs0⟩:=zK hW0;have bx:=hbw.below hB0;have hs:=hs.below hB0;have hu:=hu.below hB0;have hv:=hv.below hB0;have hO:=zY.of (fun b=>b∈bss) hB0;have hl2:=zCD m3 (-m2);have hl3:=zCD (-m1) m0;have hl4:=zFy m3 (-m2) (-m1) m0;clear hW0 hbw;obtain⟨g1,bi,eg1,hg1,hbi1,hb1,o1,-⟩:=zS.at_ hs (i:=i) (by rw[hs.len];exact hi);obtain⟨g2,bj,eg2,hg2,hbj1,hb2,o2,-⟩:=zS.at_ hs (i:=j) (by rw[hs.len];exact hj);obtain rfl:gs=g1:=by injection eg1 with eg1;injection eg1
 obtain rfl:gs=g2:=by injection eg2 with eg2;injection eg2
 clear eg1 eg2 hb1 hb2;have hm1:=xgd hbi1;have hm2:=xgd hbj1;obtain⟨ri,hri⟩:=hs.blk hm1;obtain⟨rj,hrj⟩:=hs.blk hm2;obtain⟨x1,x2,x3,x4,x5,x6⟩:=bx.three;obtain⟨k0,k1,k2,k3,k4,k5,k6,k7⟩:=bm.eight;have lbx:=bx.lt;have lm:=bm.lt;have j0:=HM0.out.1.ext hO.lext;have j1:=HM0.out.2.1.ext hO.lext;have j2:=HM0.out.2.2.1.ext hO.lext;have j3:=HM0.out.2.2.2.ext hO.lext;refine zC 15 rfl (RI W0 (W0.heap.size) _ 35
   [VP 0 8 bw 0,VP 1 9 bw 0,VP 2 10 bw 0,VSl 3 11 gs n sc,VN 4 12 i,VP 5 13 gs i,VSl 6 14 bi Cs Cs,VP 7 15 bw 0,VP 8 16 bw 0,VP 9 17 bw 0,VSl 10 18 gs n sc,VN 11 19 j,VP 12 20 gs j,VSl 13 21 bj Cs Cs,E 14 22 (.agg #[.bool n0,.slice a0 l0 c0,.bool n1,.slice a1 l1 c1,.bool n2,.slice a2 l2 c2,.bool n3,.slice a3 l3 c3])] [] []) kR RI.start (RI.fin kR ?fin4) ?steps4
 case steps4=>
  refine⟨?_,?_,?_,?_,?_,?_,?_,?_,?_,?_,?_,?_,?_,?_,?_,trivial⟩<;>(intro L T wS hL hd hcl hI K hK;try refine zA rfl ?_)
  ·exact xgs (hI.k 0 rfl kR)
  ·exact xgs (hI.e mm0 (hd 0))
  ·exact xgs (hI.e mm1 (hd 1))
  ·have zt2:=hI.e mm2 (hd 2)
   have cc0:=hI.cell x1 oM nom;exact xgu
  ·exact xgs (hI.k 1 rfl kR)
  ·exact xgt (hI.e mm3 (hd 3)) (hI.e mm4 (hd 4))
  ·have zt5:=hI.e mm5 (hd 5)
   have cc0:=hI.cell o1 oM nom;exact xgu
  ·exact xgs (hI.k 0 rfl kR)
  ·exact xgs (hI.e mm7 (hd 7))
  ·exact xgs (hI.e mm8 (hd 8))
  ·have zt9:=hI.e mm9 (hd 9)
   have cc0:=hI.cell x1 oM nom;exact xgu
  ·exact xgs (hI.k 2 rfl kR)
  ·exact xgt (hI.e zAC (hd 10)) (hI.e zAJ (hd 11))
  ·have zt12:=hI.e zAo (hd 12)
   have cc0:=hI.cell o2 oM nom;exact xgu
  ·have zt:=hI.k 7 rfl kR
   have cc0:=hI.cell k0 oM nom;have cc1:=hI.cell k1 oM nom;have cc2:=hI.cell k2 oM nom;have cc3:=hI.cell k3 oM nom;have cc4:=hI.cell k4 oM nom;have cc5:=hI.cell k5 oM nom;have cc6:=hI.cell k6 oM nom;have cc7:=hI.cell k7 oM nom;exact xgu
 intro w8 hlw8 hbw8 holdw8 T hT;simp only[Fin,E,EI,VP,VSl,VN,xgg,xgh,xgi,xgj]at hT;subst hT;simp only[xgl,xgk];have hH8:=hs.below hbw8;have hri8:=hri.below hbw8;have hrj8:=hrj.below hbw8;clear o1 o2 x1 x2 x3 x4 x5 x6 k0 k1 k2 k3 k4 k5 k6 k7;go_wp2_with fail
 refine(zCu hH8 hi hj hij hbi1 hbj1 ⟨_,_,_,_,_,_,_,_,_,_,_,_,_,_,_,_,rfl,j0.ext (lx0 hbw8),j1.ext (lx0 hbw8),j2.ext (lx0 hbw8),j3.ext (lx0 hbw8)⟩ hCs HS.out HK.out).mono ?_;rintro e w9 ⟨⟨u,rfl⟩,ho,hH9⟩;have hk1:w.heap.size≠bi:=by have:=hlt bi (by simp[hm1]);omega
 have hk2:w.heap.size≠bj:=by have:=hlt bj (by simp[hm2]);omega
 have bx:=(bx.below hbw8).row2 ho hri8 hrj8 dE;have bm:Blk w9 w.heap.size 301 #[.bool n0,.slice a0 l0 c0,.bool n1,.slice a1 l1 c1,.bool n2,.slice a2 l2 c2,.bool n3,.slice a3 l3 c3]:=(bm.below hbw8).row2 ho hri8 hrj8 dE;have hO:=(hO.trans (zY.of _ hbw8)).trans (⟨ho.bel,ho.lext,fun k hk hn=>ho.old k hk (by simp;exact⟨fun e=>hn (by rw[e];simp[hm1]),fun e=>hn (by rw[e];simp[hm2])⟩)⟩:zY _ w8 w9);have hu:=(hu.below hbw8).row2 ho hri8 hrj8;have hv:=(hv.below hbw8).row2 ho hri8 hrj8;have hs:=hH9;clear ho hri8 hri hrj8 hrj hH8 hH9 hm1 hm2 hk1 hk2 hbi1 hbj1;go_upto_region 2 with(fail)
 obtain⟨g1,kq1,eg1,o1⟩:=hu.at_ hi;obtain⟨g2,kq2,eg2,o2⟩:=hu.at_ hj;obtain⟨rfl,rfl⟩:gt=g1/\tc=kq1:=by simpa using eg1
 obtain⟨rfl,rfl⟩:gt=g2/\tc=kq2:=by simpa using eg2
 have hg1:=World.block_lt_of_cell? _ _ o1;clear eg1 eg2;obtain⟨x1,x2,x3,x4,x5,x6⟩:=bx.three;obtain⟨k0,k1,k2,k3,k4,k5,k6,k7⟩:=bm.eight;have bk:=bm;have j0:=HM0.out.1.ext hO.lext;have j1:=HM0.out.2.1.ext hO.lext;have j2:=HM0.out.2.2.1.ext hO.lext;have j3:=HM0.out.2.2.2.ext hO.lext;have lbx:=bx.lt;have lk:=bk.lt;refine zC 15 rfl (RI w9 (w9.heap.size) _ 35
   [VP 0 24 bw 0,VP 1 25 bw 0,VP 2 26 bw 1,VSl 3 27 gt n tc,VN 4 28 i,VP 5 29 gt i,E 6 30 (.slice none 0 0),VP 7 31 bw 0,VP 8 32 bw 0,VP 9 33 bw 1,VSl 10 34 gt n tc,VN 11 35 j,VP 12 36 gt j,E 13 37 (.slice none 0 0),E 14 38 (.agg #[.bool n0,.slice a0 l0 c0,.bool n1,.slice a1 l1 c1,.bool n2,.slice a2 l2 c2,.bool n3,.slice a3 l3 c3])] [] []) kR RI.start (RI.fin kR ?fin5) ?steps5
 case steps5=>
  refine⟨?_,?_,?_,?_,?_,?_,?_,?_,?_,?_,?_,?_,?_,?_,?_,trivial⟩<;>(intro L T wS hL hd hcl hI K hK;try refine zA rfl ?_)
  ·exact xgs (hI.k 0 rfl kR)
  ·exact xgs (hI.e mm0 (hd 0))
  ·exact xgs (hI.e mm1 (hd 1))
  ·have zt2:=hI.e mm2 (hd 2)
   have cc0:=hI.cell x2 oM nom;exact xgu
  ·exact xgs (hI.k 1 rfl kR)
  ·exact xgt (hI.e mm3 (hd 3)) (hI.e mm4 (hd 4))
  ·have zt5:=hI.e mm5 (hd 5)
   have cc0:=hI.cell o1 oM nom;exact xgu
  ·exact xgs (hI.k 0 rfl kR)
  ·exact xgs (hI.e mm7 (hd 7))
  ·exact xgs (hI.e mm8 (hd 8))
  ·have zt9:=hI.e mm9 (hd 9)
   have cc0:=hI.cell x2 oM nom;exact xgu
  ·exact xgs (hI.k 2 rfl kR)
  ·exact xgt (hI.e zAC (hd 10)) (hI.e zAJ (hd 11))
  ·have zt12:=hI.e zAo (hd 12)
   have cc0:=hI.cell o2 oM nom;exact xgu
  ·have zt:=hI.k 7 rfl kR
   have cc0:=hI.cell k0 oM nom;have cc1:=hI.cell k1 oM nom;have cc2:=hI.cell k2 oM nom;have cc3:=hI.cell k3 oM nom;have cc4:=hI.cell k4 oM nom;have cc5:=hI.cell k5 oM nom;have cc6:=hI.cell k6 oM nom;have cc7:=hI.cell k7 oM nom;exact xgu
 intro w10 hlw10 hbw10 holdw10 T hT;simp only[Fin,E,EI,VP,VSl,VN,xgg,xgh,xgi,xgj]at hT;subst hT;simp only[xgl,xgk];go_wp2_with fail
 refine(zGT _ m0 m1 m2 m3 _ ⟨_,_,_,_,_,_,_,_,_,_,_,_,_,_,_,_,rfl,j0.ext (lx0 hbw10),j1.ext (lx0 hbw10),j2.ext (lx0 hbw10),j3.ext (lx0 hbw10)⟩).mono ?_;rintro e w11 ⟨⟨u,rfl⟩,hbq⟩;have hbz:=nx hbw10 hbq;have bx:=bx.below hbz;have bm:=bm.below hbz;have hO:=hO.trans (zY.of _ hbz);have hs:=hs.below hbz;have hu:=hu.below hbz;have hv:=hv.below hbz;clear o1 o2 x1 x2 x3 x4 x5 x6 k0 k1 k2 k3 k4 k5 k6 k7 hbz hbq hg1 bk j0 j1 j2 j3;go_upto_region 3 with(fail)
 obtain⟨g1,kq1,eg1,o1⟩:=hv.at_ hi;obtain⟨g2,kq2,eg2,o2⟩:=hv.at_ hj;obtain⟨rfl,rfl⟩:gi=g1/\ic=kq1:=by simpa using eg1
 obtain⟨rfl,rfl⟩:gi=g2/\ic=kq2:=by simpa using eg2
 have hg1:=World.block_lt_of_cell? _ _ o1;clear eg1 eg2;obtain⟨x1,x2,x3,x4,x5,x6⟩:=bx.three;obtain⟨k0,k1,k2,k3,k4,k5,k6,k7⟩:=bm.eight;have bk:=bm;have j0:=HM0.out.1.ext hO.lext;have j1:=HM0.out.2.1.ext hO.lext;have j2:=HM0.out.2.2.1.ext hO.lext;have j3:=HM0.out.2.2.2.ext hO.lext;have lbx:=bx.lt;have lk:=bk.lt;refine zC 31 rfl (RI w11 (w11.heap.size) _ 35
   [VP 0 40 bw 0,VP 1 41 bw 0,VP 2 42 bw 2,VSl 3 43 gi n ic,VN 4 44 i,VP 5 45 gi i,E 6 46 (.slice none 0 0),VP 7 47 bw 0,VP 8 48 bw 0,VP 9 49 bw 2,VSl 10 50 gi n ic,VN 11 51 j,VP 12 52 gi j,E 13 53 (.slice none 0 0),VP 14 54 w.heap.size 4,VP 15 55 w.heap.size 6,E 16 56 (.agg #[.bool n3,.slice a3 l3 c3]),VP 17 57 w.heap.size 4,VP 18 58 w.heap.size 4,E 19 59 (.agg #[.bool n2,.slice a2 l2 c2]),EI 20 60 (-m2),⟨21,61,M2V m3 (-m2)⟩,VP 22 62 w.heap.size 0,VP 23 63 w.heap.size 2,E 24 64 (.agg #[.bool n1,.slice a1 l1 c1]),EI 25 65 (-m1),VP 26 66 w.heap.size 0,VP 27 67 w.heap.size 0,E 28 68 (.agg #[.bool n0,.slice a0 l0 c0]),⟨29,69,M2V (-m1) m0⟩,⟨30,70,fun w v=>M4V w v m3 (-m2) (-m1) m0⟩] [] []) kR RI.start (RI.fin kR ?fin6) ?steps6
 case steps6=>
  refine⟨?_,?_,?_,?_,?_,?_,?_,?_,?_,?_,?_,?_,?_,?_,?_,?_,?_,?_,?_,?_,?_,?_,?_,?_,?_,?_,?_,?_,?_,?_,?_,trivial⟩<;>(intro L T wS hL hd hcl hI K hK;try refine zA rfl ?_)
  ·exact xgs (hI.k 0 rfl kR)
  ·exact xgs (hI.e mm0 (hd 0))
  ·exact xgs (hI.e mm1 (hd 1))
  ·have zt2:=hI.e mm2 (hd 2)
   have cc0:=hI.cell x3 oM nom;exact xgu
  ·exact xgs (hI.k 1 rfl kR)
  ·exact xgt (hI.e mm3 (hd 3)) (hI.e mm4 (hd 4))
  ·have zt5:=hI.e mm5 (hd 5)
   have cc0:=hI.cell o1 oM nom;exact xgu
  ·exact xgs (hI.k 0 rfl kR)
  ·exact xgs (hI.e mm7 (hd 7))
  ·exact xgs (hI.e mm8 (hd 8))
  ·have zt9:=hI.e mm9 (hd 9)
   have cc0:=hI.cell x3 oM nom;exact xgu
  ·exact xgs (hI.k 2 rfl kR)
  ·exact xgt (hI.e zAC (hd 10)) (hI.e zAJ (hd 11))
  ·have zt12:=hI.e zAo (hd 12)
   have cc0:=hI.cell o2 oM nom;exact xgu
  ·exact xgs (hI.k 7 rfl kR)
  ·exact xgs (hI.e zBp (hd 14))
  ·have zt15:=hI.e zCS (hd 15)
   have cc0:=hI.cell k6 oM nom;have cc1:=hI.cell k7 oM nom;exact xgu
  ·exact xgs (hI.k 7 rfl kR)
  ·exact xgs (hI.e zEs (hd 17))
  ·have zt18:=hI.e zCT (hd 18)
   have cc0:=hI.cell k4 oM nom;have cc1:=hI.cell k5 oM nom;exact xgu
  ·have zt19:=hI.e zEt (hd 19)
   go_simp;refine(jN _ m2 _ (j2.ext hI.lext).weak HK.out.2.2.1).mono ?_;exact xgo
  ·have zt16:=hI.e zDs (hd 16)
   obtain⟨v20,zt20,h20⟩:=hI.vi zEZ (hd 20);obtain⟨a16,b16,d16,e16,x16,rfl,y16⟩:=id h20;go_simp;exact hK _ _ (hI.y zEa ⟨_,_,_,_,_,_,_,_,rfl,j3.ext hI.lext,h20⟩)
  ·exact xgs (hI.k 7 rfl kR)
  ·exact xgs (hI.e zFT (hd 22))
  ·have zt23:=hI.e zFU (hd 23)
   have cc0:=hI.cell k2 oM nom;have cc1:=hI.cell k3 oM nom;exact xgu
  ·have zt24:=hI.e zHM (hd 24)
   go_simp;refine(jN _ m1 _ (j1.ext hI.lext).weak HK.out.2.1).mono ?_;exact xgo
  ·exact xgs (hI.k 7 rfl kR)
  ·exact xgs (hI.e zIX (hd 26))
  ·have zt27:=hI.e zJL (hd 27)
   have cc0:=hI.cell k0 oM nom;have cc1:=hI.cell k1 oM nom;exact xgu
  ·obtain⟨v25,zt25,h25⟩:=hI.vi zEu (hd 25)
   have zt28:=hI.e zJq (hd 28);obtain⟨a21,b21,d21,e21,x21,rfl,y21⟩:=id h25;go_simp;exact hK _ _ (hI.y zIY ⟨_,_,_,_,_,_,_,_,rfl,h25,j0.ext hI.lext⟩)
  ·obtain⟨v21,zt21,h21⟩:=hI.v zEa (hd 21)
   obtain⟨v29,zt29,h29⟩:=hI.v zIY (hd 29);obtain⟨p0,p1,p2,p3,p4,p5,p6,p7,rfl,p8,p9⟩:=h21;obtain⟨q0,q1,q2,q3,q4,q5,q6,q7,rfl,q8,q9⟩:=h29;go_simp;exact hK _ _ (hI.y zLv ⟨_,_,_,_,_,_,_,_,_,_,_,_,_,_,_,_,rfl,p8,p9,q8,q9⟩)
 intro w12 hlw12 hbw12 holdw12 T hT;simp only[Fin,E,EI,VP,VSl,VN,xgg,xgh,xgi,xgj]at hT;obtain⟨vc20,hc20,vc21,hc21,vc25,hc25,vc29,hc29,vc30,hc30,rfl⟩:=hT;simp only[xgl,xgk];have hm4:M4V w12 vc30 m3 (-m2) (-m1) m0:=hc30;obtain⟨p0,p1,p2,p3,p4,p5,p6,p7,p8,p9,p10,p11,p12,p13,p14,p15,rfl,-⟩:=id hm4;go_wp2_with fail
 refine(zGT _ m3 (-m2) (-m1) m0 _ hm4).mono ?_;rintro e w13 ⟨⟨u,rfl⟩,hbq⟩;have hbz:=nx hbw12 hbq;have bx:=bx.below hbz;have bm:=bm.below hbz;have hO:=hO.trans (zY.of _ hbz);have hs:=hs.below hbz;have hu:=hu.below hbz;have hv:=hv.below hbz;go_wp2;exact bodyPost_end (results_none rfl _ _ _) rfl ⟨⟨_,rfl⟩,hO,bx,hs,hu,hv⟩
theorem zLm(bw:Nat)(Ah Au Av:Value)(n Cs i:Nat)(bss:List Nat)(FS:Nat->Nat->Int)(w:World)(hbw:Blk w bw tHW #[Ah,Au,Av])(hs:Wri w Ah n Cs bss FS)(hu:zBg w Au n)(hv:zBg w Av n)(hi:i<n)
  (hn:n<=1000000) (hCs:Cs<=1000000) (hS:∀a,a<n->∀b,b<Cs->Sm (FS a b)):
  Calls Tryz.prog 222 #[.pointer (some ⟨bw,0,none⟩),.int .i64 i] w fun e w'=>(∃u,e= .returned u)/\zY (fun b=>b∈bss) w w'/\Blk w' bw tHW #[Ah,Au,Av]∧
   Wri w' Ah n Cs bss (zAq FS i)/\zBg w' Au n/\zBg w' Av n:=by
 obtain⟨so,sn,sc,rfl,s1,s2,s3,-⟩:=id (zS.rows hs);have HS:=xgv hS;have e1:n=sn:=by rw[<-s1];simp[zX]
 subst e1;clear s1 hS;obtain⟨gs,bi,rfl,hgs,hbi,-,o1,-⟩:=zS.at_ hs (i:=i) (by rw[hs.len];exact hi);obtain⟨gt,tc,rfl,o2⟩:=hu.at_ hi;obtain⟨gi,ic,rfl,o3⟩:=hv.at_ hi;have hOz:=zY.refl (fun b=>b∈bss) w;obtain⟨x1,x2,x3,x4,x5,x6⟩:=hbw.three;have lbw:=hbw.lt;have hgt:=World.block_lt_of_cell? _ _ o2;have hgi:=World.block_lt_of_cell? _ _ o3;go_enter Tryz.func222,Tryz.ntmps222;go_upto_region 0 with(fail)
 refine zE rfl (RI w (w.heap.size) _ 35
   [VP 0 8 bw 0,VP 1 9 bw 0,VP 2 10 bw 0,VSl 3 11 gs n sc,VN 4 12 i,VP 5 13 gs i,VSl 6 14 bi Cs Cs,VP 7 15 bw 0,VP 8 16 bw 0,VP 9 17 bw 1,VSl 10 18 gt n tc,VN 11 19 i,VP 12 20 gt i,E 13 21 (.slice none 0 0),VP 14 22 bw 0,VP 15 23 bw 0,VP 16 24 bw 2,VSl 17 25 gi n ic,VN 18 26 i,VP 19 27 gi i,E 20 28 (.slice none 0 0),E 21 29 (.agg #[.slice (some ⟨bi,0,none⟩) Cs Cs,.slice none 0 0,.slice none 0 0]),VN 22 30 0] [] []) kR RI.start (RI.fin kR ?fin7) ?steps7
 case steps7=>
  refine⟨?_,?_,?_,?_,?_,?_,?_,?_,?_,?_,?_,?_,?_,?_,?_,?_,?_,?_,?_,?_,?_,?_,?_,trivial⟩<;>(intro L T wS hL hd hcl hI K hK;try refine zA rfl ?_)
  ·exact xgs (hI.k 0 rfl kR)
  ·exact xgs (hI.e mm0 (hd 0))
  ·exact xgs (hI.e mm1 (hd 1))
  ·have zt2:=hI.e mm2 (hd 2)
   have cc0:=hI.cell x1 oM nom;exact xgu
  ·exact xgs (hI.k 1 rfl kR)
  ·exact xgt (hI.e mm3 (hd 3)) (hI.e mm4 (hd 4))
  ·have zt5:=hI.e mm5 (hd 5)
   have cc0:=hI.cell o1 oM nom;exact xgu
  ·exact xgs (hI.k 0 rfl kR)
  ·exact xgs (hI.e mm7 (hd 7))
  ·exact xgs (hI.e mm8 (hd 8))
  ·have zt9:=hI.e mm9 (hd 9)
   have cc0:=hI.cell x2 oM nom;exact xgu
  ·exact xgs (hI.k 1 rfl kR)
  ·exact xgt (hI.e zAC (hd 10)) (hI.e zAJ (hd 11))
  ·have zt12:=hI.e zAo (hd 12)
   have cc0:=hI.cell o2 oM nom;exact xgu
  ·exact xgs (hI.k 0 rfl kR)
  ·exact xgs (hI.e zBp (hd 14))
  ·exact xgs (hI.e zCS (hd 15))
  ·have zt16:=hI.e zDs (hd 16)
   have cc0:=hI.cell x3 oM nom;exact xgu
  ·exact xgs (hI.k 1 rfl kR)
  ·exact xgt (hI.e zEs (hd 17)) (hI.e zCT (hd 18))
  ·have zt19:=hI.e zEt (hd 19)
   have cc0:=hI.cell o3 oM nom;exact xgu
  ·have zt6:=hI.e mm6 (hd 6)
   exact xgt (hI.e zCF (hd 13)) (hI.e zEZ (hd 20))
  ·go_simp
   exact hK _ _ (hI.y zFT rfl)
 intro w0 hlw0 hbw0 holdw0 T hT;simp only[Fin,E,EI,VP,VSl,VN,xgg,xgh,xgi,xgj]at hT;subst hT;have hOz:=hOz.trans (zY.of _ hbw0);have bx:=hbw.below hbw0;have hs:=hs.below hbw0;have hu:=hu.below hbw0;have hv:=hv.below hbw0;clear o1 o2 o3 x1 x2 x3 x4 x5 x6 hbw hgs hgt hgi;go_wp2;go_loopw [30] (fun mv wr=>∃m:Nat,m<=3/\mv= .int .i64 m/\zY (fun b=>b∈bss) w wr/\Blk wr bw tHW #[.slice (some ⟨gs,0,none⟩) n sc,.slice (some ⟨gt,0,none⟩) n tc,.slice (some ⟨gi,0,none⟩) n ic]∧
  Wri wr (.slice (some ⟨gs,0,none⟩) n sc) n Cs bss (if 0<m then zAq FS i else FS)/\zBg wr (.slice (some ⟨gt,0,none⟩) n tc) n/\zBg wr (.slice (some ⟨gi,0,none⟩) n ic) n) (fun mv _=>3-(intOf mv).toNat)
 case atStart=>exact⟨0,by omega,rfl,hOz,bx,hs,hu,hv⟩
 case round=>
  clear hOz bx hs hu hv;obtain⟨m,hm,rfl,hOz,bx,hs,hu,hv⟩:=hrel;by_cases hm0:m=0
  ·subst hm0
   rw[if_neg oM]at hs;have hmi:=xgd hbi;have hri:=hs.rowAt hi hbi;have hix:=fun W=>zAf 303 3 #[.slice (some ⟨bi,0,none⟩) Cs Cs,.slice none 0 0,.slice none 0 0] 0 0 _ W Tryz.underlying303 rfl oM rfl
   have hst:∀F:Nat->Int,zM Cs F=zM Cs (qA (fun t=>-F t) F 0):=fun F=>zP fun t _=>by unfold qA;rw[if_neg oM]
   rw[hst]at hri;clear hst;go_wp2;go_loopw [35] (fun jv wt=>∃j:Nat,j<=Cs/\jv= .int .i64 j/\yC [bi] wr wt/\(∃G,G=(fun t=>-FS i t)/\qC wt bi (zM Cs (qA G (FS i) j)))) (fun jv _=>Cs-(intOf jv).toNat)
   case atStart=>exact⟨0,by omega,rfl,yC.refl _ _,_,rfl,hri⟩
   case round=>
    rename World=>wt
    obtain⟨j,hj,rfl,hO,G,hG,hv'⟩:=hrel;have HG:=xgv (congrFun hG);clear hG;have hOs:=hO.bel.size;by_cases hlt:j<Cs
    ·obtain⟨xs,xa,xl,xc,v1,v2,-,-,hx⟩:=hv'.cell (zO hlt)
     have hyf:qA G (FS i) j j=FS i j:=by unfold qA;rw[if_neg oM]
     rw[hyf]at hx;have hlv:=hv'.lt;go_upto_region 6 with(fail)
     refine zB ?_;intro W6 hW6;obtain⟨hB6,T7,hs6⟩:=zK hW6;obtain⟨d1,d2,d3,d4⟩:=T7.two;have hO:=hO.trans (yC.of [bi] hB6);have hv':=hv'.below hB6;have hx:=hx.ext (lx hB6);have l7:=T7.lt;clear v1 v2 hW6;have HSJ:=xgv (HS.out i hi j hlt);go_wp2_with fail
     refine(jN _ (FS i j) W6 hx.weak HSJ.out).mono ?_;rintro e w9 ⟨u,rfl,hu,hbw9⟩;obtain⟨pn,pa,pl,pc,px,rfl,hpx⟩:=id hu;have HPX:=xgw hpx;clear hpx;have hv9:=hv'.below hbw9;obtain⟨zs,za,zl,zc,z1,z2,z3,z4,-⟩:=hv9.cell (zO hlt);have hset:=hv9.set (k:=j) (by rw[zD];exact hlt) hu;have hO:=hO.trans (yC.of [bi] hbw9);go_wp2;go_roundw
     case rel=>
      have hq:(zM Cs (qA G (FS i) j)).set j (-(FS i j))=zM Cs (qA G (FS i) (j+1)):=by
       rw[zAi];exact zP fun t _=>by
        unfold qA;by_cases h2:t=j
        ·subst h2
         rw[if_pos rfl,if_pos oM,HG.out]
        ·rw[if_neg h2]
         by_cases h1:t<j
         ·rw[if_pos h1,if_pos oM]
         ·rw[if_neg h1,if_neg oM]
      rw[hq]at hset;refine⟨_,_,_,_,_,_,_,_,_,_,_,_,_,?_,rfl⟩;exact⟨j+1,by omega,by simp,hO.trans ⟨zT (zT (Below.refl _ _) (Nat.zero_le _) _ _) (Nat.zero_le _) _ _,hset.2,fun i _ hi=>zR _ _ _ _ _ _ _ (by simpa using hi)⟩,_,funext HG.out,hset.1⟩
     case measure=>simp[intOf];omega
    ·obtain rfl:j=Cs:=by omega
     have hq:zM j (qA G (FS i) j)=zM j (fun t=>-FS i t):=zP fun t ht=>by unfold qA;rw[if_pos ht];exact HG.out t
     rw[hq]at hv';go_wp2;go_roundw
     case measure=>simp[intOf]
     have hri0:=hs.rowAt hi hbi;exact⟨1,by omega,by simp,hOz.trans ⟨hO.bel,hO.lext,fun k hk hn=>hO.old k hk (by simp;rintro rfl;exact hn (id hmi))⟩,bx.row hO hri0 dE,by simpa using hs.negRow hi hbi hO hv',hu.row hO hri0,hv.row hO hri0⟩
  ·by_cases hm1:m=1
   ·subst hm1
    rw[if_pos oM]at hs;have hix:=fun W=>zAf 303 3 #[.slice (some ⟨bi,0,none⟩) Cs Cs,.slice none 0 0,.slice none 0 0] 1 1 _ W Tryz.underlying303 rfl oM rfl
    go_wp2;go_loopw [35] (fun jv wt=>jv= .int .i64 0/\wt=wr) (fun _ _=>0)
    case atStart=>exact⟨rfl,rfl⟩
    case round=>
     rename World=>wt
     obtain⟨rfl,hwt⟩:=hrel;have hwt:=hwt.symm;subst hwt;go_wp2;go_roundw
     case measure=>simp[intOf]
     exact⟨2,by omega,by simp,hOz,bx,by simpa using hs,hu,hv⟩
   ·by_cases hm2:m=2
    ·subst hm2
     rw[if_pos oM]at hs;have hix:=fun W=>zAf 303 3 #[.slice (some ⟨bi,0,none⟩) Cs Cs,.slice none 0 0,.slice none 0 0] 2 2 _ W Tryz.underlying303 rfl oM rfl
     go_wp2;go_loopw [35] (fun jv wt=>jv= .int .i64 0/\wt=wr) (fun _ _=>0)
     case atStart=>exact⟨rfl,rfl⟩
     case round=>
      rename World=>wt
      obtain⟨rfl,hwt⟩:=hrel;have hwt:=hwt.symm;subst hwt;go_wp2;go_roundw
      case measure=>simp[intOf]
      exact⟨3,by omega,by simp,hOz,bx,by simpa using hs,hu,hv⟩
    ·obtain rfl:m=3:=by omega
     rw[if_pos oM]at hs;go_wp2;exact bodyPost_end (results_none rfl _ _ _) rfl ⟨⟨_,rfl⟩,hOz,bx,hs,hu,hv⟩
def Bst.mix(x:Bst)(i j:Nat)(a b c d:Int):Bst:=⟨qO x.s i j a b c d,qO x.t i j a b c d,qO x.i i j d (-c) (-b) a⟩
theorem zE6(F:Nat->Nat->Int){i j:Nat}(hij:i≠j)(a b c d q:Int):
  zAt (zAq (zFd (qO F i j (-c) (-d) (a-q*c) (b-q*d)) i j) j) i j q=qO F i j a b c d:=by
 funext r t
 have hji:j≠i:=Ne.symm hij;have s1:swp i j i=j:=by unfold swp;rw[if_pos rfl]
 have s2:swp i j j=i:=by unfold swp;rw[if_neg hji,if_pos rfl]
 have b1:∀p q' r' s',qO F i j p q' r' s' i t=p*F i t+q'*F j t:=fun p q' r' s'=>by unfold qO;rw[if_pos rfl]
 have b2:∀p q' r' s',qO F i j p q' r' s' j t=r'*F i t+s'*F j t:=fun p q' r' s'=>by unfold qO;rw[if_neg hji,if_pos rfl]
 have v1:zAq (zFd (qO F i j (-c) (-d) (a-q*c) (b-q*d)) i j) j i t=(a-q*c)*F i t+(b-q*d)*F j t:=by
  unfold zAq zFd;rw[if_neg hij,s1,b2]
 have v2:zAq (zFd (qO F i j (-c) (-d) (a-q*c) (b-q*d)) i j) j j t=-((-c)*F i t+(-d)*F j t):=by
  unfold zAq zFd;rw[if_pos rfl,s2,b1]
 by_cases h1:r=i
 ·subst h1
  rw[b1];unfold zAt;rw[if_pos rfl,v1,v2];simp only[Int.sub_mul,Int.neg_mul,Int.mul_add,Int.mul_neg,Int.neg_add,Int.neg_neg,<-Int.mul_assoc];omega
 ·unfold zAt
  rw[if_neg h1];by_cases h2:r=j
  ·subst h2
   rw[v2,b2];simp only[Int.neg_mul,Int.neg_add,Int.neg_neg]
  ·unfold zAq zFd qO swp
   rw[if_neg h2,if_neg h1,if_neg h2,if_neg h1,if_neg h2,if_neg h1,if_neg h2]
theorem zHT(F:Nat->Nat->Int){i j:Nat}(hij:i≠j)(a b c d q:Int):
  zAt (zAq (zFd (qO F i j (b-q*d) (-(a-q*c)) d (-c)) i j) j) j i (-q)=qO F i j d (-c) (-b) a:=by
 funext r t
 have hji:j≠i:=Ne.symm hij;have s1:swp i j i=j:=by unfold swp;rw[if_pos rfl]
 have s2:swp i j j=i:=by unfold swp;rw[if_neg hji,if_pos rfl]
 have b1:∀p q' r' s',qO F i j p q' r' s' i t=p*F i t+q'*F j t:=fun p q' r' s'=>by unfold qO;rw[if_pos rfl]
 have b2:∀p q' r' s',qO F i j p q' r' s' j t=r'*F i t+s'*F j t:=fun p q' r' s'=>by unfold qO;rw[if_neg hji,if_pos rfl]
 have v1:zAq (zFd (qO F i j (b-q*d) (-(a-q*c)) d (-c)) i j) j i t=d*F i t+(-c)*F j t:=by
  unfold zAq zFd;rw[if_neg hij,s1,b2]
 have v2:zAq (zFd (qO F i j (b-q*d) (-(a-q*c)) d (-c)) i j) j j t=-((b-q*d)*F i t+(-(a-q*c))*F j t):=by
  unfold zAq zFd;rw[if_pos rfl,s2,b1]
 by_cases h1:r=j
 ·subst h1
  rw[b2];unfold zAt;rw[if_pos rfl,v1,v2];simp only[Int.sub_mul,Int.neg_mul,Int.mul_add,Int.mul_neg,Int.neg_add,Int.neg_neg,Int.neg_sub,<-Int.mul_assoc];omega
 ·unfold zAt
  rw[if_neg h1];by_cases h2:r=i
  ·subst h2
   rw[v1,b1]
  ·unfold zAq zFd qO swp
   rw[if_neg h1,if_neg h2,if_neg h1,if_neg h2,if_neg h1,if_neg h2,if_neg h1]
theorem zIK(F:Nat->Nat->Int){i j:Nat}(hij:i≠j)(b:Int):zAt F i j b=qO F i j 1 b 0 1:=by
 funext r t
 unfold zAt qO;by_cases h1:r=i
 ·rw[if_pos h1,if_pos h1,Int.one_mul]
 ·rw[if_neg h1,if_neg h1]
  by_cases h2:r=j
  ·rw[if_pos h2,h2];omega
  ·rw[if_neg h2]
theorem zJ6(F:Nat->Nat->Int){i j:Nat}(hij:i≠j)(b:Int):zAt F j i (-b)=qO F i j 1 (-0) (-b) 1:=by
 funext r t
 unfold zAt qO;by_cases h1:r=j
 ·subst h1
  rw[if_pos rfl,if_neg (Ne.symm hij),if_pos rfl];omega
 ·rw[if_neg h1]
  by_cases h2:r=i
  ·rw[if_pos h2,h2];omega
  ·rw[if_neg h2,if_neg h1]
theorem zGS(F:Nat->Nat->Int){i j:Nat}(hij:i≠j)(b:Int):zAt (zAq (zAq F i) j) i j (-b)=qO F i j (-1) b 0 (-1):=by
 funext r t
 have hji:=Ne.symm hij;unfold zAt zAq qO;by_cases h1:r=i
 ·subst h1
  rw[if_pos rfl,if_neg hij,if_pos rfl,if_pos rfl,if_neg hji,if_pos rfl,Int.neg_mul,Int.mul_neg,Int.neg_neg,Int.neg_mul,Int.one_mul]
 ·rw[if_neg h1,if_neg h1]
  by_cases h2:r=j
  ·subst h2
   rw[if_pos rfl,if_neg hji,if_pos rfl];omega
  ·rw[if_neg h2,if_neg h1,if_neg h2]
theorem zI4(F:Nat->Nat->Int){i j:Nat}(hij:i≠j)(b:Int):zAt (zAq (zAq F i) j) j i (-(-b))=qO F i j (-1) (-0) (-b) (-1):=by
 funext r t
 have hji:=Ne.symm hij;unfold zAt zAq qO;by_cases h1:r=j
 ·subst h1
  rw[if_pos rfl,if_pos rfl,if_neg hji,if_neg hij,if_pos rfl,if_neg hji,if_pos rfl,Int.neg_neg,Int.mul_neg,Int.neg_mul,Int.neg_mul,Int.one_mul];omega
 ·rw[if_neg h1,if_neg h1]
  by_cases h2:r=i
  ·subst h2
   rw[if_pos rfl,if_pos rfl];omega
  ·rw[if_neg h2,if_neg h2,if_neg h1]
theorem zOK{n i j:Nat}(hi:i<n)(hj:j<n)(hij:i≠j):∀(m:Nat) (a b c d:Int),c.natAbs=m->a*d-b*c=1->∃l,yA n l/\∀x:Bst,x.mix i j a b c d=zBH l x:=by
 intro m;induction m using Nat.strongRecOn with
 | ind m ih=>
  intro a b c d hm hdet;by_cases hc:c=0
  ·subst hc
   have had:a*d=1:=by rw[Int.mul_zero]at hdet;omega
   have ha1:a.natAbs=1:=by
    have h1:=congrArg Int.natAbs had;rw[Int.natAbs_mul]at h1;exact Nat.eq_one_of_mul_eq_one_right h1
   have hsg:(a=1/\d=1)∨(a=-1/\d=-1):=by
    rcases(by omega:a=1∨a=-1)with e|e
    ·subst e;exact .inl ⟨rfl,by omega⟩
    ·subst e;exact .inr ⟨rfl,by omega⟩
   rcases hsg with⟨rfl,rfl⟩|⟨rfl,rfl⟩
   ·refine⟨[.add i j b],yA.cons ⟨hi,hj,hij⟩ yA.nil,fun x=>?_⟩
    show(⟨_,_,_⟩:Bst)=⟨zAt x.s i j b,zAt x.t i j b,zAt x.i j i (-b)⟩;rw[zIK x.s hij,zIK x.t hij,zJ6 x.i hij]
   ·refine⟨[.neg i,.neg j,.add i j (-b)],yA.cons hi (yA.cons hj (yA.cons ⟨hi,hj,hij⟩ yA.nil)),fun x=>?_⟩
    show(⟨_,_,_⟩:Bst)=⟨zAt (zAq (zAq x.s i) j) i j (-b),zAt (zAq (zAq x.t i) j) i j (-b),zAt (zAq (zAq x.i i) j) j i (-(-b))⟩;rw[zGS x.s hij,zGS x.t hij,zI4 x.i hij]
  ·have h1:a-a/c*c=a%c:=by have:=Int.emod_add_mul_ediv a c;rw[Int.mul_comm]at this;omega
   have h2:=Int.emod_nonneg a hc;have h3:=Int.emod_lt a hc;obtain⟨q,hq⟩:∃q,a/c=q:=⟨_,rfl⟩;rw[hq]at h1;have hd:-c*(b-q*d)- -d*(a-q*c)=1:=by
    have e1:-c*(b-q*d)=-(b*c)+q*c*d:=by rw[Int.mul_sub,Int.neg_mul,Int.neg_mul,Int.mul_comm c b,<-Int.mul_assoc,Int.mul_comm c q];omega
    have e2:-d*(a-q*c)=-(a*d)+q*c*d:=by rw[Int.mul_sub,Int.neg_mul,Int.neg_mul,Int.mul_comm d a,Int.mul_comm d (q*c)];omega
    rw[e1,e2];omega
   obtain⟨l,hl,e⟩:=ih (a-q*c).natAbs oM (-c) (-d) (a-q*c) (b-q*d) rfl hd;refine⟨l++ [.swap i j,.neg j,.add i j q],hl.app (yA.cons (o:=.swap i j) ⟨hi,hj⟩ (yA.cons (o:=.neg j) hj (yA.cons (o:=.add i j q) ⟨hi,hj,hij⟩ yA.nil))),fun x=>?_⟩;rw[zD6,<-e x];show(⟨_,_,_⟩:Bst)=⟨zAt (zAq (zFd (qO x.s i j (-c) (-d) (a-q*c) (b-q*d)) i j) j) i j q,zAt (zAq (zFd (qO x.t i j (-c) (-d) (a-q*c) (b-q*d)) i j) j) i j q,zAt (zAq (zFd (qO x.i i j (b-q*d) (-(a-q*c)) (-(-d)) (-c)) i j) j) j i (-q)⟩;rw[zE6 x.s hij,zE6 x.t hij,Int.neg_neg,zHT x.i hij]
def zAv(e:Bool)(Z:Nat->Prop)(w:World)(bw:Nat)(Ah:Value)(n Cs Ct:Nat)(x:Bst):Prop:=
 if e=true then ∃Au Av bss bst bsi,Blk w bw tHW #[Ah,Au,Av]/\zDy w Ah Au Av n Cs Ct bss bst bsi x.s x.t x.i/\∀b,b∈bss∨b∈bst∨b∈bsi->Z b
 else Ct=0/\∃Au Av bss,Blk w bw tHW #[Ah,Au,Av]/\Wri w Ah n Cs bss x.s/\zBg w Au n/\zBg w Av n/\∀b,b∈bss->Z b
theorem zDy.below{w w':World}{As At Ai:Value}{n Cs Ct:Nat}{bss bst bsi:List Nat}{S T I:Nat->Nat->Int}(h:zDy w As At Ai n Cs Ct bss bst bsi S T I)(hb:Below w.heap.size w w'):zDy w' As At Ai n Cs Ct bss bst bsi S T I:=
 ⟨h.s.below hb,h.t.below hb,h.i.below hb,h.st,h.si,h.ti,h.ast,h.asi,h.ati⟩
section
variable {e:Bool} {Z:Nat->Prop} {w w':World} {bw:Nat} {Ah:Value} {n Cs Ct:Nat} {x:Bst}
theorem zAv.below(h:zAv e Z w bw Ah n Cs Ct x)(hb:Below w.heap.size w w'):zAv e Z w' bw Ah n Cs Ct x:=by
 unfold zAv at h ⊢
 split at h
 ·rename_i he
  rw[if_pos he];obtain⟨Au,Av,b1,b2,b3,h1,h2,h3⟩:=h;exact⟨Au,Av,b1,b2,b3,h1.below hb,h2.below hb,h3⟩
 ·rename_i he
  rw[if_neg he];obtain⟨h0,Au,Av,b1,h1,h2,h3,h4,h5⟩:=h;exact⟨h0,Au,Av,b1,h1.below hb,h2.below hb,h3.below hb,h4.below hb,h5⟩
theorem zAv.wri(h:zAv e Z w bw Ah n Cs Ct x):∃bss,Wri w Ah n Cs bss x.s/\∀b,b∈bss->Z b:=by
 unfold zAv at h;split at h
 ·obtain⟨Au,Av,b1,b2,b3,h1,h2,h3⟩:=h
  exact⟨b1,h2.s,fun b hb=>h3 b (.inl hb)⟩
 ·obtain⟨h0,Au,Av,b1,h1,h2,h3,h4,h5⟩:=h
  exact⟨b1,h2,h5⟩
theorem zAv.blk(h:zAv e Z w bw Ah n Cs Ct x):∃Au Av,Blk w bw tHW #[Ah,Au,Av]:=by
 unfold zAv at h;split at h
 ·obtain⟨Au,Av,b1,b2,b3,h1,-⟩:=h
  exact⟨Au,Av,h1⟩
 ·obtain⟨h0,Au,Av,b1,h1,-⟩:=h
  exact⟨Au,Av,h1⟩
theorem zY.widen{Z Z':Nat->Prop}(h:zY Z w w')(hz:∀k,Z k->Z' k):zY Z' w w':=h.mono fun k _ hk=>hz k hk
theorem zQH{B:Nat}(hB:BSm B){i j:Nat}{kv:Value}{k:Int}(h:zAv e Z w bw Ah n Cs Ct x)(hok:okB B n Cs Ct x)(hi:i<n)(hj:j<n)(hij:i≠j)(hk:zH w kv k)
  (hn:n<=1000000) (hCs:Cs<=1000000) (hCt:Ct<=1000000) (ha:zDa B n Cs Ct x i j k):
  Calls Tryz.prog 220 #[.pointer (some ⟨bw,0,none⟩),.int .i64 i,.int .i64 j,kv] w fun r w'=>(∃u,r= .returned u)/\zY Z w w'/\zAv e Z w' bw Ah n Cs Ct (x.add i j k):=by
 obtain⟨a1,a2,a3,a4⟩:=ha;obtain⟨o1,o2,o3⟩:=hok;have hS:zJt Cs x.s i j k:=fun t ht=>⟨hB.sm _ (o1 i hi t ht),hB.sm _ (o1 j hj t ht),hB.sm _ (a2 t ht)⟩
 unfold zAv at h ⊢
 split at h
 ·rename_i he
  obtain⟨Au,Av,b1,b2,b3,h1,h2,h3⟩:=h;refine(zNL bw Ah Au Av n Cs Ct i j b1 b2 b3 x.s x.t x.i kv k w h1 h2 hi hj hij hk hn hCs hCt hS (fun t ht=>⟨hB.sm _ (o2 i hi t ht),hB.sm _ (o2 j hj t ht),hB.sm _ (a3 t ht).1⟩)
   (fun t ht=>⟨hB.sm _ (o3 j hj t ht),hB.sm _ (o3 i hi t ht),hB.sm _ (by rw[Int.neg_mul,Int.natAbs_neg];exact(a3 t ht).2)⟩) (hB.sm _ a1)).mono ?_
  rintro r w' ⟨hu,k1,k2,k3⟩;rw[if_pos he];exact⟨hu,k1.widen h3,Au,Av,b1,b2,b3,k2,k3,h3⟩
 ·rename_i he
  obtain⟨h0,Au,Av,b1,h1,h2,h3,h4,h5⟩:=h;refine(zLk bw Ah Au Av n Cs i j b1 x.s kv k w h1 h2 h3 h4 hi hj hij hk hn hCs hS (hB.sm _ a1)).mono ?_;rintro r w' ⟨hu,k1,k2,k3,k4,k5⟩;rw[if_neg he];exact⟨hu,k1.widen h5,h0,Au,Av,b1,k2,k3,k4,k5,h5⟩
theorem zQN{B:Nat}(hB:BSm B){i:Nat}(h:zAv e Z w bw Ah n Cs Ct x)(hok:okB B n Cs Ct x)(hi:i<n)(hn:n<=1000000)(hCs:Cs<=1000000)(hCt:Ct<=1000000):
  Calls Tryz.prog 222 #[.pointer (some ⟨bw,0,none⟩),.int .i64 i] w fun r w'=>(∃u,r= .returned u)/\zY Z w w'/\zAv e Z w' bw Ah n Cs Ct (x.neg i):=by
 obtain⟨o1,o2,o3⟩:=hok;unfold zAv at h ⊢
 split at h
 ·rename_i he
  obtain⟨Au,Av,b1,b2,b3,h1,h2,h3⟩:=h;refine(zNN bw Ah Au Av n Cs Ct i b1 b2 b3 x.s x.t x.i w h1 h2 hi hn hCs hCt (fun a ha b hb=>hB.sm _ (o1 a ha b hb)) (fun a ha b hb=>hB.sm _ (o2 a ha b hb)) (fun a ha b hb=>hB.sm _ (o3 a ha b hb))).mono ?_;rintro r w' ⟨hu,k1,k2,k3⟩;rw[if_pos he];exact⟨hu,k1.widen h3,Au,Av,b1,b2,b3,k2,k3,h3⟩
 ·rename_i he
  obtain⟨h0,Au,Av,b1,h1,h2,h3,h4,h5⟩:=h;refine(zLm bw Ah Au Av n Cs i b1 x.s w h1 h2 h3 h4 hi hn hCs (fun a ha b hb=>hB.sm _ (o1 a ha b hb))).mono ?_;rintro r w' ⟨hu,k1,k2,k3,k4,k5⟩;rw[if_neg he];exact⟨hu,k1.widen h5,h0,Au,Av,b1,k2,k3,k4,k5,h5⟩
structure zKu(B n Cs Ct:Nat)(x:Bst)(i j:Nat)(a b c d:Int):Prop where
 kk:a.natAbs<B/\b.natAbs<B/\c.natAbs<B/\d.natAbs<B
 ss:∀t,t<Cs->(a*x.s i t).natAbs<B/\(b*x.s j t).natAbs<B/\(c*x.s i t).natAbs<B/\(d*x.s j t).natAbs<B
 tt:∀t,t<Ct->(a*x.t i t).natAbs<B/\(b*x.t j t).natAbs<B/\(c*x.t i t).natAbs<B/\(d*x.t j t).natAbs<B
 ii:∀t,t<Ct->(d*x.i i t).natAbs<B/\(c*x.i j t).natAbs<B/\(b*x.i i t).natAbs<B/\(a*x.i j t).natAbs<B
 oo:okB B n Cs Ct (x.mix i j a b c d)
theorem zQs{B:Nat}(hB:BSm B){i j:Nat}{mv:Value}{a b c d:Int}(h:zAv e Z w bw Ah n Cs Ct x)(hok:okB B n Cs Ct x)(hi:i<n)(hj:j<n)(hij:i≠j)(hm:M4V w mv a b c d)
  (hn:n<=1000000) (hCs:Cs<=1000000) (hCt:Ct<=1000000) (ha:zKu B n Cs Ct x i j a b c d):
  Calls Tryz.prog 221 #[.pointer (some ⟨bw,0,none⟩),.int .i64 i,.int .i64 j,mv] w fun r w'=>(∃u,r= .returned u)/\zY Z w w'/\zAv e Z w' bw Ah n Cs Ct (x.mix i j a b c d):=by
 obtain⟨⟨a1,a2,a3,a4⟩,a_s,at_,ai,ao⟩:=ha;obtain⟨o1,o2,o3⟩:=hok;have hK:Sm a/\Sm b/\Sm c/\Sm d:=⟨hB.sm _ a1,hB.sm _ a2,hB.sm _ a3,hB.sm _ a4⟩;have hS:zNf Cs (x.s i) (x.s j) a b c d:=fun t ht=>by
  obtain⟨q1,q2,q3,q4⟩:=a_s t ht;exact⟨hB.sm _ (o1 i hi t ht),hB.sm _ (o1 j hj t ht),hB.sm _ q1,hB.sm _ q2,hB.sm _ q3,hB.sm _ q4⟩
 unfold zAv at h ⊢
 split at h
 ·rename_i he
  obtain⟨Au,Av,b1,b2,b3,h1,h2,h3⟩:=h;refine(zNM bw Ah Au Av mv n Cs Ct i j b1 b2 b3 x.s x.t x.i a b c d w h1 h2 hi hj hij hm hn hCs hCt hS (fun t ht=>by
   obtain⟨q1,q2,q3,q4⟩:=at_ t ht;exact⟨hB.sm _ (o2 i hi t ht),hB.sm _ (o2 j hj t ht),hB.sm _ q1,hB.sm _ q2,hB.sm _ q3,hB.sm _ q4⟩) (fun t ht=>by
   obtain⟨q1,q2,q3,q4⟩:=ai t ht;exact⟨hB.sm _ (o3 i hi t ht),hB.sm _ (o3 j hj t ht),hB.sm _ q1,hB.sm _ (by rw[Int.neg_mul,Int.natAbs_neg];exact q2),hB.sm _ (by rw[Int.neg_mul,Int.natAbs_neg];exact q3),hB.sm _ q4⟩) hK).mono ?_
  rintro r w' ⟨hu,k1,k2,k3⟩;rw[if_pos he];exact⟨hu,k1.widen h3,Au,Av,b1,b2,b3,k2,k3,h3⟩
 ·rename_i he
  obtain⟨h0,Au,Av,b1,h1,h2,h3,h4,h5⟩:=h;refine(zLl bw Ah Au Av mv n Cs i j b1 x.s a b c d w h1 h2 h3 h4 hi hj hij hm hn hCs hS hK).mono ?_;rintro r w' ⟨hu,k1,k2,k3,k4,k5⟩;rw[if_neg he];exact⟨hu,k1.widen h5,h0,Au,Av,b1,k2,k3,k4,k5,h5⟩
end
def zA6(bw:Nat):Array Value:=#[.func (.func 220) #[.pointer (some ⟨bw,0,none⟩)] #[],.func (.func 221) #[.pointer (some ⟨bw,0,none⟩)] #[],.func (.func 222) #[.pointer (some ⟨bw,0,none⟩)] #[]]
inductive zI2 (x:Bst) (r m c:Nat):Bst->Prop
 |add:x.s m c%x.s r c=0->zI2 x r m c (x.add m r (-(x.s m c/x.s r c)))
 |mix (s t:Int):¬ x.s m c%x.s r c=0->Bez (x.s r c) (x.s m c) s t->zI2 x r m c (x.mix r m s t (-(x.s m c/((Int.gcd (x.s r c) (x.s m c):Nat):Int))) (x.s r c/((Int.gcd (x.s r c) (x.s m c):Nat):Int)))
end Go.Proofs.YtnbmaipobhppcaaGreat
