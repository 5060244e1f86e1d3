/- torsionref12: Work.Negate (printed by genK.py). torsionref12: Work.Swap (printed by genK2.py). -/
import Derived.Test.YtgnmdddaiefooaaGreatR39
set_option linter.unusedVariables false
set_option linter.unusedSimpArgs false
set_option linter.unusedSectionVars false
set_option maxHeartbeats 16000000
set_option maxRecDepth 100000
namespace Go.Proofs.YtgnmdddaiefooaaGreat
open Go.RowKit
theorem zJL(bw:Nat)(AM AU AV:Value)(R C i:Nat)(bm bu bv:List Nat)(x:Bst)(w:World)(h:K9 w bw AM AU AV R C bm bu bv x.s x.t (fun a b=>x.i b a))(hi:i<R)(hR:R<=1000000)(hC:C<=1000000)
  (hS:∀t,t<C->Sm (x.s i t)) (hT:∀t,t<R->Sm (x.t i t)) (hV:∀t,t<R->Sm (x.i i t)):
  Calls Tryz.prog 81 #[.pointer (some ⟨bw,0,none⟩),.int .i64 i] w fun e w'=>(∃u,e= .returned u)/\zM (Z3 AM AU AV bm bu bv) w w'/\K9 w' bw AM AU AV R C bm bu bv (x.neg i).s (x.neg i).t (fun a b=>(x.neg i).i b a):=by
 have HSM:=xgv hS;have HSU:=xgv hT;have HSV:=xgv hV;obtain⟨gm,cm,rfl⟩:=h.m.base oM;obtain⟨gu,cu,rfl⟩:=h.u.base oM;obtain⟨gv,cv,rfl⟩:=h.v.base oM;obtain⟨bMi,hbmi⟩:=h.m.bex hi;obtain⟨bUi,hbui⟩:=h.u.bex hi;have hzl:=fun b hb=>h.zlt (b:=b) hb
 clear hS hT hV;go_enter Tryz.func81,Tryz.ntmps81;have hK:=h;have hO:=zM.refl (Z3 (.slice (some ⟨gm,0,none⟩) R cm) (.slice (some ⟨gu,0,none⟩) R cu) (.slice (some ⟨gv,0,none⟩) R cv) bm bu bv) w;clear h;go_wp2;go_loopw [4] (fun jv wr=>∃c:Nat,c<=C/\jv= .int .i64 c/\zM (Z3 (.slice (some ⟨gm,0,none⟩) R cm) (.slice (some ⟨gu,0,none⟩) R cu) (.slice (some ⟨gv,0,none⟩) R cv) bm bu bv) w wr/\K9 wr bw (.slice (some ⟨gm,0,none⟩) R cm) (.slice (some ⟨gu,0,none⟩) R cu) (.slice (some ⟨gv,0,none⟩) R cv) R C bm bu bv (upR x.s (x.neg i).s i c) x.t (fun a b=>x.i b a)) (fun jv _=>C-(intOf jv).toNat)
 case atStart=>exact⟨0,by omega,rfl,hO,by rw[zED];exact hK⟩
 case round=>
  clear hK hO;obtain⟨c,hc,rfl,hO,hK⟩:=hrel;obtain⟨q0,q1,q2,q3,q4,q5,q6,q7,q8⟩:=hK.blk.nine;have lbw:=hK.blk.lt;by_cases hlt:c<C
  ·have lg:=hK.zlt (b:=gm) (.inl (.inr rfl))
   have lb:=hK.zlt (b:=bMi) (.inl (.inl (xgd hbmi)));have o1:=hK.m.rowc hi hbmi;obtain⟨xs,xa,xl,xc,p1,p2,-,-,hx⟩:=hK.m.elem hi hbmi hlt;rw[zIn]at hx;have T1:=xgv (HSM.out c hlt);go_upto_region 3 with(fail)
   refine zB 22 rfl (RI wr (wr.heap.size) _ 51
     [VP 0 16 bw 0,VP 1 17 bw 0,VP 2 18 bw 0,VP 3 19 bw 2,VSl 4 20 gm R cm,VN 5 21 i,VP 6 22 gm i,VSl 7 23 bMi C C,VN 8 24 c,VP 9 25 bw 0,VP 10 26 bw 0,VP 11 27 bw 0,VP 12 28 bw 2,VSl 13 29 gm R cm,VN 14 30 i,VP 15 31 gm i,VSl 16 32 bMi C C,VN 17 33 c,VP 18 34 bMi (c*2),E 19 35 (.agg #[.bool xs,.slice xa xl xc]),EI 20 36 (-(x.s i c)),VP 21 37 bMi (c*2)] [] []) kR RI.start (RI.fin kR ?fin1) ?steps1
   case steps1=>
    refine⟨?_,?_,?_,?_,?_,?_,?_,?_,?_,?_,?_,?_,?_,?_,?_,?_,?_,?_,?_,?_,?_,?_,trivial⟩<;>(intro L T wS hL hd hcl hI K hK;try refine zA rfl ?_)
    ·exact xgs (hI.k 0 rfl kR)
    ·exact xgs (hI.e mm0 (hd 0))
    ·exact xgs (hI.e mm1 (hd 1))
    ·exact xgs (hI.e mm2 (hd 2))
    ·have zt3:=hI.e mm3 (hd 3)
     have cc0:=hI.cell q2 oM nom;exact xgu
    ·exact xgs (hI.k 1 rfl kR)
    ·exact xgt (hI.e mm4 (hd 4)) (hI.e mm5 (hd 5))
    ·have zt6:=hI.e mm6 (hd 6)
     have cc0:=hI.cell o1 oM nom;exact xgu
    ·exact xgs (hI.k 4 rfl kR)
    ·exact xgs (hI.k 0 rfl kR)
    ·exact xgs (hI.e mm9 (hd 9))
    ·exact xgs (hI.e yD (hd 10))
    ·exact xgs (hI.e zAB (hd 11))
    ·have zt12:=hI.e zAh (hd 12)
     have cc0:=hI.cell q2 oM nom;exact xgu
    ·exact xgs (hI.k 1 rfl kR)
    ·exact xgt (hI.e zBv (hd 13)) (hI.e zBF (hd 14))
    ·have zt15:=hI.e zCN (hd 15)
     have cc0:=hI.cell o1 oM nom;exact xgu
    ·exact xgs (hI.k 4 rfl kR)
    ·exact xgt (hI.e zCf (hd 16)) (hI.e zCg (hd 17))
    ·have zt18:=hI.e zCh (hd 18)
     have cc0:=hI.cell p1 oM nom;have cc1:=hI.cell p2 oM nom;exact xgu
    ·have zt19:=hI.e zDW (hd 19)
     go_simp;refine(jY _ (x.s i c) _ (hx.ext hI.lext).weak T1.out).mono ?_;exact xgo
    ·exact xgt (hI.e mm7 (hd 7)) (hI.e mm8 (hd 8))
   intro w9 hlw9 hbw9 holdw9 T hT;simp only[Fin,E,EI,VP,VSl,VN,xgg,xgh,xgi,xgj]at hT;obtain⟨va20,ha20,rfl⟩:=hT;simp only[xgl,xgk];obtain⟨pn,pa,pl,pc,px,rfl,hpx⟩:=id ha20;have HPX:=xgw hpx;clear hpx;have hK9:=hK.below hbw9;obtain⟨sn,sa,sl,sc,y1,y2,y3,y4,-⟩:=hK9.m.elem hi hbmi hlt;obtain⟨hP,hOP⟩:=hK9.putM hi hbmi hlt ha20;rw[zF8 (by show _=jQ x.s i i c;unfold jQ;rw[if_pos rfl])]at hP;have hO9:=hO.trans (zM.of _ hbw9);have hZ:Z3 (.slice (some ⟨gm,0,none⟩) R cm) (.slice (some ⟨gu,0,none⟩) R cu) (.slice (some ⟨gv,0,none⟩) R cv) bm bu bv bMi:=.inl (.inl (xgd hbmi));clear o1 p1 p2;go_wp2;go_roundw
   case rel=>exact⟨c+1,by omega,by simp,hO9.trans (hOP.mono fun k _ hk=>by rw[hk];exact hZ),hP⟩
   case measure=>simp[intOf];omega
  ·have hcC:c=C:=by omega
   replace hK:K9 wr bw (.slice (some ⟨gm,0,none⟩) R cm) (.slice (some ⟨gu,0,none⟩) R cu) (.slice (some ⟨gv,0,none⟩) R cv) R C bm bu bv (x.neg i).s x.t (fun a b=>x.i b a):=hK.congr (fun a _ b hb=>by
      show upR _ _ i c a b=_;unfold upR;by_cases h1:a=i
      ·rw[if_pos ⟨h1,by omega⟩]
      ·rw[if_neg (fun h=>h1 h.1)]
       show _=jQ x.s i a b;unfold jQ;rw[if_neg h1]) (fun _ _ _ _=>rfl) (fun _ _ _ _=>rfl)
   go_wp2;go_loopw [5] (fun jv wr=>∃c:Nat,c<=R/\jv= .int .i64 c/\zM (Z3 (.slice (some ⟨gm,0,none⟩) R cm) (.slice (some ⟨gu,0,none⟩) R cu) (.slice (some ⟨gv,0,none⟩) R cv) bm bu bv) w wr/\K9 wr bw (.slice (some ⟨gm,0,none⟩) R cm) (.slice (some ⟨gu,0,none⟩) R cu) (.slice (some ⟨gv,0,none⟩) R cv) R C bm bu bv (x.neg i).s (upR x.t (x.neg i).t i c) (fun a b=>x.i b a)) (fun jv _=>R-(intOf jv).toNat)
   case atStart=>exact⟨0,by omega,rfl,hO,by rw[zED];exact hK⟩
   case round=>
    clear hK hO;obtain⟨c,hc,rfl,hO,hK⟩:=hrel;obtain⟨q0,q1,q2,q3,q4,q5,q6,q7,q8⟩:=hK.blk.nine;have lbw:=hK.blk.lt;by_cases hlt:c<R
    ·have lg:=hK.zlt (b:=gu) (.inr (.inl (.inr rfl)))
     have lb:=hK.zlt (b:=bUi) (.inr (.inl (.inl (xgd hbui))));have o1:=hK.u.rowc hi hbui;obtain⟨xs,xa,xl,xc,p1,p2,-,-,hx⟩:=hK.u.elem hi hbui hlt;rw[zIn]at hx;have T1:=xgv (HSU.out c hlt);go_upto_region 7 with(fail)
     refine zB 22 rfl (RI wr (wr.heap.size) _ 51
       [VP 0 47 bw 0,VP 1 48 bw 0,VP 2 49 bw 3,VP 3 50 bw 5,VSl 4 51 gu R cu,VN 5 52 i,VP 6 53 gu i,VSl 7 54 bUi R R,VN 8 55 c,VP 9 56 bw 0,VP 10 57 bw 0,VP 11 58 bw 3,VP 12 59 bw 5,VSl 13 60 gu R cu,VN 14 61 i,VP 15 62 gu i,VSl 16 63 bUi R R,VN 17 64 c,VP 18 65 bUi (c*2),E 19 66 (.agg #[.bool xs,.slice xa xl xc]),EI 20 67 (-(x.t i c)),VP 21 68 bUi (c*2)] [] []) kR RI.start (RI.fin kR ?fin2) ?steps2
     case steps2=>
      refine⟨?_,?_,?_,?_,?_,?_,?_,?_,?_,?_,?_,?_,?_,?_,?_,?_,?_,?_,?_,?_,?_,?_,trivial⟩<;>(intro L T wS hL hd hcl hI K hK;try refine zA rfl ?_)
      ·exact xgs (hI.k 0 rfl kR)
      ·exact xgs (hI.e mm0 (hd 0))
      ·exact xgs (hI.e mm1 (hd 1))
      ·exact xgs (hI.e mm2 (hd 2))
      ·have zt3:=hI.e mm3 (hd 3)
       have cc0:=hI.cell q5 oM nom;exact xgu
      ·exact xgs (hI.k 1 rfl kR)
      ·exact xgt (hI.e mm4 (hd 4)) (hI.e mm5 (hd 5))
      ·have zt6:=hI.e mm6 (hd 6)
       have cc0:=hI.cell o1 oM nom;exact xgu
      ·exact xgs (hI.k 5 rfl kR)
      ·exact xgs (hI.k 0 rfl kR)
      ·exact xgs (hI.e mm9 (hd 9))
      ·exact xgs (hI.e yD (hd 10))
      ·exact xgs (hI.e zAB (hd 11))
      ·have zt12:=hI.e zAh (hd 12)
       have cc0:=hI.cell q5 oM nom;exact xgu
      ·exact xgs (hI.k 1 rfl kR)
      ·exact xgt (hI.e zBv (hd 13)) (hI.e zBF (hd 14))
      ·have zt15:=hI.e zCN (hd 15)
       have cc0:=hI.cell o1 oM nom;exact xgu
      ·exact xgs (hI.k 5 rfl kR)
      ·exact xgt (hI.e zCf (hd 16)) (hI.e zCg (hd 17))
      ·have zt18:=hI.e zCh (hd 18)
       have cc0:=hI.cell p1 oM nom;have cc1:=hI.cell p2 oM nom;exact xgu
      ·have zt19:=hI.e zDW (hd 19)
       go_simp;refine(jY _ (x.t i c) _ (hx.ext hI.lext).weak T1.out).mono ?_;exact xgo
      ·exact xgt (hI.e mm7 (hd 7)) (hI.e mm8 (hd 8))
     intro w9 hlw9 hbw9 holdw9 T hT;simp only[Fin,E,EI,VP,VSl,VN,xgg,xgh,xgi,xgj]at hT;obtain⟨va20,ha20,rfl⟩:=hT;simp only[xgl,xgk];obtain⟨pn,pa,pl,pc,px,rfl,hpx⟩:=id ha20;have HPX:=xgw hpx;clear hpx;have hK9:=hK.below hbw9;obtain⟨sn,sa,sl,sc,y1,y2,y3,y4,-⟩:=hK9.u.elem hi hbui hlt;obtain⟨hP,hOP⟩:=hK9.putU hi hbui hlt ha20;rw[zF8 (by show _=jQ x.t i i c;unfold jQ;rw[if_pos rfl])]at hP;have hO9:=hO.trans (zM.of _ hbw9);have hZ:Z3 (.slice (some ⟨gm,0,none⟩) R cm) (.slice (some ⟨gu,0,none⟩) R cu) (.slice (some ⟨gv,0,none⟩) R cv) bm bu bv bUi:=.inr (.inl (.inl (xgd hbui)));clear o1 p1 p2;go_wp2;go_roundw
     case rel=>exact⟨c+1,by omega,by simp,hO9.trans (hOP.mono fun k _ hk=>by rw[hk];exact hZ),hP⟩
     case measure=>simp[intOf];omega
    ·have hcC:c=R:=by omega
     replace hK:K9 wr bw (.slice (some ⟨gm,0,none⟩) R cm) (.slice (some ⟨gu,0,none⟩) R cu) (.slice (some ⟨gv,0,none⟩) R cv) R C bm bu bv (x.neg i).s (x.neg i).t (fun a b=>x.i b a):=hK.congr (fun _ _ _ _=>rfl) (fun a _ b hb=>by
        show upR _ _ i c a b=_;unfold upR;by_cases h1:a=i
        ·rw[if_pos ⟨h1,by omega⟩]
        ·rw[if_neg (fun h=>h1 h.1)]
         show _=jQ x.t i a b;unfold jQ;rw[if_neg h1]) (fun _ _ _ _=>rfl)
     go_wp2;go_loopw [6] (fun jv wr=>∃c:Nat,c<=R/\jv= .int .i64 c/\zM (Z3 (.slice (some ⟨gm,0,none⟩) R cm) (.slice (some ⟨gu,0,none⟩) R cu) (.slice (some ⟨gv,0,none⟩) R cv) bm bu bv) w wr/\K9 wr bw (.slice (some ⟨gm,0,none⟩) R cm) (.slice (some ⟨gu,0,none⟩) R cu) (.slice (some ⟨gv,0,none⟩) R cv) R C bm bu bv (x.neg i).s (x.neg i).t (upC (fun a b=>x.i b a) (fun a b=>(x.neg i).i b a) i c)) (fun jv _=>R-(intOf jv).toNat)
     case atStart=>exact⟨0,by omega,rfl,hO,by rw[zIm];exact hK⟩
     case round=>
      clear hK hO;obtain⟨c,hc,rfl,hO,hK⟩:=hrel;obtain⟨q0,q1,q2,q3,q4,q5,q6,q7,q8⟩:=hK.blk.nine;have lbw:=hK.blk.lt;by_cases hlt:c<R
      ·have lg:=hK.zlt (b:=gv) (.inr (.inr (.inr rfl)))
       obtain⟨bVr,hbvr⟩:=hK.v.bex hlt;have lb:=hK.zlt (b:=bVr) (.inr (.inr (.inl (xgd hbvr))));have o1:=hK.v.rowc hlt hbvr;obtain⟨xs,xa,xl,xc,p1,p2,-,-,hx⟩:=hK.v.elem hlt hbvr hi;rw[zNB]at hx;have T1:=xgv (HSV.out c hlt);go_upto_region 11 with(fail)
       refine zB 22 rfl (RI wr (wr.heap.size) _ 51
         [VP 0 78 bw 0,VP 1 79 bw 0,VP 2 80 bw 6,VP 3 81 bw 8,VSl 4 82 gv R cv,VN 5 83 c,VP 6 84 gv c,VSl 7 85 bVr R R,VN 8 86 i,VP 9 87 bw 0,VP 10 88 bw 0,VP 11 89 bw 6,VP 12 90 bw 8,VSl 13 91 gv R cv,VN 14 92 c,VP 15 93 gv c,VSl 16 94 bVr R R,VN 17 95 i,VP 18 96 bVr (i*2),E 19 97 (.agg #[.bool xs,.slice xa xl xc]),EI 20 98 (-(x.i i c)),VP 21 99 bVr (i*2)] [] []) kR RI.start (RI.fin kR ?fin3) ?steps3
       case steps3=>
        refine⟨?_,?_,?_,?_,?_,?_,?_,?_,?_,?_,?_,?_,?_,?_,?_,?_,?_,?_,?_,?_,?_,?_,trivial⟩<;>(intro L T wS hL hd hcl hI K hK;try refine zA rfl ?_)
        ·exact xgs (hI.k 0 rfl kR)
        ·exact xgs (hI.e mm0 (hd 0))
        ·exact xgs (hI.e mm1 (hd 1))
        ·exact xgs (hI.e mm2 (hd 2))
        ·have zt3:=hI.e mm3 (hd 3)
         have cc0:=hI.cell q8 oM nom;exact xgu
        ·exact xgs (hI.k 6 rfl kR)
        ·exact xgt (hI.e mm4 (hd 4)) (hI.e mm5 (hd 5))
        ·have zt6:=hI.e mm6 (hd 6)
         have cc0:=hI.cell o1 oM nom;exact xgu
        ·exact xgs (hI.k 1 rfl kR)
        ·exact xgs (hI.k 0 rfl kR)
        ·exact xgs (hI.e mm9 (hd 9))
        ·exact xgs (hI.e yD (hd 10))
        ·exact xgs (hI.e zAB (hd 11))
        ·have zt12:=hI.e zAh (hd 12)
         have cc0:=hI.cell q8 oM nom;exact xgu
        ·exact xgs (hI.k 6 rfl kR)
        ·exact xgt (hI.e zBv (hd 13)) (hI.e zBF (hd 14))
        ·have zt15:=hI.e zCN (hd 15)
         have cc0:=hI.cell o1 oM nom;exact xgu
        ·exact xgs (hI.k 1 rfl kR)
        ·exact xgt (hI.e zCf (hd 16)) (hI.e zCg (hd 17))
        ·have zt18:=hI.e zCh (hd 18)
         have cc0:=hI.cell p1 oM nom;have cc1:=hI.cell p2 oM nom;exact xgu
        ·have zt19:=hI.e zDW (hd 19)
         go_simp;refine(jY _ (x.i i c) _ (hx.ext hI.lext).weak T1.out).mono ?_;exact xgo
        ·exact xgt (hI.e mm7 (hd 7)) (hI.e mm8 (hd 8))
       intro w9 hlw9 hbw9 holdw9 T hT;simp only[Fin,E,EI,VP,VSl,VN,xgg,xgh,xgi,xgj]at hT;obtain⟨va20,ha20,rfl⟩:=hT;simp only[xgl,xgk];obtain⟨pn,pa,pl,pc,px,rfl,hpx⟩:=id ha20;have HPX:=xgw hpx;clear hpx;have hK9:=hK.below hbw9;obtain⟨sn,sa,sl,sc,y1,y2,y3,y4,-⟩:=hK9.v.elem hlt hbvr hi;obtain⟨hP,hOP⟩:=hK9.putV hlt hbvr hi ha20;rw[zLb (by show _=jQ x.i i i c;unfold jQ;rw[if_pos rfl])]at hP;have hO9:=hO.trans (zM.of _ hbw9);have hZ:Z3 (.slice (some ⟨gm,0,none⟩) R cm) (.slice (some ⟨gu,0,none⟩) R cu) (.slice (some ⟨gv,0,none⟩) R cv) bm bu bv bVr:=.inr (.inr (.inl (xgd hbvr)));clear o1 p1 p2;go_wp2;go_roundw
       case rel=>exact⟨c+1,by omega,by simp,hO9.trans (hOP.mono fun k _ hk=>by rw[hk];exact hZ),hP⟩
       case measure=>simp[intOf];omega
      ·have hcC:c=R:=by omega
       replace hK:K9 wr bw (.slice (some ⟨gm,0,none⟩) R cm) (.slice (some ⟨gu,0,none⟩) R cu) (.slice (some ⟨gv,0,none⟩) R cv) R C bm bu bv (x.neg i).s (x.neg i).t (fun a b=>(x.neg i).i b a):=hK.congr (fun _ _ _ _=>rfl) (fun _ _ _ _=>rfl) (fun a ha b _=>by
          show upC _ _ i c a b=_;unfold upC;by_cases h1:b=i
          ·rw[if_pos ⟨h1,by omega⟩]
          ·rw[if_neg (fun h=>h1 h.1)]
           show _=jQ x.i i b a;unfold jQ;rw[if_neg h1])
       go_wp2;exact bodyPost_end (results_none rfl _ _ _) rfl ⟨⟨_,rfl⟩,hO,hK⟩
theorem zDg{A:Value}{bs:List Nat}{i j b:Nat}(hi:i<bs.length)(hj:j<bs.length)(h:Zn A (zH1 bs i j) b):Zn A bs b:=h.imp (zMF hi hj) id
section
variable {w:World} {bw gm gu cm cu:Nat} {AM AU AV:Value} {R C:Nat} {bm bu bv:List Nat} {S T V:Nat->Nat->Int}
theorem K9.swapM(h:K9 w bw (.slice (some ⟨gm,0,none⟩) R cm) AU AV R C bm bu bv S T V){i j bi bj:Nat}(hi:i<R)(hj:j<R)(hbi:bm[i]?=some bi)(hbj:bm[j]?=some bj):
  K9 ((w.setCell ⟨gm,i,none⟩ (.slice (some ⟨bj,0,none⟩) C C)).setCell ⟨gm,j,none⟩ (.slice (some ⟨bi,0,none⟩) C C)) bw (.slice (some ⟨gm,0,none⟩) R cm) AU AV R C (zH1 bm i j) bu bv (fun a b=>S (swp i j a) b) T V∧
   zM (fun k=>k=gm) w ((w.setCell ⟨gm,i,none⟩ (.slice (some ⟨bj,0,none⟩) C C)).setCell ⟨gm,j,none⟩ (.slice (some ⟨bi,0,none⟩) C C)):=by
 obtain⟨h1,h2⟩:=h.m.swap hi hj hbi hbj;have hl:=h.m.len;have ho:=oz2 h2;have hz:Zn (.slice (some ⟨gm,0,none⟩) R cm) bm gm:=.inr rfl;have hi':i<bm.length:=by omega
 have hj':j<bm.length:=by omega
 exact⟨⟨ho.blk h.blk (fun e=>h.nm (by rw[e];exact hz)),h1,h.u.keep1 ho (h.mu _ hz),h.v.keep1 ho (h.mv _ hz),fun b hb=>h.mu b (zDg hi' hj' hb),fun b hb=>h.mv b (zDg hi' hj' hb),h.uv⟩,ho⟩
theorem K9.swapU(h:K9 w bw AM (.slice (some ⟨gu,0,none⟩) R cu) AV R C bm bu bv S T V){i j bi bj:Nat}(hi:i<R)(hj:j<R)(hbi:bu[i]?=some bi)(hbj:bu[j]?=some bj):
  K9 ((w.setCell ⟨gu,i,none⟩ (.slice (some ⟨bj,0,none⟩) R R)).setCell ⟨gu,j,none⟩ (.slice (some ⟨bi,0,none⟩) R R)) bw AM (.slice (some ⟨gu,0,none⟩) R cu) AV R C bm (zH1 bu i j) bv S (fun a b=>T (swp i j a) b) V∧
   zM (fun k=>k=gu) w ((w.setCell ⟨gu,i,none⟩ (.slice (some ⟨bj,0,none⟩) R R)).setCell ⟨gu,j,none⟩ (.slice (some ⟨bi,0,none⟩) R R)):=by
 obtain⟨h1,h2⟩:=h.u.swap hi hj hbi hbj;have hl:=h.u.len;have ho:=oz2 h2;have hz:Zn (.slice (some ⟨gu,0,none⟩) R cu) bu gu:=.inr rfl;have hi':i<bu.length:=by omega
 have hj':j<bu.length:=by omega
 exact⟨⟨ho.blk h.blk (fun e=>h.nu (by rw[e];exact hz)),h.m.keep1 ho (fun hh=>h.mu _ hh hz),h1,h.v.keep1 ho (h.uv _ hz),fun b hb hh=>h.mu b hb (zDg hi' hj' hh),h.mv,fun b hb=>h.uv b (zDg hi' hj' hb)⟩,ho⟩
theorem Wri.gb{g n cap:Nat}{F:Nat->Nat->Int}{bs:List Nat}(h:Wri w (.slice (some ⟨g,0,none⟩) n cap) R C bs F):∃cur,Blk w g tR cur/\n<=cur.size:=zJ.gblk h
theorem Blk.cell1{w:World}{g i j:Nat}{t:TypeId}{cur:Array Value}{u:Value}(h:Blk w g t cur)(hj:j<cur.size):∃z,(w.setCell ⟨g,i,none⟩ u).cell? ⟨g,j,none⟩=some z:=by
 rw[(h.set_ i u).cell j];exact⟨_,Array.getElem?_eq_getElem (by simpa using hj)⟩
end
def zLo(F:Nat->Nat->Int)(i j c:Nat):Nat->Nat->Int:=fun a b=>if a<c then F a (swp i j b)else F a b
theorem zLU(F:Nat->Nat->Int)(i j:Nat):zLo F i j 0=F:=by funext a b;unfold zLo;rw[if_neg oM]
theorem zLT(F:Nat->Nat->Int)(i j c b:Nat):zLo F i j c c b=F c b:=by unfold zLo;rw[if_neg oM]
theorem zMe(F:Nat->Nat->Int)(i j c:Nat):zKy (zKy (zLo F i j c) c i (F c j)) c j (F c i)=zLo F i j (c+1):=by
 funext a b
 unfold zKy zLo swp;by_cases h1:a=c
 ·subst h1
  by_cases h2:b=j
  ·subst h2
   rw[if_pos ⟨rfl,rfl⟩,if_pos oM];split
   ·rename_i e;rw[e]
   ·rw[if_pos rfl]
  ·rw[if_neg (fun h=>h2 h.2)]
   by_cases h3:b=i
   ·subst h3
    rw[if_pos ⟨rfl,rfl⟩,if_pos oM,if_pos rfl]
   ·rw[if_neg (fun h=>h3 h.2),if_neg oM,if_pos oM,if_neg h3,if_neg h2]
 ·rw[if_neg (fun h=>h1 h.1),if_neg (fun h=>h1 h.1)]
  by_cases h4:a<c
  ·rw[if_pos h4,if_pos (show a<c+1 by omega)]
  ·rw[if_neg h4,if_neg (show ¬ a<c+1 by omega)]
theorem zHp(bw:Nat)(AM AU AV:Value)(R C i j:Nat)(bm bu bv:List Nat)(x:Bst)(w:World)(h:K9 w bw AM AU AV R C bm bu bv x.s x.t (fun a b=>x.i b a))(hi:i<R)(hj:j<R)(hR:R<=1000000)(hC:C<=1000000):
  Calls Tryz.prog 80 #[.pointer (some ⟨bw,0,none⟩),.int .i64 i,.int .i64 j] w fun e w'=>(∃u,e= .returned u)/\zM (Z3 AM AU AV bm bu bv) w w'/\K9 w' bw AM AU AV R C (zH1 bm i j) (zH1 bu i j) bv (x.swap i j).s (x.swap i j).t (fun a b=>(x.swap i j).i b a):=by
 obtain⟨gm,cm,rfl⟩:=h.m.base oM;obtain⟨gu,cu,rfl⟩:=h.u.base oM;obtain⟨gv,cv,rfl⟩:=h.v.base oM;obtain⟨bMi,hbmi⟩:=h.m.bex hi;obtain⟨bUi,hbui⟩:=h.u.bex hi;obtain⟨bMj,hbmj⟩:=h.m.bex hj;obtain⟨bUj,hbuj⟩:=h.u.bex hj;have hzl:=fun b hb=>h.zlt (b:=b) hb
 go_enter Tryz.func80,Tryz.ntmps80;have hK:=h;have hO:=zM.refl (Z3 (.slice (some ⟨gm,0,none⟩) R cm) (.slice (some ⟨gu,0,none⟩) R cu) (.slice (some ⟨gv,0,none⟩) R cv) bm bu bv) w;clear h;obtain⟨q0,q1,q2,q3,q4,q5,q6,q7,q8⟩:=hK.blk.nine;have o1:=hK.m.rowc hi hbmi;have o1:=hK.m.rowc hi hbmi;have o2:=hK.m.rowc hj hbmj;have lbw:=hK.blk.lt;have lg:=hK.zlt (b:=gm) (.inl (.inr rfl));go_upto_region 1 with(fail)
 refine zB 15 rfl (RI w (w.heap.size) _ 51
   [VP 0 17 bw 0,VP 1 18 bw 0,VP 2 19 bw 0,VP 3 20 bw 2,VSl 4 21 gm R cm,VN 5 22 i,VP 6 23 bw 0,VP 7 24 bw 0,VP 8 25 bw 0,VP 9 26 bw 2,VSl 10 27 gm R cm,VN 11 28 j,VP 12 29 gm j,VSl 13 30 bMj C C,VP 14 31 gm i] [] []) kR RI.start (RI.fin kR ?fin1) ?steps1
 case steps1=>
  refine⟨?_,?_,?_,?_,?_,?_,?_,?_,?_,?_,?_,?_,?_,?_,?_,trivial⟩<;>(intro L T wS hL hd hcl hI K hK;try refine zA rfl ?_)
  ·exact xgs (hI.k 0 rfl kR)
  ·exact xgs (hI.e mm0 (hd 0))
  ·exact xgs (hI.e mm1 (hd 1))
  ·exact xgs (hI.e mm2 (hd 2))
  ·have zt3:=hI.e mm3 (hd 3)
   have cc0:=hI.cell q2 oM nom;exact xgu
  ·exact xgs (hI.k 1 rfl kR)
  ·exact xgs (hI.k 0 rfl kR)
  ·exact xgs (hI.e mm6 (hd 6))
  ·exact xgs (hI.e mm7 (hd 7))
  ·exact xgs (hI.e mm8 (hd 8))
  ·have zt9:=hI.e mm9 (hd 9)
   have cc0:=hI.cell q2 oM nom;exact xgu
  ·exact xgs (hI.k 2 rfl kR)
  ·exact xgt (hI.e yD (hd 10)) (hI.e zAB (hd 11))
  ·have zt12:=hI.e zAh (hd 12)
   have cc0:=hI.cell o2 oM nom;exact xgu
  ·exact xgt (hI.e mm4 (hd 4)) (hI.e mm5 (hd 5))
 intro w1 hlw1 hbw1 holdw1 T hT;simp only[Fin,E,EI,VP,VSl,VN,xgg,xgh,xgi,xgj]at hT;subst hT;simp only[xgl,xgk];have hK1:=hK.below hbw1;obtain⟨cur,hcur,hcz⟩:=hK1.m.gb;have f1:=hcur.frozen i;have o3:=hK1.m.rowc hi hbmi;have hfar:bw≠gm:=fun e=>hK1.nm (by rw[e];exact .inr rfl)
 obtain⟨hS,hOS⟩:=hK1.swapM hi hj hbmi hbmj;have HSW:=xgv (And.intro hS hOS);clear o1 o2 q0 q1 q2 q3 q4 q5 q6 q7 q8 hS hOS;go_upto_region 2 with(fail)
 refine zC ?_;intro w2 hW;have hbk2:=hK1.blk.far hfar i (.slice (some ⟨bMj,0,none⟩) C C);rw[<-hW.out]at hbk2;obtain⟨q0,q1,q2,q3,q4,q5,q6,q7,q8⟩:=hbk2.nine;have hc2:=hcur.set_ i (.slice (some ⟨bMj,0,none⟩) C C);have f2:w2.frozen? ⟨gm,j,none⟩=false:=by rw[hW.out];exact hc2.frozen j
 obtain⟨z,s1⟩:∃z,w2.cell? ⟨gm,j,none⟩=some z:=by rw[hW.out];exact hcur.cell1 oM
 clear f1 o3 hcur hc2;go_upto_region 3 with(fail)
 refine zC ?_;intro w3 hW3;obtain⟨hS,hOS⟩:=HSW.out;rw[<-hW.out,<-hW3.out]at hS hOS;have hO:=(hO.trans (zM.of _ hbw1)).trans (hOS.mono fun k _ hk=>by rw[hk];exact(.inl (.inr rfl)));clear hK hK1 HSW hW hW3 f2 s1 q0 q1 q2 q3 q4 q5 q6 q7 q8;have hK:=hS;clear hS hOS;obtain⟨q0,q1,q2,q3,q4,q5,q6,q7,q8⟩:=hK.blk.nine;have o1:=hK.u.rowc hi hbui;have o1:=hK.u.rowc hi hbui;have o2:=hK.u.rowc hj hbuj;have lbw:=hK.blk.lt;have lg:=hK.zlt (b:=gu) (.inr (.inl (.inr rfl)));go_upto_region 4 with(fail)
 refine zB 15 rfl (RI w3 (w3.heap.size) _ 51
   [VP 0 48 bw 0,VP 1 49 bw 0,VP 2 50 bw 3,VP 3 51 bw 5,VSl 4 52 gu R cu,VN 5 53 i,VP 6 54 bw 0,VP 7 55 bw 0,VP 8 56 bw 3,VP 9 57 bw 5,VSl 10 58 gu R cu,VN 11 59 j,VP 12 60 gu j,VSl 13 61 bUj R R,VP 14 62 gu i] [] []) kR RI.start (RI.fin kR ?fin2) ?steps2
 case steps2=>
  refine⟨?_,?_,?_,?_,?_,?_,?_,?_,?_,?_,?_,?_,?_,?_,?_,trivial⟩<;>(intro L T wS hL hd hcl hI K hK;try refine zA rfl ?_)
  ·exact xgs (hI.k 0 rfl kR)
  ·exact xgs (hI.e mm0 (hd 0))
  ·exact xgs (hI.e mm1 (hd 1))
  ·exact xgs (hI.e mm2 (hd 2))
  ·have zt3:=hI.e mm3 (hd 3)
   have cc0:=hI.cell q5 oM nom;exact xgu
  ·exact xgs (hI.k 1 rfl kR)
  ·exact xgs (hI.k 0 rfl kR)
  ·exact xgs (hI.e mm6 (hd 6))
  ·exact xgs (hI.e mm7 (hd 7))
  ·exact xgs (hI.e mm8 (hd 8))
  ·have zt9:=hI.e mm9 (hd 9)
   have cc0:=hI.cell q5 oM nom;exact xgu
  ·exact xgs (hI.k 2 rfl kR)
  ·exact xgt (hI.e yD (hd 10)) (hI.e zAB (hd 11))
  ·have zt12:=hI.e zAh (hd 12)
   have cc0:=hI.cell o2 oM nom;exact xgu
  ·exact xgt (hI.e mm4 (hd 4)) (hI.e mm5 (hd 5))
 intro w4 hlw4 hbw4 holdw4 T hT;simp only[Fin,E,EI,VP,VSl,VN,xgg,xgh,xgi,xgj]at hT;subst hT;simp only[xgl,xgk];have hK1:=hK.below hbw4;obtain⟨cur,hcur,hcz⟩:=hK1.u.gb;have f1:=hcur.frozen i;have o3:=hK1.u.rowc hi hbui;have hfar:bw≠gu:=fun e=>hK1.nu (by rw[e];exact .inr rfl)
 obtain⟨hS,hOS⟩:=hK1.swapU hi hj hbui hbuj;have HSW:=xgv (And.intro hS hOS);clear o1 o2 q0 q1 q2 q3 q4 q5 q6 q7 q8 hS hOS;go_upto_region 5 with(fail)
 refine zC ?_;intro w5 hW;have hbk2:=hK1.blk.far hfar i (.slice (some ⟨bUj,0,none⟩) R R);rw[<-hW.out]at hbk2;obtain⟨q0,q1,q2,q3,q4,q5,q6,q7,q8⟩:=hbk2.nine;have hc2:=hcur.set_ i (.slice (some ⟨bUj,0,none⟩) R R);have f2:w5.frozen? ⟨gu,j,none⟩=false:=by rw[hW.out];exact hc2.frozen j
 obtain⟨z,s1⟩:∃z,w5.cell? ⟨gu,j,none⟩=some z:=by rw[hW.out];exact hcur.cell1 oM
 clear f1 o3 hcur hc2;go_upto_region 6 with(fail)
 refine zC ?_;intro w6 hW3;obtain⟨hS,hOS⟩:=HSW.out;rw[<-hW.out,<-hW3.out]at hS hOS;have hO:=(hO.trans (zM.of _ hbw4)).trans (hOS.mono fun k _ hk=>by rw[hk];exact(.inr (.inl (.inr rfl))));clear hK hK1 HSW hW hW3 f2 s1 q0 q1 q2 q3 q4 q5 q6 q7 q8;have hK:=hS;clear hS hOS;go_wp2;go_loopw [7] (fun jv wr=>∃c:Nat,c<=R/\jv= .int .i64 c/\zM (Z3 (.slice (some ⟨gm,0,none⟩) R cm) (.slice (some ⟨gu,0,none⟩) R cu) (.slice (some ⟨gv,0,none⟩) R cv) bm bu bv) w wr/\K9 wr bw (.slice (some ⟨gm,0,none⟩) R cm) (.slice (some ⟨gu,0,none⟩) R cu) (.slice (some ⟨gv,0,none⟩) R cv) R C (zH1 bm i j) (zH1 bu i j) bv (x.swap i j).s (x.swap i j).t (zLo (fun a b=>x.i b a) i j c)) (fun jv _=>R-(intOf jv).toNat)
 case atStart=>exact⟨0,by omega,rfl,hO,by rw[zLU];exact hK⟩
 case round=>
  clear hK hO;obtain⟨c,hc,rfl,hO,hK⟩:=hrel;obtain⟨q0,q1,q2,q3,q4,q5,q6,q7,q8⟩:=hK.blk.nine;by_cases hlt:c<R
  ·obtain⟨bVr,hbvr⟩:=hK.v.bex hlt
   have hzv:Zn (.slice (some ⟨gv,0,none⟩) R cv) bv bVr:=.inl (xgd hbvr);have o1:=hK.v.rowc hlt hbvr;obtain⟨xs,xa,xl,xc,p1,p2,-,-,hx⟩:=hK.v.elem hlt hbvr hi;rw[zLT]at hx;go_upto_region 10 with(fail)
   refine zC ?_;intro W9 hW9;obtain⟨hB9,hbk,hs9⟩:=zN hW9;have hK9:=hK.below hB9;have hx9:=hx.ext (lx hB9);have hO:=hO.trans (zM.of _ hB9);have hne:wr.heap.size≠bVr:=by have:=hK.zlt (b:=bVr) (.inr (.inr hzv));omega
   clear hW9 hK hx o1 p1 p2 q0 q1 q2 q3 q4 q5 q6 q7 q8;obtain⟨q0,q1,q2,q3,q4,q5,q6,q7,q8⟩:=hK9.blk.nine;have lbw:=hK9.blk.lt;have lg:=hK9.zlt (b:=gv) (.inr (.inr (.inr rfl)));have lb:=hK9.zlt (b:=bVr) (.inr (.inr hzv));have o1:=hK9.v.rowc hlt hbvr;obtain⟨ys,ya,yl,yc,p1,p2,-,-,hy⟩:=hK9.v.elem hlt hbvr hj;rw[zLT]at hy;refine zB 21 rfl (RI W9 (W9.heap.size) _ 51
     [VP 0 91 bw 0,VP 1 92 bw 0,VP 2 93 bw 6,VP 3 94 bw 8,VSl 4 95 gv R cv,VN 5 96 c,VP 6 97 gv c,VSl 7 98 bVr R R,VN 8 99 i,VP 9 100 bw 0,VP 10 101 bw 0,VP 11 102 bw 6,VP 12 103 bw 8,VSl 13 104 gv R cv,VN 14 105 c,VP 15 106 gv c,VSl 16 107 bVr R R,VN 17 108 j,VP 18 109 bVr (j*2),E 19 110 (.agg #[.bool ys,.slice ya yl yc]),VP 20 111 bVr (i*2)] [] []) kR RI.start (RI.fin kR ?fin3) ?steps3
   case steps3=>
    refine⟨?_,?_,?_,?_,?_,?_,?_,?_,?_,?_,?_,?_,?_,?_,?_,?_,?_,?_,?_,?_,?_,trivial⟩<;>(intro L T wS hL hd hcl hI K hK;try refine zA rfl ?_)
    ·exact xgs (hI.k 0 rfl kR)
    ·exact xgs (hI.e mm0 (hd 0))
    ·exact xgs (hI.e mm1 (hd 1))
    ·exact xgs (hI.e mm2 (hd 2))
    ·have zt3:=hI.e mm3 (hd 3)
     have cc0:=hI.cell q8 oM nom;exact xgu
    ·exact xgs (hI.k 7 rfl kR)
    ·exact xgt (hI.e mm4 (hd 4)) (hI.e mm5 (hd 5))
    ·have zt6:=hI.e mm6 (hd 6)
     have cc0:=hI.cell o1 oM nom;exact xgu
    ·exact xgs (hI.k 1 rfl kR)
    ·exact xgs (hI.k 0 rfl kR)
    ·exact xgs (hI.e mm9 (hd 9))
    ·exact xgs (hI.e yD (hd 10))
    ·exact xgs (hI.e zAB (hd 11))
    ·have zt12:=hI.e zAh (hd 12)
     have cc0:=hI.cell q8 oM nom;exact xgu
    ·exact xgs (hI.k 7 rfl kR)
    ·exact xgt (hI.e zBv (hd 13)) (hI.e zBF (hd 14))
    ·have zt15:=hI.e zCN (hd 15)
     have cc0:=hI.cell o1 oM nom;exact xgu
    ·exact xgs (hI.k 2 rfl kR)
    ·exact xgt (hI.e zCf (hd 16)) (hI.e zCg (hd 17))
    ·have zt18:=hI.e zCh (hd 18)
     have cc0:=hI.cell p1 oM nom;have cc1:=hI.cell p2 oM nom;exact xgu
    ·exact xgt (hI.e mm7 (hd 7)) (hI.e mm8 (hd 8))
   intro w10 hlw10 hbw10 holdw10 T hT;simp only[Fin,E,EI,VP,VSl,VN,xgg,xgh,xgi,xgj]at hT;subst hT;simp only[xgl,xgk];have hKa:=hK9.below hbw10;have hya:=hy.ext (lx hbw10);have hxa:=hx9.ext (lx hbw10);have hbka:=hbk.below hbw10;obtain⟨sn,sa,sl,sc,y1,y2,y3,y4,-⟩:=hKa.v.elem hlt hbvr hi;obtain⟨hP,hOP⟩:=hKa.putV hlt hbvr hi hya;have HPP:=xgv (And.intro hP (And.intro hOP (And.intro (hOP.blk hbka hne) (hxa.ext hOP.lext))));have hO:=hO.trans (zM.of _ hbw10);clear hP hOP o1 p1 p2 q0 q1 q2 q3 q4 q5 q6 q7 q8;go_upto_region 11 with(fail)
   refine zC ?_;intro Wb hWb;obtain⟨hP,hOP,hbkb,hxb⟩:=HPP.out;rw[<-hWb.out]at hP hOP hbkb hxb;have hO:=hO.trans (hOP.mono fun k _ hk=>by rw[hk];exact(.inr (.inr hzv):(Z3 (.slice (some ⟨gm,0,none⟩) R cm) (.slice (some ⟨gu,0,none⟩) R cu) (.slice (some ⟨gv,0,none⟩) R cv) bm bu bv) bVr));clear hWb HPP y1 y2 y3 y4 hKa hK9 hbka hbk hOP;obtain⟨q0,q1,q2,q3,q4,q5,q6,q7,q8⟩:=hP.blk.nine;obtain⟨k1,k2,k3,k4⟩:=hbkb.two;have lbw:=hP.blk.lt;have lg:=hP.zlt (b:=gv) (.inr (.inr (.inr rfl)));have lb:=hP.zlt (b:=bVr) (.inr (.inr hzv));have lbk:=hbkb.lt;have o1:=hP.v.rowc hlt hbvr;refine zB 11 rfl (RI Wb (Wb.heap.size) _ 51
     [VP 0 112 bw 0,VP 1 113 bw 0,VP 2 114 bw 6,VP 3 115 bw 8,VSl 4 116 gv R cv,VN 5 117 c,VP 6 118 gv c,VSl 7 119 bVr R R,VN 8 120 j,E 9 121 (.agg #[.bool xs,.slice xa xl xc]),VP 10 122 bVr (j*2)] [] []) kR RI.start (RI.fin kR ?fin4) ?steps4
   case steps4=>
    refine⟨?_,?_,?_,?_,?_,?_,?_,?_,?_,?_,?_,trivial⟩<;>(intro L T wS hL hd hcl hI K hK;try refine zA rfl ?_)
    ·exact xgs (hI.k 0 rfl kR)
    ·exact xgs (hI.e mm0 (hd 0))
    ·exact xgs (hI.e mm1 (hd 1))
    ·exact xgs (hI.e mm2 (hd 2))
    ·have zt3:=hI.e mm3 (hd 3)
     have cc0:=hI.cell q8 oM nom;exact xgu
    ·exact xgs (hI.k 7 rfl kR)
    ·exact xgt (hI.e mm4 (hd 4)) (hI.e mm5 (hd 5))
    ·have zt6:=hI.e mm6 (hd 6)
     have cc0:=hI.cell o1 oM nom;exact xgu
    ·exact xgs (hI.k 2 rfl kR)
    ·have zt:=hI.k 8 rfl kR
     have cc0:=hI.cell k1 oM nom;have cc1:=hI.cell k2 oM nom;exact xgu
    ·exact xgt (hI.e mm7 (hd 7)) (hI.e mm8 (hd 8))
   intro w12 hlw12 hbw12 holdw12 T hT;simp only[Fin,E,EI,VP,VSl,VN,xgg,xgh,xgi,xgj]at hT;subst hT;simp only[xgl,xgk];have hKc:=hP.below hbw12;have hxc:=hxb.ext (lx hbw12);obtain⟨sn,sa,sl,sc,y1,y2,y3,y4,-⟩:=hKc.v.elem hlt hbvr hj;obtain⟨hP2,hOP2⟩:=hKc.putV hlt hbvr hj hxc;rw[zMe]at hP2;have hO9:=hO.trans (zM.of _ hbw12);clear o1 k1 k2 k3 k4 q0 q1 q2 q3 q4 q5 q6 q7 q8;go_wp2;go_roundw
   case rel=>exact⟨c+1,by omega,by simp,hO9.trans (hOP2.mono fun k _ hk=>by rw[hk];exact(.inr (.inr hzv):(Z3 (.slice (some ⟨gm,0,none⟩) R cm) (.slice (some ⟨gu,0,none⟩) R cu) (.slice (some ⟨gv,0,none⟩) R cv) bm bu bv) bVr)),hP2⟩
   case measure=>simp[intOf];omega
  ·have hcC:c=R:=by omega
   replace hK:K9 wr bw (.slice (some ⟨gm,0,none⟩) R cm) (.slice (some ⟨gu,0,none⟩) R cu) (.slice (some ⟨gv,0,none⟩) R cv) R C (zH1 bm i j) (zH1 bu i j) bv (x.swap i j).s (x.swap i j).t (fun a b=>(x.swap i j).i b a):=hK.congr (fun _ _ _ _=>rfl) (fun _ _ _ _=>rfl) (fun a ha b _=>by
    show zLo _ i j c a b=_;unfold zLo;rw[if_pos oM];rfl)
   go_wp2;exact bodyPost_end (results_none rfl _ _ _) rfl ⟨⟨_,rfl⟩,hO,hK⟩
end Go.Proofs.YtgnmdddaiefooaaGreat
