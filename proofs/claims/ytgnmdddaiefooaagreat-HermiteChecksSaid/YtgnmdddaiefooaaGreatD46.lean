/- torsionref12: Work.AddTo (printed by genK.py). torsionref12: Work.Negate (printed by genK.py). -/
import Derived.Test.YtgnmdddaiefooaaGreatD45
set_option linter.unusedVariables false
set_option linter.unusedSimpArgs false
set_option linter.unusedSectionVars false
set_option maxHeartbeats 16000000
set_option maxRecDepth 100000
namespace Go.Proofs.YtgnmdddaiefooaaGreat
open Go.RowKit
theorem r12add_any (bw : Nat) (AM AU AV : Value) (R C i j : Nat) (bm bu bv : List Nat) (x : Bst) (kv : Value) (k : Int) (w : World) (h : K9 w bw AM AU AV R C bm bu bv x.s x.t (fun a b=>x.i b a)) (hi : i < R) (hj : j < R) (hij : i ≠ j) (hk : IntV w kv k) (hks : Sm k) (hR : R<=1000000) (hC : C<=1000000)
  (hS : ∀t,t < C->Sm (x.s i t)/\Sm (x.s j t)/\Sm (k * x.s j t)) (hT : ∀t,t < R->Sm (x.t i t)/\Sm (x.t j t)/\Sm (k * x.t j t)) (hV : ∀t,t < R->Sm (x.i j t)/\Sm (x.i i t)/\Sm (k * x.i i t)) :
  Calls Tryz.prog 82 #[.pointer (some ⟨bw,0,none⟩),.int .i64 i,.int .i64 j,kv] w fun e w'=>(∃u,e = .returned u)/\OnlyZ (Z3 AM AU AV bm bu bv) w w'/\K9 w' bw AM AU AV R C bm bu bv (x.add i j k).s (x.add i j k).t (fun a b=>(x.add i j k).i b a):=by
 have HSM:=xgv hS;have HSU:=xgv hT;have HSV:=xgv hV;obtain ⟨gm,cm,rfl⟩:=h.m.base oM;obtain ⟨gu,cu,rfl⟩:=h.u.base oM;obtain ⟨gv,cv,rfl⟩:=h.v.base oM;obtain ⟨bMi,hbmi⟩:=h.m.bex hi;obtain ⟨bUi,hbui⟩:=h.u.bex hi;obtain ⟨bMj,hbmj⟩:=h.m.bex hj;obtain ⟨bUj,hbuj⟩:=h.u.bex hj;have HKS:=xgv hks;have HIJ:=xgv hij;obtain ⟨kn,ka,kl,kc,kx,rfl,hkx⟩:=id hk;have HKX:=xgw hkx;have hzl:=fun b hb=>h.zlt (b:=b) hb
 clear hS hT hV hks hij hkx;go_enter Tryz.func82,Tryz.ntmps82;go_upto_region 1 with (fail)
 refine wp_world ?_;intro W0 hW0;obtain ⟨hB0,hbk,hs0⟩:=world1 hW0;have hK:=h.below hB0;have hkw:=hk.ext (lx hB0);have hO:=OnlyZ.of (Z3 (.slice (some ⟨gm,0,none⟩) R cm) (.slice (some ⟨gu,0,none⟩) R cu) (.slice (some ⟨gv,0,none⟩) R cv) bm bu bv) hB0;clear hW0 h;go_wp2;go_loopw [8] (fun jv wr=>∃c : Nat,c<=C/\jv = .int .i64 c/\OnlyZ (Z3 (.slice (some ⟨gm,0,none⟩) R cm) (.slice (some ⟨gu,0,none⟩) R cu) (.slice (some ⟨gv,0,none⟩) R cv) bm bu bv) w wr/\Blk wr w.heap.size 51 #[.bool kn,.slice ka kl kc]/\IntV wr (.agg #[.bool kn,.slice ka kl kc]) k/\K9 wr bw (.slice (some ⟨gm,0,none⟩) R cm) (.slice (some ⟨gu,0,none⟩) R cu) (.slice (some ⟨gv,0,none⟩) R cv) R C bm bu bv (upR x.s (x.add i j k).s i c) x.t (fun a b=>x.i b a)) (fun jv _=>C - (intOf jv).toNat)
 case atStart=>exact ⟨0,by omega,rfl,hO,hbk,hkw,by rw [upR_zero]; exact hK⟩
 case round=>
  clear hK hO hbk hkw;obtain ⟨c,hc,rfl,hO,hbk,hkw,hK⟩:=hrel;obtain ⟨q0,q1,q2,q3,q4,q5,q6,q7,q8⟩:=hK.blk.nine;have lbw:=hK.blk.lt;obtain ⟨k1,k2,k3,k4⟩:=hbk.two;have lbk:=hbk.lt;by_cases hlt : c < C
  ·have lg:=hK.zlt (b:=gm) (.inl (.inr rfl))
   have lb:=hK.zlt (b:=bMi) (.inl (.inl (xgd hbmi)));have lb2:=hK.zlt (b:=bMj) (.inl (.inl (xgd hbmj)));have o1:=hK.m.rowc hi hbmi;obtain ⟨xs,xa,xl,xc,p1,p2,-,-,hx⟩:=hK.m.elem hi hbmi hlt;rw [upR_at] at hx;have o2:=hK.m.rowc hj hbmj;obtain ⟨ys,ya,yl,yc,z1,z2,-,-,hy⟩:=hK.m.elem hj hbmj hlt;rw [upR_ne _ _ HIJ.out] at hy;obtain ⟨s1,s2,s3⟩:=HSM.out c hlt;have T1:=xgv s1;have T2:=xgv s2;have T3:=xgv s3;clear s1 s2 s3;go_upto_region 4 with (fail)
   refine wp_region_headed 35 rfl (RI wr (wr.heap.size) _ 51
     [VP 0 20 bw 0,VP 1 21 bw 0,VP 2 22 bw 0,VP 3 23 bw 2,VSl 4 24 gm R cm,VN 5 25 i,VP 6 26 gm i,VSl 7 27 bMi C C,VN 8 28 c,VP 9 29 bw 0,VP 10 30 bw 0,VP 11 31 bw 0,VP 12 32 bw 2,VSl 13 33 gm R cm,VN 14 34 i,VP 15 35 gm i,VSl 16 36 bMi C C,VN 17 37 c,VP 18 38 bMi (c * 2),E 19 39 (.agg #[.bool xs,.slice xa xl xc]),E 20 40 (.agg #[.bool kn,.slice ka kl kc]),VP 21 41 bw 0,VP 22 42 bw 0,VP 23 43 bw 0,VP 24 44 bw 2,VSl 25 45 gm R cm,VN 26 46 j,VP 27 47 gm j,VSl 28 48 bMj C C,VN 29 49 c,VP 30 50 bMj (c * 2),E 31 51 (.agg #[.bool ys,.slice ya yl yc]),EI 32 52 (k * x.s j c),EI 33 53 (x.s i c + k * x.s j c),VP 34 54 bMi (c * 2)] [] []) kR RI.start (RI.fin kR ?fin1) ?steps1
   case steps1=>
    refine ⟨?_,?_,?_,?_,?_,?_,?_,?_,?_,?_,?_,?_,?_,?_,?_,?_,?_,?_,?_,?_,?_,?_,?_,?_,?_,?_,?_,?_,?_,?_,?_,?_,?_,?_,?_,trivial⟩ <;> (intro L T wS hL hd hcl hI K hK; try refine step_wanted rfl ?_)
    ·exact xgs (hI.k 0 rfl kR)
    ·exact xgs (hI.e mm0 (hd 0))
    ·exact xgs (hI.e mm1 (hd 1))
    ·exact xgs (hI.e mm2 (hd 2))
    ·have zt3:=hI.e mm3 (hd 3)
     have cc0:=hI.cell q2 oM nom; exact xgu
    ·exact xgs (hI.k 1 rfl kR)
    ·exact xgt (hI.e mm4 (hd 4)) (hI.e mm5 (hd 5))
    ·have zt6:=hI.e mm6 (hd 6)
     have cc0:=hI.cell o1 oM nom; exact xgu
    ·exact xgs (hI.k 8 rfl kR)
    ·exact xgs (hI.k 0 rfl kR)
    ·exact xgs (hI.e mm9 (hd 9))
    ·exact xgs (hI.e mm10 (hd 10))
    ·exact xgs (hI.e mm11 (hd 11))
    ·have zt12:=hI.e mm12 (hd 12)
     have cc0:=hI.cell q2 oM nom; exact xgu
    ·exact xgs (hI.k 1 rfl kR)
    ·exact xgt (hI.e mm13 (hd 13)) (hI.e mm14 (hd 14))
    ·have zt15:=hI.e mm15 (hd 15)
     have cc0:=hI.cell o1 oM nom; exact xgu
    ·exact xgs (hI.k 8 rfl kR)
    ·exact xgt (hI.e mm16 (hd 16)) (hI.e mm17 (hd 17))
    ·have zt18:=hI.e mm18 (hd 18)
     have cc0:=hI.cell p1 oM nom;have cc1:=hI.cell p2 oM nom; exact xgu
    ·have zt:=hI.k 7 rfl kR
     have cc0:=hI.cell k1 oM nom;have cc1:=hI.cell k2 oM nom; exact xgu
    ·exact xgs (hI.k 0 rfl kR)
    ·exact xgs (hI.e mm21 (hd 21))
    ·exact xgs (hI.e mm22 (hd 22))
    ·exact xgs (hI.e mm23 (hd 23))
    ·have zt24:=hI.e mm24 (hd 24)
     have cc0:=hI.cell q2 oM nom; exact xgu
    ·exact xgs (hI.k 2 rfl kR)
    ·exact xgt (hI.e mm25 (hd 25)) (hI.e mm26 (hd 26))
    ·have zt27:=hI.e mm27 (hd 27)
     have cc0:=hI.cell o2 oM nom; exact xgu
    ·exact xgs (hI.k 8 rfl kR)
    ·exact xgt (hI.e mm28 (hd 28)) (hI.e mm29 (hd 29))
    ·have zt30:=hI.e mm30 (hd 30)
     have cc0:=hI.cell z1 oM nom;have cc1:=hI.cell z2 oM nom; exact xgu
    ·have zt20:=hI.e mm20 (hd 20)
     have zt31:=hI.e mm31 (hd 31);go_simp;refine (r1mul_any _ _ k (x.s j c) _ (hkw.ext hI.lext) (hy.ext hI.lext) HKS.out T2.out).mono ?_;exact xgo
    ·have zt19:=hI.e mm19 (hd 19)
     obtain ⟨v32,zt32,h32⟩:=hI.vi mm32 (hd 32);go_simp;refine (r1add_any _ _ (x.s i c) (k * x.s j c) _ (hx.ext hI.lext) h32 T1.out T3.out).mono ?_;exact xgo
    ·exact xgt (hI.e mm7 (hd 7)) (hI.e mm8 (hd 8))
   intro w9 hlw9 hbw9 holdw9 T hT;simp only [Fin,E,EI,VP,VSl,VN,xgg,xgh,xgi,xgj] at hT;obtain ⟨va32,ha32,va33,ha33,rfl⟩:=hT;simp only [xgl,xgk];obtain ⟨pn,pa,pl,pc,px,rfl,hpx⟩:=id ha33;have HPX:=xgw hpx;clear hpx;have hK9:=hK.below hbw9;have hbk9:=hbk.below hbw9;have hkw9:=hkw.ext (lx hbw9);obtain ⟨sn,sa,sl,sc,y1,y2,y3,y4,-⟩:=hK9.m.elem hi hbmi hlt;obtain ⟨hP,hOP⟩:=hK9.putM hi hbmi hlt ha33;rw [upR_put (by show _ = addF x.s i j k i c; unfold addF; rw [if_pos rfl])] at hP;have hO9:=hO.trans (OnlyZ.of _ hbw9);have hZ : Z3 (.slice (some ⟨gm,0,none⟩) R cm) (.slice (some ⟨gu,0,none⟩) R cu) (.slice (some ⟨gv,0,none⟩) R cv) bm bu bv bMi:=.inl (.inl (xgd hbmi));have hne : w.heap.size ≠ bMi:=by have:=hzl _ hZ; omega
   clear o1 o2 p1 p2 z1 z2 k1 k2 k3 k4;go_wp2;go_roundw
   case rel=>exact ⟨c + 1,by omega,by simp,hO9.trans (hOP.mono fun k _ hk=>by rw [hk]; exact hZ),hOP.blk hbk9 hne,hkw9.ext hOP.lext,hP⟩
   case measure=>simp [intOf]; omega
  ·have hcC : c = C:=by omega
   replace hK : K9 wr bw (.slice (some ⟨gm,0,none⟩) R cm) (.slice (some ⟨gu,0,none⟩) R cu) (.slice (some ⟨gv,0,none⟩) R cv) R C bm bu bv (x.add i j k).s x.t (fun a b=>x.i b a):=hK.congr (fun a _ b hb=>by
      show upR _ _ i c a b = _;unfold upR;by_cases h1 : a = i
      ·rw [if_pos ⟨h1,by omega⟩]
      ·rw [if_neg (fun h=>h1 h.1)]
       show _ = addF x.s i j k a b;unfold addF; rw [if_neg h1]) (fun _ _ _ _=>rfl) (fun _ _ _ _=>rfl)
   go_wp2;go_loopw [9] (fun jv wr=>∃c : Nat,c<=R/\jv = .int .i64 c/\OnlyZ (Z3 (.slice (some ⟨gm,0,none⟩) R cm) (.slice (some ⟨gu,0,none⟩) R cu) (.slice (some ⟨gv,0,none⟩) R cv) bm bu bv) w wr/\Blk wr w.heap.size 51 #[.bool kn,.slice ka kl kc]/\IntV wr (.agg #[.bool kn,.slice ka kl kc]) k/\K9 wr bw (.slice (some ⟨gm,0,none⟩) R cm) (.slice (some ⟨gu,0,none⟩) R cu) (.slice (some ⟨gv,0,none⟩) R cv) R C bm bu bv (x.add i j k).s (upR x.t (x.add i j k).t i c) (fun a b=>x.i b a)) (fun jv _=>R - (intOf jv).toNat)
   case atStart=>exact ⟨0,by omega,rfl,hO,hbk,hkw,by rw [upR_zero]; exact hK⟩
   case round=>
    clear hK hO hbk hkw;obtain ⟨c,hc,rfl,hO,hbk,hkw,hK⟩:=hrel;obtain ⟨q0,q1,q2,q3,q4,q5,q6,q7,q8⟩:=hK.blk.nine;have lbw:=hK.blk.lt;obtain ⟨k1,k2,k3,k4⟩:=hbk.two;have lbk:=hbk.lt;by_cases hlt : c < R
    ·have lg:=hK.zlt (b:=gu) (.inr (.inl (.inr rfl)))
     have lb:=hK.zlt (b:=bUi) (.inr (.inl (.inl (xgd hbui))));have lb2:=hK.zlt (b:=bUj) (.inr (.inl (.inl (xgd hbuj))));have o1:=hK.u.rowc hi hbui;obtain ⟨xs,xa,xl,xc,p1,p2,-,-,hx⟩:=hK.u.elem hi hbui hlt;rw [upR_at] at hx;have o2:=hK.u.rowc hj hbuj;obtain ⟨ys,ya,yl,yc,z1,z2,-,-,hy⟩:=hK.u.elem hj hbuj hlt;rw [upR_ne _ _ HIJ.out] at hy;obtain ⟨s1,s2,s3⟩:=HSU.out c hlt;have T1:=xgv s1;have T2:=xgv s2;have T3:=xgv s3;clear s1 s2 s3;go_upto_region 8 with (fail)
     refine wp_region_headed 35 rfl (RI wr (wr.heap.size) _ 51
       [VP 0 64 bw 0,VP 1 65 bw 0,VP 2 66 bw 3,VP 3 67 bw 5,VSl 4 68 gu R cu,VN 5 69 i,VP 6 70 gu i,VSl 7 71 bUi R R,VN 8 72 c,VP 9 73 bw 0,VP 10 74 bw 0,VP 11 75 bw 3,VP 12 76 bw 5,VSl 13 77 gu R cu,VN 14 78 i,VP 15 79 gu i,VSl 16 80 bUi R R,VN 17 81 c,VP 18 82 bUi (c * 2),E 19 83 (.agg #[.bool xs,.slice xa xl xc]),E 20 84 (.agg #[.bool kn,.slice ka kl kc]),VP 21 85 bw 0,VP 22 86 bw 0,VP 23 87 bw 3,VP 24 88 bw 5,VSl 25 89 gu R cu,VN 26 90 j,VP 27 91 gu j,VSl 28 92 bUj R R,VN 29 93 c,VP 30 94 bUj (c * 2),E 31 95 (.agg #[.bool ys,.slice ya yl yc]),EI 32 96 (k * x.t j c),EI 33 97 (x.t i c + k * x.t j c),VP 34 98 bUi (c * 2)] [] []) kR RI.start (RI.fin kR ?fin2) ?steps2
     case steps2=>
      refine ⟨?_,?_,?_,?_,?_,?_,?_,?_,?_,?_,?_,?_,?_,?_,?_,?_,?_,?_,?_,?_,?_,?_,?_,?_,?_,?_,?_,?_,?_,?_,?_,?_,?_,?_,?_,trivial⟩ <;> (intro L T wS hL hd hcl hI K hK; try refine step_wanted rfl ?_)
      ·exact xgs (hI.k 0 rfl kR)
      ·exact xgs (hI.e mm0 (hd 0))
      ·exact xgs (hI.e mm1 (hd 1))
      ·exact xgs (hI.e mm2 (hd 2))
      ·have zt3:=hI.e mm3 (hd 3)
       have cc0:=hI.cell q5 oM nom; exact xgu
      ·exact xgs (hI.k 1 rfl kR)
      ·exact xgt (hI.e mm4 (hd 4)) (hI.e mm5 (hd 5))
      ·have zt6:=hI.e mm6 (hd 6)
       have cc0:=hI.cell o1 oM nom; exact xgu
      ·exact xgs (hI.k 9 rfl kR)
      ·exact xgs (hI.k 0 rfl kR)
      ·exact xgs (hI.e mm9 (hd 9))
      ·exact xgs (hI.e mm10 (hd 10))
      ·exact xgs (hI.e mm11 (hd 11))
      ·have zt12:=hI.e mm12 (hd 12)
       have cc0:=hI.cell q5 oM nom; exact xgu
      ·exact xgs (hI.k 1 rfl kR)
      ·exact xgt (hI.e mm13 (hd 13)) (hI.e mm14 (hd 14))
      ·have zt15:=hI.e mm15 (hd 15)
       have cc0:=hI.cell o1 oM nom; exact xgu
      ·exact xgs (hI.k 9 rfl kR)
      ·exact xgt (hI.e mm16 (hd 16)) (hI.e mm17 (hd 17))
      ·have zt18:=hI.e mm18 (hd 18)
       have cc0:=hI.cell p1 oM nom;have cc1:=hI.cell p2 oM nom; exact xgu
      ·have zt:=hI.k 7 rfl kR
       have cc0:=hI.cell k1 oM nom;have cc1:=hI.cell k2 oM nom; exact xgu
      ·exact xgs (hI.k 0 rfl kR)
      ·exact xgs (hI.e mm21 (hd 21))
      ·exact xgs (hI.e mm22 (hd 22))
      ·exact xgs (hI.e mm23 (hd 23))
      ·have zt24:=hI.e mm24 (hd 24)
       have cc0:=hI.cell q5 oM nom; exact xgu
      ·exact xgs (hI.k 2 rfl kR)
      ·exact xgt (hI.e mm25 (hd 25)) (hI.e mm26 (hd 26))
      ·have zt27:=hI.e mm27 (hd 27)
       have cc0:=hI.cell o2 oM nom; exact xgu
      ·exact xgs (hI.k 9 rfl kR)
      ·exact xgt (hI.e mm28 (hd 28)) (hI.e mm29 (hd 29))
      ·have zt30:=hI.e mm30 (hd 30)
       have cc0:=hI.cell z1 oM nom;have cc1:=hI.cell z2 oM nom; exact xgu
      ·have zt20:=hI.e mm20 (hd 20)
       have zt31:=hI.e mm31 (hd 31);go_simp;refine (r1mul_any _ _ k (x.t j c) _ (hkw.ext hI.lext) (hy.ext hI.lext) HKS.out T2.out).mono ?_;exact xgo
      ·have zt19:=hI.e mm19 (hd 19)
       obtain ⟨v32,zt32,h32⟩:=hI.vi mm32 (hd 32);go_simp;refine (r1add_any _ _ (x.t i c) (k * x.t j c) _ (hx.ext hI.lext) h32 T1.out T3.out).mono ?_;exact xgo
      ·exact xgt (hI.e mm7 (hd 7)) (hI.e mm8 (hd 8))
     intro w9 hlw9 hbw9 holdw9 T hT;simp only [Fin,E,EI,VP,VSl,VN,xgg,xgh,xgi,xgj] at hT;obtain ⟨va32,ha32,va33,ha33,rfl⟩:=hT;simp only [xgl,xgk];obtain ⟨pn,pa,pl,pc,px,rfl,hpx⟩:=id ha33;have HPX:=xgw hpx;clear hpx;have hK9:=hK.below hbw9;have hbk9:=hbk.below hbw9;have hkw9:=hkw.ext (lx hbw9);obtain ⟨sn,sa,sl,sc,y1,y2,y3,y4,-⟩:=hK9.u.elem hi hbui hlt;obtain ⟨hP,hOP⟩:=hK9.putU hi hbui hlt ha33;rw [upR_put (by show _ = addF x.t i j k i c; unfold addF; rw [if_pos rfl])] at hP;have hO9:=hO.trans (OnlyZ.of _ hbw9);have hZ : Z3 (.slice (some ⟨gm,0,none⟩) R cm) (.slice (some ⟨gu,0,none⟩) R cu) (.slice (some ⟨gv,0,none⟩) R cv) bm bu bv bUi:=.inr (.inl (.inl (xgd hbui)));have hne : w.heap.size ≠ bUi:=by have:=hzl _ hZ; omega
     clear o1 o2 p1 p2 z1 z2 k1 k2 k3 k4;go_wp2;go_roundw
     case rel=>exact ⟨c + 1,by omega,by simp,hO9.trans (hOP.mono fun k _ hk=>by rw [hk]; exact hZ),hOP.blk hbk9 hne,hkw9.ext hOP.lext,hP⟩
     case measure=>simp [intOf]; omega
    ·have hcC : c = R:=by omega
     replace hK : K9 wr bw (.slice (some ⟨gm,0,none⟩) R cm) (.slice (some ⟨gu,0,none⟩) R cu) (.slice (some ⟨gv,0,none⟩) R cv) R C bm bu bv (x.add i j k).s (x.add i j k).t (fun a b=>x.i b a):=hK.congr (fun _ _ _ _=>rfl) (fun a _ b hb=>by
        show upR _ _ i c a b = _;unfold upR;by_cases h1 : a = i
        ·rw [if_pos ⟨h1,by omega⟩]
        ·rw [if_neg (fun h=>h1 h.1)]
         show _ = addF x.t i j k a b;unfold addF; rw [if_neg h1]) (fun _ _ _ _=>rfl)
     go_wp2;go_loopw [10] (fun jv wr=>∃c : Nat,c<=R/\jv = .int .i64 c/\OnlyZ (Z3 (.slice (some ⟨gm,0,none⟩) R cm) (.slice (some ⟨gu,0,none⟩) R cu) (.slice (some ⟨gv,0,none⟩) R cv) bm bu bv) w wr/\Blk wr w.heap.size 51 #[.bool kn,.slice ka kl kc]/\IntV wr (.agg #[.bool kn,.slice ka kl kc]) k/\K9 wr bw (.slice (some ⟨gm,0,none⟩) R cm) (.slice (some ⟨gu,0,none⟩) R cu) (.slice (some ⟨gv,0,none⟩) R cv) R C bm bu bv (x.add i j k).s (x.add i j k).t (upC (fun a b=>x.i b a) (fun a b=>(x.add i j k).i b a) j c)) (fun jv _=>R - (intOf jv).toNat)
     case atStart=>exact ⟨0,by omega,rfl,hO,hbk,hkw,by rw [upC_zero]; exact hK⟩
     case round=>
      clear hK hO hbk hkw;obtain ⟨c,hc,rfl,hO,hbk,hkw,hK⟩:=hrel;obtain ⟨q0,q1,q2,q3,q4,q5,q6,q7,q8⟩:=hK.blk.nine;have lbw:=hK.blk.lt;obtain ⟨k1,k2,k3,k4⟩:=hbk.two;have lbk:=hbk.lt;by_cases hlt : c < R
      ·have lg:=hK.zlt (b:=gv) (.inr (.inr (.inr rfl)))
       obtain ⟨bVr,hbvr⟩:=hK.v.bex hlt;have lb:=hK.zlt (b:=bVr) (.inr (.inr (.inl (xgd hbvr))));have o1:=hK.v.rowc hlt hbvr;obtain ⟨xs,xa,xl,xc,p1,p2,-,-,hx⟩:=hK.v.elem hlt hbvr hj;rw [upC_at] at hx;obtain ⟨ys,ya,yl,yc,z1,z2,-,-,hy⟩:=hK.v.elem hlt hbvr hi;rw [upC_ne _ _ (Ne.symm HIJ.out)] at hy;obtain ⟨s1,s2,s3⟩:=HSV.out c hlt;have T1:=xgv s1;have T2:=xgv s2;have T3:=xgv s3;clear s1 s2 s3;go_upto_region 12 with (fail)
       refine wp_region_headed 35 rfl (RI wr (wr.heap.size) _ 51
         [VP 0 108 bw 0,VP 1 109 bw 0,VP 2 110 bw 6,VP 3 111 bw 8,VSl 4 112 gv R cv,VN 5 113 c,VP 6 114 gv c,VSl 7 115 bVr R R,VN 8 116 j,VP 9 117 bw 0,VP 10 118 bw 0,VP 11 119 bw 6,VP 12 120 bw 8,VSl 13 121 gv R cv,VN 14 122 c,VP 15 123 gv c,VSl 16 124 bVr R R,VN 17 125 j,VP 18 126 bVr (j * 2),E 19 127 (.agg #[.bool xs,.slice xa xl xc]),E 20 128 (.agg #[.bool kn,.slice ka kl kc]),VP 21 129 bw 0,VP 22 130 bw 0,VP 23 131 bw 6,VP 24 132 bw 8,VSl 25 133 gv R cv,VN 26 134 c,VP 27 135 gv c,VSl 28 136 bVr R R,VN 29 137 i,VP 30 138 bVr (i * 2),E 31 139 (.agg #[.bool ys,.slice ya yl yc]),EI 32 140 (k * x.i i c),EI 33 141 (x.i j c - k * x.i i c),VP 34 142 bVr (j * 2)] [] []) kR RI.start (RI.fin kR ?fin3) ?steps3
       case steps3=>
        refine ⟨?_,?_,?_,?_,?_,?_,?_,?_,?_,?_,?_,?_,?_,?_,?_,?_,?_,?_,?_,?_,?_,?_,?_,?_,?_,?_,?_,?_,?_,?_,?_,?_,?_,?_,?_,trivial⟩ <;> (intro L T wS hL hd hcl hI K hK; try refine step_wanted rfl ?_)
        ·exact xgs (hI.k 0 rfl kR)
        ·exact xgs (hI.e mm0 (hd 0))
        ·exact xgs (hI.e mm1 (hd 1))
        ·exact xgs (hI.e mm2 (hd 2))
        ·have zt3:=hI.e mm3 (hd 3)
         have cc0:=hI.cell q8 oM nom; exact xgu
        ·exact xgs (hI.k 10 rfl kR)
        ·exact xgt (hI.e mm4 (hd 4)) (hI.e mm5 (hd 5))
        ·have zt6:=hI.e mm6 (hd 6)
         have cc0:=hI.cell o1 oM nom; exact xgu
        ·exact xgs (hI.k 2 rfl kR)
        ·exact xgs (hI.k 0 rfl kR)
        ·exact xgs (hI.e mm9 (hd 9))
        ·exact xgs (hI.e mm10 (hd 10))
        ·exact xgs (hI.e mm11 (hd 11))
        ·have zt12:=hI.e mm12 (hd 12)
         have cc0:=hI.cell q8 oM nom; exact xgu
        ·exact xgs (hI.k 10 rfl kR)
        ·exact xgt (hI.e mm13 (hd 13)) (hI.e mm14 (hd 14))
        ·have zt15:=hI.e mm15 (hd 15)
         have cc0:=hI.cell o1 oM nom; exact xgu
        ·exact xgs (hI.k 2 rfl kR)
        ·exact xgt (hI.e mm16 (hd 16)) (hI.e mm17 (hd 17))
        ·have zt18:=hI.e mm18 (hd 18)
         have cc0:=hI.cell p1 oM nom;have cc1:=hI.cell p2 oM nom; exact xgu
        ·have zt:=hI.k 7 rfl kR
         have cc0:=hI.cell k1 oM nom;have cc1:=hI.cell k2 oM nom; exact xgu
        ·exact xgs (hI.k 0 rfl kR)
        ·exact xgs (hI.e mm21 (hd 21))
        ·exact xgs (hI.e mm22 (hd 22))
        ·exact xgs (hI.e mm23 (hd 23))
        ·have zt24:=hI.e mm24 (hd 24)
         have cc0:=hI.cell q8 oM nom; exact xgu
        ·exact xgs (hI.k 10 rfl kR)
        ·exact xgt (hI.e mm25 (hd 25)) (hI.e mm26 (hd 26))
        ·have zt27:=hI.e mm27 (hd 27)
         have cc0:=hI.cell o1 oM nom; exact xgu
        ·exact xgs (hI.k 1 rfl kR)
        ·exact xgt (hI.e mm28 (hd 28)) (hI.e mm29 (hd 29))
        ·have zt30:=hI.e mm30 (hd 30)
         have cc0:=hI.cell z1 oM nom;have cc1:=hI.cell z2 oM nom; exact xgu
        ·have zt20:=hI.e mm20 (hd 20)
         have zt31:=hI.e mm31 (hd 31);go_simp;refine (r1mul_any _ _ k (x.i i c) _ (hkw.ext hI.lext) (hy.ext hI.lext) HKS.out T2.out).mono ?_;exact xgo
        ·have zt19:=hI.e mm19 (hd 19)
         obtain ⟨v32,zt32,h32⟩:=hI.vi mm32 (hd 32);go_simp;refine (r1sub_any _ _ (x.i j c) (k * x.i i c) _ (hx.ext hI.lext) h32 T1.out T3.out).mono ?_;exact xgo
        ·exact xgt (hI.e mm7 (hd 7)) (hI.e mm8 (hd 8))
       intro w9 hlw9 hbw9 holdw9 T hT;simp only [Fin,E,EI,VP,VSl,VN,xgg,xgh,xgi,xgj] at hT;obtain ⟨va32,ha32,va33,ha33,rfl⟩:=hT;simp only [xgl,xgk];obtain ⟨pn,pa,pl,pc,px,rfl,hpx⟩:=id ha33;have HPX:=xgw hpx;clear hpx;have hK9:=hK.below hbw9;have hbk9:=hbk.below hbw9;have hkw9:=hkw.ext (lx hbw9);obtain ⟨sn,sa,sl,sc,y1,y2,y3,y4,-⟩:=hK9.v.elem hlt hbvr hj;obtain ⟨hP,hOP⟩:=hK9.putV hlt hbvr hj ha33;rw [upC_put (by show _ = addF x.i j i (-k) j c; unfold addF; rw [if_pos rfl,Int.neg_mul,Int.sub_eq_add_neg])] at hP;have hO9:=hO.trans (OnlyZ.of _ hbw9);have hZ : Z3 (.slice (some ⟨gm,0,none⟩) R cm) (.slice (some ⟨gu,0,none⟩) R cu) (.slice (some ⟨gv,0,none⟩) R cv) bm bu bv bVr:=.inr (.inr (.inl (xgd hbvr)));have hne : w.heap.size ≠ bVr:=by have:=hzl _ hZ; omega
       clear o1 p1 p2 z1 z2 k1 k2 k3 k4;go_wp2;go_roundw
       case rel=>exact ⟨c + 1,by omega,by simp,hO9.trans (hOP.mono fun k _ hk=>by rw [hk]; exact hZ),hOP.blk hbk9 hne,hkw9.ext hOP.lext,hP⟩
       case measure=>simp [intOf]; omega
      ·have hcC : c = R:=by omega
       replace hK : K9 wr bw (.slice (some ⟨gm,0,none⟩) R cm) (.slice (some ⟨gu,0,none⟩) R cu) (.slice (some ⟨gv,0,none⟩) R cv) R C bm bu bv (x.add i j k).s (x.add i j k).t (fun a b=>(x.add i j k).i b a):=hK.congr (fun _ _ _ _=>rfl) (fun _ _ _ _=>rfl) (fun a ha b _=>by
          show upC _ _ j c a b = _;unfold upC;by_cases h1 : b = j
          ·rw [if_pos ⟨h1,by omega⟩]
          ·rw [if_neg (fun h=>h1 h.1)]
           show _ = addF x.i j i (-k) b a;unfold addF; rw [if_neg h1])
       go_wp2;exact bodyPost_end (results_none rfl _ _ _) rfl ⟨⟨_,rfl⟩,hO,hK⟩
theorem r12neg_any (bw : Nat) (AM AU AV : Value) (R C i : Nat) (bm bu bv : List Nat) (x : Bst) (w : World) (h : K9 w bw AM AU AV R C bm bu bv x.s x.t (fun a b=>x.i b a)) (hi : i < R) (hR : R<=1000000) (hC : C<=1000000)
  (hS : ∀t,t < C->Sm (x.s i t)) (hT : ∀t,t < R->Sm (x.t i t)) (hV : ∀t,t < R->Sm (x.i i t)) :
  Calls Tryz.prog 81 #[.pointer (some ⟨bw,0,none⟩),.int .i64 i] w fun e w'=>(∃u,e = .returned u)/\OnlyZ (Z3 AM AU AV bm bu bv) w w'/\K9 w' bw AM AU AV R C bm bu bv (x.neg i).s (x.neg i).t (fun a b=>(x.neg i).i b a):=by
 have HSM:=xgv hS;have HSU:=xgv hT;have HSV:=xgv hV;obtain ⟨gm,cm,rfl⟩:=h.m.base oM;obtain ⟨gu,cu,rfl⟩:=h.u.base oM;obtain ⟨gv,cv,rfl⟩:=h.v.base oM;obtain ⟨bMi,hbmi⟩:=h.m.bex hi;obtain ⟨bUi,hbui⟩:=h.u.bex hi;have hzl:=fun b hb=>h.zlt (b:=b) hb
 clear hS hT hV;go_enter Tryz.func81,Tryz.ntmps81;have hK:=h;have hO:=OnlyZ.refl (Z3 (.slice (some ⟨gm,0,none⟩) R cm) (.slice (some ⟨gu,0,none⟩) R cu) (.slice (some ⟨gv,0,none⟩) R cv) bm bu bv) w;clear h;go_wp2;go_loopw [4] (fun jv wr=>∃c : Nat,c<=C/\jv = .int .i64 c/\OnlyZ (Z3 (.slice (some ⟨gm,0,none⟩) R cm) (.slice (some ⟨gu,0,none⟩) R cu) (.slice (some ⟨gv,0,none⟩) R cv) bm bu bv) w wr/\K9 wr bw (.slice (some ⟨gm,0,none⟩) R cm) (.slice (some ⟨gu,0,none⟩) R cu) (.slice (some ⟨gv,0,none⟩) R cv) R C bm bu bv (upR x.s (x.neg i).s i c) x.t (fun a b=>x.i b a)) (fun jv _=>C - (intOf jv).toNat)
 case atStart=>exact ⟨0,by omega,rfl,hO,by rw [upR_zero]; exact hK⟩
 case round=>
  clear hK hO;obtain ⟨c,hc,rfl,hO,hK⟩:=hrel;obtain ⟨q0,q1,q2,q3,q4,q5,q6,q7,q8⟩:=hK.blk.nine;have lbw:=hK.blk.lt;by_cases hlt : c < C
  ·have lg:=hK.zlt (b:=gm) (.inl (.inr rfl))
   have lb:=hK.zlt (b:=bMi) (.inl (.inl (xgd hbmi)));have o1:=hK.m.rowc hi hbmi;obtain ⟨xs,xa,xl,xc,p1,p2,-,-,hx⟩:=hK.m.elem hi hbmi hlt;rw [upR_at] at hx;have T1:=xgv (HSM.out c hlt);go_upto_region 3 with (fail)
   refine wp_region_headed 22 rfl (RI wr (wr.heap.size) _ 51
     [VP 0 16 bw 0,VP 1 17 bw 0,VP 2 18 bw 0,VP 3 19 bw 2,VSl 4 20 gm R cm,VN 5 21 i,VP 6 22 gm i,VSl 7 23 bMi C C,VN 8 24 c,VP 9 25 bw 0,VP 10 26 bw 0,VP 11 27 bw 0,VP 12 28 bw 2,VSl 13 29 gm R cm,VN 14 30 i,VP 15 31 gm i,VSl 16 32 bMi C C,VN 17 33 c,VP 18 34 bMi (c * 2),E 19 35 (.agg #[.bool xs,.slice xa xl xc]),EI 20 36 (-(x.s i c)),VP 21 37 bMi (c * 2)] [] []) kR RI.start (RI.fin kR ?fin1) ?steps1
   case steps1=>
    refine ⟨?_,?_,?_,?_,?_,?_,?_,?_,?_,?_,?_,?_,?_,?_,?_,?_,?_,?_,?_,?_,?_,?_,trivial⟩ <;> (intro L T wS hL hd hcl hI K hK; try refine step_wanted rfl ?_)
    ·exact xgs (hI.k 0 rfl kR)
    ·exact xgs (hI.e mm0 (hd 0))
    ·exact xgs (hI.e mm1 (hd 1))
    ·exact xgs (hI.e mm2 (hd 2))
    ·have zt3:=hI.e mm3 (hd 3)
     have cc0:=hI.cell q2 oM nom; exact xgu
    ·exact xgs (hI.k 1 rfl kR)
    ·exact xgt (hI.e mm4 (hd 4)) (hI.e mm5 (hd 5))
    ·have zt6:=hI.e mm6 (hd 6)
     have cc0:=hI.cell o1 oM nom; exact xgu
    ·exact xgs (hI.k 4 rfl kR)
    ·exact xgs (hI.k 0 rfl kR)
    ·exact xgs (hI.e mm9 (hd 9))
    ·exact xgs (hI.e mm10 (hd 10))
    ·exact xgs (hI.e mm11 (hd 11))
    ·have zt12:=hI.e mm12 (hd 12)
     have cc0:=hI.cell q2 oM nom; exact xgu
    ·exact xgs (hI.k 1 rfl kR)
    ·exact xgt (hI.e mm13 (hd 13)) (hI.e mm14 (hd 14))
    ·have zt15:=hI.e mm15 (hd 15)
     have cc0:=hI.cell o1 oM nom; exact xgu
    ·exact xgs (hI.k 4 rfl kR)
    ·exact xgt (hI.e mm16 (hd 16)) (hI.e mm17 (hd 17))
    ·have zt18:=hI.e mm18 (hd 18)
     have cc0:=hI.cell p1 oM nom;have cc1:=hI.cell p2 oM nom; exact xgu
    ·have zt19:=hI.e mm19 (hd 19)
     go_simp;refine (r1neg_any _ (x.s i c) _ (hx.ext hI.lext).weak T1.out).mono ?_;exact xgo
    ·exact xgt (hI.e mm7 (hd 7)) (hI.e mm8 (hd 8))
   intro w9 hlw9 hbw9 holdw9 T hT;simp only [Fin,E,EI,VP,VSl,VN,xgg,xgh,xgi,xgj] at hT;obtain ⟨va20,ha20,rfl⟩:=hT;simp only [xgl,xgk];obtain ⟨pn,pa,pl,pc,px,rfl,hpx⟩:=id ha20;have HPX:=xgw hpx;clear hpx;have hK9:=hK.below hbw9;obtain ⟨sn,sa,sl,sc,y1,y2,y3,y4,-⟩:=hK9.m.elem hi hbmi hlt;obtain ⟨hP,hOP⟩:=hK9.putM hi hbmi hlt ha20;rw [upR_put (by show _ = negF x.s i i c; unfold negF; rw [if_pos rfl])] at hP;have hO9:=hO.trans (OnlyZ.of _ hbw9);have hZ : Z3 (.slice (some ⟨gm,0,none⟩) R cm) (.slice (some ⟨gu,0,none⟩) R cu) (.slice (some ⟨gv,0,none⟩) R cv) bm bu bv bMi:=.inl (.inl (xgd hbmi));clear o1 p1 p2;go_wp2;go_roundw
   case rel=>exact ⟨c + 1,by omega,by simp,hO9.trans (hOP.mono fun k _ hk=>by rw [hk]; exact hZ),hP⟩
   case measure=>simp [intOf]; omega
  ·have hcC : c = C:=by omega
   replace hK : K9 wr bw (.slice (some ⟨gm,0,none⟩) R cm) (.slice (some ⟨gu,0,none⟩) R cu) (.slice (some ⟨gv,0,none⟩) R cv) R C bm bu bv (x.neg i).s x.t (fun a b=>x.i b a):=hK.congr (fun a _ b hb=>by
      show upR _ _ i c a b = _;unfold upR;by_cases h1 : a = i
      ·rw [if_pos ⟨h1,by omega⟩]
      ·rw [if_neg (fun h=>h1 h.1)]
       show _ = negF x.s i a b;unfold negF; rw [if_neg h1]) (fun _ _ _ _=>rfl) (fun _ _ _ _=>rfl)
   go_wp2;go_loopw [5] (fun jv wr=>∃c : Nat,c<=R/\jv = .int .i64 c/\OnlyZ (Z3 (.slice (some ⟨gm,0,none⟩) R cm) (.slice (some ⟨gu,0,none⟩) R cu) (.slice (some ⟨gv,0,none⟩) R cv) bm bu bv) w wr/\K9 wr bw (.slice (some ⟨gm,0,none⟩) R cm) (.slice (some ⟨gu,0,none⟩) R cu) (.slice (some ⟨gv,0,none⟩) R cv) R C bm bu bv (x.neg i).s (upR x.t (x.neg i).t i c) (fun a b=>x.i b a)) (fun jv _=>R - (intOf jv).toNat)
   case atStart=>exact ⟨0,by omega,rfl,hO,by rw [upR_zero]; exact hK⟩
   case round=>
    clear hK hO;obtain ⟨c,hc,rfl,hO,hK⟩:=hrel;obtain ⟨q0,q1,q2,q3,q4,q5,q6,q7,q8⟩:=hK.blk.nine;have lbw:=hK.blk.lt;by_cases hlt : c < R
    ·have lg:=hK.zlt (b:=gu) (.inr (.inl (.inr rfl)))
     have lb:=hK.zlt (b:=bUi) (.inr (.inl (.inl (xgd hbui))));have o1:=hK.u.rowc hi hbui;obtain ⟨xs,xa,xl,xc,p1,p2,-,-,hx⟩:=hK.u.elem hi hbui hlt;rw [upR_at] at hx;have T1:=xgv (HSU.out c hlt);go_upto_region 7 with (fail)
     refine wp_region_headed 22 rfl (RI wr (wr.heap.size) _ 51
       [VP 0 47 bw 0,VP 1 48 bw 0,VP 2 49 bw 3,VP 3 50 bw 5,VSl 4 51 gu R cu,VN 5 52 i,VP 6 53 gu i,VSl 7 54 bUi R R,VN 8 55 c,VP 9 56 bw 0,VP 10 57 bw 0,VP 11 58 bw 3,VP 12 59 bw 5,VSl 13 60 gu R cu,VN 14 61 i,VP 15 62 gu i,VSl 16 63 bUi R R,VN 17 64 c,VP 18 65 bUi (c * 2),E 19 66 (.agg #[.bool xs,.slice xa xl xc]),EI 20 67 (-(x.t i c)),VP 21 68 bUi (c * 2)] [] []) kR RI.start (RI.fin kR ?fin2) ?steps2
     case steps2=>
      refine ⟨?_,?_,?_,?_,?_,?_,?_,?_,?_,?_,?_,?_,?_,?_,?_,?_,?_,?_,?_,?_,?_,?_,trivial⟩ <;> (intro L T wS hL hd hcl hI K hK; try refine step_wanted rfl ?_)
      ·exact xgs (hI.k 0 rfl kR)
      ·exact xgs (hI.e mm0 (hd 0))
      ·exact xgs (hI.e mm1 (hd 1))
      ·exact xgs (hI.e mm2 (hd 2))
      ·have zt3:=hI.e mm3 (hd 3)
       have cc0:=hI.cell q5 oM nom; exact xgu
      ·exact xgs (hI.k 1 rfl kR)
      ·exact xgt (hI.e mm4 (hd 4)) (hI.e mm5 (hd 5))
      ·have zt6:=hI.e mm6 (hd 6)
       have cc0:=hI.cell o1 oM nom; exact xgu
      ·exact xgs (hI.k 5 rfl kR)
      ·exact xgs (hI.k 0 rfl kR)
      ·exact xgs (hI.e mm9 (hd 9))
      ·exact xgs (hI.e mm10 (hd 10))
      ·exact xgs (hI.e mm11 (hd 11))
      ·have zt12:=hI.e mm12 (hd 12)
       have cc0:=hI.cell q5 oM nom; exact xgu
      ·exact xgs (hI.k 1 rfl kR)
      ·exact xgt (hI.e mm13 (hd 13)) (hI.e mm14 (hd 14))
      ·have zt15:=hI.e mm15 (hd 15)
       have cc0:=hI.cell o1 oM nom; exact xgu
      ·exact xgs (hI.k 5 rfl kR)
      ·exact xgt (hI.e mm16 (hd 16)) (hI.e mm17 (hd 17))
      ·have zt18:=hI.e mm18 (hd 18)
       have cc0:=hI.cell p1 oM nom;have cc1:=hI.cell p2 oM nom; exact xgu
      ·have zt19:=hI.e mm19 (hd 19)
       go_simp;refine (r1neg_any _ (x.t i c) _ (hx.ext hI.lext).weak T1.out).mono ?_;exact xgo
      ·exact xgt (hI.e mm7 (hd 7)) (hI.e mm8 (hd 8))
     intro w9 hlw9 hbw9 holdw9 T hT;simp only [Fin,E,EI,VP,VSl,VN,xgg,xgh,xgi,xgj] at hT;obtain ⟨va20,ha20,rfl⟩:=hT;simp only [xgl,xgk];obtain ⟨pn,pa,pl,pc,px,rfl,hpx⟩:=id ha20;have HPX:=xgw hpx;clear hpx;have hK9:=hK.below hbw9;obtain ⟨sn,sa,sl,sc,y1,y2,y3,y4,-⟩:=hK9.u.elem hi hbui hlt;obtain ⟨hP,hOP⟩:=hK9.putU hi hbui hlt ha20;rw [upR_put (by show _ = negF x.t i i c; unfold negF; rw [if_pos rfl])] at hP;have hO9:=hO.trans (OnlyZ.of _ hbw9);have hZ : Z3 (.slice (some ⟨gm,0,none⟩) R cm) (.slice (some ⟨gu,0,none⟩) R cu) (.slice (some ⟨gv,0,none⟩) R cv) bm bu bv bUi:=.inr (.inl (.inl (xgd hbui)));clear o1 p1 p2;go_wp2;go_roundw
     case rel=>exact ⟨c + 1,by omega,by simp,hO9.trans (hOP.mono fun k _ hk=>by rw [hk]; exact hZ),hP⟩
     case measure=>simp [intOf]; omega
    ·have hcC : c = R:=by omega
     replace hK : K9 wr bw (.slice (some ⟨gm,0,none⟩) R cm) (.slice (some ⟨gu,0,none⟩) R cu) (.slice (some ⟨gv,0,none⟩) R cv) R C bm bu bv (x.neg i).s (x.neg i).t (fun a b=>x.i b a):=hK.congr (fun _ _ _ _=>rfl) (fun a _ b hb=>by
        show upR _ _ i c a b = _;unfold upR;by_cases h1 : a = i
        ·rw [if_pos ⟨h1,by omega⟩]
        ·rw [if_neg (fun h=>h1 h.1)]
         show _ = negF x.t i a b;unfold negF; rw [if_neg h1]) (fun _ _ _ _=>rfl)
     go_wp2;go_loopw [6] (fun jv wr=>∃c : Nat,c<=R/\jv = .int .i64 c/\OnlyZ (Z3 (.slice (some ⟨gm,0,none⟩) R cm) (.slice (some ⟨gu,0,none⟩) R cu) (.slice (some ⟨gv,0,none⟩) R cv) bm bu bv) w wr/\K9 wr bw (.slice (some ⟨gm,0,none⟩) R cm) (.slice (some ⟨gu,0,none⟩) R cu) (.slice (some ⟨gv,0,none⟩) R cv) R C bm bu bv (x.neg i).s (x.neg i).t (upC (fun a b=>x.i b a) (fun a b=>(x.neg i).i b a) i c)) (fun jv _=>R - (intOf jv).toNat)
     case atStart=>exact ⟨0,by omega,rfl,hO,by rw [upC_zero]; exact hK⟩
     case round=>
      clear hK hO;obtain ⟨c,hc,rfl,hO,hK⟩:=hrel;obtain ⟨q0,q1,q2,q3,q4,q5,q6,q7,q8⟩:=hK.blk.nine;have lbw:=hK.blk.lt;by_cases hlt : c < R
      ·have lg:=hK.zlt (b:=gv) (.inr (.inr (.inr rfl)))
       obtain ⟨bVr,hbvr⟩:=hK.v.bex hlt;have lb:=hK.zlt (b:=bVr) (.inr (.inr (.inl (xgd hbvr))));have o1:=hK.v.rowc hlt hbvr;obtain ⟨xs,xa,xl,xc,p1,p2,-,-,hx⟩:=hK.v.elem hlt hbvr hi;rw [upC_at] at hx;have T1:=xgv (HSV.out c hlt);go_upto_region 11 with (fail)
       refine wp_region_headed 22 rfl (RI wr (wr.heap.size) _ 51
         [VP 0 78 bw 0,VP 1 79 bw 0,VP 2 80 bw 6,VP 3 81 bw 8,VSl 4 82 gv R cv,VN 5 83 c,VP 6 84 gv c,VSl 7 85 bVr R R,VN 8 86 i,VP 9 87 bw 0,VP 10 88 bw 0,VP 11 89 bw 6,VP 12 90 bw 8,VSl 13 91 gv R cv,VN 14 92 c,VP 15 93 gv c,VSl 16 94 bVr R R,VN 17 95 i,VP 18 96 bVr (i * 2),E 19 97 (.agg #[.bool xs,.slice xa xl xc]),EI 20 98 (-(x.i i c)),VP 21 99 bVr (i * 2)] [] []) kR RI.start (RI.fin kR ?fin3) ?steps3
       case steps3=>
        refine ⟨?_,?_,?_,?_,?_,?_,?_,?_,?_,?_,?_,?_,?_,?_,?_,?_,?_,?_,?_,?_,?_,?_,trivial⟩ <;> (intro L T wS hL hd hcl hI K hK; try refine step_wanted rfl ?_)
        ·exact xgs (hI.k 0 rfl kR)
        ·exact xgs (hI.e mm0 (hd 0))
        ·exact xgs (hI.e mm1 (hd 1))
        ·exact xgs (hI.e mm2 (hd 2))
        ·have zt3:=hI.e mm3 (hd 3)
         have cc0:=hI.cell q8 oM nom; exact xgu
        ·exact xgs (hI.k 6 rfl kR)
        ·exact xgt (hI.e mm4 (hd 4)) (hI.e mm5 (hd 5))
        ·have zt6:=hI.e mm6 (hd 6)
         have cc0:=hI.cell o1 oM nom; exact xgu
        ·exact xgs (hI.k 1 rfl kR)
        ·exact xgs (hI.k 0 rfl kR)
        ·exact xgs (hI.e mm9 (hd 9))
        ·exact xgs (hI.e mm10 (hd 10))
        ·exact xgs (hI.e mm11 (hd 11))
        ·have zt12:=hI.e mm12 (hd 12)
         have cc0:=hI.cell q8 oM nom; exact xgu
        ·exact xgs (hI.k 6 rfl kR)
        ·exact xgt (hI.e mm13 (hd 13)) (hI.e mm14 (hd 14))
        ·have zt15:=hI.e mm15 (hd 15)
         have cc0:=hI.cell o1 oM nom; exact xgu
        ·exact xgs (hI.k 1 rfl kR)
        ·exact xgt (hI.e mm16 (hd 16)) (hI.e mm17 (hd 17))
        ·have zt18:=hI.e mm18 (hd 18)
         have cc0:=hI.cell p1 oM nom;have cc1:=hI.cell p2 oM nom; exact xgu
        ·have zt19:=hI.e mm19 (hd 19)
         go_simp;refine (r1neg_any _ (x.i i c) _ (hx.ext hI.lext).weak T1.out).mono ?_;exact xgo
        ·exact xgt (hI.e mm7 (hd 7)) (hI.e mm8 (hd 8))
       intro w9 hlw9 hbw9 holdw9 T hT;simp only [Fin,E,EI,VP,VSl,VN,xgg,xgh,xgi,xgj] at hT;obtain ⟨va20,ha20,rfl⟩:=hT;simp only [xgl,xgk];obtain ⟨pn,pa,pl,pc,px,rfl,hpx⟩:=id ha20;have HPX:=xgw hpx;clear hpx;have hK9:=hK.below hbw9;obtain ⟨sn,sa,sl,sc,y1,y2,y3,y4,-⟩:=hK9.v.elem hlt hbvr hi;obtain ⟨hP,hOP⟩:=hK9.putV hlt hbvr hi ha20;rw [upC_put (by show _ = negF x.i i i c; unfold negF; rw [if_pos rfl])] at hP;have hO9:=hO.trans (OnlyZ.of _ hbw9);have hZ : Z3 (.slice (some ⟨gm,0,none⟩) R cm) (.slice (some ⟨gu,0,none⟩) R cu) (.slice (some ⟨gv,0,none⟩) R cv) bm bu bv bVr:=.inr (.inr (.inl (xgd hbvr)));clear o1 p1 p2;go_wp2;go_roundw
       case rel=>exact ⟨c + 1,by omega,by simp,hO9.trans (hOP.mono fun k _ hk=>by rw [hk]; exact hZ),hP⟩
       case measure=>simp [intOf]; omega
      ·have hcC : c = R:=by omega
       replace hK : K9 wr bw (.slice (some ⟨gm,0,none⟩) R cm) (.slice (some ⟨gu,0,none⟩) R cu) (.slice (some ⟨gv,0,none⟩) R cv) R C bm bu bv (x.neg i).s (x.neg i).t (fun a b=>(x.neg i).i b a):=hK.congr (fun _ _ _ _=>rfl) (fun _ _ _ _=>rfl) (fun a ha b _=>by
          show upC _ _ i c a b = _;unfold upC;by_cases h1 : b = i
          ·rw [if_pos ⟨h1,by omega⟩]
          ·rw [if_neg (fun h=>h1 h.1)]
           show _ = negF x.i i b a;unfold negF; rw [if_neg h1])
       go_wp2;exact bodyPost_end (results_none rfl _ _ _) rfl ⟨⟨_,rfl⟩,hO,hK⟩
end Go.Proofs.YtgnmdddaiefooaaGreat
