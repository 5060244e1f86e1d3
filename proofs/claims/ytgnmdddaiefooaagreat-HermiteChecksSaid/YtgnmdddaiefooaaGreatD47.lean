/- torsionref12: Work.Swap (printed by genK2.py). torsionref12: Start, Floor. -/
import Derived.Test.YtgnmdddaiefooaaGreatD12
import Derived.Test.YtgnmdddaiefooaaGreatD15
import Derived.Test.YtgnmdddaiefooaaGreatD31
import Derived.Test.YtgnmdddaiefooaaGreatD45
set_option linter.unusedVariables false
set_option linter.unusedSimpArgs false
set_option linter.unusedSectionVars false
set_option maxHeartbeats 16000000
set_option maxRecDepth 100000
namespace Go.Proofs.YtgnmdddaiefooaaGreat
open Go.RowKit
theorem zn_swpL {A : Value} {bs : List Nat} {i j b : Nat} (hi : i < bs.length) (hj : j < bs.length) (h : Zn A (swpL bs i j) b) : Zn A bs b:=h.imp (mem_swpL hi hj) id
section
variable {w : World} {bw gm gu cm cu : Nat} {AM AU AV : Value} {R C : Nat} {bm bu bv : List Nat} {S T V : Nat->Nat->Int}
theorem K9.swapM (h : K9 w bw (.slice (some ⟨gm,0,none⟩) R cm) AU AV R C bm bu bv S T V) {i j bi bj : Nat} (hi : i < R) (hj : j < R) (hbi : bm[i]? = some bi) (hbj : bm[j]? = some bj) :
  K9 ((w.setCell ⟨gm,i,none⟩ (.slice (some ⟨bj,0,none⟩) C C)).setCell ⟨gm,j,none⟩ (.slice (some ⟨bi,0,none⟩) C C)) bw (.slice (some ⟨gm,0,none⟩) R cm) AU AV R C (swpL bm i j) bu bv (fun a b=>S (swp i j a) b) T V ∧
   OnlyZ (fun k=>k = gm) w ((w.setCell ⟨gm,i,none⟩ (.slice (some ⟨bj,0,none⟩) C C)).setCell ⟨gm,j,none⟩ (.slice (some ⟨bi,0,none⟩) C C)):=by
 obtain ⟨h1,h2⟩:=h.m.swap hi hj hbi hbj;have hl:=h.m.len;have ho:=oz2 h2;have hz : Zn (.slice (some ⟨gm,0,none⟩) R cm) bm gm:=.inr rfl;have hi' : i < bm.length:=by omega
 have hj' : j < bm.length:=by omega
 exact ⟨⟨ho.blk h.blk (fun e=>h.nm (by rw [e]; exact hz)),h1,h.u.keep1 ho (h.mu _ hz),h.v.keep1 ho (h.mv _ hz),fun b hb=>h.mu b (zn_swpL hi' hj' hb),fun b hb=>h.mv b (zn_swpL hi' hj' hb),h.uv⟩,ho⟩
theorem K9.swapU (h : K9 w bw AM (.slice (some ⟨gu,0,none⟩) R cu) AV R C bm bu bv S T V) {i j bi bj : Nat} (hi : i < R) (hj : j < R) (hbi : bu[i]? = some bi) (hbj : bu[j]? = some bj) :
  K9 ((w.setCell ⟨gu,i,none⟩ (.slice (some ⟨bj,0,none⟩) R R)).setCell ⟨gu,j,none⟩ (.slice (some ⟨bi,0,none⟩) R R)) bw AM (.slice (some ⟨gu,0,none⟩) R cu) AV R C bm (swpL bu i j) bv S (fun a b=>T (swp i j a) b) V ∧
   OnlyZ (fun k=>k = gu) w ((w.setCell ⟨gu,i,none⟩ (.slice (some ⟨bj,0,none⟩) R R)).setCell ⟨gu,j,none⟩ (.slice (some ⟨bi,0,none⟩) R R)):=by
 obtain ⟨h1,h2⟩:=h.u.swap hi hj hbi hbj;have hl:=h.u.len;have ho:=oz2 h2;have hz : Zn (.slice (some ⟨gu,0,none⟩) R cu) bu gu:=.inr rfl;have hi' : i < bu.length:=by omega
 have hj' : j < bu.length:=by omega
 exact ⟨⟨ho.blk h.blk (fun e=>h.nu (by rw [e]; exact hz)),h.m.keep1 ho (fun hh=>h.mu _ hh hz),h1,h.v.keep1 ho (h.uv _ hz),fun b hb hh=>h.mu b hb (zn_swpL hi' hj' hh),h.mv,fun b hb=>h.uv b (zn_swpL hi' hj' hb)⟩,ho⟩
theorem Wri.gb {g n cap : Nat} {F : Nat->Nat->Int} {bs : List Nat} (h : Wri w (.slice (some ⟨g,0,none⟩) n cap) R C bs F) : ∃cur,Blk w g tR cur/\n<=cur.size:=RowsO.gblk h
theorem Blk.cell1 {w : World} {g i j : Nat} {t : TypeId} {cur : Array Value} {u : Value} (h : Blk w g t cur) (hj : j < cur.size) : ∃z,(w.setCell ⟨g,i,none⟩ u).cell? ⟨g,j,none⟩ = some z:=by
 rw [(h.set_ i u).cell j];exact ⟨_,Array.getElem?_eq_getElem (by simpa using hj)⟩
end
def swpV (F : Nat->Nat->Int) (i j c : Nat) : Nat->Nat->Int:=fun a b=>if a < c then F a (swp i j b) else F a b
theorem swpV_zero (F : Nat->Nat->Int) (i j : Nat) : swpV F i j 0 = F:=by funext a b; unfold swpV; rw [if_neg oM]
theorem swpV_at (F : Nat->Nat->Int) (i j c b : Nat) : swpV F i j c c b = F c b:=by unfold swpV; rw [if_neg oM]
theorem swpV_put (F : Nat->Nat->Int) (i j c : Nat) : putF (putF (swpV F i j c) c i (F c j)) c j (F c i) = swpV F i j (c + 1):=by
 funext a b
 unfold putF swpV swp;by_cases h1 : a = c
 ·subst h1
  by_cases h2 : b = j
  ·subst h2
   rw [if_pos ⟨rfl,rfl⟩,if_pos oM];split
   ·rename_i e; rw [e]
   ·rw [if_pos rfl]
  ·rw [if_neg (fun h=>h2 h.2)]
   by_cases h3 : b = i
   ·subst h3
    rw [if_pos ⟨rfl,rfl⟩,if_pos oM,if_pos rfl]
   ·rw [if_neg (fun h=>h3 h.2),if_neg oM,if_pos oM,if_neg h3,if_neg h2]
 ·rw [if_neg (fun h=>h1 h.1),if_neg (fun h=>h1 h.1)]
  by_cases h4 : a < c
  ·rw [if_pos h4,if_pos (show a < c + 1 by omega)]
  ·rw [if_neg h4,if_neg (show ¬ a < c + 1 by omega)]
theorem r12swap_any (bw : Nat) (AM AU AV : Value) (R C i j : Nat) (bm bu bv : List Nat) (x : Bst) (w : World) (h : K9 w bw AM AU AV R C bm bu bv x.s x.t (fun a b=>x.i b a)) (hi : i < R) (hj : j < R) (hR : R<=1000000) (hC : C<=1000000) :
  Calls Tryz.prog 80 #[.pointer (some ⟨bw,0,none⟩),.int .i64 i,.int .i64 j] w fun e w'=>(∃u,e = .returned u)/\OnlyZ (Z3 AM AU AV bm bu bv) w w'/\K9 w' bw AM AU AV R C (swpL bm i j) (swpL bu i j) bv (x.swap i j).s (x.swap i j).t (fun a b=>(x.swap i j).i b a):=by
 obtain ⟨gm,cm,rfl⟩:=h.m.base oM;obtain ⟨gu,cu,rfl⟩:=h.u.base oM;obtain ⟨gv,cv,rfl⟩:=h.v.base oM;obtain ⟨bMi,hbmi⟩:=h.m.bex hi;obtain ⟨bUi,hbui⟩:=h.u.bex hi;obtain ⟨bMj,hbmj⟩:=h.m.bex hj;obtain ⟨bUj,hbuj⟩:=h.u.bex hj;have hzl:=fun b hb=>h.zlt (b:=b) hb
 go_enter Tryz.func80,Tryz.ntmps80;have hK:=h;have hO:=OnlyZ.refl (Z3 (.slice (some ⟨gm,0,none⟩) R cm) (.slice (some ⟨gu,0,none⟩) R cu) (.slice (some ⟨gv,0,none⟩) R cv) bm bu bv) w;clear h;obtain ⟨q0,q1,q2,q3,q4,q5,q6,q7,q8⟩:=hK.blk.nine;have o1:=hK.m.rowc hi hbmi;have o1:=hK.m.rowc hi hbmi;have o2:=hK.m.rowc hj hbmj;have lbw:=hK.blk.lt;have lg:=hK.zlt (b:=gm) (.inl (.inr rfl));go_upto_region 1 with (fail)
 refine wp_region_headed 15 rfl (RI w (w.heap.size) _ 51
   [VP 0 17 bw 0,VP 1 18 bw 0,VP 2 19 bw 0,VP 3 20 bw 2,VSl 4 21 gm R cm,VN 5 22 i,VP 6 23 bw 0,VP 7 24 bw 0,VP 8 25 bw 0,VP 9 26 bw 2,VSl 10 27 gm R cm,VN 11 28 j,VP 12 29 gm j,VSl 13 30 bMj C C,VP 14 31 gm i] [] []) kR RI.start (RI.fin kR ?fin1) ?steps1
 case steps1=>
  refine ⟨?_,?_,?_,?_,?_,?_,?_,?_,?_,?_,?_,?_,?_,?_,?_,trivial⟩ <;> (intro L T wS hL hd hcl hI K hK; try refine step_wanted rfl ?_)
  ·exact xgs (hI.k 0 rfl kR)
  ·exact xgs (hI.e mm0 (hd 0))
  ·exact xgs (hI.e mm1 (hd 1))
  ·exact xgs (hI.e mm2 (hd 2))
  ·have zt3:=hI.e mm3 (hd 3)
   have cc0:=hI.cell q2 oM nom; exact xgu
  ·exact xgs (hI.k 1 rfl kR)
  ·exact xgs (hI.k 0 rfl kR)
  ·exact xgs (hI.e mm6 (hd 6))
  ·exact xgs (hI.e mm7 (hd 7))
  ·exact xgs (hI.e mm8 (hd 8))
  ·have zt9:=hI.e mm9 (hd 9)
   have cc0:=hI.cell q2 oM nom; exact xgu
  ·exact xgs (hI.k 2 rfl kR)
  ·exact xgt (hI.e mm10 (hd 10)) (hI.e mm11 (hd 11))
  ·have zt12:=hI.e mm12 (hd 12)
   have cc0:=hI.cell o2 oM nom; exact xgu
  ·exact xgt (hI.e mm4 (hd 4)) (hI.e mm5 (hd 5))
 intro w1 hlw1 hbw1 holdw1 T hT;simp only [Fin,E,EI,VP,VSl,VN,xgg,xgh,xgi,xgj] at hT;subst hT;simp only [xgl,xgk];have hK1:=hK.below hbw1;obtain ⟨cur,hcur,hcz⟩:=hK1.m.gb;have f1:=hcur.frozen i;have o3:=hK1.m.rowc hi hbmi;have hfar : bw ≠ gm:=fun e=>hK1.nm (by rw [e]; exact .inr rfl)
 obtain ⟨hS,hOS⟩:=hK1.swapM hi hj hbmi hbmj;have HSW:=xgv (And.intro hS hOS);clear o1 o2 q0 q1 q2 q3 q4 q5 q6 q7 q8 hS hOS;go_upto_region 2 with (fail)
 refine wp_world ?_;intro w2 hW;have hbk2:=hK1.blk.far hfar i (.slice (some ⟨bMj,0,none⟩) C C);rw [<-hW.out] at hbk2;obtain ⟨q0,q1,q2,q3,q4,q5,q6,q7,q8⟩:=hbk2.nine;have hc2:=hcur.set_ i (.slice (some ⟨bMj,0,none⟩) C C);have f2 : w2.frozen? ⟨gm,j,none⟩ = false:=by rw [hW.out]; exact hc2.frozen j
 obtain ⟨z,s1⟩ : ∃z,w2.cell? ⟨gm,j,none⟩ = some z:=by rw [hW.out]; exact hcur.cell1 oM
 clear f1 o3 hcur hc2;go_upto_region 3 with (fail)
 refine wp_world ?_;intro w3 hW3;obtain ⟨hS,hOS⟩:=HSW.out;rw [<-hW.out,<-hW3.out] at hS hOS;have hO:=(hO.trans (OnlyZ.of _ hbw1)).trans (hOS.mono fun k _ hk=>by rw [hk]; exact (.inl (.inr rfl)));clear hK hK1 HSW hW hW3 f2 s1 q0 q1 q2 q3 q4 q5 q6 q7 q8;have hK:=hS;clear hS hOS;obtain ⟨q0,q1,q2,q3,q4,q5,q6,q7,q8⟩:=hK.blk.nine;have o1:=hK.u.rowc hi hbui;have o1:=hK.u.rowc hi hbui;have o2:=hK.u.rowc hj hbuj;have lbw:=hK.blk.lt;have lg:=hK.zlt (b:=gu) (.inr (.inl (.inr rfl)));go_upto_region 4 with (fail)
 refine wp_region_headed 15 rfl (RI w3 (w3.heap.size) _ 51
   [VP 0 48 bw 0,VP 1 49 bw 0,VP 2 50 bw 3,VP 3 51 bw 5,VSl 4 52 gu R cu,VN 5 53 i,VP 6 54 bw 0,VP 7 55 bw 0,VP 8 56 bw 3,VP 9 57 bw 5,VSl 10 58 gu R cu,VN 11 59 j,VP 12 60 gu j,VSl 13 61 bUj R R,VP 14 62 gu i] [] []) kR RI.start (RI.fin kR ?fin2) ?steps2
 case steps2=>
  refine ⟨?_,?_,?_,?_,?_,?_,?_,?_,?_,?_,?_,?_,?_,?_,?_,trivial⟩ <;> (intro L T wS hL hd hcl hI K hK; try refine step_wanted rfl ?_)
  ·exact xgs (hI.k 0 rfl kR)
  ·exact xgs (hI.e mm0 (hd 0))
  ·exact xgs (hI.e mm1 (hd 1))
  ·exact xgs (hI.e mm2 (hd 2))
  ·have zt3:=hI.e mm3 (hd 3)
   have cc0:=hI.cell q5 oM nom; exact xgu
  ·exact xgs (hI.k 1 rfl kR)
  ·exact xgs (hI.k 0 rfl kR)
  ·exact xgs (hI.e mm6 (hd 6))
  ·exact xgs (hI.e mm7 (hd 7))
  ·exact xgs (hI.e mm8 (hd 8))
  ·have zt9:=hI.e mm9 (hd 9)
   have cc0:=hI.cell q5 oM nom; exact xgu
  ·exact xgs (hI.k 2 rfl kR)
  ·exact xgt (hI.e mm10 (hd 10)) (hI.e mm11 (hd 11))
  ·have zt12:=hI.e mm12 (hd 12)
   have cc0:=hI.cell o2 oM nom; exact xgu
  ·exact xgt (hI.e mm4 (hd 4)) (hI.e mm5 (hd 5))
 intro w4 hlw4 hbw4 holdw4 T hT;simp only [Fin,E,EI,VP,VSl,VN,xgg,xgh,xgi,xgj] at hT;subst hT;simp only [xgl,xgk];have hK1:=hK.below hbw4;obtain ⟨cur,hcur,hcz⟩:=hK1.u.gb;have f1:=hcur.frozen i;have o3:=hK1.u.rowc hi hbui;have hfar : bw ≠ gu:=fun e=>hK1.nu (by rw [e]; exact .inr rfl)
 obtain ⟨hS,hOS⟩:=hK1.swapU hi hj hbui hbuj;have HSW:=xgv (And.intro hS hOS);clear o1 o2 q0 q1 q2 q3 q4 q5 q6 q7 q8 hS hOS;go_upto_region 5 with (fail)
 refine wp_world ?_;intro w5 hW;have hbk2:=hK1.blk.far hfar i (.slice (some ⟨bUj,0,none⟩) R R);rw [<-hW.out] at hbk2;obtain ⟨q0,q1,q2,q3,q4,q5,q6,q7,q8⟩:=hbk2.nine;have hc2:=hcur.set_ i (.slice (some ⟨bUj,0,none⟩) R R);have f2 : w5.frozen? ⟨gu,j,none⟩ = false:=by rw [hW.out]; exact hc2.frozen j
 obtain ⟨z,s1⟩ : ∃z,w5.cell? ⟨gu,j,none⟩ = some z:=by rw [hW.out]; exact hcur.cell1 oM
 clear f1 o3 hcur hc2;go_upto_region 6 with (fail)
 refine wp_world ?_;intro w6 hW3;obtain ⟨hS,hOS⟩:=HSW.out;rw [<-hW.out,<-hW3.out] at hS hOS;have hO:=(hO.trans (OnlyZ.of _ hbw4)).trans (hOS.mono fun k _ hk=>by rw [hk]; exact (.inr (.inl (.inr rfl))));clear hK hK1 HSW hW hW3 f2 s1 q0 q1 q2 q3 q4 q5 q6 q7 q8;have hK:=hS;clear hS hOS;go_wp2;go_loopw [7] (fun jv wr=>∃c : Nat,c<=R/\jv = .int .i64 c/\OnlyZ (Z3 (.slice (some ⟨gm,0,none⟩) R cm) (.slice (some ⟨gu,0,none⟩) R cu) (.slice (some ⟨gv,0,none⟩) R cv) bm bu bv) w wr/\K9 wr bw (.slice (some ⟨gm,0,none⟩) R cm) (.slice (some ⟨gu,0,none⟩) R cu) (.slice (some ⟨gv,0,none⟩) R cv) R C (swpL bm i j) (swpL bu i j) bv (x.swap i j).s (x.swap i j).t (swpV (fun a b=>x.i b a) i j c)) (fun jv _=>R - (intOf jv).toNat)
 case atStart=>exact ⟨0,by omega,rfl,hO,by rw [swpV_zero]; exact hK⟩
 case round=>
  clear hK hO;obtain ⟨c,hc,rfl,hO,hK⟩:=hrel;obtain ⟨q0,q1,q2,q3,q4,q5,q6,q7,q8⟩:=hK.blk.nine;by_cases hlt : c < R
  ·obtain ⟨bVr,hbvr⟩:=hK.v.bex hlt
   have hzv : Zn (.slice (some ⟨gv,0,none⟩) R cv) bv bVr:=.inl (xgd hbvr);have o1:=hK.v.rowc hlt hbvr;obtain ⟨xs,xa,xl,xc,p1,p2,-,-,hx⟩:=hK.v.elem hlt hbvr hi;rw [swpV_at] at hx;go_upto_region 10 with (fail)
   refine wp_world ?_;intro W9 hW9;obtain ⟨hB9,hbk,hs9⟩:=world1 hW9;have hK9:=hK.below hB9;have hx9:=hx.ext (lx hB9);have hO:=hO.trans (OnlyZ.of _ hB9);have hne : wr.heap.size ≠ bVr:=by have:=hK.zlt (b:=bVr) (.inr (.inr hzv)); omega
   clear hW9 hK hx o1 p1 p2 q0 q1 q2 q3 q4 q5 q6 q7 q8;obtain ⟨q0,q1,q2,q3,q4,q5,q6,q7,q8⟩:=hK9.blk.nine;have lbw:=hK9.blk.lt;have lg:=hK9.zlt (b:=gv) (.inr (.inr (.inr rfl)));have lb:=hK9.zlt (b:=bVr) (.inr (.inr hzv));have o1:=hK9.v.rowc hlt hbvr;obtain ⟨ys,ya,yl,yc,p1,p2,-,-,hy⟩:=hK9.v.elem hlt hbvr hj;rw [swpV_at] at hy;refine wp_region_headed 21 rfl (RI W9 (W9.heap.size) _ 51
     [VP 0 91 bw 0,VP 1 92 bw 0,VP 2 93 bw 6,VP 3 94 bw 8,VSl 4 95 gv R cv,VN 5 96 c,VP 6 97 gv c,VSl 7 98 bVr R R,VN 8 99 i,VP 9 100 bw 0,VP 10 101 bw 0,VP 11 102 bw 6,VP 12 103 bw 8,VSl 13 104 gv R cv,VN 14 105 c,VP 15 106 gv c,VSl 16 107 bVr R R,VN 17 108 j,VP 18 109 bVr (j * 2),E 19 110 (.agg #[.bool ys,.slice ya yl yc]),VP 20 111 bVr (i * 2)] [] []) kR RI.start (RI.fin kR ?fin3) ?steps3
   case steps3=>
    refine ⟨?_,?_,?_,?_,?_,?_,?_,?_,?_,?_,?_,?_,?_,?_,?_,?_,?_,?_,?_,?_,?_,trivial⟩ <;> (intro L T wS hL hd hcl hI K hK; try refine step_wanted rfl ?_)
    ·exact xgs (hI.k 0 rfl kR)
    ·exact xgs (hI.e mm0 (hd 0))
    ·exact xgs (hI.e mm1 (hd 1))
    ·exact xgs (hI.e mm2 (hd 2))
    ·have zt3:=hI.e mm3 (hd 3)
     have cc0:=hI.cell q8 oM nom; exact xgu
    ·exact xgs (hI.k 7 rfl kR)
    ·exact xgt (hI.e mm4 (hd 4)) (hI.e mm5 (hd 5))
    ·have zt6:=hI.e mm6 (hd 6)
     have cc0:=hI.cell o1 oM nom; exact xgu
    ·exact xgs (hI.k 1 rfl kR)
    ·exact xgs (hI.k 0 rfl kR)
    ·exact xgs (hI.e mm9 (hd 9))
    ·exact xgs (hI.e mm10 (hd 10))
    ·exact xgs (hI.e mm11 (hd 11))
    ·have zt12:=hI.e mm12 (hd 12)
     have cc0:=hI.cell q8 oM nom; exact xgu
    ·exact xgs (hI.k 7 rfl kR)
    ·exact xgt (hI.e mm13 (hd 13)) (hI.e mm14 (hd 14))
    ·have zt15:=hI.e mm15 (hd 15)
     have cc0:=hI.cell o1 oM nom; exact xgu
    ·exact xgs (hI.k 2 rfl kR)
    ·exact xgt (hI.e mm16 (hd 16)) (hI.e mm17 (hd 17))
    ·have zt18:=hI.e mm18 (hd 18)
     have cc0:=hI.cell p1 oM nom;have cc1:=hI.cell p2 oM nom; exact xgu
    ·exact xgt (hI.e mm7 (hd 7)) (hI.e mm8 (hd 8))
   intro w10 hlw10 hbw10 holdw10 T hT;simp only [Fin,E,EI,VP,VSl,VN,xgg,xgh,xgi,xgj] at hT;subst hT;simp only [xgl,xgk];have hKa:=hK9.below hbw10;have hya:=hy.ext (lx hbw10);have hxa:=hx9.ext (lx hbw10);have hbka:=hbk.below hbw10;obtain ⟨sn,sa,sl,sc,y1,y2,y3,y4,-⟩:=hKa.v.elem hlt hbvr hi;obtain ⟨hP,hOP⟩:=hKa.putV hlt hbvr hi hya;have HPP:=xgv (And.intro hP (And.intro hOP (And.intro (hOP.blk hbka hne) (hxa.ext hOP.lext))));have hO:=hO.trans (OnlyZ.of _ hbw10);clear hP hOP o1 p1 p2 q0 q1 q2 q3 q4 q5 q6 q7 q8;go_upto_region 11 with (fail)
   refine wp_world ?_;intro Wb hWb;obtain ⟨hP,hOP,hbkb,hxb⟩:=HPP.out;rw [<-hWb.out] at hP hOP hbkb hxb;have hO:=hO.trans (hOP.mono fun k _ hk=>by rw [hk]; exact (.inr (.inr hzv) : (Z3 (.slice (some ⟨gm,0,none⟩) R cm) (.slice (some ⟨gu,0,none⟩) R cu) (.slice (some ⟨gv,0,none⟩) R cv) bm bu bv) bVr));clear hWb HPP y1 y2 y3 y4 hKa hK9 hbka hbk hOP;obtain ⟨q0,q1,q2,q3,q4,q5,q6,q7,q8⟩:=hP.blk.nine;obtain ⟨k1,k2,k3,k4⟩:=hbkb.two;have lbw:=hP.blk.lt;have lg:=hP.zlt (b:=gv) (.inr (.inr (.inr rfl)));have lb:=hP.zlt (b:=bVr) (.inr (.inr hzv));have lbk:=hbkb.lt;have o1:=hP.v.rowc hlt hbvr;refine wp_region_headed 11 rfl (RI Wb (Wb.heap.size) _ 51
     [VP 0 112 bw 0,VP 1 113 bw 0,VP 2 114 bw 6,VP 3 115 bw 8,VSl 4 116 gv R cv,VN 5 117 c,VP 6 118 gv c,VSl 7 119 bVr R R,VN 8 120 j,E 9 121 (.agg #[.bool xs,.slice xa xl xc]),VP 10 122 bVr (j * 2)] [] []) kR RI.start (RI.fin kR ?fin4) ?steps4
   case steps4=>
    refine ⟨?_,?_,?_,?_,?_,?_,?_,?_,?_,?_,?_,trivial⟩ <;> (intro L T wS hL hd hcl hI K hK; try refine step_wanted rfl ?_)
    ·exact xgs (hI.k 0 rfl kR)
    ·exact xgs (hI.e mm0 (hd 0))
    ·exact xgs (hI.e mm1 (hd 1))
    ·exact xgs (hI.e mm2 (hd 2))
    ·have zt3:=hI.e mm3 (hd 3)
     have cc0:=hI.cell q8 oM nom; exact xgu
    ·exact xgs (hI.k 7 rfl kR)
    ·exact xgt (hI.e mm4 (hd 4)) (hI.e mm5 (hd 5))
    ·have zt6:=hI.e mm6 (hd 6)
     have cc0:=hI.cell o1 oM nom; exact xgu
    ·exact xgs (hI.k 2 rfl kR)
    ·have zt:=hI.k 8 rfl kR
     have cc0:=hI.cell k1 oM nom;have cc1:=hI.cell k2 oM nom; exact xgu
    ·exact xgt (hI.e mm7 (hd 7)) (hI.e mm8 (hd 8))
   intro w12 hlw12 hbw12 holdw12 T hT;simp only [Fin,E,EI,VP,VSl,VN,xgg,xgh,xgi,xgj] at hT;subst hT;simp only [xgl,xgk];have hKc:=hP.below hbw12;have hxc:=hxb.ext (lx hbw12);obtain ⟨sn,sa,sl,sc,y1,y2,y3,y4,-⟩:=hKc.v.elem hlt hbvr hj;obtain ⟨hP2,hOP2⟩:=hKc.putV hlt hbvr hj hxc;rw [swpV_put] at hP2;have hO9:=hO.trans (OnlyZ.of _ hbw12);clear o1 k1 k2 k3 k4 q0 q1 q2 q3 q4 q5 q6 q7 q8;go_wp2;go_roundw
   case rel=>exact ⟨c + 1,by omega,by simp,hO9.trans (hOP2.mono fun k _ hk=>by rw [hk]; exact (.inr (.inr hzv) : (Z3 (.slice (some ⟨gm,0,none⟩) R cm) (.slice (some ⟨gu,0,none⟩) R cu) (.slice (some ⟨gv,0,none⟩) R cv) bm bu bv) bVr)),hP2⟩
   case measure=>simp [intOf]; omega
  ·have hcC : c = R:=by omega
   replace hK : K9 wr bw (.slice (some ⟨gm,0,none⟩) R cm) (.slice (some ⟨gu,0,none⟩) R cu) (.slice (some ⟨gv,0,none⟩) R cv) R C (swpL bm i j) (swpL bu i j) bv (x.swap i j).s (x.swap i j).t (fun a b=>(x.swap i j).i b a):=hK.congr (fun _ _ _ _=>rfl) (fun _ _ _ _=>rfl) (fun a ha b _=>by
    show swpV _ i j c a b = _;unfold swpV;rw [if_pos oM];rfl)
   go_wp2;exact bodyPost_end (results_none rfl _ _ _) rfl ⟨⟨_,rfl⟩,hO,hK⟩
structure ThreeV (n0 R C : Nat) (S T V : Nat->Nat->Int) (w : World) (v : Value) : Prop where
 ex : ∃so sc uo uc vo vc bs bu bv,v = .agg #[.int .i64 R,.int .i64 C,.slice so R sc,.int .i64 R,.int .i64 R,.slice uo R uc,.int .i64 R,.int .i64 R,.slice vo R vc] ∧
  Wri w (.slice so R sc) R C bs S/\Wri w (.slice uo R uc) R R bu T/\Wri w (.slice vo R vc) R R bv V/\(∀b,Z3 (.slice so R sc) (.slice uo R uc) (.slice vo R vc) bs bu bv b->n0<=b) ∧
  Ap (.slice so R sc) bs (.slice uo R uc) bu/\Ap (.slice so R sc) bs (.slice vo R vc) bv/\Ap (.slice uo R uc) bu (.slice vo R vc) bv
theorem lastsB_three (n0 R C : Nat) (S T V : Nat->Nat->Int) : LastsB (ThreeV n0 R C S T V):=by
 intro w w' v hb ⟨so,sc,uo,uc,vo,vc,bs,bu,bv,h1,h2,h3,h4,h5⟩;exact ⟨so,sc,uo,uc,vo,vc,bs,bu,bv,h1,h2.below hb,h3.below hb,h4.below hb,h5⟩
theorem RG.three {W : World} {T0 : Array Value} {vs : List VS} {L : Array Bool} {T : Array Value} {w : World} {k1 k2 k3 s1 s2 s3 R C : Nat} {F1 F2 F3 : Nat->Nat->Int}
  (h : RG W T0 vs [⟨k1,s1,R,C,F1⟩,⟨k2,s2,R,R,F2⟩,⟨k3,s3,R,R,F3⟩] L T w) (o1 : k1 < k2) (o2 : k2 < k3) (l1 : L[k1]? = some true) (l2 : L[k2]? = some true) (l3 : L[k3]? = some true) :
  ∃so sc uo uc vo vc,T[s1]? = some (.agg #[.int .i64 R,.int .i64 C,.slice so R sc])/\T[s2]? = some (.agg #[.int .i64 R,.int .i64 R,.slice uo R uc])/\T[s3]? = some (.agg #[.int .i64 R,.int .i64 R,.slice vo R vc]) ∧
   ThreeV W.heap.size R C F1 F2 F3 w (.agg #[.int .i64 R,.int .i64 C,.slice so R sc,.int .i64 R,.int .i64 R,.slice uo R uc,.int .i64 R,.int .i64 R,.slice vo R vc]):=by
 obtain ⟨bot,top,g1,g2⟩:=h.gh;have M1 : (⟨k1,s1,R,C,F1⟩ : MS) ∈ [(⟨k1,s1,R,C,F1⟩ : MS),⟨k2,s2,R,R,F2⟩,⟨k3,s3,R,R,F3⟩]:=by simp
 have M2 : (⟨k2,s2,R,R,F2⟩ : MS) ∈ [(⟨k1,s1,R,C,F1⟩ : MS),⟨k2,s2,R,R,F2⟩,⟨k3,s3,R,R,F3⟩]:=by simp
 have M3 : (⟨k3,s3,R,R,F3⟩ : MS) ∈ [(⟨k1,s1,R,C,F1⟩ : MS),⟨k2,s2,R,R,F2⟩,⟨k3,s3,R,R,F3⟩]:=by simp
 obtain ⟨a1,a2,_,a3,so,sc,bS,rfl,a5,a6⟩:=g1 _ M1 l1;obtain ⟨b1,b2,_,b3,uo,uc,bU,rfl,b5,b6⟩:=g1 _ M2 l2;obtain ⟨c1,c2,_,c3,vo,vc,bV,rfl,c5,c6⟩:=g1 _ M3 l3;have r12:=g2 _ M1 _ M2 o1 l1 l2;have r13:=g2 _ M1 _ M3 (by dsimp only; omega) l1 l3;have r23:=g2 _ M2 _ M3 (by dsimp only; omega) l2 l3;refine ⟨so,sc,uo,uc,vo,vc,a3,b3,c3,⟨so,sc,uo,uc,vo,vc,bS,bU,bV,rfl,a5,b5,c5,?_,ap_range a6 b6 r12,ap_range a6 c6 r13,ap_range b6 c6 r23⟩⟩;rintro b (hb | hb | hb)
 ·exact Nat.le_trans a1 (a6 b hb).1
 ·exact Nat.le_trans b1 (b6 b hb).1
 ·exact Nat.le_trans c1 (c6 b hb).1
structure KNew (n0 R C : Nat) (S T V : Nat->Nat->Int) (w : World) (v : Value) : Prop where
 ex : ∃bw AM AU AV bm bu bv,v = .pointer (some ⟨bw,0,none⟩)/\n0<=bw/\K9 w bw AM AU AV R C bm bu bv S T V/\∀b,Z3 AM AU AV bm bu bv b->n0<=b
theorem lastsB_knew (n0 R C : Nat) (S T V : Nat->Nat->Int) : LastsB (KNew n0 R C S T V):=by
 intro w w' v hb ⟨a,b,c,d,e,f,g,h1,h2,h3,h4⟩;exact ⟨a,b,c,d,e,f,g,h1,h2,h3.below hb,h4⟩
theorem ThreeV.new {n0 R C : Nat} {S T V : Nat->Nat->Int} {w : World} {cs : Array Value} (h : ThreeV n0 R C S T V w (.agg cs)) (hn : n0<=w.heap.size) : KNew n0 R C S T V (w.alloc (.cells cs tWk)) (.pointer (some ⟨w.heap.size,0,none⟩)):=by
 obtain ⟨so,sc,uo,uc,vo,vc,bs,bu,bv,e,h2,h3,h4,h5,h6,h7,h8⟩:=h.ex;injection e with e
 subst e;have hb : Below w.heap.size w (w.alloc (.cells #[.int .i64 R,.int .i64 C,.slice so R sc,.int .i64 R,.int .i64 R,.slice uo R uc,.int .i64 R,.int .i64 R,.slice vo R vc] tWk)):=(Below.refl _ _).alloc (xgf _) _;exact ⟨_,_,_,_,_,_,_,rfl,hn,⟨Blk.new _ _ _,h2.below hb,h3.below hb,h4.below hb,h6,h7,h8⟩,h5⟩
theorem r5identityW (n : Nat) (w : World) (hn : n<=1000000) : Calls Tryz.prog 38 #[.int .i64 n] w fun e w'=>∃v,e = .returned v/\Within n n idf w.heap.size w'.heap.size w' v/\Below w.heap.size w w':=
 (r5identity_any n w hn).mono fun _ _ h=>h.within
theorem r5copiedW (v : Value) (R C : Nat) (M : List (List Int)) (w : World) (h : MatV w v R C M) (hF : Fits R C M) (hR : R<=1000000) (hC : C<=1000000) (hS : ∀r ∈ M,∀z ∈ r,Sm z) :
  Calls Tryz.prog 52 #[v] w fun e w'=>∃v,e = .returned v/\Within R C (ent M) w.heap.size w'.heap.size w' v/\Below w.heap.size w w':=
 (r5copied_any v R C M w h hF hR hC hS).mono fun _ _ h=>RetMat.within (by rwa [<-fits_genM hF])
theorem r12start_any (v : Value) (M : List (List Int)) (R C : Nat) (w : World) (h : MatV w v R C M) (hF : Fits R C M) (hR : R<=1000000) (hC : C<=1000000) (hS : ∀r ∈ M,∀z ∈ r,Sm z) :
  Calls Tryz.prog 79 #[v] w fun e w'=>∃v,e = .returned v/\KNew w.heap.size R C (ent M) idf idf w' v/\Below w.heap.size w w':=by
 have h0:=h;obtain ⟨A,rfl,h⟩:=h;obtain ⟨ao,n,cap,rfl,e2,e3,e4,-⟩:=id h;have HS:=xgv hS;have HF:=xgv hF;have H0:=xgv h0;clear h0 hF e2 hS h;go_enter Tryz.func79,Tryz.ntmps79;go_upto_region 1 with (fail)
 refine wp_world ?_;intro W0 hW0;obtain ⟨hB0,bx,hs0⟩:=world1 hW0;obtain ⟨c1,c2,c3,c4,c5,c6⟩:=bx.three;have hl1:=lastsB_three W0.heap.size R C (ent M) idf idf;have hl2:=lastsB_knew W0.heap.size R C (ent M) idf idf;have lbx:=bx.lt;clear hW0;refine wp_region_headed 10 rfl (RG W0 _ [⟨0,3,fun _ v=>v = .agg #[.int .i64 R,.int .i64 C,.slice ao n cap]⟩,⟨2,5,fun _ v=>v = .pointer (some ⟨w.heap.size,0,none⟩)⟩,⟨3,6,fun _ v=>v = .int .i64 R⟩,⟨5,8,fun _ v=>v = .pointer (some ⟨w.heap.size,0,none⟩)⟩,⟨6,9,fun _ v=>v = .int .i64 R⟩,⟨8,11,ThreeV W0.heap.size R C (ent M) idf idf⟩,⟨9,12,KNew W0.heap.size R C (ent M) idf idf⟩] [⟨1,4,R,C,ent M⟩,⟨4,7,R,R,idf⟩,⟨7,10,R,R,idf⟩]) kR RG.start ?fin1 ?steps1
 case steps1=>
  refine ⟨?_,?_,?_,?_,?_,?_,?_,?_,?_,?_,trivial⟩ <;> (intro L T wS hL hd hcl hI K hK; try refine step_wanted rfl ?_)
  ·have zt : T[1]? = some (.pointer (some ⟨w.heap.size,0,none⟩)):=hI.keep 1 sI sI
   have cc0:=hI.cell c1;have cc1:=hI.cell c2;have cc2:=hI.cell c3;go_simp;exact hK _ _ (hI.y mm0 rfl)
  ·obtain ⟨_,zt0,rfl⟩:=hI.v mm0 (hd 0)
   go_simp;refine (r5copiedW _ R C M _ ((H0.out.below hB0).below hI.bel) HF.out hR hC HS.out).mono ?_;rintro e wa ⟨v,rfl,hv,hba⟩;exact hK _ _ (hI.mat hcl hL ⟨1,4,_,_,_⟩ mm0 rfl hba hv kR)
  ·have zt : T[1]? = some (.pointer (some ⟨w.heap.size,0,none⟩)):=hI.keep 1 sI sI
   go_simp;exact hK _ _ (hI.y mm1 rfl)
  ·obtain ⟨_,zt2,rfl⟩:=hI.v mm1 (hd 2)
   have cc0:=hI.cell c1;go_simp;exact hK _ _ (hI.y mm2 rfl)
  ·obtain ⟨_,zt3,rfl⟩:=hI.v mm2 (hd 3)
   go_simp;refine (r5identityW R _ hR).mono ?_;rintro e wa ⟨v,rfl,hv,hba⟩;exact hK _ _ (hI.mat hcl hL ⟨4,7,_,_,_⟩ mm1 rfl hba hv kR)
  ·have zt : T[1]? = some (.pointer (some ⟨w.heap.size,0,none⟩)):=hI.keep 1 sI sI
   go_simp;exact hK _ _ (hI.y mm3 rfl)
  ·obtain ⟨_,zt5,rfl⟩:=hI.v mm3 (hd 5)
   have cc0:=hI.cell c1;go_simp;exact hK _ _ (hI.y mm4 rfl)
  ·obtain ⟨_,zt6,rfl⟩:=hI.v mm4 (hd 6)
   go_simp;refine (r5identityW R _ hR).mono ?_;rintro e wa ⟨v,rfl,hv,hba⟩;exact hK _ _ (hI.mat hcl hL ⟨7,10,_,_,_⟩ mm2 rfl hba hv kR)
  ·obtain ⟨so,sc,uo,uc,vo,vc,t1,t2,t3,hthree⟩:=hI.three oM oM (hd 1) (hd 4) (hd 7)
   go_simp;exact hK _ _ (hI.y mm5 hthree)
  ·obtain ⟨v8,zt8,h8⟩:=hI.v mm5 (hd 8)
   have h8' : ThreeV W0.heap.size R C (ent M) idf idf wS v8:=h8;obtain ⟨so,sc,uo,uc,vo,vc,bs,bu,bv,rfl,-⟩:=h8'.ex;go_simp;exact hK _ _ ((hI.world ((Below.refl _ _).alloc (xgf _) _)).y mm6 (h8'.new hI.bel.size))
 intro T w2 hI;obtain ⟨va0,q0,rfl⟩:=hI.v mm0 rfl;obtain ⟨va2,q2,rfl⟩:=hI.v mm1 rfl;obtain ⟨va3,q3,rfl⟩:=hI.v mm2 rfl;obtain ⟨va5,q5,rfl⟩:=hI.v mm3 rfl;obtain ⟨va6,q6,rfl⟩:=hI.v mm4 rfl;obtain ⟨va8,q8,ha8⟩:=hI.v mm5 rfl;obtain ⟨va9,q9,ha9⟩:=hI.v mm6 rfl;obtain ⟨va1,q1,moa1,mca1,mea1⟩:=hI.matv _ mm0 rfl;obtain ⟨va4,q4,moa4,mca4,mea4⟩:=hI.matv _ mm1 rfl;obtain ⟨va7,q7,moa7,mca7,mea7⟩:=hI.matv _ mm2 rfl;have hT:=tmps_set [(3,.agg #[.int .i64 R,.int .i64 C,.slice ao n cap]),(5,.pointer (some ⟨w.heap.size,0,none⟩)),(6,.int .i64 R),(8,.pointer (some ⟨w.heap.size,0,none⟩)),(9,.int .i64 R),(11,va8),(12,va9),(4,va1),(7,va4),(10,va7)]
  (fun j hj=>hI.keep j (by simp only [xgm] at hj ⊢; simp [hj]) (by simp only [xgm] at hj ⊢; simp [hj]))
  (by simp only [xgm]; simp [q0,q2,q3,q5,q6,q8,q9,q1,q4,q7]) hI.size
 have hbw2:=hI.bel;clear hI;simp only [List.foldl_cons,List.foldl_nil,xgh,xgi,xgj,ptr] at hT;subst hT;clear q0 q2 q3 q5 q6 q8 q9 q1 q4 q7;simp only [xgl,xgk];have ha9' : KNew W0.heap.size R C (ent M) idf idf w2 va9:=ha9;obtain ⟨bw,AM,AU,AV,bm,bu,bv,rfl,k1,k2,k3⟩:=ha9'.ex;have hsz:=hB0.size;clear c1 c2 c3 c4 c5 c6 ha8 ha9 ha9';go_wp2;go_ret;exact ⟨_,rfl,⟨_,_,_,_,_,_,_,rfl,by omega,k2,fun b hb=>Nat.le_trans hsz (k3 b hb)⟩,nx hB0 hbw2⟩
theorem r12floor_any (v1 v2 : Value) (a b : Int) (w : World) (h1 : IntV w v1 a) (h2 : IntV w v2 b) (s1 : Smd a) (s2 : Smd b) (hb : b ≠ 0) :
  Calls Tryz.prog 90 #[v1,v2] w (RetInt w (a / b)):=by
 obtain ⟨n1,a1,l1,k1,x1,rfl,hx1⟩:=id h1;obtain ⟨n2,a2,l2,k2,x2,rfl,hx2⟩:=id h2;have HX1:=xgw hx1;have HX2:=xgw hx2;have HS1:=xgv s1;have HS2:=xgv s2;have HB:=xgw hb;clear hx1 hx2 s1 s2 hb;go_enter Tryz.func90,Tryz.ntmps90;go_upto_region 1 with (fail)
 refine wp_world ?_;intro W0 hW0;obtain ⟨hB0,bx1,bx2,br,hs0⟩:=world3 hW0;obtain ⟨c1,c2,c3,c4⟩:=bx1.two;obtain ⟨d1,d2,d3,d4⟩:=bx2.two;have h1:=h1.ext (lx hB0);have h2:=h2.ext (lx hB0);clear hW0;go_wp2_with fail
 refine (r1divmod_any _ _ a b W0 h1 h2 HS1.out HS2.out HB.out).mono ?_;rintro e w2 ⟨q0,r0,rfl,hq,hr,hb2⟩;obtain ⟨qn,qa,ql,qc,qx,rfl,hq'⟩:=id hq;obtain ⟨rn,ra,rl,rc,rx,rfl,hr'⟩:=id hr;have HQ':=xgw hq';have HR':=xgw hr';have br:=br.below hb2;have lbr:=br.lt;have hB2:=nx hB0 hb2;clear hq' hr' c1 c2 c3 c4 d1 d2 d3 d4;go_upto_region 2 with (fail)
 refine wp_world ?_;intro W3 hW3;obtain ⟨hB3,T5,T6,hs3⟩:=world2 hW3;have hq:=hq.ext (lx hB3);have br:=br.below hB3;have hB3:=nx hB2 hB3;obtain ⟨d1,d2,d3,d4⟩:=T5.two;obtain ⟨e1,e2,e3,e4⟩:=br.two;clear hW3;go_wp2;refine bodyPost_int (r:=w.heap.size + 1 + 1) rfl rfl rfl (br.put2 _ _) (hq.ext (br.lext2 dE _ _)) (bset (bset hB3 oM _ _) oM _ _)
end Go.Proofs.YtgnmdddaiefooaaGreat
