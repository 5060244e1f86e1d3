/- torsionref12: Work.AddTo (printed by genK.py). torsionref12: Work.Swap (printed by genK2.py). torsionref12: Start, Floor. smith.Invariants and smith.Form of small matrices, with what they yield. torsionlaw13.sanity. What the Checks ask for; Invariants of a small matrix as a list. -/
import Derived.Test.YtjdemlfceaikgaaGreatK08
import Derived.Test.YtjdemlfceaikgaaGreatK10
import Derived.Test.YtjdemlfceaikgaaGreatK13
import Derived.Test.YtjdemlfceaikgaaGreatK15
import Derived.Test.YtjdemlfceaikgaaGreatK16
set_option linter.unusedVariables false
set_option linter.unusedSimpArgs false
set_option linter.unusedSectionVars false
namespace Go.Proofs.YtjdemlfceaikgaaGreat
open Go.RowKit
set_option maxHeartbeats 16000000 in
set_option maxRecDepth 20000 in
theorem r12add_any (bw : Nat) (AM AU AV : Value) (R C i j : Nat) (bm bu bv : List Nat) (x : Bst) (kv : Value) (k : Int) (w : World) (h : K9 w bw AM AU AV R C bm bu bv x.s x.t (fun a b=>x.i b a)) (hi : i < R) (hj : j < R) (hij : i ≠ j) (hk : IntV w kv k) (hks : Sm k) (hR : R<=1000000) (hC : C<=1000000)
  (hS : ∀t,t < C->Sm (x.s i t)/\Sm (x.s j t)/\Sm (k * x.s j t)) (hT : ∀t,t < R->Sm (x.t i t)/\Sm (x.t j t)/\Sm (k * x.t j t)) (hV : ∀t,t < R->Sm (x.i j t)/\Sm (x.i i t)/\Sm (k * x.i i t)) :
  Calls Tryz.prog 139 #[.pointer (some ⟨bw,0,none⟩),.int .i64 i,.int .i64 j,kv] w fun e w'=>(∃u,e = .returned u)/\OnlyZ (Z3 AM AU AV bm bu bv) w w'/\K9 w' bw AM AU AV R C bm bu bv (x.add i j k).s (x.add i j k).t (fun a b=>(x.add i j k).i b a):=by
 have HSM:=HidS.mk hS
 have HSU:=HidS.mk hT
 have HSV:=HidS.mk hV
 obtain ⟨gm,cm,rfl⟩:=h.m.base oM
 obtain ⟨gu,cu,rfl⟩:=h.u.base oM
 obtain ⟨gv,cv,rfl⟩:=h.v.base oM
 obtain ⟨bMi,hbmi⟩:=h.m.bex hi
 obtain ⟨bUi,hbui⟩:=h.u.bex hi
 obtain ⟨bMj,hbmj⟩:=h.m.bex hj
 obtain ⟨bUj,hbuj⟩:=h.u.bex hj
 have HKS:=HidS.mk hks
 have HIJ:=HidS.mk hij
 obtain ⟨kn,ka,kl,kc,kx,rfl,hkx⟩:=id hk
 have HKX:=Lib.hid hkx
 have hzl:=fun b hb=>h.zlt (b:=b) hb
 clear hS hT hV hks hij hkx
 go_enter Tryz.func139,Tryz.ntmps139
 go_upto_region 1 with (fail)
 refine wp_world ?_
 intro W0 hW0
 obtain ⟨hB0,hbk,hs0⟩:=world1 hW0
 have hK:=h.below hB0
 have hkw:=hk.ext (lx hB0)
 have hO:=OnlyZ.of (Z3 (.slice (some ⟨gm,0,none⟩) R cm) (.slice (some ⟨gu,0,none⟩) R cu) (.slice (some ⟨gv,0,none⟩) R cv) bm bu bv) hB0
 clear hW0 h
 go_wp2
 go_loopw [8] (fun jv wr=>∃c : Nat,c<=C/\jv = .int .i64 c/\OnlyZ (Z3 (.slice (some ⟨gm,0,none⟩) R cm) (.slice (some ⟨gu,0,none⟩) R cu) (.slice (some ⟨gv,0,none⟩) R cv) bm bu bv) w wr/\Blk wr w.heap.size 66 #[.bool kn,.slice ka kl kc]/\IntV wr (.agg #[.bool kn,.slice ka kl kc]) k/\K9 wr bw (.slice (some ⟨gm,0,none⟩) R cm) (.slice (some ⟨gu,0,none⟩) R cu) (.slice (some ⟨gv,0,none⟩) R cv) R C bm bu bv (upR x.s (x.add i j k).s i c) x.t (fun a b=>x.i b a)) (fun jv _=>C - (intOf jv).toNat)
 case atStart=>exact ⟨0,by omega,rfl,hO,hbk,hkw,by rw [upR_zero]; exact hK⟩
 case round=>
  clear hK hO hbk hkw
  obtain ⟨c,hc,rfl,hO,hbk,hkw,hK⟩:=hrel
  obtain ⟨q0,q1,q2,q3,q4,q5,q6,q7,q8⟩:=hK.blk.nine
  have lbw:=hK.blk.lt
  obtain ⟨k1,k2,k3,k4⟩:=hbk.two
  have lbk:=hbk.lt
  by_cases hlt : c < C
  ·have lg:=hK.zlt (b:=gm) (.inl (.inr rfl))
   have lb:=hK.zlt (b:=bMi) (.inl (.inl (List.mem_of_getElem? hbmi)))
   have lb2:=hK.zlt (b:=bMj) (.inl (.inl (List.mem_of_getElem? hbmj)))
   have o1:=hK.m.rowc hi hbmi
   obtain ⟨xs,xa,xl,xc,p1,p2,-,-,hx⟩:=hK.m.elem hi hbmi hlt
   rw [upR_at] at hx
   have o2:=hK.m.rowc hj hbmj
   obtain ⟨ys,ya,yl,yc,z1,z2,-,-,hy⟩:=hK.m.elem hj hbmj hlt
   rw [upR_ne _ _ HIJ.out] at hy
   obtain ⟨s1,s2,s3⟩:=HSM.out c hlt
   have T1:=HidS.mk s1
   have T2:=HidS.mk s2
   have T3:=HidS.mk s3
   clear s1 s2 s3
   go_upto_region 4 with (fail)
   refine wp_serH 35 [pcI 32 (k * x.s j c),pcD 33 [32] (fun w v=>IntV w v (x.s i c + k * x.s j c))] ?_
   refine sRd ?_
   refine sRc (fun wS hI Gk hG=>by go_simp; exact ck hG (r1mul_any _ _ k (x.s j c) _ (hkw.ext hI.lext) (hy.ext hI.lext) HKS.out T2.out)) (fun va32 _=>?_)
   refine sRc (fun wS hI ha32 Gk hG=>by go_simp; exact ck hG (r1add_any _ _ (x.s i c) (k * x.s j c) _ (hx.ext hI.lext) ha32 T1.out T3.out)) (fun va33 _=>?_)
   refine sRd ?_
   refine sRe ?_
   intro w9 hbw9 ha32 ha33
   have hlw9:=lx hbw9
   have holdw9:=hbw9.block
   obtain ⟨pn,pa,pl,pc,px,rfl,hpx⟩:=id ha33
   have HPX:=Lib.hid hpx
   clear hpx
   have hK9:=hK.below hbw9
   have hbk9:=hbk.below hbw9
   have hkw9:=hkw.ext (lx hbw9)
   obtain ⟨sn,sa,sl,sc,y1,y2,y3,y4,-⟩:=hK9.m.elem hi hbmi hlt
   obtain ⟨hP,hOP⟩:=hK9.putM hi hbmi hlt ha33
   rw [upR_put (by show _ = addF x.s i j k i c; unfold addF; rw [if_pos rfl])] at hP
   have hO9:=hO.trans (OnlyZ.of _ hbw9)
   have hZ : Z3 (.slice (some ⟨gm,0,none⟩) R cm) (.slice (some ⟨gu,0,none⟩) R cu) (.slice (some ⟨gv,0,none⟩) R cv) bm bu bv bMi:=.inl (.inl (List.mem_of_getElem? hbmi))
   have hne : w.heap.size ≠ bMi:=by have:=hzl _ hZ; omega
   clear o1 o2 p1 p2 z1 z2 k1 k2 k3 k4
   go_wp2
   go_roundw
   case rel=>exact ⟨c + 1,by omega,by simp,hO9.trans (hOP.mono fun k _ hk=>by rw [hk]; exact hZ),hOP.blk hbk9 hne,hkw9.ext hOP.lext,hP⟩
   case measure=>simp [intOf]; omega
  ·have hcC : c = C:=by omega
   replace hK : K9 wr bw (.slice (some ⟨gm,0,none⟩) R cm) (.slice (some ⟨gu,0,none⟩) R cu) (.slice (some ⟨gv,0,none⟩) R cv) R C bm bu bv (x.add i j k).s x.t (fun a b=>x.i b a):=hK.congr (fun a _ b hb=>by
      show upR _ _ i c a b = _
      unfold upR
      by_cases h1 : a = i
      ·rw [if_pos ⟨h1,by omega⟩]
      ·rw [if_neg (fun h=>h1 h.1)]
       show _ = addF x.s i j k a b
       unfold addF; rw [if_neg h1]) (fun _ _ _ _=>rfl) (fun _ _ _ _=>rfl)
   clear hcC
   go_wp2
   go_loopw [9] (fun jv wr=>∃c : Nat,c<=R/\jv = .int .i64 c/\OnlyZ (Z3 (.slice (some ⟨gm,0,none⟩) R cm) (.slice (some ⟨gu,0,none⟩) R cu) (.slice (some ⟨gv,0,none⟩) R cv) bm bu bv) w wr/\Blk wr w.heap.size 66 #[.bool kn,.slice ka kl kc]/\IntV wr (.agg #[.bool kn,.slice ka kl kc]) k/\K9 wr bw (.slice (some ⟨gm,0,none⟩) R cm) (.slice (some ⟨gu,0,none⟩) R cu) (.slice (some ⟨gv,0,none⟩) R cv) R C bm bu bv (x.add i j k).s (upR x.t (x.add i j k).t i c) (fun a b=>x.i b a)) (fun jv _=>R - (intOf jv).toNat)
   case atStart=>exact ⟨0,by omega,rfl,hO,hbk,hkw,by rw [upR_zero]; exact hK⟩
   case round=>
    clear hK hO hbk hkw
    obtain ⟨c,hc,rfl,hO,hbk,hkw,hK⟩:=hrel
    obtain ⟨q0,q1,q2,q3,q4,q5,q6,q7,q8⟩:=hK.blk.nine
    have lbw:=hK.blk.lt
    obtain ⟨k1,k2,k3,k4⟩:=hbk.two
    have lbk:=hbk.lt
    by_cases hlt : c < R
    ·have lg:=hK.zlt (b:=gu) (.inr (.inl (.inr rfl)))
     have lb:=hK.zlt (b:=bUi) (.inr (.inl (.inl (List.mem_of_getElem? hbui))))
     have lb2:=hK.zlt (b:=bUj) (.inr (.inl (.inl (List.mem_of_getElem? hbuj))))
     have o1:=hK.u.rowc hi hbui
     obtain ⟨xs,xa,xl,xc,p1,p2,-,-,hx⟩:=hK.u.elem hi hbui hlt
     rw [upR_at] at hx
     have o2:=hK.u.rowc hj hbuj
     obtain ⟨ys,ya,yl,yc,z1,z2,-,-,hy⟩:=hK.u.elem hj hbuj hlt
     rw [upR_ne _ _ HIJ.out] at hy
     obtain ⟨s1,s2,s3⟩:=HSU.out c hlt
     have T1:=HidS.mk s1
     have T2:=HidS.mk s2
     have T3:=HidS.mk s3
     clear s1 s2 s3
     go_upto_region 8 with (fail)
     refine wp_serH 35 [pcI 32 (k * x.t j c),pcD 33 [32] (fun w v=>IntV w v (x.t i c + k * x.t j c))] ?_
     refine sRd ?_
     refine sRc (fun wS hI Gk hG=>by go_simp; exact ck hG (r1mul_any _ _ k (x.t j c) _ (hkw.ext hI.lext) (hy.ext hI.lext) HKS.out T2.out)) (fun va32 _=>?_)
     refine sRc (fun wS hI ha32 Gk hG=>by go_simp; exact ck hG (r1add_any _ _ (x.t i c) (k * x.t j c) _ (hx.ext hI.lext) ha32 T1.out T3.out)) (fun va33 _=>?_)
     refine sRd ?_
     refine sRe ?_
     intro w9 hbw9 ha32 ha33
     have hlw9:=lx hbw9
     have holdw9:=hbw9.block
     obtain ⟨pn,pa,pl,pc,px,rfl,hpx⟩:=id ha33
     have HPX:=Lib.hid hpx
     clear hpx
     have hK9:=hK.below hbw9
     have hbk9:=hbk.below hbw9
     have hkw9:=hkw.ext (lx hbw9)
     obtain ⟨sn,sa,sl,sc,y1,y2,y3,y4,-⟩:=hK9.u.elem hi hbui hlt
     obtain ⟨hP,hOP⟩:=hK9.putU hi hbui hlt ha33
     rw [upR_put (by show _ = addF x.t i j k i c; unfold addF; rw [if_pos rfl])] at hP
     have hO9:=hO.trans (OnlyZ.of _ hbw9)
     have hZ : Z3 (.slice (some ⟨gm,0,none⟩) R cm) (.slice (some ⟨gu,0,none⟩) R cu) (.slice (some ⟨gv,0,none⟩) R cv) bm bu bv bUi:=.inr (.inl (.inl (List.mem_of_getElem? hbui)))
     have hne : w.heap.size ≠ bUi:=by have:=hzl _ hZ; omega
     clear o1 o2 p1 p2 z1 z2 k1 k2 k3 k4
     go_wp2
     go_roundw
     case rel=>exact ⟨c + 1,by omega,by simp,hO9.trans (hOP.mono fun k _ hk=>by rw [hk]; exact hZ),hOP.blk hbk9 hne,hkw9.ext hOP.lext,hP⟩
     case measure=>simp [intOf]; omega
    ·have hcC : c = R:=by omega
     replace hK : K9 wr bw (.slice (some ⟨gm,0,none⟩) R cm) (.slice (some ⟨gu,0,none⟩) R cu) (.slice (some ⟨gv,0,none⟩) R cv) R C bm bu bv (x.add i j k).s (x.add i j k).t (fun a b=>x.i b a):=hK.congr (fun _ _ _ _=>rfl) (fun a _ b hb=>by
        show upR _ _ i c a b = _
        unfold upR
        by_cases h1 : a = i
        ·rw [if_pos ⟨h1,by omega⟩]
        ·rw [if_neg (fun h=>h1 h.1)]
         show _ = addF x.t i j k a b
         unfold addF; rw [if_neg h1]) (fun _ _ _ _=>rfl)
     clear hcC
     go_wp2
     go_loopw [10] (fun jv wr=>∃c : Nat,c<=R/\jv = .int .i64 c/\OnlyZ (Z3 (.slice (some ⟨gm,0,none⟩) R cm) (.slice (some ⟨gu,0,none⟩) R cu) (.slice (some ⟨gv,0,none⟩) R cv) bm bu bv) w wr/\Blk wr w.heap.size 66 #[.bool kn,.slice ka kl kc]/\IntV wr (.agg #[.bool kn,.slice ka kl kc]) k/\K9 wr bw (.slice (some ⟨gm,0,none⟩) R cm) (.slice (some ⟨gu,0,none⟩) R cu) (.slice (some ⟨gv,0,none⟩) R cv) R C bm bu bv (x.add i j k).s (x.add i j k).t (upC (fun a b=>x.i b a) (fun a b=>(x.add i j k).i b a) j c)) (fun jv _=>R - (intOf jv).toNat)
     case atStart=>exact ⟨0,by omega,rfl,hO,hbk,hkw,by rw [upC_zero]; exact hK⟩
     case round=>
      clear hK hO hbk hkw
      obtain ⟨c,hc,rfl,hO,hbk,hkw,hK⟩:=hrel
      obtain ⟨q0,q1,q2,q3,q4,q5,q6,q7,q8⟩:=hK.blk.nine
      have lbw:=hK.blk.lt
      obtain ⟨k1,k2,k3,k4⟩:=hbk.two
      have lbk:=hbk.lt
      by_cases hlt : c < R
      ·have lg:=hK.zlt (b:=gv) (.inr (.inr (.inr rfl)))
       obtain ⟨bVr,hbvr⟩:=hK.v.bex hlt
       have lb:=hK.zlt (b:=bVr) (.inr (.inr (.inl (List.mem_of_getElem? hbvr))))
       have o1:=hK.v.rowc hlt hbvr
       obtain ⟨xs,xa,xl,xc,p1,p2,-,-,hx⟩:=hK.v.elem hlt hbvr hj
       rw [upC_at] at hx
       obtain ⟨ys,ya,yl,yc,z1,z2,-,-,hy⟩:=hK.v.elem hlt hbvr hi
       rw [upC_ne _ _ (Ne.symm HIJ.out)] at hy
       obtain ⟨s1,s2,s3⟩:=HSV.out c hlt
       have T1:=HidS.mk s1
       have T2:=HidS.mk s2
       have T3:=HidS.mk s3
       clear s1 s2 s3
       go_upto_region 12 with (fail)
       refine wp_serH 35 [pcI 32 (k * x.i i c),pcD 33 [32] (fun w v=>IntV w v (x.i j c - k * x.i i c))] ?_
       refine sRd ?_
       refine sRc (fun wS hI Gk hG=>by go_simp; exact ck hG (r1mul_any _ _ k (x.i i c) _ (hkw.ext hI.lext) (hy.ext hI.lext) HKS.out T2.out)) (fun va32 _=>?_)
       refine sRc (fun wS hI ha32 Gk hG=>by go_simp; exact ck hG (r1sub_any _ _ (x.i j c) (k * x.i i c) _ (hx.ext hI.lext) ha32 T1.out T3.out)) (fun va33 _=>?_)
       refine sRd ?_
       refine sRe ?_
       intro w9 hbw9 ha32 ha33
       have hlw9:=lx hbw9
       have holdw9:=hbw9.block
       obtain ⟨pn,pa,pl,pc,px,rfl,hpx⟩:=id ha33
       have HPX:=Lib.hid hpx
       clear hpx
       have hK9:=hK.below hbw9
       have hbk9:=hbk.below hbw9
       have hkw9:=hkw.ext (lx hbw9)
       obtain ⟨sn,sa,sl,sc,y1,y2,y3,y4,-⟩:=hK9.v.elem hlt hbvr hj
       obtain ⟨hP,hOP⟩:=hK9.putV hlt hbvr hj ha33
       rw [upC_put (by show _ = addF x.i j i (-k) j c; unfold addF; rw [if_pos rfl,Int.neg_mul,Int.sub_eq_add_neg])] at hP
       have hO9:=hO.trans (OnlyZ.of _ hbw9)
       have hZ : Z3 (.slice (some ⟨gm,0,none⟩) R cm) (.slice (some ⟨gu,0,none⟩) R cu) (.slice (some ⟨gv,0,none⟩) R cv) bm bu bv bVr:=.inr (.inr (.inl (List.mem_of_getElem? hbvr)))
       have hne : w.heap.size ≠ bVr:=by have:=hzl _ hZ; omega
       clear o1 p1 p2 z1 z2 k1 k2 k3 k4
       go_wp2
       go_roundw
       case rel=>exact ⟨c + 1,by omega,by simp,hO9.trans (hOP.mono fun k _ hk=>by rw [hk]; exact hZ),hOP.blk hbk9 hne,hkw9.ext hOP.lext,hP⟩
       case measure=>simp [intOf]; omega
      ·have hcC : c = R:=by omega
       replace hK : K9 wr bw (.slice (some ⟨gm,0,none⟩) R cm) (.slice (some ⟨gu,0,none⟩) R cu) (.slice (some ⟨gv,0,none⟩) R cv) R C bm bu bv (x.add i j k).s (x.add i j k).t (fun a b=>(x.add i j k).i b a):=hK.congr (fun _ _ _ _=>rfl) (fun _ _ _ _=>rfl) (fun a ha b _=>by
          show upC _ _ j c a b = _
          unfold upC
          by_cases h1 : b = j
          ·rw [if_pos ⟨h1,by omega⟩]
          ·rw [if_neg (fun h=>h1 h.1)]
           show _ = addF x.i j i (-k) b a
           unfold addF; rw [if_neg h1])
       clear hcC
       go_wp2
       exact bodyPost_end (results_none rfl _ _ _) rfl ⟨⟨_,rfl⟩,hO,hK⟩
theorem zn_swpL {A : Value} {bs : List Nat} {i j b : Nat} (hi : i < bs.length) (hj : j < bs.length) (h : Zn A (swpL bs i j) b) : Zn A bs b:=h.imp (mem_swpL hi hj) id
section
variable {w : World} {bw gm gu cm cu : Nat} {AM AU AV : Value} {R C : Nat} {bm bu bv : List Nat} {S T V : Nat->Nat->Int}
theorem K9.swapM (h : K9 w bw (.slice (some ⟨gm,0,none⟩) R cm) AU AV R C bm bu bv S T V) {i j bi bj : Nat} (hi : i < R) (hj : j < R) (hbi : bm[i]? = some bi) (hbj : bm[j]? = some bj) :
  K9 ((w.setCell ⟨gm,i,none⟩ (.slice (some ⟨bj,0,none⟩) C C)).setCell ⟨gm,j,none⟩ (.slice (some ⟨bi,0,none⟩) C C)) bw (.slice (some ⟨gm,0,none⟩) R cm) AU AV R C (swpL bm i j) bu bv (fun a b=>S (swp i j a) b) T V ∧
   OnlyZ (fun k=>k = gm) w ((w.setCell ⟨gm,i,none⟩ (.slice (some ⟨bj,0,none⟩) C C)).setCell ⟨gm,j,none⟩ (.slice (some ⟨bi,0,none⟩) C C)):=by
 obtain ⟨h1,h2⟩:=h.m.swap hi hj hbi hbj
 have hl:=h.m.len
 have ho:=oz2 h2
 have hz : Zn (.slice (some ⟨gm,0,none⟩) R cm) bm gm:=.inr rfl
 have hi' : i < bm.length:=by omega
 have hj' : j < bm.length:=by omega
 exact ⟨⟨ho.blk h.blk (fun e=>h.nm (by rw [e]; exact hz)),h1,h.u.keep1 ho (h.mu _ hz),h.v.keep1 ho (h.mv _ hz),fun b hb=>h.mu b (zn_swpL hi' hj' hb),fun b hb=>h.mv b (zn_swpL hi' hj' hb),h.uv⟩,ho⟩
theorem K9.swapU (h : K9 w bw AM (.slice (some ⟨gu,0,none⟩) R cu) AV R C bm bu bv S T V) {i j bi bj : Nat} (hi : i < R) (hj : j < R) (hbi : bu[i]? = some bi) (hbj : bu[j]? = some bj) :
  K9 ((w.setCell ⟨gu,i,none⟩ (.slice (some ⟨bj,0,none⟩) R R)).setCell ⟨gu,j,none⟩ (.slice (some ⟨bi,0,none⟩) R R)) bw AM (.slice (some ⟨gu,0,none⟩) R cu) AV R C bm (swpL bu i j) bv S (fun a b=>T (swp i j a) b) V ∧
   OnlyZ (fun k=>k = gu) w ((w.setCell ⟨gu,i,none⟩ (.slice (some ⟨bj,0,none⟩) R R)).setCell ⟨gu,j,none⟩ (.slice (some ⟨bi,0,none⟩) R R)):=by
 obtain ⟨h1,h2⟩:=h.u.swap hi hj hbi hbj
 have hl:=h.u.len
 have ho:=oz2 h2
 have hz : Zn (.slice (some ⟨gu,0,none⟩) R cu) bu gu:=.inr rfl
 have hi' : i < bu.length:=by omega
 have hj' : j < bu.length:=by omega
 exact ⟨⟨ho.blk h.blk (fun e=>h.nu (by rw [e]; exact hz)),h.m.keep1 ho (fun hh=>h.mu _ hh hz),h1,h.v.keep1 ho (h.uv _ hz),fun b hb hh=>h.mu b hb (zn_swpL hi' hj' hh),h.mv,fun b hb=>h.uv b (zn_swpL hi' hj' hb)⟩,ho⟩
theorem Wri.gb {g n cap : Nat} {F : Nat->Nat->Int} {bs : List Nat} (h : Wri w (.slice (some ⟨g,0,none⟩) n cap) R C bs F) : ∃cur,Blk w g tR cur/\n<=cur.size:=RowsO.gblk h
theorem Blk.cell1 {w : World} {g i j : Nat} {t : TypeId} {cur : Array Value} {u : Value} (h : Blk w g t cur) (hj : j < cur.size) : ∃z,(w.setCell ⟨g,i,none⟩ u).cell? ⟨g,j,none⟩ = some z:=by
 rw [(h.set_ i u).cell j]
 exact ⟨_,Array.getElem?_eq_getElem (by simpa using hj)⟩
end
def swpV (F : Nat->Nat->Int) (i j c : Nat) : Nat->Nat->Int:=fun a b=>if a < c then F a (swp i j b) else F a b
theorem swpV_zero (F : Nat->Nat->Int) (i j : Nat) : swpV F i j 0 = F:=by funext a b; unfold swpV; rw [if_neg oM]
theorem swpV_at (F : Nat->Nat->Int) (i j c b : Nat) : swpV F i j c c b = F c b:=by unfold swpV; rw [if_neg oM]
theorem swpV_put (F : Nat->Nat->Int) (i j c : Nat) : putF (putF (swpV F i j c) c i (F c j)) c j (F c i) = swpV F i j (c + 1):=by
 funext a b
 unfold putF swpV swp
 by_cases h1 : a = c
 ·subst h1
  by_cases h2 : b = j
  ·subst h2
   rw [if_pos ⟨rfl,rfl⟩,if_pos oM]
   split
   ·rename_i e; rw [e]
   ·rw [if_pos rfl]
  ·rw [if_neg (fun h=>h2 h.2)]
   by_cases h3 : b = i
   ·subst h3
    rw [if_pos ⟨rfl,rfl⟩,if_pos oM,if_pos rfl]
   ·rw [if_neg (fun h=>h3 h.2),if_neg oM,if_pos oM,if_neg h3,if_neg h2]
 ·rw [if_neg (fun h=>h1 h.1),if_neg (fun h=>h1 h.1)]
  by_cases h4 : a < c
  ·rw [if_pos h4,if_pos (show a < c + 1 by omega)]
  ·rw [if_neg h4,if_neg (show ¬ a < c + 1 by omega)]
set_option maxHeartbeats 16000000 in
set_option maxRecDepth 20000 in
theorem r12swap_any (bw : Nat) (AM AU AV : Value) (R C i j : Nat) (bm bu bv : List Nat) (x : Bst) (w : World) (h : K9 w bw AM AU AV R C bm bu bv x.s x.t (fun a b=>x.i b a)) (hi : i < R) (hj : j < R) (hR : R<=1000000) (hC : C<=1000000) :
  Calls Tryz.prog 141 #[.pointer (some ⟨bw,0,none⟩),.int .i64 i,.int .i64 j] w fun e w'=>(∃u,e = .returned u)/\OnlyZ (Z3 AM AU AV bm bu bv) w w'/\K9 w' bw AM AU AV R C (swpL bm i j) (swpL bu i j) bv (x.swap i j).s (x.swap i j).t (fun a b=>(x.swap i j).i b a):=by
 obtain ⟨gm,cm,rfl⟩:=h.m.base oM
 obtain ⟨gu,cu,rfl⟩:=h.u.base oM
 obtain ⟨gv,cv,rfl⟩:=h.v.base oM
 obtain ⟨bMi,hbmi⟩:=h.m.bex hi
 obtain ⟨bUi,hbui⟩:=h.u.bex hi
 obtain ⟨bMj,hbmj⟩:=h.m.bex hj
 obtain ⟨bUj,hbuj⟩:=h.u.bex hj
 have hzl:=fun b hb=>h.zlt (b:=b) hb
 go_enter Tryz.func141,Tryz.ntmps141
 have hK:=h
 have hO:=OnlyZ.refl (Z3 (.slice (some ⟨gm,0,none⟩) R cm) (.slice (some ⟨gu,0,none⟩) R cu) (.slice (some ⟨gv,0,none⟩) R cv) bm bu bv) w
 clear h
 obtain ⟨q0,q1,q2,q3,q4,q5,q6,q7,q8⟩:=hK.blk.nine
 have o1:=hK.m.rowc hi hbmi
 have o1:=hK.m.rowc hi hbmi
 have o2:=hK.m.rowc hj hbmj
 have lbw:=hK.blk.lt
 have lg:=hK.zlt (b:=gm) (.inl (.inr rfl))
 go_upto_region 1 with (fail)
 refine wp_serH 15 [] ?_
 refine sRd ?_
 refine sRf ?_
 intro w1 hbw1
 have hK1:=hK.below hbw1
 obtain ⟨cur,hcur,hcz⟩:=hK1.m.gb
 have f1:=hcur.frozen i
 have o3:=hK1.m.rowc hi hbmi
 have hfar : bw ≠ gm:=fun e=>hK1.nm (by rw [e]; exact .inr rfl)
 obtain ⟨hS,hOS⟩:=hK1.swapM hi hj hbmi hbmj
 have HSW:=HidS.mk (And.intro hS hOS)
 clear o1 o2 q0 q1 q2 q3 q4 q5 q6 q7 q8 hS hOS
 go_upto_region 2 with (fail)
 refine wp_world ?_
 intro w2 hW
 have hbk2:=hK1.blk.far hfar i (.slice (some ⟨bMj,0,none⟩) C C)
 rw [<-hW.out] at hbk2
 obtain ⟨q0,q1,q2,q3,q4,q5,q6,q7,q8⟩:=hbk2.nine
 have hc2:=hcur.set_ i (.slice (some ⟨bMj,0,none⟩) C C)
 have f2 : w2.frozen? ⟨gm,j,none⟩ = false:=by rw [hW.out]; exact hc2.frozen j
 obtain ⟨z,s1⟩ : ∃z,w2.cell? ⟨gm,j,none⟩ = some z:=by rw [hW.out]; exact hcur.cell1 oM
 clear f1 o3 hcur hc2
 go_upto_region 3 with (fail)
 refine wp_world ?_
 intro w3 hW3
 obtain ⟨hS,hOS⟩:=HSW.out
 rw [<-hW.out,<-hW3.out] at hS hOS
 have hO:=(hO.trans (OnlyZ.of _ hbw1)).trans (hOS.mono fun k _ hk=>by rw [hk]; exact (.inl (.inr rfl)))
 clear hK hK1 HSW hW hW3 f2 s1 q0 q1 q2 q3 q4 q5 q6 q7 q8
 have hK:=hS
 clear hS hOS
 obtain ⟨q0,q1,q2,q3,q4,q5,q6,q7,q8⟩:=hK.blk.nine
 have o1:=hK.u.rowc hi hbui
 have o1:=hK.u.rowc hi hbui
 have o2:=hK.u.rowc hj hbuj
 have lbw:=hK.blk.lt
 have lg:=hK.zlt (b:=gu) (.inr (.inl (.inr rfl)))
 go_upto_region 4 with (fail)
 refine wp_serH 15 [] ?_
 refine sRd ?_
 refine sRf ?_
 intro w4 hbw4
 have hK1:=hK.below hbw4
 obtain ⟨cur,hcur,hcz⟩:=hK1.u.gb
 have f1:=hcur.frozen i
 have o3:=hK1.u.rowc hi hbui
 have hfar : bw ≠ gu:=fun e=>hK1.nu (by rw [e]; exact .inr rfl)
 obtain ⟨hS,hOS⟩:=hK1.swapU hi hj hbui hbuj
 have HSW:=HidS.mk (And.intro hS hOS)
 clear o1 o2 q0 q1 q2 q3 q4 q5 q6 q7 q8 hS hOS
 go_upto_region 5 with (fail)
 refine wp_world ?_
 intro w5 hW
 have hbk2:=hK1.blk.far hfar i (.slice (some ⟨bUj,0,none⟩) R R)
 rw [<-hW.out] at hbk2
 obtain ⟨q0,q1,q2,q3,q4,q5,q6,q7,q8⟩:=hbk2.nine
 have hc2:=hcur.set_ i (.slice (some ⟨bUj,0,none⟩) R R)
 have f2 : w5.frozen? ⟨gu,j,none⟩ = false:=by rw [hW.out]; exact hc2.frozen j
 obtain ⟨z,s1⟩ : ∃z,w5.cell? ⟨gu,j,none⟩ = some z:=by rw [hW.out]; exact hcur.cell1 oM
 clear f1 o3 hcur hc2
 go_upto_region 6 with (fail)
 refine wp_world ?_
 intro w6 hW3
 obtain ⟨hS,hOS⟩:=HSW.out
 rw [<-hW.out,<-hW3.out] at hS hOS
 have hO:=(hO.trans (OnlyZ.of _ hbw4)).trans (hOS.mono fun k _ hk=>by rw [hk]; exact (.inr (.inl (.inr rfl))))
 clear hK hK1 HSW hW hW3 f2 s1 q0 q1 q2 q3 q4 q5 q6 q7 q8
 have hK:=hS
 clear hS hOS
 go_wp2
 go_loopw [7] (fun jv wr=>∃c : Nat,c<=R/\jv = .int .i64 c/\OnlyZ (Z3 (.slice (some ⟨gm,0,none⟩) R cm) (.slice (some ⟨gu,0,none⟩) R cu) (.slice (some ⟨gv,0,none⟩) R cv) bm bu bv) w wr/\K9 wr bw (.slice (some ⟨gm,0,none⟩) R cm) (.slice (some ⟨gu,0,none⟩) R cu) (.slice (some ⟨gv,0,none⟩) R cv) R C (swpL bm i j) (swpL bu i j) bv (x.swap i j).s (x.swap i j).t (swpV (fun a b=>x.i b a) i j c)) (fun jv _=>R - (intOf jv).toNat)
 case atStart=>exact ⟨0,by omega,rfl,hO,by rw [swpV_zero]; exact hK⟩
 case round=>
  clear hK hO
  obtain ⟨c,hc,rfl,hO,hK⟩:=hrel
  obtain ⟨q0,q1,q2,q3,q4,q5,q6,q7,q8⟩:=hK.blk.nine
  by_cases hlt : c < R
  ·obtain ⟨bVr,hbvr⟩:=hK.v.bex hlt
   have hzv : Zn (.slice (some ⟨gv,0,none⟩) R cv) bv bVr:=.inl (List.mem_of_getElem? hbvr)
   have o1:=hK.v.rowc hlt hbvr
   obtain ⟨xs,xa,xl,xc,p1,p2,-,-,hx⟩:=hK.v.elem hlt hbvr hi
   rw [swpV_at] at hx
   go_upto_region 10 with (fail)
   refine wp_world ?_
   intro W9 hW9
   obtain ⟨hB9,hbk,hs9⟩:=world1 hW9
   have hK9:=hK.below hB9
   have hx9:=hx.ext (lx hB9)
   have hO:=hO.trans (OnlyZ.of _ hB9)
   have hne : wr.heap.size ≠ bVr:=by have:=hK.zlt (b:=bVr) (.inr (.inr hzv)); omega
   clear hW9 hK hx o1 p1 p2 q0 q1 q2 q3 q4 q5 q6 q7 q8
   obtain ⟨q0,q1,q2,q3,q4,q5,q6,q7,q8⟩:=hK9.blk.nine
   have lbw:=hK9.blk.lt
   have lg:=hK9.zlt (b:=gv) (.inr (.inr (.inr rfl)))
   have lb:=hK9.zlt (b:=bVr) (.inr (.inr hzv))
   have o1:=hK9.v.rowc hlt hbvr
   obtain ⟨ys,ya,yl,yc,p1,p2,-,-,hy⟩:=hK9.v.elem hlt hbvr hj
   rw [swpV_at] at hy
   refine wp_serH 21 [] ?_
   refine sRd ?_
   refine sRf ?_
   intro w10 hbw10
   have hKa:=hK9.below hbw10
   have hya:=hy.ext (lx hbw10)
   have hxa:=hx9.ext (lx hbw10)
   have hbka:=hbk.below hbw10
   obtain ⟨sn,sa,sl,sc,y1,y2,y3,y4,-⟩:=hKa.v.elem hlt hbvr hi
   obtain ⟨hP,hOP⟩:=hKa.putV hlt hbvr hi hya
   have HPP:=HidS.mk (And.intro hP (And.intro hOP (And.intro (hOP.blk hbka hne) (hxa.ext hOP.lext))))
   have hO:=hO.trans (OnlyZ.of _ hbw10)
   clear hP hOP o1 p1 p2 q0 q1 q2 q3 q4 q5 q6 q7 q8
   go_upto_region 11 with (fail)
   refine wp_world ?_
   intro Wb hWb
   obtain ⟨hP,hOP,hbkb,hxb⟩:=HPP.out
   rw [<-hWb.out] at hP hOP hbkb hxb
   have hO:=hO.trans (hOP.mono fun k _ hk=>by rw [hk]; exact (.inr (.inr hzv) : (Z3 (.slice (some ⟨gm,0,none⟩) R cm) (.slice (some ⟨gu,0,none⟩) R cu) (.slice (some ⟨gv,0,none⟩) R cv) bm bu bv) bVr))
   clear hWb HPP y1 y2 y3 y4 hKa hK9 hbka hbk hOP
   obtain ⟨q0,q1,q2,q3,q4,q5,q6,q7,q8⟩:=hP.blk.nine
   obtain ⟨k1,k2,k3,k4⟩:=hbkb.two
   have lbw:=hP.blk.lt
   have lg:=hP.zlt (b:=gv) (.inr (.inr (.inr rfl)))
   have lb:=hP.zlt (b:=bVr) (.inr (.inr hzv))
   have lbk:=hbkb.lt
   have o1:=hP.v.rowc hlt hbvr
   refine wp_serH 11 [] ?_
   refine sRd ?_
   refine sRf ?_
   intro w12 hbw12
   have hKc:=hP.below hbw12
   have hxc:=hxb.ext (lx hbw12)
   obtain ⟨sn,sa,sl,sc,y1,y2,y3,y4,-⟩:=hKc.v.elem hlt hbvr hj
   obtain ⟨hP2,hOP2⟩:=hKc.putV hlt hbvr hj hxc
   rw [swpV_put] at hP2
   have hO9:=hO.trans (OnlyZ.of _ hbw12)
   clear o1 k1 k2 k3 k4 q0 q1 q2 q3 q4 q5 q6 q7 q8
   go_wp2
   go_roundw
   case rel=>exact ⟨c + 1,by omega,by simp,hO9.trans (hOP2.mono fun k _ hk=>by rw [hk]; exact (.inr (.inr hzv) : (Z3 (.slice (some ⟨gm,0,none⟩) R cm) (.slice (some ⟨gu,0,none⟩) R cu) (.slice (some ⟨gv,0,none⟩) R cv) bm bu bv) bVr)),hP2⟩
   case measure=>simp [intOf]; omega
  ·have hcC : c = R:=by omega
   replace hK : K9 wr bw (.slice (some ⟨gm,0,none⟩) R cm) (.slice (some ⟨gu,0,none⟩) R cu) (.slice (some ⟨gv,0,none⟩) R cv) R C (swpL bm i j) (swpL bu i j) bv (x.swap i j).s (x.swap i j).t (fun a b=>(x.swap i j).i b a):=hK.congr (fun _ _ _ _=>rfl) (fun _ _ _ _=>rfl) (fun a ha b _=>by
    show swpV _ i j c a b = _
    unfold swpV
    rw [if_pos oM]
    rfl)
   go_wp2
   exact bodyPost_end (results_none rfl _ _ _) rfl ⟨⟨_,rfl⟩,hO,hK⟩
structure ThreeV (n0 R C : Nat) (S T V : Nat->Nat->Int) (w : World) (v : Value) : Prop where
 ex : ∃so sc uo uc vo vc bs bu bv,v = .agg #[.int .i64 R,.int .i64 C,.slice so R sc,.int .i64 R,.int .i64 R,.slice uo R uc,.int .i64 R,.int .i64 R,.slice vo R vc] ∧
  Wri w (.slice so R sc) R C bs S/\Wri w (.slice uo R uc) R R bu T/\Wri w (.slice vo R vc) R R bv V/\(∀b,Z3 (.slice so R sc) (.slice uo R uc) (.slice vo R vc) bs bu bv b->n0<=b) ∧
  Ap (.slice so R sc) bs (.slice uo R uc) bu/\Ap (.slice so R sc) bs (.slice vo R vc) bv/\Ap (.slice uo R uc) bu (.slice vo R vc) bv
theorem lastsB_three (n0 R C : Nat) (S T V : Nat->Nat->Int) : LastsB (ThreeV n0 R C S T V):=by
 intro w w' v hb ⟨so,sc,uo,uc,vo,vc,bs,bu,bv,h1,h2,h3,h4,h5⟩
 exact ⟨so,sc,uo,uc,vo,vc,bs,bu,bv,h1,h2.below hb,h3.below hb,h4.below hb,h5⟩
theorem RG.three {W : World} {T0 : Array Value} {vs : List VS} {L : Array Bool} {T : Array Value} {w : World} {k1 k2 k3 s1 s2 s3 R C : Nat} {F1 F2 F3 : Nat->Nat->Int}
  (h : RG W T0 vs [⟨k1,s1,R,C,F1⟩,⟨k2,s2,R,R,F2⟩,⟨k3,s3,R,R,F3⟩] L T w) (o1 : k1 < k2) (o2 : k2 < k3) (l1 : L[k1]? = some true) (l2 : L[k2]? = some true) (l3 : L[k3]? = some true) :
  ∃so sc uo uc vo vc,T[s1]? = some (.agg #[.int .i64 R,.int .i64 C,.slice so R sc])/\T[s2]? = some (.agg #[.int .i64 R,.int .i64 R,.slice uo R uc])/\T[s3]? = some (.agg #[.int .i64 R,.int .i64 R,.slice vo R vc]) ∧
   ThreeV W.heap.size R C F1 F2 F3 w (.agg #[.int .i64 R,.int .i64 C,.slice so R sc,.int .i64 R,.int .i64 R,.slice uo R uc,.int .i64 R,.int .i64 R,.slice vo R vc]):=by
 obtain ⟨bot,top,g1,g2⟩:=h.gh
 have M1 : (⟨k1,s1,R,C,F1⟩ : MS) ∈ [(⟨k1,s1,R,C,F1⟩ : MS),⟨k2,s2,R,R,F2⟩,⟨k3,s3,R,R,F3⟩]:=by simp
 have M2 : (⟨k2,s2,R,R,F2⟩ : MS) ∈ [(⟨k1,s1,R,C,F1⟩ : MS),⟨k2,s2,R,R,F2⟩,⟨k3,s3,R,R,F3⟩]:=by simp
 have M3 : (⟨k3,s3,R,R,F3⟩ : MS) ∈ [(⟨k1,s1,R,C,F1⟩ : MS),⟨k2,s2,R,R,F2⟩,⟨k3,s3,R,R,F3⟩]:=by simp
 obtain ⟨a1,a2,_,a3,so,sc,bS,rfl,a5,a6⟩:=g1 _ M1 l1
 obtain ⟨b1,b2,_,b3,uo,uc,bU,rfl,b5,b6⟩:=g1 _ M2 l2
 obtain ⟨c1,c2,_,c3,vo,vc,bV,rfl,c5,c6⟩:=g1 _ M3 l3
 have r12:=g2 _ M1 _ M2 o1 l1 l2
 have r13:=g2 _ M1 _ M3 (by dsimp only; omega) l1 l3
 have r23:=g2 _ M2 _ M3 (by dsimp only; omega) l2 l3
 refine ⟨so,sc,uo,uc,vo,vc,a3,b3,c3,⟨so,sc,uo,uc,vo,vc,bS,bU,bV,rfl,a5,b5,c5,?_,ap_range a6 b6 r12,ap_range a6 c6 r13,ap_range b6 c6 r23⟩⟩
 rintro b (hb | hb | hb)
 ·exact Nat.le_trans a1 (a6 b hb).1
 ·exact Nat.le_trans b1 (b6 b hb).1
 ·exact Nat.le_trans c1 (c6 b hb).1
structure KNew (n0 R C : Nat) (S T V : Nat->Nat->Int) (w : World) (v : Value) : Prop where
 ex : ∃bw AM AU AV bm bu bv,v = .pointer (some ⟨bw,0,none⟩)/\n0<=bw/\K9 w bw AM AU AV R C bm bu bv S T V/\∀b,Z3 AM AU AV bm bu bv b->n0<=b
theorem lastsB_knew (n0 R C : Nat) (S T V : Nat->Nat->Int) : LastsB (KNew n0 R C S T V):=by
 intro w w' v hb ⟨a,b,c,d,e,f,g,h1,h2,h3,h4⟩
 exact ⟨a,b,c,d,e,f,g,h1,h2,h3.below hb,h4⟩
theorem ThreeV.new {n0 R C : Nat} {S T V : Nat->Nat->Int} {w : World} {cs : Array Value} (h : ThreeV n0 R C S T V w (.agg cs)) (hn : n0<=w.heap.size) : KNew n0 R C S T V (w.alloc (.cells cs tWk)) (.pointer (some ⟨w.heap.size,0,none⟩)):=by
 obtain ⟨so,sc,uo,uc,vo,vc,bs,bu,bv,e,h2,h3,h4,h5,h6,h7,h8⟩:=h.ex
 injection e with e
 subst e
 have hb : Below w.heap.size w (w.alloc (.cells #[.int .i64 R,.int .i64 C,.slice so R sc,.int .i64 R,.int .i64 R,.slice uo R uc,.int .i64 R,.int .i64 R,.slice vo R vc] tWk)):=(Below.refl _ _).alloc (Nat.le_refl _) _
 exact ⟨_,_,_,_,_,_,_,rfl,hn,⟨Blk.new _ _ _,h2.below hb,h3.below hb,h4.below hb,h6,h7,h8⟩,h5⟩
theorem r5identityW (n : Nat) (w : World) (hn : n<=1000000) : Calls Tryz.prog 155 #[.int .i64 n] w fun e w'=>∃v,e = .returned v/\Within n n idf w.heap.size w'.heap.size w' v/\Below w.heap.size w w':=
 (r5identity_any n w hn).mono fun _ _ h=>h.within
theorem r5copiedW (v : Value) (R C : Nat) (M : List (List Int)) (w : World) (h : MatW w v R C M) (hF : Fits R C M) (hR : R<=1000000) (hC : C<=1000000) (hS : ∀r ∈ M,∀z ∈ r,Sm z) :
  Calls Tryz.prog 154 #[v] w fun e w'=>∃v,e = .returned v/\Within R C (ent M) w.heap.size w'.heap.size w' v/\Below w.heap.size w w':=
 (r5copied_off v R C M w h hF hR hC hS).mono fun _ _ h=>RetMat.within (by rwa [<-fits_genM hF])
set_option maxHeartbeats 4000000 in
set_option maxRecDepth 20000 in
theorem r12start_any (v : Value) (M : List (List Int)) (R C : Nat) (w : World) (h : MatW w v R C M) (hF : Fits R C M) (hR : R<=1000000) (hC : C<=1000000) (hS : ∀r ∈ M,∀z ∈ r,Sm z) :
  Calls Tryz.prog 137 #[v] w fun e w'=>∃v,e = .returned v/\KNew w.heap.size R C (ent M) idf idf w' v/\Below w.heap.size w w':=by
 have h0:=h
 obtain ⟨A,rfl,h⟩:=h
 obtain ⟨ao,n,cap,rfl,e2,e3,e4,-⟩:=id h
 have HS:=HidS.mk hS
 have HF:=HidS.mk hF
 have H0:=HidS.mk h0
 clear h0 hF e2 hS h
 go_enter Tryz.func137,Tryz.ntmps137
 go_upto_region 1 with (fail)
 refine wp_world ?_
 intro W0 hW0
 obtain ⟨hB0,bx,hs0⟩:=world1 hW0
 obtain ⟨c1,c2,c3,c4,c5,c6⟩:=bx.three
 have hl1:=lastsB_three W0.heap.size R C (ent M) idf idf
 have hl2:=lastsB_knew W0.heap.size R C (ent M) idf idf
 have lbx:=bx.lt
 clear hW0
 refine wp_region_headed 10 rfl (RG W0 _ [⟨0,3,fun _ v=>v = .agg #[.int .i64 R,.int .i64 C,.slice ao n cap]⟩,⟨2,5,fun _ v=>v = .pointer (some ⟨w.heap.size,0,none⟩)⟩,⟨3,6,fun _ v=>v = .int .i64 R⟩,⟨5,8,fun _ v=>v = .pointer (some ⟨w.heap.size,0,none⟩)⟩,⟨6,9,fun _ v=>v = .int .i64 R⟩,⟨8,11,ThreeV W0.heap.size R C (ent M) idf idf⟩,⟨9,12,KNew W0.heap.size R C (ent M) idf idf⟩] [⟨1,4,R,C,ent M⟩,⟨4,7,R,R,idf⟩,⟨7,10,R,R,idf⟩]) kR RG.start ?fin1 ?steps1
 case steps1=>
  refine ⟨?_,?_,?_,?_,?_,?_,?_,?_,?_,?_,trivial⟩ <;> (intro L T wS hL hd hcl hI K hK; try refine step_wanted rfl ?_)
  ·have zt : T[1]? = some (.pointer (some ⟨w.heap.size,0,none⟩)):=hI.keep 1 sI sI
   have cc0:=hI.cell c1
   have cc1:=hI.cell c2
   have cc2:=hI.cell c3
   go_simp
   exact hK _ _ (hI.y mm0 rfl)
  ·obtain ⟨_,zt0,rfl⟩:=hI.v mm0 (hd 0)
   go_simp
   refine (r5copiedW _ R C M _ ((H0.out.below hB0).below hI.bel) HF.out hR hC HS.out).mono ?_
   rintro e wa ⟨v,rfl,hv,hba⟩
   exact hK _ _ (hI.mat hcl hL ⟨1,4,_,_,_⟩ mm0 rfl hba hv kR)
  ·have zt : T[1]? = some (.pointer (some ⟨w.heap.size,0,none⟩)):=hI.keep 1 sI sI
   go_simp
   exact hK _ _ (hI.y mm1 rfl)
  ·obtain ⟨_,zt2,rfl⟩:=hI.v mm1 (hd 2)
   have cc0:=hI.cell c1
   go_simp
   exact hK _ _ (hI.y mm2 rfl)
  ·obtain ⟨_,zt3,rfl⟩:=hI.v mm2 (hd 3)
   go_simp
   refine (r5identityW R _ hR).mono ?_
   rintro e wa ⟨v,rfl,hv,hba⟩
   exact hK _ _ (hI.mat hcl hL ⟨4,7,_,_,_⟩ mm1 rfl hba hv kR)
  ·have zt : T[1]? = some (.pointer (some ⟨w.heap.size,0,none⟩)):=hI.keep 1 sI sI
   go_simp
   exact hK _ _ (hI.y mm3 rfl)
  ·obtain ⟨_,zt5,rfl⟩:=hI.v mm3 (hd 5)
   have cc0:=hI.cell c1
   go_simp
   exact hK _ _ (hI.y mm4 rfl)
  ·obtain ⟨_,zt6,rfl⟩:=hI.v mm4 (hd 6)
   go_simp
   refine (r5identityW R _ hR).mono ?_
   rintro e wa ⟨v,rfl,hv,hba⟩
   exact hK _ _ (hI.mat hcl hL ⟨7,10,_,_,_⟩ mm2 rfl hba hv kR)
  ·obtain ⟨so,sc,uo,uc,vo,vc,t1,t2,t3,hthree⟩:=hI.three oM oM (hd 1) (hd 4) (hd 7)
   go_simp
   exact hK _ _ (hI.y mm5 hthree)
  ·obtain ⟨v8,zt8,h8⟩:=hI.v mm5 (hd 8)
   have h8' : ThreeV W0.heap.size R C (ent M) idf idf wS v8:=h8
   obtain ⟨so,sc,uo,uc,vo,vc,bs,bu,bv,rfl,-⟩:=h8'.ex
   go_simp
   exact hK _ _ ((hI.world ((Below.refl _ _).alloc (Nat.le_refl _) _)).y mm6 (h8'.new hI.bel.size))
 intro T w2 hI
 obtain ⟨va0,q0,rfl⟩:=hI.v mm0 rfl
 obtain ⟨va2,q2,rfl⟩:=hI.v mm1 rfl
 obtain ⟨va3,q3,rfl⟩:=hI.v mm2 rfl
 obtain ⟨va5,q5,rfl⟩:=hI.v mm3 rfl
 obtain ⟨va6,q6,rfl⟩:=hI.v mm4 rfl
 obtain ⟨va8,q8,ha8⟩:=hI.v mm5 rfl
 obtain ⟨va9,q9,ha9⟩:=hI.v mm6 rfl
 obtain ⟨va1,q1,moa1,mca1,mea1⟩:=hI.matv _ mm0 rfl
 obtain ⟨va4,q4,moa4,mca4,mea4⟩:=hI.matv _ mm1 rfl
 obtain ⟨va7,q7,moa7,mca7,mea7⟩:=hI.matv _ mm2 rfl
 have hT:=tmps_set [(3,.agg #[.int .i64 R,.int .i64 C,.slice ao n cap]),(5,.pointer (some ⟨w.heap.size,0,none⟩)),(6,.int .i64 R),(8,.pointer (some ⟨w.heap.size,0,none⟩)),(9,.int .i64 R),(11,va8),(12,va9),(4,va1),(7,va4),(10,va7)]
  (fun j hj=>hI.keep j (by simp only [List.forall_mem_cons] at hj ⊢; simp [hj]) (by simp only [List.forall_mem_cons] at hj ⊢; simp [hj]))
  (by simp only [List.forall_mem_cons]; simp [q0,q2,q3,q5,q6,q8,q9,q1,q4,q7]) hI.size
 have hbw2:=hI.bel
 clear hI
 simp only [List.foldl_cons,List.foldl_nil,List.setIfInBounds_toArray,List.set_cons_zero,List.set_cons_succ,ptr] at hT
 subst hT
 clear q0 q2 q3 q5 q6 q8 q9 q1 q4 q7
 simp only [List.drop_succ_cons,List.drop_zero]
 have ha9' : KNew W0.heap.size R C (ent M) idf idf w2 va9:=ha9
 obtain ⟨bw,AM,AU,AV,bm,bu,bv,rfl,k1,k2,k3⟩:=ha9'.ex
 have hsz:=hB0.size
 clear c1 c2 c3 c4 c5 c6 ha8 ha9 ha9'
 go_wp2
 go_ret
 exact ⟨_,rfl,⟨_,_,_,_,_,_,_,rfl,by omega,k2,fun b hb=>Nat.le_trans hsz (k3 b hb)⟩,nx hB0 hbw2⟩
set_option maxHeartbeats 4000000 in
set_option maxRecDepth 20000 in
theorem r12floor_any (v1 v2 : Value) (a b : Int) (w : World) (h1 : IntV w v1 a) (h2 : IntV w v2 b) (s1 : Smd a) (s2 : Smd b) (hb : b ≠ 0) :
  Calls Tryz.prog 143 #[v1,v2] w (RetInt w (a / b)):=by
 obtain ⟨n1,a1,l1,k1,x1,rfl,hx1⟩:=id h1
 obtain ⟨n2,a2,l2,k2,x2,rfl,hx2⟩:=id h2
 have HX1:=Lib.hid hx1
 have HX2:=Lib.hid hx2
 have HS1:=HidS.mk s1
 have HS2:=HidS.mk s2
 have HB:=Lib.hid hb
 clear hx1 hx2 s1 s2 hb
 go_enter Tryz.func143,Tryz.ntmps143
 go_upto_region 1 with (fail)
 refine wp_world ?_
 intro W0 hW0
 obtain ⟨hB0,bx1,bx2,br,hs0⟩:=world3 hW0
 obtain ⟨c1,c2,c3,c4⟩:=bx1.two
 obtain ⟨d1,d2,d3,d4⟩:=bx2.two
 have h1:=h1.ext (lx hB0)
 have h2:=h2.ext (lx hB0)
 clear hW0
 go_wp2_with fail
 refine (r1divmod_any _ _ a b W0 h1 h2 HS1.out HS2.out HB.out).mono ?_
 rintro e w2 ⟨q0,r0,rfl,hq,hr,hb2⟩
 obtain ⟨qn,qa,ql,qc,qx,rfl,hq'⟩:=id hq
 obtain ⟨rn,ra,rl,rc,rx,rfl,hr'⟩:=id hr
 have HQ':=Lib.hid hq'
 have HR':=Lib.hid hr'
 have br:=br.below hb2
 have lbr:=br.lt
 have hB2:=nx hB0 hb2
 clear hq' hr' c1 c2 c3 c4 d1 d2 d3 d4
 go_upto_region 2 with (fail)
 refine wp_world ?_
 intro W3 hW3
 obtain ⟨hB3,T5,T6,hs3⟩:=world2 hW3
 have hq:=hq.ext (lx hB3)
 have br:=br.below hB3
 have hB3:=nx hB2 hB3
 obtain ⟨d1,d2,d3,d4⟩:=T5.two
 obtain ⟨e1,e2,e3,e4⟩:=br.two
 clear hW3
 go_wp2
 refine bodyPost_int (r:=w.heap.size + 1 + 1) rfl rfl rfl (br.put2 _ _) (hq.ext (br.lext2 dE _ _)) (bset (bset hB3 oM _ _) oM _ _)
theorem BB_pow : BB ^ 3 * 16<=B32 ^ DLIM:=by
 have e : (B32 : Nat) = 2 ^ 32:=by decide
 have h1 : BB ^ 3 * 16 = 2 ^ (EB * 3 + 4):=by unfold BB; rw [<-Nat.pow_mul,Nat.pow_add]
 rw [h1,e,<-Nat.pow_mul]
 exact le_pow2 oM (by rw [EB_eq,DLIM_eq]; omega)
theorem BB_pos : 1<=BB:=Nat.pow_pos oM
theorem BB_97 : 2 ^ 100<=BB:=le_pow2 oM (by rw [EB_eq]; omega)
theorem BB3_smd {z : Int} (h : z.natAbs < BB ^ 3 * 16) : Smd z:=⟨Nat.lt_of_lt_of_le h BB_pow⟩
theorem BB_le3 {k n : Nat} (hk : k<=3) (hn : n<=16) : BB ^ k * n<=BB ^ 3 * 16:=Nat.mul_le_mul (le_pow2 BB_pos hk) hn
theorem BB_smd {z : Int} (h : z.natAbs < BB) : Smd z:=BB3_smd (Nat.lt_of_lt_of_le h (by have:=BB_le3 (k:=1) (n:=1) oM oM; simpa using this))
theorem Inv.empty (C : Nat) (A : Nat->Nat->Int) : Inv 0 C 0 A A:=
 ⟨⟨fun a ha=>by omega,fun i hi=>by omega,fun i _ hi=>by omega,by omega⟩,fun a b _ h1 h2=>by omega,⟨idf,idf,fun a ha=>by omega⟩,⟨idf,idf,fun a ha=>by omega⟩⟩
theorem dg_isM2 {R C r : Nat} {F : Nat->Nat->Int} (hd : Dg R C r F) (hc : Chn 0 (min R C) F) : IsM2 R C (genM R C F) = true:=by
 unfold IsM2
 rw [decide_eq_true (genM_fits R C F).valid,Bool.true_and,Int.toNat_natCast,Int.toNat_natCast,diagL_genM oM oM,Bool.and_eq_true]
 constructor
 ·have : ∀d i,i + d = R->diagGo i ((genM R C F).drop i) = true:=by
   intro d
   induction d with
   | zero=>
    intro i hi
    rw [List.drop_eq_nil_of_le (by rw [(genM_fits R C F).1]; omega)]
    rfl
   | succ d ih=>
    intro i hi
    have e1 : (genM R C F)[i]? = some (genV C (F i)):=by simp [genM,genV,show i < R by omega]
    rw [drop_cons e1,diagGo_step,ih (i + 1) oM]
    intro t ht hne
    rw [genV_length] at ht
    rw [getD_of (genV_get ht)]
    exact hd.off i oM t ht oM
  exact this R 0 oM
 ·have : ∀d i (last : Int),i + d = min R C->(i < min R C->last ∣ F i i)->chainGo last ((genV (min R C) fun i=>F i i).drop i) = true:=by
   intro d
   induction d with
   | zero=>
    intro i last hi _
    rw [List.drop_eq_nil_of_le (by rw [genV_length]; omega)]
    rfl
   | succ d ih=>
    intro i last hi hl
    rw [drop_cons (genV_get oM),chainGo_step (hd.nonneg oM) (hl oM)]
    exact ih (i + 1) _ oM fun h=>hc i (i + 1) (Nat.zero_le _) oM h
  exact this (min R C) 0 1 oM fun _=>Int.one_dvd _
def i64Cells (ls : List Int) : Array Value:=(ls.map (Value.int .i64)).toArray
theorem I64V.new (W : World) (ls : List Int) (hb : (ls.all fun z=>decide (-9223372036854775808<=z/\z<=9223372036854775807)) = true) (hl : ls.length<=1000) :
  I64V (W.alloc (.cells (i64Cells ls) 2)) (.slice (some ⟨W.heap.size,0,none⟩) ls.length ls.length) ls:=by
 refine ⟨_,_,_,rfl,rfl,Nat.le_refl _,by omega,fun z hz=>of_decide_eq_true (List.all_eq_true.1 hb z hz),fun _=>⟨W.heap.size,_,rfl,heap_alloc_new W _,fun k z hk=>?_⟩⟩
 simp [i64Cells,hk]
theorem intsM (v : Value) (ls : List Int) (R C : Nat) (r c : Int) (M : List (List Int)) (w : World) (h : I64V w v ls) (hr : r = R) (hc : c = C) (hl : ls.length = R * C) (hR : R<=1000) (hC : C<=1000) (hM : genM R C (fun i j=>ls.getD (i * C + j) 0) = M) :
  Calls Tryz.prog 39 #[.int .i64 r,.int .i64 c,v] w fun e w'=>∃v,e = .returned v/\MatV w' v R C M/\Below w.heap.size w w':=by
 subst hr
 subst hc
 subst hM
 exact (ints_any v R C ls w h hl hR hC).mono fun e w' ⟨v,bs,he,hm,hb⟩=>⟨v,he,hm.mat.1,hb⟩
theorem MatV.agg {w : World} {v : Value} {R C : Int} {M : List (List Int)} (h : MatV w v R C M) : ∃o n k,v = .agg #[.int .i64 R,.int .i64 C,.slice o n k]:=by
 obtain ⟨A,rfl,ao,n,cap,rfl,-⟩:=h
 exact ⟨_,_,_,rfl⟩
theorem SmithV.below {w w' : World} {f : Value} {R C : Nat} {S U V W X : List (List Int)} (h : SmithV w f R C S U V W X) (hb : Below w.heap.size w w') : SmithV w' f R C S U V W X:=by
 obtain ⟨s,u,v,x,y,e,h1,h2,h3,h4,h5⟩:=h.ex
 exact ⟨s,u,v,x,y,e,h1.below hb,h2.below hb,h3.below hb,h4.below hb,h5.below hb⟩
theorem sumTo_sumN (f : Nat->Int) (n : Nat) : sumTo f n = sumN n f:=by
 induction n with
 | zero=>rfl
 | succ n ih=>unfold sumTo sumN; rw [ih]
theorem mulf_genM {R m C : Nat} {F G : Nat->Nat->Int} {i j : Nat} (hi : i < R) (hj : j < C) : mulf (genM R m F) (genM m C G) m i j = sumN m fun t=>F i t * G t j:=by
 unfold mulf
 rw [sumTo_sumN]
 exact sumN_congr fun t ht=>by rw [ent_genM hi ht,ent_genM ht hj]
theorem BB3_sm {z : Int} (h : z.natAbs<=BB ^ 3 * 16) : Sm z:=Nat.lt_of_le_of_lt h (Nat.lt_of_le_of_lt BB_pow (B32_pow_lt DLIM LIM (by rw [DLIM_eq,LIM_eq]; omega)))
theorem MulSm_of {R m C a b : Nat} {F G : Nat->Nat->Int} (hF : leM a R m F) (hG : leM b m C G) (hm : m<=4) (ha : a<=BB ^ 3 * 16) (hb : b<=BB ^ 3 * 16) (hab : 4 * (a * b)<=BB ^ 3 * 16) : MulSm (genM R m F) (genM m C G) R m C:=by
 intro i hi j hj k hk
 rw [ent_genM hi hk,ent_genM hk hj]
 have h1:=hF i hi k hk
 have h2:=hG k hk j hj
 have h3:=abs_mul_le h1 h2
 refine ⟨BB3_sm oM,BB3_sm oM,BB3_sm oM,BB3_sm ?_⟩
 unfold mulf
 rw [sumTo_sumN]
 have h4:=sumN_natAbs (n:=k) (f:=fun t=>ent (genM R m F) i t * ent (genM m C G) t j) (B:=a * b) fun t ht=>by
  rw [ent_genM hi oM,ent_genM oM hj]
  exact abs_mul_le (hF i hi t oM) (hG t oM j hj)
 have h5 : k * (a * b)<=4 * (a * b):=Nat.mul_le_mul_right _ oM
 omega
theorem leM_of_ok {B R C : Nat} {F : Nat->Nat->Int} (h : okF B R C F) : leM B R C F:=fun a ha b hb=>Nat.le_of_lt (h a ha b hb)
theorem bb_nums {h : Nat} (hh : h<=1048576) : BB<=BB ^ 3 * 16/\h<=BB/\4 * (BB * BB)<=BB ^ 3 * 16/\4 * (BB * h)<=BB ^ 3 * 16/\4 * (BB * BB) * 4 * BB<=BB ^ 3 * 16/\4 * (4 * (BB * h) * BB)<=BB ^ 3 * 16/\4 * (BB * h)<=BB ^ 3 * 16:=by
 have h0 : 1048576<=BB:=Nat.le_trans dE BB_97
 have h1:=BB_pos
 generalize BB = B at *
 have e3 : B ^ 3 * 16 = 16 * (B * (B * B)):=by
  rw [show (3 : Nat) = 2 + 1 from rfl,Nat.pow_succ,Nat.pow_two,Nat.mul_comm,Nat.mul_comm (B * B)]
 have q1 : B<=B * B:=Nat.le_mul_of_pos_left _ h1
 have q2 : B * B<=B * (B * B):=Nat.mul_le_mul_left _ q1
 have q3 : B * h<=B * B:=Nat.mul_le_mul_left _ oM
 have q4 : B * h * B<=B * (B * B):=by
  rw [Nat.mul_assoc]
  exact Nat.mul_le_mul_left _ (Nat.mul_le_mul_right _ oM)
 have q5 : 4 * (4 * (B * h) * B) = 16 * (B * h * B):=by rw [Nat.mul_assoc 4,<-Nat.mul_assoc 4 4]
 have q6 : 4 * (B * B) * 4 * B = 16 * (B * (B * B)):=by
  rw [Nat.mul_comm (4 * (B * B)) 4,<-Nat.mul_assoc,Nat.mul_assoc,Nat.mul_comm (B * B) B]
 rw [e3,q5,q6]
 refine ⟨by omega,by omega,by omega,by omega,by omega,by omega,by omega⟩
structure Chk (R C : Nat) (A S U V W X : List (List Int)) : Prop where
 fs : Fits R C S
 fu : Fits R R U
 fv : Fits R R V
 fw : Fits C C W
 fx : Fits C C X
 is : IsM2 R C S = true
 i1 : genM R R (mulf U V R) = genM R R idf
 i2 : genM C C (mulf W X C) = genM C C idf
 ss : ∀r ∈ S,∀z ∈ r,Smd z
 m1 : MulSm U V R R R
 m2 : MulSm W X C C C
 m3 : MulSm U A R R C
 m4 : MulSm (genM R C (mulf U A R)) W R C C
 p : genM R C (mulf (genM R C (mulf U A R)) W C) = S
theorem genM_smd {R C : Nat} {F : Nat->Nat->Int} (h : okF BB R C F) : ∀r ∈ genM R C F,∀z ∈ r,Smd z:=by
 intro r hr z hz
 unfold genM at hr
 obtain ⟨i,hi,rfl⟩:=List.mem_map.1 hr
 obtain ⟨j,hj,rfl⟩:=List.mem_map.1 hz
 exact BB_smd (h i (List.mem_range.1 hi) j (List.mem_range.1 hj))
theorem Chk.of {R C r : Nat} {M : List (List Int)} {y : W5} (hR : R<=4) (hC : C<=4) (hF : Fits R C M) (hA : leM 1048576 R C (ent M)) (hr : Rel R C (ent M) y) (hI : Inv R C r (ent M) y.s) (hok : okW BB R C R C y) :
  Chk R C M (genM R C y.s) (genM R R y.u) (genM R R (trF y.v)) (genM C C (trF y.w)) (genM C C y.x):=by
 obtain ⟨o1,o2,o3,o4,o5⟩:=hok
 obtain ⟨b1,b2,b3,b4,b5,b6,b7⟩:=bb_nums (h:=1048576) (Nat.le_refl _)
 have eM : M = genM R C (ent M):=fits_genM hF
 have eUA : genM R C (mulf (genM R R y.u) M R) = genM R C fun i t=>sumN R fun s=>y.u i s * ent M s t:=genM_congr fun i hi j hj=>by
  conv=>lhs; rw [eM]
  rw [mulf_genM hi hj]
 have hUA : leM (4 * (BB * 1048576)) R C fun i t=>sumN R fun s=>y.u i s * ent M s t:=fun i hi j hj=>by
  have h1:=sumN_natAbs (n:=R) (f:=fun s=>y.u i s * ent M s j) (B:=BB * 1048576) fun t ht=>abs_mul_le (leM_of_ok o2 i hi t ht) (hA t ht j hj)
  exact Nat.le_trans h1 (Nat.mul_le_mul_right _ hR)
 refine ⟨genM_fits _ _ _,genM_fits _ _ _,genM_fits _ _ _,genM_fits _ _ _,genM_fits _ _ _,dg_isM2 hI.dg hI.chn,genM_congr fun i hi j hj=>?_,genM_congr fun i hi j hj=>?_,genM_smd o1,?_,?_,?_,?_,?_⟩
 ·rw [mulf_genM hi hj]
  exact hr.uv i hi j hj
 ·rw [mulf_genM hi hj]
  have:=hr.xw j hj i hi
  rw [idf_comm i j,<-this]
  exact sumN_congr fun t ht=>Int.mul_comm _ _
 ·exact MulSm_of (leM_of_ok o2) (leM_tr (leM_of_ok o3)) hR b1 b1 b3
 ·exact MulSm_of (leM_tr (leM_of_ok o4)) (leM_of_ok o5) hC b1 b1 b3
 ·conv=>arg 2; rw [eM]
  exact MulSm_of (leM_of_ok o2) hA hR b1 (Nat.le_trans b2 b1) b4
 ·rw [eUA]
  exact MulSm_of hUA (leM_tr (leM_of_ok o4)) hC b7 b1 b6
 ·rw [eUA]
  refine genM_congr fun i hi j hj=>?_
  rw [mulf_genM hi hj,hr.s i hi j hj]
  simp only [<-sumN_mul,<-sumN_mulr]
  rw [sumN_swap]
  refine sumN_congr fun s hs=>sumN_congr fun t ht=>?_
  show y.u i s * ent M s t * y.w j t = y.u i s * (ent M s t * y.w j t)
  rw [Int.mul_assoc]
theorem ent_leM {n R C : Nat} {F : Nat->Nat->Int} (h : leM n R C F) : leM n R C (ent (genM R C F)):=fun a ha b hb=>by rw [ent_genM ha hb]; exact h a ha b hb
end Go.Proofs.YtjdemlfceaikgaaGreat
