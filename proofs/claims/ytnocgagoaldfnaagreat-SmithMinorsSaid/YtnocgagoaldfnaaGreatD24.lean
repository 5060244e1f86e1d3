/- smith: blend. smith: a band's steps, by what they do to its state. -/
import Derived.Test.YtnocgagoaldfnaaGreatD23
set_option linter.unusedVariables false
set_option linter.unusedSimpArgs false
set_option linter.unusedSectionVars false
namespace Go.Proofs.YtnocgagoaldfnaaGreat
open Go.RowKit
def M4V (w : World) (v : Value) (m0 m1 m2 m3 : Int) : Prop:=
 ∃s0 a0 l0 c0 s1 a1 l1 c1 s2 a2 l2 c2 s3 a3 l3 c3,v = .agg #[.bool s0,.slice a0 l0 c0,.bool s1,.slice a1 l1 c1,.bool s2,.slice a2 l2 c2,.bool s3,.slice a3 l3 c3] ∧
  IntV w (.agg #[.bool s0,.slice a0 l0 c0]) m0/\IntV w (.agg #[.bool s1,.slice a1 l1 c1]) m1/\IntV w (.agg #[.bool s2,.slice a2 l2 c2]) m2/\IntV w (.agg #[.bool s3,.slice a3 l3 c3]) m3
theorem M4V.ext {w w' : World} {v : Value} {m0 m1 m2 m3 : Int} (h : M4V w v m0 m1 m2 m3) (x : LExt w w') : M4V w' v m0 m1 m2 m3:=by
 obtain ⟨s0,a0,l0,c0,s1,a1,l1,c1,s2,a2,l2,c2,s3,a3,l3,c3,e,h0,h1,h2,h3⟩:=h
 exact ⟨s0,a0,l0,c0,s1,a1,l1,c1,s2,a2,l2,c2,s3,a3,l3,c3,e,h0.ext x,h1.ext x,h2.ext x,h3.ext x⟩
theorem Blk.eight {w : World} {g : Nat} {t : TypeId} {c0 c1 c2 c3 c4 c5 c6 c7 : Value} (h : Blk w g t #[c0,c1,c2,c3,c4,c5,c6,c7]) :
  w.cell? ⟨g,0,none⟩ = some c0/\w.cell? ⟨g,1,none⟩ = some c1/\w.cell? ⟨g,2,none⟩ = some c2/\w.cell? ⟨g,3,none⟩ = some c3/\w.cell? ⟨g,4,none⟩ = some c4/\w.cell? ⟨g,5,none⟩ = some c5/\w.cell? ⟨g,6,none⟩ = some c6/\w.cell? ⟨g,7,none⟩ = some c7:=
 ⟨h.cell 0,h.cell 1,h.cell 2,h.cell 3,h.cell 4,h.cell 5,h.cell 6,h.cell 7⟩
def BlSm (n : Nat) (f g : Nat->Int) (m0 m1 m2 m3 : Int) : Prop:=∀t,t < n->Sm (f t)/\Sm (g t)/\Sm (m0 * f t)/\Sm (m1 * g t)/\Sm (m2 * f t)/\Sm (m3 * g t)
theorem Blk.put_at {w W : World} {b i j : Nat} {u v : Value} (hW : Hid (W = (w.setCell ⟨b,i,none⟩ u).setCell ⟨b,j,none⟩ v)) {g : Nat} {t : TypeId} {cs : Array Value} (h : Blk w g t cs) (hne : g ≠ b) : Blk W g t cs:=by
 rw [hW.out]
 exact (set2_old _ _ _ _ _ _ _ hne).trans h
theorem Only.put_at {w W : World} {b i j : Nat} {u v : Value} (hW : Hid (W = (w.setCell ⟨b,i,none⟩ u).setCell ⟨b,j,none⟩ v)) {S : List Nat} (hb : b ∈ S) (hx : LExt w W) : Only S w W:=by
 refine ⟨?_,hx,fun k _ hk=>?_⟩
 ·rw [hW.out]
  exact bset (bset (Below.refl _ _) (Nat.zero_le _) _ _) (Nat.zero_le _) _ _
 ·rw [hW.out]
  exact set2_old _ _ _ _ _ _ _ (fun e=>hk (e ▸ hb))
theorem RowAt.put_at {w W : World} {b i j : Nat} {u v : Value} (hW : Hid (W = (w.setCell ⟨b,i,none⟩ u).setCell ⟨b,j,none⟩ v)) {g : Nat} {r : List Int} (h : RowAt w g r) (hne : g ≠ b) (hx : LExt w W) : RowAt W g r:=
 h.old (by rw [hW.out]; exact set2_old _ _ _ _ _ _ _ hne) hx
theorem RowAt.set_at {w W : World} {b : Nat} {zs : List Int} {k : Nat} {s : Bool} {a : Option Addr} {l c : Nat} (hW : Hid (W = (w.setCell ⟨b,k * 2,none⟩ (.bool s)).setCell ⟨b,k * 2 + 1,none⟩ (.slice a l c))) (h : RowAt w b zs) (hk : k < zs.length) {z : Int} (hv : IntV w (.agg #[.bool s,.slice a l c]) z) :
  RowAt W b (zs.set k z)/\LExt w W:=by
 rw [hW.out]
 exact h.set hk hv
theorem upto_set {n : Nat} {F f : Nat->Int} {j : Nat} {z : Int} (hz : z = F j) : (genV n (uptoV F f j)).set j z = genV n (uptoV F f (j + 1)):=by
 rw [genV_set]
 exact genV_congr fun t _=>by
  unfold uptoV
  by_cases h2 : t = j
  ·subst h2
   rw [if_pos rfl,if_pos oM,hz]
  ·rw [if_neg h2]
   by_cases h1 : t < j
   ·rw [if_pos h1,if_pos oM]
   ·rw [if_neg h1,if_neg oM]
set_option maxHeartbeats 4000000 in
set_option maxRecDepth 20000 in
theorem blend_any (bv bw n capv capw : Nat) (f g : Nat->Int) (mv : Value) (m0 m1 m2 m3 : Int) (w : World) (hv : RowAt w bv (genV n f)) (hw : RowAt w bw (genV n g)) (hne : bv ≠ bw) (hm : M4V w mv m0 m1 m2 m3)
  (hn : n<=1000000) (hcv : n<=capv) (hcv2 : capv<=9223372036854775807) (hcw : n<=capw) (hcw2 : capw<=9223372036854775807)
  (hS : BlSm n f g m0 m1 m2 m3) (hms : Sm m0/\Sm m1/\Sm m2/\Sm m3) :
  Calls Tryz.prog 138 #[.slice (some ⟨bv,0,none⟩) n capv,.slice (some ⟨bw,0,none⟩) n capw,mv] w fun e w'=>(∃u,e = .returned u)/\Only [bv,bw] w w' ∧
   RowAt w' bv (genV n (fun t=>m0 * f t + m1 * g t))/\RowAt w' bw (genV n (fun t=>m2 * f t + m3 * g t)):=by
 have HS:=HidS.mk hS
 have HK:=HidS.mk hms
 have HM:=HidS.mk hm
 obtain ⟨s0,a0,l0,c0,s1,a1,l1,c1,s2,a2,l2,c2,s3,a3,l3,c3,rfl,-⟩:=id hm
 clear hS hms hm
 have hlv:=hv.lt
 have hlw:=hw.lt
 obtain ⟨F,hF⟩ : ∃F : Nat->Int,(fun t=>m0 * f t + m1 * g t) = F:=⟨_,rfl⟩
 obtain ⟨G,hG⟩ : ∃G : Nat->Int,(fun t=>m2 * f t + m3 * g t) = G:=⟨_,rfl⟩
 rw [hF,hG]
 have HF : HidS (∀t,F t = m0 * f t + m1 * g t):=⟨fun t=>by rw [<-hF]⟩
 have HG : HidS (∀t,G t = m2 * f t + m3 * g t):=⟨fun t=>by rw [<-hG]⟩
 clear hF hG
 go_enter Tryz.func138,Tryz.ntmps138
 go_upto_region 1 with (fail)
 refine wp_world ?_
 intro W0 hW0
 obtain ⟨hB0,bx,hs0⟩:=world1 hW0
 have hv0:=hv.below hB0
 have hw0:=hw.below hB0
 have hm0:=HM.out.ext (lx hB0)
 have hst : ∀(a b : Nat->Int),genV n a = genV n (uptoV b a 0):=fun a b=>genV_congr fun t _=>by unfold uptoV; rw [if_neg oM]
 rw [hst f F] at hv0
 rw [hst g G] at hw0
 have hO:=Only.of [bv,bw] hB0
 have HM0:=HidS.mk hm0
 clear hW0 hst hv hw hm0
 go_wp2
 go_loopw [11] (fun jv wr=>∃j : Nat,j<=n/\jv = .int .i64 j/\Only [bv,bw] w wr/\Blk wr w.heap.size 140 #[.bool s0,.slice a0 l0 c0,.bool s1,.slice a1 l1 c1,.bool s2,.slice a2 l2 c2,.bool s3,.slice a3 l3 c3]/\HidS (M4V wr (.agg #[.bool s0,.slice a0 l0 c0,.bool s1,.slice a1 l1 c1,.bool s2,.slice a2 l2 c2,.bool s3,.slice a3 l3 c3]) m0 m1 m2 m3)/\RowAt wr bw (genV n (uptoV G g j))/\RowAt wr bv (genV n (uptoV F f j))) (fun jv _=>n - (intOf jv).toNat)
 case atStart=>exact ⟨0,by omega,rfl,hO,bx,HM0,hw0,hv0⟩
 case round=>
  obtain ⟨j,hj,rfl,hO,bx,HMr,hw,hv⟩:=hrel
  by_cases hlt : j < n
  ·obtain ⟨xs,xa,xl,xc,p1,p2,-,-,hx⟩:=hv.cell (genV_get hlt)
   obtain ⟨ys,ya,yl,yc,q1,q2,-,-,hy⟩:=hw.cell (genV_get hlt)
   have hxf : uptoV F f j j = f j:=by unfold uptoV; rw [if_neg oM]
   have hyf : uptoV G g j j = g j:=by unfold uptoV; rw [if_neg oM]
   rw [hxf] at hx
   rw [hyf] at hy
   have hlw':=hw.lt
   have hlv':=hv.lt
   have hlb:=bx.lt
   have hOsz:=hO.bel.size
   go_upto_region 5 with (fail)
   refine wp_world ?_
   intro W6 hW6
   obtain ⟨hB6,T7,T8,hs6⟩:=world2 hW6
   obtain ⟨d1,d2,d3,d4⟩:=T7.two
   obtain ⟨e1,e2,e3,e4⟩:=T8.two
   have hO:=hO.trans (Only.of [bv,bw] hB6)
   have bx:=bx.below hB6
   have HMr:=HidS.mk (HMr.out.ext (lx hB6))
   have hw:=hw.below hB6
   have hv:=hv.below hB6
   have hx:=hx.ext (lx hB6)
   have hy:=hy.ext (lx hB6)
   clear p1 p2 q1 q2 hW6
   obtain ⟨k0,k1,k2,k3,k4,k5,k6,k7⟩:=bx.eight
   have lv:=hv.lt
   have lb:=bx.lt
   have l7:=T7.lt
   have l8:=T8.lt
   have HSJ:=HidS.mk (HS.out j hlt)
   obtain ⟨s0',a0',l0',c0',s1',a1',l1',c1',s2',a2',l2',c2',s3',a3',l3',c3',hee,i0,i1,i2,i3⟩:=HMr.out
   injection hee with hee
   simp only [Array.mk.injEq,List.cons.injEq,Value.bool.injEq,Value.slice.injEq] at hee
   obtain ⟨rfl,⟨rfl,rfl,rfl⟩,rfl,⟨rfl,rfl,rfl⟩,rfl,⟨rfl,rfl,rfl⟩,rfl,⟨rfl,rfl,rfl⟩,-⟩:=hee
   refine wp_region_headed 14 rfl (RI W6 (W6.heap.size) _ 45
     [⟨0,20,fun _ v=>v = .slice (some ⟨bv,0,none⟩) n capv⟩,⟨1,21,fun _ v=>v = .int .i64 j⟩,⟨2,22,fun _ v=>v = .pointer (some ⟨w.heap.size,0,none⟩)⟩,⟨3,23,fun _ v=>v = .pointer (some ⟨w.heap.size,0,none⟩)⟩,⟨4,24,fun _ v=>v = .agg #[.bool s0,.slice a0 l0 c0]⟩,⟨5,25,fun _ v=>v = .agg #[.bool xs,.slice xa xl xc]⟩,⟨6,26,fun w v=>IntV w v (m0 * f j)⟩,⟨7,27,fun _ v=>v = .pointer (some ⟨w.heap.size,0,none⟩)⟩,⟨8,28,fun _ v=>v = .pointer (some ⟨w.heap.size,2,none⟩)⟩,⟨9,29,fun _ v=>v = .agg #[.bool s1,.slice a1 l1 c1]⟩,⟨10,30,fun _ v=>v = .agg #[.bool ys,.slice ya yl yc]⟩,⟨11,31,fun w v=>IntV w v (m1 * g j)⟩,⟨12,32,fun w v=>IntV w v (m0 * f j + m1 * g j)⟩,⟨13,33,fun _ v=>v = .pointer (some ⟨bv,j * 2,none⟩)⟩]
     [] []) kR RI.start ?fin1 ?steps1
   case steps1=>
    refine ⟨?_,?_,?_,?_,?_,?_,?_,?_,?_,?_,?_,?_,?_,?_,trivial⟩ <;> (intro L T wS hL hd hcl hI K hK; try refine step_wanted rfl ?_)
    ·have zt : T[0]? = some (.slice (some ⟨bv,0,none⟩) n capv):=hI.keep 0 sI sI
     go_simp
     exact hK _ _ (hI.y mm0 rfl)
    ·have zt : T[6]? = some (.int .i64 j):=hI.keep 6 sI sI
     go_simp
     exact hK _ _ (hI.y mm1 rfl)
    ·have zt : T[5]? = some (.pointer (some ⟨w.heap.size,0,none⟩)):=hI.keep 5 sI sI
     go_simp
     exact hK _ _ (hI.y mm2 rfl)
    ·obtain ⟨v2,zt2,rfl⟩:=hI.v mm2 (hd 2)
     go_simp
     exact hK _ _ (hI.y mm3 rfl)
    ·obtain ⟨v3,zt3,rfl⟩:=hI.v mm3 (hd 3)
     have cc0:=hI.cell k0 oM nom
     have cc1:=hI.cell k1 oM nom
     go_simp
     exact hK _ _ (hI.y mm4 rfl)
    ·have zt : T[7]? = some (.pointer (some ⟨wr.heap.size,0,none⟩)):=hI.keep 7 sI sI
     have cc0:=hI.cell d1 oM nom
     have cc1:=hI.cell d2 oM nom
     go_simp
     exact hK _ _ (hI.y mm5 rfl)
    ·obtain ⟨v4,zt4,rfl⟩:=hI.v mm4 (hd 4)
     obtain ⟨v5,zt5,rfl⟩:=hI.v mm5 (hd 5)
     go_simp
     refine (mul_any _ _ m0 (f j) _ (i0.ext hI.lext).weak (hx.ext hI.lext).weak HK.out.1 HSJ.out.1).mono ?_
     rintro e wa ⟨v,rfl,hv,hba⟩
     exact hK _ _ ((hI.world hba).y mm6 hv)
    ·have zt : T[5]? = some (.pointer (some ⟨w.heap.size,0,none⟩)):=hI.keep 5 sI sI
     go_simp
     exact hK _ _ (hI.y mm7 rfl)
    ·obtain ⟨v7,zt7,rfl⟩:=hI.v mm7 (hd 7)
     go_simp
     exact hK _ _ (hI.y mm8 rfl)
    ·obtain ⟨v8,zt8,rfl⟩:=hI.v mm8 (hd 8)
     have cc0:=hI.cell k2 oM nom
     have cc1:=hI.cell k3 oM nom
     go_simp
     exact hK _ _ (hI.y mm9 rfl)
    ·have zt : T[8]? = some (.pointer (some ⟨wr.heap.size + 1,0,none⟩)):=hI.keep 8 sI sI
     have cc0:=hI.cell e1 oM nom
     have cc1:=hI.cell e2 oM nom
     go_simp
     exact hK _ _ (hI.y mm10 rfl)
    ·obtain ⟨v9,zt9,rfl⟩:=hI.v mm9 (hd 9)
     obtain ⟨v10,zt10,rfl⟩:=hI.v mm10 (hd 10)
     go_simp
     refine (mul_any _ _ m1 (g j) _ (i1.ext hI.lext).weak (hy.ext hI.lext).weak HK.out.2.1 HSJ.out.2.1).mono ?_
     rintro e wa ⟨v,rfl,hv,hba⟩
     exact hK _ _ ((hI.world hba).y mm11 hv)
    ·obtain ⟨v6,zt6,h6⟩:=hI.v mm6 (hd 6)
     obtain ⟨v11,zt11,h11⟩:=hI.v mm11 (hd 11)
     go_simp
     refine (add_any _ _ (m0 * f j) (m1 * g j) _ h6.weak h11.weak HSJ.out.2.2.1 HSJ.out.2.2.2.1).mono ?_
     rintro e wa ⟨v,rfl,hv,hba⟩
     exact hK _ _ ((hI.world hba).y mm12 hv)
    ·obtain ⟨v0,zt0,rfl⟩:=hI.v mm0 (hd 0)
     obtain ⟨v1,zt1,rfl⟩:=hI.v mm1 (hd 1)
     go_simp
     exact hK _ _ (hI.y mm13 rfl)
   intro T w9 hI
   obtain ⟨va0,q0,rfl⟩:=hI.v mm0 rfl
   obtain ⟨va1,q1,rfl⟩:=hI.v mm1 rfl
   obtain ⟨va2,q2,rfl⟩:=hI.v mm2 rfl
   obtain ⟨va3,q3,rfl⟩:=hI.v mm3 rfl
   obtain ⟨va4,q4,rfl⟩:=hI.v mm4 rfl
   obtain ⟨va5,q5,rfl⟩:=hI.v mm5 rfl
   obtain ⟨va6,q6,ha6⟩:=hI.v mm6 rfl
   replace ha6 : IntV w9 va6 (m0 * f j):=ha6
   obtain ⟨va7,q7,rfl⟩:=hI.v mm7 rfl
   obtain ⟨va8,q8,rfl⟩:=hI.v mm8 rfl
   obtain ⟨va9,q9,rfl⟩:=hI.v mm9 rfl
   obtain ⟨va10,q10,rfl⟩:=hI.v mm10 rfl
   obtain ⟨va11,q11,ha11⟩:=hI.v mm11 rfl
   replace ha11 : IntV w9 va11 (m1 * g j):=ha11
   obtain ⟨va12,q12,ha12⟩:=hI.v mm12 rfl
   replace ha12 : IntV w9 va12 (m0 * f j + m1 * g j):=ha12
   obtain ⟨va13,q13,rfl⟩:=hI.v mm13 rfl
   have hT:=tmps_set [(20,.slice (some ⟨bv,0,none⟩) n capv),(21,.int .i64 j),(22,.pointer (some ⟨w.heap.size,0,none⟩)),(23,.pointer (some ⟨w.heap.size,0,none⟩)),(24,.agg #[.bool s0,.slice a0 l0 c0]),(25,.agg #[.bool xs,.slice xa xl xc]),(26,va6),(27,.pointer (some ⟨w.heap.size,0,none⟩)),(28,.pointer (some ⟨w.heap.size,2,none⟩)),(29,.agg #[.bool s1,.slice a1 l1 c1]),(30,.agg #[.bool ys,.slice ya yl yc]),(31,va11),(32,va12),(33,.pointer (some ⟨bv,j * 2,none⟩))]
    (fun j hj=>hI.keep j (by simp only [List.forall_mem_cons] at hj ⊢; simp [hj]) (by simp only [List.forall_mem_cons] at hj ⊢; simp [hj]))
    (by simp only [List.forall_mem_cons]; simp [q0,q1,q2,q3,q4,q5,q6,q7,q8,q9,q10,q11,q12,q13]) hI.size
   have hlw9:=hI.lext
   have hbw9:=hI.bel (W6.heap.size) oM nom
   have holdw9:=hI.old
   clear hI
   simp only [List.foldl_cons,List.foldl_nil,List.setIfInBounds_toArray,List.set_cons_zero,List.set_cons_succ,ptr] at hT
   subst hT
   clear q0 q1 q2 q3 q4 q5 q6 q7 q8 q9 q10 q11 q12 q13
   simp only [List.drop_succ_cons,List.drop_zero]
   obtain ⟨pn,pa,pl,pc,px,rfl,hpx⟩:=id ha12
   have HPX:=Lib.hid hpx
   clear hpx k0 k1 k2 k3 k4 k5 k6 k7 d1 d2 d3 d4 e1 e2 e3 e4
   have hv9:=hv.below hbw9
   obtain ⟨zs,za,zl,zc,z1,z2,z3,z4,-⟩:=hv9.cell (genV_get hlt)
   have hl9:=hv9.lt
   go_upto_region 6 with (fail)
   refine wp_world ?_
   intro W10 hW10
   obtain ⟨hv10,hx10⟩:=hv9.set_at (k:=j) hW10 (by rw [genV_length]; exact hlt) ha12
   rw [upto_set (HF.out j).symm] at hv10
   have hO:=(hO.trans (Only.of [bv,bw] hbw9)).trans (Only.put_at hW10 sI hx10)
   have bx:=(bx.below hbw9).put_at hW10 oM
   have T7:=(T7.below hbw9).put_at hW10 oM
   have T8:=(T8.below hbw9).put_at hW10 oM
   have hw:=(hw.below hbw9).put_at hW10 (Ne.symm hne) hx10
   have hv:=hv10
   have hx:=(hx.ext (lx hbw9)).ext hx10
   have hy:=(hy.ext (lx hbw9)).ext hx10
   have i0:=(i0.ext (lx hbw9)).ext hx10
   have i1:=(i1.ext (lx hbw9)).ext hx10
   have i2:=(i2.ext (lx hbw9)).ext hx10
   have i3:=(i3.ext (lx hbw9)).ext hx10
   clear z1 z2 z3 z4 hW10
   obtain ⟨k0,k1,k2,k3,k4,k5,k6,k7⟩:=bx.eight
   obtain ⟨d1,d2,d3,d4⟩:=T7.two
   obtain ⟨e1,e2,e3,e4⟩:=T8.two
   have lw:=hw.lt
   have lb:=bx.lt
   have l7:=T7.lt
   have l8:=T8.lt
   refine wp_region_headed 14 rfl (RI W10 (W10.heap.size) _ 45
     [⟨0,34,fun _ v=>v = .slice (some ⟨bw,0,none⟩) n capw⟩,⟨1,35,fun _ v=>v = .int .i64 j⟩,⟨2,36,fun _ v=>v = .pointer (some ⟨w.heap.size,4,none⟩)⟩,⟨3,37,fun _ v=>v = .pointer (some ⟨w.heap.size,4,none⟩)⟩,⟨4,38,fun _ v=>v = .agg #[.bool s2,.slice a2 l2 c2]⟩,⟨5,39,fun _ v=>v = .agg #[.bool xs,.slice xa xl xc]⟩,⟨6,40,fun w v=>IntV w v (m2 * f j)⟩,⟨7,41,fun _ v=>v = .pointer (some ⟨w.heap.size,4,none⟩)⟩,⟨8,42,fun _ v=>v = .pointer (some ⟨w.heap.size,6,none⟩)⟩,⟨9,43,fun _ v=>v = .agg #[.bool s3,.slice a3 l3 c3]⟩,⟨10,44,fun _ v=>v = .agg #[.bool ys,.slice ya yl yc]⟩,⟨11,45,fun w v=>IntV w v (m3 * g j)⟩,⟨12,46,fun w v=>IntV w v (m2 * f j + m3 * g j)⟩,⟨13,47,fun _ v=>v = .pointer (some ⟨bw,j * 2,none⟩)⟩]
     [] []) kR RI.start ?fin2 ?steps2
   case steps2=>
    refine ⟨?_,?_,?_,?_,?_,?_,?_,?_,?_,?_,?_,?_,?_,?_,trivial⟩ <;> (intro L T wS hL hd hcl hI K hK; try refine step_wanted rfl ?_)
    ·have zt : T[1]? = some (.slice (some ⟨bw,0,none⟩) n capw):=hI.keep 1 sI sI
     go_simp
     exact hK _ _ (hI.y mm0 rfl)
    ·have zt : T[6]? = some (.int .i64 j):=hI.keep 6 sI sI
     go_simp
     exact hK _ _ (hI.y mm1 rfl)
    ·have zt : T[5]? = some (.pointer (some ⟨w.heap.size,0,none⟩)):=hI.keep 5 sI sI
     go_simp
     exact hK _ _ (hI.y mm2 rfl)
    ·obtain ⟨v2,zt2,rfl⟩:=hI.v mm2 (hd 2)
     go_simp
     exact hK _ _ (hI.y mm3 rfl)
    ·obtain ⟨v3,zt3,rfl⟩:=hI.v mm3 (hd 3)
     have cc0:=hI.cell k4 oM nom
     have cc1:=hI.cell k5 oM nom
     go_simp
     exact hK _ _ (hI.y mm4 rfl)
    ·have zt : T[7]? = some (.pointer (some ⟨wr.heap.size,0,none⟩)):=hI.keep 7 sI sI
     have cc0:=hI.cell d1 oM nom
     have cc1:=hI.cell d2 oM nom
     go_simp
     exact hK _ _ (hI.y mm5 rfl)
    ·obtain ⟨v4,zt4,rfl⟩:=hI.v mm4 (hd 4)
     obtain ⟨v5,zt5,rfl⟩:=hI.v mm5 (hd 5)
     go_simp
     refine (mul_any _ _ m2 (f j) _ (i2.ext hI.lext).weak (hx.ext hI.lext).weak HK.out.2.2.1 HSJ.out.1).mono ?_
     rintro e wa ⟨v,rfl,hv,hba⟩
     exact hK _ _ ((hI.world hba).y mm6 hv)
    ·have zt : T[5]? = some (.pointer (some ⟨w.heap.size,0,none⟩)):=hI.keep 5 sI sI
     go_simp
     exact hK _ _ (hI.y mm7 rfl)
    ·obtain ⟨v7,zt7,rfl⟩:=hI.v mm7 (hd 7)
     go_simp
     exact hK _ _ (hI.y mm8 rfl)
    ·obtain ⟨v8,zt8,rfl⟩:=hI.v mm8 (hd 8)
     have cc0:=hI.cell k6 oM nom
     have cc1:=hI.cell k7 oM nom
     go_simp
     exact hK _ _ (hI.y mm9 rfl)
    ·have zt : T[8]? = some (.pointer (some ⟨wr.heap.size + 1,0,none⟩)):=hI.keep 8 sI sI
     have cc0:=hI.cell e1 oM nom
     have cc1:=hI.cell e2 oM nom
     go_simp
     exact hK _ _ (hI.y mm10 rfl)
    ·obtain ⟨v9,zt9,rfl⟩:=hI.v mm9 (hd 9)
     obtain ⟨v10,zt10,rfl⟩:=hI.v mm10 (hd 10)
     go_simp
     refine (mul_any _ _ m3 (g j) _ (i3.ext hI.lext).weak (hy.ext hI.lext).weak HK.out.2.2.2 HSJ.out.2.1).mono ?_
     rintro e wa ⟨v,rfl,hv,hba⟩
     exact hK _ _ ((hI.world hba).y mm11 hv)
    ·obtain ⟨v6,zt6,h6⟩:=hI.v mm6 (hd 6)
     obtain ⟨v11,zt11,h11⟩:=hI.v mm11 (hd 11)
     go_simp
     refine (add_any _ _ (m2 * f j) (m3 * g j) _ h6.weak h11.weak HSJ.out.2.2.2.2.1 HSJ.out.2.2.2.2.2).mono ?_
     rintro e wa ⟨v,rfl,hv,hba⟩
     exact hK _ _ ((hI.world hba).y mm12 hv)
    ·obtain ⟨v0,zt0,rfl⟩:=hI.v mm0 (hd 0)
     obtain ⟨v1,zt1,rfl⟩:=hI.v mm1 (hd 1)
     go_simp
     exact hK _ _ (hI.y mm13 rfl)
   intro T w11 hI
   obtain ⟨vb0,q0,rfl⟩:=hI.v mm0 rfl
   obtain ⟨vb1,q1,rfl⟩:=hI.v mm1 rfl
   obtain ⟨vb2,q2,rfl⟩:=hI.v mm2 rfl
   obtain ⟨vb3,q3,rfl⟩:=hI.v mm3 rfl
   obtain ⟨vb4,q4,rfl⟩:=hI.v mm4 rfl
   obtain ⟨vb5,q5,rfl⟩:=hI.v mm5 rfl
   obtain ⟨vb6,q6,hb6⟩:=hI.v mm6 rfl
   replace hb6 : IntV w11 vb6 (m2 * f j):=hb6
   obtain ⟨vb7,q7,rfl⟩:=hI.v mm7 rfl
   obtain ⟨vb8,q8,rfl⟩:=hI.v mm8 rfl
   obtain ⟨vb9,q9,rfl⟩:=hI.v mm9 rfl
   obtain ⟨vb10,q10,rfl⟩:=hI.v mm10 rfl
   obtain ⟨vb11,q11,hb11⟩:=hI.v mm11 rfl
   replace hb11 : IntV w11 vb11 (m3 * g j):=hb11
   obtain ⟨vb12,q12,hb12⟩:=hI.v mm12 rfl
   replace hb12 : IntV w11 vb12 (m2 * f j + m3 * g j):=hb12
   obtain ⟨vb13,q13,rfl⟩:=hI.v mm13 rfl
   have hT:=tmps_set [(34,.slice (some ⟨bw,0,none⟩) n capw),(35,.int .i64 j),(36,.pointer (some ⟨w.heap.size,4,none⟩)),(37,.pointer (some ⟨w.heap.size,4,none⟩)),(38,.agg #[.bool s2,.slice a2 l2 c2]),(39,.agg #[.bool xs,.slice xa xl xc]),(40,vb6),(41,.pointer (some ⟨w.heap.size,4,none⟩)),(42,.pointer (some ⟨w.heap.size,6,none⟩)),(43,.agg #[.bool s3,.slice a3 l3 c3]),(44,.agg #[.bool ys,.slice ya yl yc]),(45,vb11),(46,vb12),(47,.pointer (some ⟨bw,j * 2,none⟩))]
    (fun j hj=>hI.keep j (by simp only [List.forall_mem_cons] at hj ⊢; simp [hj]) (by simp only [List.forall_mem_cons] at hj ⊢; simp [hj]))
    (by simp only [List.forall_mem_cons]; simp [q0,q1,q2,q3,q4,q5,q6,q7,q8,q9,q10,q11,q12,q13]) hI.size
   have hlw11:=hI.lext
   have hbw11:=hI.bel (W10.heap.size) oM nom
   have holdw11:=hI.old
   clear hI
   simp only [List.foldl_cons,List.foldl_nil,List.setIfInBounds_toArray,List.set_cons_zero,List.set_cons_succ,ptr] at hT
   subst hT
   clear q0 q1 q2 q3 q4 q5 q6 q7 q8 q9 q10 q11 q12 q13
   simp only [List.drop_succ_cons,List.drop_zero]
   obtain ⟨pn,pa,pl,pc,px,rfl,hpx⟩:=id hb12
   have HPX:=Lib.hid hpx
   clear hpx k0 k1 k2 k3 k4 k5 k6 k7 d1 d2 d3 d4 e1 e2 e3 e4
   have hw9:=hw.below hbw11
   obtain ⟨zs,za,zl,zc,z1,z2,z3,z4,-⟩:=hw9.cell (genV_get hlt)
   have hl9:=hw9.lt
   go_upto_region 7 with (fail)
   refine wp_world ?_
   intro W12 hW12
   obtain ⟨hw12,hx12⟩:=hw9.set_at (k:=j) hW12 (by rw [genV_length]; exact hlt) hb12
   rw [upto_set (HG.out j).symm] at hw12
   have hO:=(hO.trans (Only.of [bv,bw] hbw11)).trans (Only.put_at hW12 sI hx12)
   have bx:=(bx.below hbw11).put_at hW12 oM
   have hv:=(hv.below hbw11).put_at hW12 hne hx12
   have i0:=(i0.ext (lx hbw11)).ext hx12
   have i1:=(i1.ext (lx hbw11)).ext hx12
   have i2:=(i2.ext (lx hbw11)).ext hx12
   have i3:=(i3.ext (lx hbw11)).ext hx12
   clear z1 z2 z3 z4 hW12
   go_wp2
   go_roundw
   case rel=>exact ⟨j + 1,by omega,by simp,hO,bx,⟨⟨s0,a0,l0,c0,s1,a1,l1,c1,s2,a2,l2,c2,s3,a3,l3,c3,rfl,i0,i1,i2,i3⟩⟩,hw12,hv⟩
   case measure=>simp [intOf]; omega
  ·obtain rfl : j = n:=by omega
   have hq1 : genV j (uptoV F f j) = genV j F:=genV_congr fun t ht=>by unfold uptoV; rw [if_pos ht]
   have hq2 : genV j (uptoV G g j) = genV j G:=genV_congr fun t ht=>by unfold uptoV; rw [if_pos ht]
   rw [hq1] at hv
   rw [hq2] at hw
   go_wp2
   exact bodyPost_end (results_none rfl _ _ _) rfl ⟨⟨_,rfl⟩,hO,hv,hw⟩
structure BandZ (Z : Nat->Prop) (w : World) (As At Ai : Value) (n Cs Ct : Nat) (x : Bst) : Prop where
 ex : ∃bss bst bsi,BandV w As At Ai n Cs Ct bss bst bsi x.s x.t x.i/\(∀b,b ∈ bss ∨ b ∈ bst ∨ b ∈ bsi->Z b)
 own : ∀g,As.ownBlock = some g ∨ At.ownBlock = some g ∨ Ai.ownBlock = some g->Z g
theorem BandZ.below {Z : Nat->Prop} {w w' : World} {As At Ai : Value} {n Cs Ct : Nat} {x : Bst} (h : BandZ Z w As At Ai n Cs Ct x) (hb : Below w.heap.size w w') : BandZ Z w' As At Ai n Cs Ct x:=by
 obtain ⟨⟨bss,bst,bsi,⟨h1,h2,h3,h4,h5,h6,h7,h8,h9⟩,hz⟩,ho⟩:=h
 exact ⟨⟨bss,bst,bsi,⟨h1.below hb,h2.below hb,h3.below hb,h4,h5,h6,h7,h8,h9⟩,hz⟩,ho⟩
structure BSm (B : Nat) : Prop where
 sm : ∀z : Int,z.natAbs < B->Sm z
theorem addZ {Z : Nat->Prop} {B : Nat} (hB : BSm B) {As At Ai : Value} {n Cs Ct : Nat} {x : Bst} {i j : Nat} {kv : Value} {k : Int} {w : World} (h : BandZ Z w As At Ai n Cs Ct x) (hok : okB B n Cs Ct x) (hi : i < n) (hj : j < n) (hij : i ≠ j) (hk : IntV w kv k)
  (hn : n<=1000000) (hCs : Cs<=1000000) (hCt : Ct<=1000000) (ha : okAdd B n Cs Ct x i j k) :
  Calls Tryz.prog 134 #[.agg #[As,At,Ai],.int .i64 i,.int .i64 j,kv] w fun e w'=>(∃u,e = .returned u)/\OnlyZ Z w w'/\BandZ Z w' As At Ai n Cs Ct (x.add i j k):=by
 obtain ⟨⟨bss,bst,bsi,hv,hz⟩,ho⟩:=h
 obtain ⟨a1,a2,a3,a4⟩:=ha
 obtain ⟨o1,o2,o3⟩:=hok
 refine (band_add_any As At Ai n Cs Ct i j bss bst bsi x.s x.t x.i kv k w hv hi hj hij hk hn hCs hCt (fun t ht=>⟨hB.sm _ (o1 i hi t ht),hB.sm _ (o1 j hj t ht),hB.sm _ (a2 t ht)⟩) (fun t ht=>⟨hB.sm _ (o2 i hi t ht),hB.sm _ (o2 j hj t ht),hB.sm _ (a3 t ht).1⟩)
  (fun t ht=>⟨hB.sm _ (o3 j hj t ht),hB.sm _ (o3 i hi t ht),hB.sm _ (by rw [Int.neg_mul,Int.natAbs_neg]; exact (a3 t ht).2)⟩) (hB.sm _ a1)).mono ?_
 rintro e w' ⟨hu,h1,h2,h3,h4⟩
 exact ⟨hu,⟨h1,h2,fun b hb hn=>h3 b hb (fun hh=>hn (hz b (.inl hh))) (fun hh=>hn (hz b (.inr (.inl hh)))) (fun hh=>hn (hz b (.inr (.inr hh))))⟩,⟨bss,bst,bsi,h4,hz⟩,ho⟩
theorem swapZ {Z : Nat->Prop} {As At Ai : Value} {n Cs Ct : Nat} {x : Bst} {i j : Nat} {w : World} (h : BandZ Z w As At Ai n Cs Ct x) (hi : i < n) (hj : j < n) (hn : n<=1000000) :
  Calls Tryz.prog 135 #[.agg #[As,At,Ai],.int .i64 i,.int .i64 j] w fun e w'=>(∃u,e = .returned u)/\OnlyZ Z w w'/\BandZ Z w' As At Ai n Cs Ct (x.swap i j):=by
 obtain ⟨⟨bss,bst,bsi,hv,hz⟩,ho⟩:=h
 have l1:=hv.s.len
 have l2:=hv.t.len
 have l3:=hv.i.len
 refine (exchange_any As At Ai n Cs Ct i j bss bst bsi x.s x.t x.i w hv hi hj hn).mono ?_
 rintro e w' ⟨hu,h1,h4⟩
 refine ⟨hu,h1.mono (fun b _ hb=>ho b hb),⟨_,_,_,h4,fun b hb=>hz b ?_⟩,ho⟩
 rcases hb with hb | hb | hb
 ·exact .inl (mem_swpL oM oM hb)
 ·exact .inr (.inl (mem_swpL oM oM hb))
 ·exact .inr (.inr (mem_swpL oM oM hb))
theorem negZ {Z : Nat->Prop} {B : Nat} (hB : BSm B) {As At Ai : Value} {n Cs Ct : Nat} {x : Bst} {i : Nat} {w : World} (h : BandZ Z w As At Ai n Cs Ct x) (hok : okB B n Cs Ct x) (hi : i < n) (hn : n<=1000000) (hCs : Cs<=1000000) (hCt : Ct<=1000000) :
  Calls Tryz.prog 136 #[.agg #[As,At,Ai],.int .i64 i] w fun e w'=>(∃u,e = .returned u)/\OnlyZ Z w w'/\BandZ Z w' As At Ai n Cs Ct (x.neg i):=by
 obtain ⟨⟨bss,bst,bsi,hv,hz⟩,ho⟩:=h
 obtain ⟨o1,o2,o3⟩:=hok
 refine (negate_any As At Ai n Cs Ct i bss bst bsi x.s x.t x.i w hv hi hn hCs hCt (fun a ha b hb=>hB.sm _ (o1 a ha b hb)) (fun a ha b hb=>hB.sm _ (o2 a ha b hb)) (fun a ha b hb=>hB.sm _ (o3 a ha b hb))).mono ?_
 rintro e w' ⟨hu,h1,h4⟩
 exact ⟨hu,h1.mono (fun b _ hb=>hz b hb),⟨bss,bst,bsi,h4,hz⟩,ho⟩
theorem BandZ.shape {Z : Nat->Prop} {w : World} {As At Ai : Value} {n Cs Ct : Nat} {x : Bst} (h : BandZ Z w As At Ai n Cs Ct x) : ∃so sc uo tc io ic,As = .slice so n sc/\At = .slice uo n tc/\Ai = .slice io n ic/\n<=sc/\sc<=9223372036854775807/\(0 < n->∃g,so = some ⟨g,0,none⟩):=by
 obtain ⟨⟨bss,bst,bsi,hv,hz⟩,ho⟩:=h
 obtain ⟨so,sn,sc,e1,s1,s2,s3,-⟩:=id (RowsO.rows hv.s)
 obtain ⟨uo,tn,tc,e2,t1,t2,t3,-⟩:=id (RowsO.rows hv.t)
 obtain ⟨io,in_,ic,e3,i1,i2,i3,-⟩:=id (RowsO.rows hv.i)
 obtain rfl : n = sn:=by rw [<-s1]; simp [genM]
 obtain rfl : n = tn:=by rw [<-t1]; simp [genM]
 obtain rfl : n = in_:=by rw [<-i1]; simp [genM]
 refine ⟨so,sc,uo,tc,io,ic,e1,e2,e3,s2,s3,fun hn=>?_⟩
 have hs:=hv.s
 rw [e1] at hs
 obtain ⟨g,b,e,-⟩:=RowsO.at_ hs (i:=0) (by rw [hs.len]; exact hn)
 exact ⟨g,e⟩
theorem BandZ.row {Z : Nat->Prop} {w : World} {At Ai : Value} {g n sc Cs Ct : Nat} {x : Bst} (h : BandZ Z w (.slice (some ⟨g,0,none⟩) n sc) At Ai n Cs Ct x) {i : Nat} (hi : i < n) :
  ∃b,w.cell? ⟨g,i,none⟩ = some (.slice (some ⟨b,0,none⟩) Cs Cs)/\RowAt w b (genV Cs (x.s i)):=by
 obtain ⟨⟨bss,bst,bsi,hv,hz⟩,ho⟩:=h
 obtain ⟨g',b,e,hg,hb,hb2,o1,-⟩:=RowsO.at_ hv.s (i:=i) (by rw [hv.s.len]; exact hi)
 injection e with e
 injection e with e
 subst e
 exact ⟨b,o1,hv.s.rowAt hi hb⟩
theorem BandZ.glt {Z : Nat->Prop} {w : World} {At Ai : Value} {g n sc Cs Ct : Nat} {x : Bst} (h : BandZ Z w (.slice (some ⟨g,0,none⟩) n sc) At Ai n Cs Ct x) {i : Nat} (hi : i < n) : g < w.heap.size:=by
 obtain ⟨⟨bss,bst,bsi,hv,hz⟩,ho⟩:=h
 obtain ⟨g',b,e,hg,-⟩:=RowsO.at_ hv.s (i:=i) (by rw [hv.s.len]; exact hi)
 injection e with e
 injection e with e
 subst e
 exact hg
theorem leadGo_spec (k : Nat) (zs : List Int) : (leadGo k zs = -1/\∀z ∈ zs,z = 0) ∨ ∃j,leadGo k zs = ((k + j : Nat) : Int)/\j < zs.length/\zs.getD j 0 ≠ 0/\∀t,t < j->zs.getD t 0 = 0:=by
 induction zs generalizing k with
 | nil=>exact .inl ⟨rfl,fun z hz=>by cases hz⟩
 | cons z zs ih=>
  unfold leadGo
  by_cases hz : z = 0
  ·rw [if_neg (by simp [hz])]
   rcases ih (k + 1) with ⟨h1,h2⟩ | ⟨j,h1,h2,h3,h4⟩
   ·refine .inl ⟨h1,fun y hy=>?_⟩
    rcases List.mem_cons.1 hy with rfl | hy
    ·exact hz
    ·exact h2 y hy
   ·refine .inr ⟨j + 1,by rw [h1]; congr 1; omega,by simp; omega,by simpa using h3,fun t ht=>?_⟩
    cases t with
    | zero=>simpa using hz
    | succ t=>simpa using h4 t oM
  ·rw [if_pos hz]
   exact .inr ⟨0,by simp,by simp,by simpa using hz,fun t ht=>by omega⟩
theorem getD_genV {n : Nat} {f : Nat->Int} {j : Nat} (h : j < n) : (genV n f).getD j 0 = f j:=by rw [List.getD_eq_getElem?_getD,genV_get h]; rfl
theorem lead_spec (C : Nat) (F : Nat->Nat->Int) (i : Nat) : (lead C F i = -1/\∀t,t < C->F i t = 0) ∨ ∃j : Nat,lead C F i = (j : Int)/\j < C/\F i j ≠ 0/\∀t,t < j->F i t = 0:=by
 unfold lead
 rcases leadGo_spec 0 (genV C (F i)) with ⟨h1,h2⟩ | ⟨j,h1,h2,h3,h4⟩
 ·exact .inl ⟨h1,fun t ht=>h2 _ (List.mem_of_getElem? (genV_get ht))⟩
 ·rw [genV_length] at h2
  rw [getD_genV h2] at h3
  refine .inr ⟨j,by rw [h1]; simp,h2,h3,fun t ht=>?_⟩
  have:=h4 t ht
  rwa [getD_genV oM] at this
theorem lead_nat {C : Nat} {F : Nat->Nat->Int} {i : Nat} (h : ¬ lead C F i < 0) : ∃c : Nat,lead C F i = (c : Int)/\c < C/\F i c ≠ 0/\∀t,t < c->F i t = 0:=by
 rcases lead_spec C F i with ⟨h1,-⟩ | h1
 ·omega
 ·exact h1
noncomputable def leastOf (P : Nat->Prop) : Nat:=open Classical in if h : ∃f,P f/\∀g,P g->f<=g then h.choose else 0
theorem least_ex {P : Nat->Prop} : ∀f,P f->∃f,P f/\∀g,P g->f<=g:=by
 intro f
 induction f using Nat.strongRecOn with
 | _ f ih=>
  intro hf
  by_cases h : ∃g,g < f/\P g
  ·obtain ⟨g,h1,h2⟩:=h
   exact ih g h1 h2
  ·refine ⟨f,hf,fun g hg=>?_⟩
   rcases Nat.lt_or_ge g f with h3 | h3
   ·exact absurd ⟨g,h3,hg⟩ h
   ·exact h3
theorem leastOf_spec {P : Nat->Prop} {f : Nat} (h : P f) : P (leastOf P)/\∀g,P g->leastOf P<=g:=by
 have hx : ∃f,P f/\∀g,P g->f<=g:=least_ex f h
 unfold leastOf
 rw [dif_pos hx]
 exact hx.choose_spec
theorem leastOf_lt {P : Nat->Prop} {f n : Nat} (h : P f) (hf : f < n) : leastOf P < n:=Nat.lt_of_le_of_lt ((leastOf_spec h).2 f h) hf
end Go.Proofs.YtnocgagoaldfnaaGreat
