/- The reference's integers, eleventh part: Gcd. -/
import Derived.Test.YtnocgagoaldfnaaGreatD13
set_option linter.unusedVariables false
set_option linter.unusedSimpArgs false
set_option linter.unusedSectionVars false
namespace Go.Proofs.YtnocgagoaldfnaaGreat
open Go.RowKit
theorem gcd_mod (a b : Int) : Int.gcd b (a % b) = Int.gcd a b:=by
 have key : ∀d : Nat,((d : Int) ∣ b/\(d : Int) ∣ a % b) ↔ ((d : Int) ∣ a/\(d : Int) ∣ b):=by
  intro d
  constructor
  ·rintro ⟨h1,h2⟩
   refine ⟨?_,h1⟩
   have:=Int.emod_add_mul_ediv a b
   rw [<-this]
   exact Int.dvd_add h2 (Int.dvd_trans h1 (Int.dvd_mul_right _ _))
  ·rintro ⟨h1,h2⟩
   refine ⟨h2,?_⟩
   have:=Int.emod_def a b
   rw [this]
   exact Int.dvd_sub h1 (Int.dvd_trans h2 (Int.dvd_mul_right _ _))
 apply Nat.dvd_antisymm
 ·have h:=(key (Int.gcd b (a % b))).1 ⟨Int.gcd_dvd_left ..,Int.gcd_dvd_right ..⟩
  exact Int.dvd_gcd h.1 h.2
 ·have h:=(key (Int.gcd a b)).2 ⟨Int.gcd_dvd_left ..,Int.gcd_dvd_right ..⟩
  exact Int.dvd_gcd h.1 h.2
set_option maxHeartbeats 4000000 in
set_option maxRecDepth 200000 in
theorem r1gcd_any (v1 v2 : Value) (z1 z2 : Int) (w : World) (h1 : IntV w v1 z1) (h2 : IntV w v2 z2) (s1 : Smd z1) (s2 : Smd z2) :
  Calls Tryz.prog 39 #[v1,v2] w (RetInt w ((Int.gcd z1 z2 : Nat) : Int)):=by
 obtain ⟨neg1,ao1,n1,cap1,xs,rfl,i1⟩:=id h1
 obtain ⟨neg2,ao2,n2,cap2,ys,rfl,i2⟩:=id h2
 have HS1:=Lib.hid s1
 have HS2:=Lib.hid s2
 clear s1 s2 i1 i2
 go_enter Tryz.func39,Tryz.ntmps39
 go_upto_block 0 with (fail)
 refine wp_world ?_
 intro W0 hW0
 obtain ⟨hB0,bx1,bx2,br,hs0⟩:=world3 hW0
 have h1:=h1.ext (lx hB0)
 have h2:=h2.ext (lx hB0)
 obtain ⟨f,hf⟩:=intAt_ex
 go_wp2
 go_loopw [] (fun wr=>∃(a b : Int) (x1 y1 x2 y2 : Value),Below w.heap.size w wr/\Blk wr w.heap.size 45 #[x1,y1]/\IntV wr (.agg #[x1,y1]) a/\Blk wr (w.heap.size + 1) 45 #[x2,y2]/\IntV wr (.agg #[x2,y2]) b ∧
  Blk wr (w.heap.size + 1 + 1) 45 #[.bool false,.slice none 0 0]/\Hid (Int.gcd a b = Int.gcd z1 z2)/\Smd a/\Smd b) (fun wr=>(f wr (w.heap.size + 1)).natAbs)
 case atStart=>exact ⟨z1,z2,_,_,_,_,hB0,bx1,h1,bx2,h2,br,Lib.hid rfl,HS1.out,HS2.out⟩
 case round=>
  obtain ⟨a,b,x1,y1,x2,y2,hbr,p1,j1,p2,j2,p3,hg,sa,sb⟩:=hrel
  have HSA:=Lib.hid sa
  have HSB:=Lib.hid sb
  clear sa sb
  have hfr:=hf _ _ _ _ _ p2 j2
  obtain ⟨an,aa,al,ac,ax,hav,ha⟩:=id j1
  injection hav with hav
  simp only [Array.mk.injEq,List.cons.injEq,and_true] at hav
  obtain ⟨rfl,rfl⟩:=hav
  have HA:=Lib.hid ha
  clear ha
  obtain ⟨bn,ba,bl,bc,bx,hbv,hb⟩:=id j2
  injection hbv with hbv
  simp only [Array.mk.injEq,List.cons.injEq,and_true] at hbv
  obtain ⟨rfl,rfl⟩:=hbv
  have HB:=Lib.hid hb
  clear hb
  obtain ⟨d1,d2,d3,d4⟩:=p2.two
  go_wp2_with fail
  refine (r1sign_any _ _ wr j2).mono ?_
  rintro e w3 ⟨rfl,hb3⟩
  have p1:=p1.below hb3
  have p2:=p2.below hb3
  have p3:=p3.below hb3
  clear d1 d2 d3 d4
  obtain ⟨c1,c2,c3,c4⟩:=p1.two
  obtain ⟨d1,d2,d3,d4⟩:=p2.two
  have hbr:=nx hbr hb3
  have j1:=j1.ext (lx hb3)
  have j2:=j2.ext (lx hb3)
  by_cases h0 : b = 0
  ·have hc : cmpI b 0 = 0:=by unfold cmpI; rw [if_neg oM,if_neg oM]
   rw [hc]
   have hhb:=HB
   obtain ⟨e1,e2,e3,e4,e5,e6,-⟩:=HA.out
   have hal : al<=8 * LIM:=by
    have:=(e6 ▸ HSA.out).len e5
    rw [e1,DLIM_eq] at this
    rw [LIM_eq]; omega
   have HE1:=Lib.hid e1
   have HE6:=Lib.hid e6
   clear e1 e6
   go_wp2_with fail
   refine (made_any aa al ac ax false w3 HE1.out e2 e3 hal (e4.ext (lx hb3)) ).mono ?_
   rintro e w4 ⟨v,rfl,hv,hb4⟩
   obtain ⟨vn,va,vl,vc,vx,rfl,hv'⟩:=id hv
   have HV:=Lib.hid hv'
   clear hv'
   have p3:=p3.below hb4
   obtain ⟨g1,g2,g3,g4⟩:=p3.two
   go_wp2_with fail
   refine bodyPost_int rfl rfl rfl (p3.put2 _ _) ?_ (bset (bset (nx hbr hb4) oM 0 _) oM 1 _)
   rw [<-hg.out,h0,Int.gcd_zero,HE6.out,natAbs_sgn,<-sgn_false]
   exact hv.ext (p3.lext2 dE _ _)
  ·have hc : cmpI b 0 ≠ 0:=by unfold cmpI; split <;> (try split) <;> omega
   obtain ⟨k,hk⟩ : ∃k,cmpI b 0 = k:=⟨_,rfl⟩
   rw [hk] at hc ⊢
   have hl5:=p3.lt
   go_wp2_with fail
   refine (r1divmod_any _ _ a b w3 j1 j2 HSA.out HSB.out h0).mono ?_
   rintro e w4 ⟨q0,r0,rfl,hq,hr,hb4⟩
   obtain ⟨qn,qa,ql,qc,qx,rfl,hq'⟩:=id hq
   obtain ⟨rn,ra,rl,rc,rx,rfl,hr'⟩:=id hr
   have HQ':=Lib.hid hq'
   have HR':=Lib.hid hr'
   clear hq' hr' hk hc
   go_upto_region 3 with (fail)
   refine wp_world ?_
   intro W5 hW5
   obtain ⟨hB5,T5,T6,hs5⟩:=world2 hW5
   have p1:=(p1.below hb4).below hB5
   have p2:=(p2.below hb4).below hB5
   have p3:=(p3.below hb4).below hB5
   have hbr:=nx (nx hbr hb4) hB5
   have j2:=(j2.ext (lx hb4)).ext (lx hB5)
   have hr:=hr.ext (lx hB5)
   clear c1 c2 c3 c4 d1 d2 d3 d4
   obtain ⟨d1,d2,d3,d4⟩:=p2.two
   obtain ⟨f1,f2,f3,f4⟩:=T6.two
   have hl6:=T6.lt
   have hl3:=p3.lt
   have hl4 : w.heap.size + 1 + 1 < w4.heap.size:=by have h1:=hb4.size; omega
   clear hW5
   refine wp_region_each rfl (RI W5 (W5.heap.size) _ 45
     [⟨0,18,fun _ v=>v = .agg #[.bool bn,.slice ba bl bc]⟩,⟨1,19,fun _ v=>v = .agg #[.bool rn,.slice ra rl rc]⟩]
     [] [⟨2,w.heap.size,fun w v=>IntV w v (b)⟩,⟨3,w.heap.size + 1,fun w v=>IntV w v ((a % b))⟩]) kR RI.start ?fin1 ?steps1
   case steps1=>
    refine ⟨?_,?_,?_,?_,trivial⟩ <;> (intro L T wS hL hd hcl hI K hK; try refine step_wanted rfl ?_)
    ·have zt : T[3]? = some (.pointer (some ⟨w.heap.size + 1,0,none⟩)):=hI.keep 3 sI sI
     have zl : L[3]? ≠ some true:=fun hh=>by have:=hcl 3 _ rfl hh 0 kR; rw [hL] at this; cases this
     have cc0:=hI.cellE _ mm1 d1 zl
     have cc1:=hI.cellE _ mm1 d2 zl
     dsimp only at cc0
     dsimp only at cc1
     go_simp
     exact hK _ _ (hI.y mm0 rfl)
    ·have zt : T[6]? = some (.pointer (some ⟨w4.heap.size + 1,0,none⟩)):=hI.keep 6 sI sI
     have cc0:=hI.cell f1 oM aU
     have cc1:=hI.cell f2 oM aU
     go_simp
     exact hK _ _ (hI.y mm1 rfl)
    ·have zt : T[2]? = some (.pointer (some ⟨w.heap.size,0,none⟩)):=hI.keep 2 sI sI
     obtain ⟨_,zv,rfl⟩:=hI.v mm0 (hd 0)
     obtain ⟨⟨xo,yo,zb,-⟩,-⟩:=hI.ex _ mm0
     replace zb : Blk wS (w.heap.size) 45 #[xo,yo]:=zb
     obtain ⟨zk1,zk2,zk3,zk4⟩:=zb.two
     go_simp
     exact hK _ _ (hI.storeE ⟨2,w.heap.size,_⟩ mm0 rfl hL rfl (IntV.ext j2 hI.lext))
    ·have zt : T[3]? = some (.pointer (some ⟨w.heap.size + 1,0,none⟩)):=hI.keep 3 sI sI
     obtain ⟨_,zv,rfl⟩:=hI.v mm1 (hd 1)
     obtain ⟨⟨xo,yo,zb,-⟩,-⟩:=hI.ex _ mm1
     replace zb : Blk wS (w.heap.size + 1) 45 #[xo,yo]:=zb
     obtain ⟨zk1,zk2,zk3,zk4⟩:=zb.two
     go_simp
     exact hK _ _ (hI.storeE ⟨3,w.heap.size + 1,_⟩ mm1 rfl hL rfl (IntV.ext hr hI.lext))
   intro T W6 hI
   obtain ⟨va0,q0,rfl⟩:=hI.v mm0 rfl
   obtain ⟨va1,q1,rfl⟩:=hI.v mm1 rfl
   obtain ⟨⟨exa2,eya2,eba2,eia2⟩,-⟩:=hI.ex _ mm0
   replace eba2 : Blk W6 (w.heap.size) 45 #[exa2,eya2]:=eba2
   replace eia2 : IntV W6 (.agg #[exa2,eya2]) (b):=eia2 rfl
   obtain ⟨⟨exa3,eya3,eba3,eia3⟩,-⟩:=hI.ex _ mm1
   replace eba3 : Blk W6 (w.heap.size + 1) 45 #[exa3,eya3]:=eba3
   replace eia3 : IntV W6 (.agg #[exa3,eya3]) ((a % b)):=eia3 rfl
   have hT:=tmps_set [(18,.agg #[.bool bn,.slice ba bl bc]),(19,.agg #[.bool rn,.slice ra rl rc])]
    (fun j hj=>hI.keep j (by simp only [List.forall_mem_cons] at hj ⊢; simp [hj]) (by simp only [List.forall_mem_cons] at hj ⊢; simp [hj]))
    (by simp only [List.forall_mem_cons]; simp [q0,q1]) hI.size
   have hlW6:=hI.lext
   have hbW6:=hI.bel (w.heap.size) oM aU
   have holdW6:=hI.old
   clear hI
   simp only [List.foldl_cons,List.foldl_nil,List.setIfInBounds_toArray,List.set_cons_zero,List.set_cons_succ,ptr] at hT
   subst hT
   clear q0 q1
   have p3 : Blk W6 (w.heap.size + 1 + 1) 45 #[.bool false,.slice none 0 0]:=
    (holdW6 _ oM aU).trans p3
   go_wp2
   go_roundw
   case rel=>
    refine ⟨b,a % b,_,_,_,_,hbr.trans hbW6,eba2,eia2,eba3,eia3,p3,?_,HSB.out,HSB.out.mono ?_⟩
    ·refine Lib.hid ?_
     rw [gcd_mod,hg.out]
    ·have h5:=Int.emod_nonneg a h0
     have h6:=Int.emod_lt a h0
     omega
   case measure=>
    rw [hf _ _ _ _ _ eba3 eia3,hfr]
    have h5:=Int.emod_nonneg a h0
    have h6:=Int.emod_lt a h0
    omega
end Go.Proofs.YtnocgagoaldfnaaGreat
