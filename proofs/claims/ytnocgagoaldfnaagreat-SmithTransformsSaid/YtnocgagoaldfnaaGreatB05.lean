/- The functions of package integer on integers, second part: Neg, Abs, Sub, Mul, own. The functions of package integer on integers, third part: Valid, Cmp, and matrix.own. Division of limbs: word, short. math/bits.Len32 and LeadingZeros32 by the library's contracts, at this dump's numbers. Division of limbs: shift. -/
import Derived.Shelf.Small.Bits
import Derived.Ground.Names2Prog
import Derived.Test.YtnocgagoaldfnaaGreatB04
set_option linter.unusedVariables false
set_option linter.unusedSimpArgs false
set_option linter.unusedSectionVars false
namespace Go.Proofs.YtnocgagoaldfnaaGreat
open Go.RowKit
theorem IntW.len {w : World} {v : Value} {z : Int} (h : IntW w v z) (s : Sm z) :
  ∃neg ao n cap xs,v = .agg #[.bool neg,.slice ao n cap]∧xs.length = n∧n≤cap∧cap≤9223372036854775807∧LimbsAt w ao xs∧Normal xs∧z = sgn neg (nat xs)∧n≤LIM:=by
 obtain ⟨neg,ao,n,cap,xs,h1,h2,h3,h4,h5,h6,h7⟩:=h
 exact ⟨neg,ao,n,cap,xs,h1,h2,h3,h4,h5,h6,h7,by rw [← h2]; exact Sm.len (neg:=neg) (by rw [← h7]; exact s) h6⟩
theorem sgn_not (b : Bool) (n : Nat) : sgn (!b) n = - sgn b n:=by cases b <;> simp
set_option maxHeartbeats 1000000 in
theorem neg_any (v1 : Value) (z : Int) (w : World) (h1 : IntW w v1 z) (s1 : Sm z) : Calls Tryz.prog 123 #[v1] w (RetInt w (-z)):=by
 obtain ⟨neg,ao,n,cap,xs,rfl,hn,hl,hc,hx,hN,hz,hq⟩:=h1.len s1
 have HN:=Lib.hid hn
 have HZ:=Lib.hid hz
 clear hn hz s1 h1
 have hq' : n≤4 * LIM:=by omega
 go_enter Tryz.func123,Tryz.ntmps123
 go_upto_region 1 with (fail)
 refine wp_world ?_
 intro W0 hW0
 obtain ⟨hB0,bx1,br,hs0⟩:=world2 hW0
 obtain ⟨c1,c2,c3,c4⟩:=bx1.two
 obtain ⟨d1,d2,d3,d4⟩:=br.two
 have lx1:=lx (nx hB0 (dr W0))
 go_region_held3 (fun w'=>w'.cell? ⟨w.heap.size,0,none⟩ = some (.bool neg)∧w'.cell? ⟨w.heap.size,1,none⟩ = some (.slice ao n cap))
  ((((try go_split_ands); (repeat' apply And.intro)) <;> first | exact kc_drew (by assumption) | exact kc_below (by assumption) hb1 | exact kc_below (by assumption) hb2 | exact kc_set (kc_set (by assumption) (by omega)) (by omega)))
  (first
   | ((go_at_call 125; refine (cloneU_any ao n cap xs _ HN.out hq' (hx.ext lx1)).mono ?_; rintro e w1 ⟨ao',len,cap',rfl,hz1,hz2,hz3,hz4,hb1⟩; have br1:=br.drew.below hb1))
   | ((go_at_call 90; refine (value_any (!neg) ao' len cap' xs _ hz1 hz2 hz3 hz4).mono ?_; rintro e w2 ⟨v,rfl,hv,hb2⟩; have br2:=br1.below hb2; obtain ⟨e1,e2,e3,e4⟩:=br2.two; obtain ⟨vn,va,vl,vc,vx,rfl,hv2⟩:=hv)))
 go_wp2_with fail
 refine bodyPost_int rfl rfl rfl (br2.put2 _ _) ?_ (bset (bset (nx (nx (nx hB0 (dr W0)) hb1) hb2) (by omega) 0 _) (by omega) 1 _)
 refine IntV.ext ?_ (br2.lext2 (by decide) _ _)
 rw [HZ.out,← sgn_not]
 exact ⟨vn,va,vl,vc,vx,rfl,hv2⟩
set_option maxHeartbeats 1000000 in
theorem abs_any (v1 : Value) (z : Int) (w : World) (h1 : IntW w v1 z) (s1 : Sm z) : Calls Tryz.prog 137 #[v1] w (RetInt w (z.natAbs : Nat)):=by
 obtain ⟨neg,ao,n,cap,xs,rfl,hn,hl,hc,hx,hN,hz,hq⟩:=h1.len s1
 have HN:=Lib.hid hn
 have HZ:=Lib.hid hz
 clear hn hz s1 h1
 have hq' : n≤4 * LIM:=by omega
 go_enter Tryz.func137,Tryz.ntmps137
 go_upto_region 1 with (fail)
 refine wp_world ?_
 intro W0 hW0
 obtain ⟨hB0,bx1,br,hs0⟩:=world2 hW0
 obtain ⟨c1,c2,c3,c4⟩:=bx1.two
 obtain ⟨d1,d2,d3,d4⟩:=br.two
 have lx1:=lx hB0
 go_wp2_with fail
 refine (cloneU_any ao n cap xs _ HN.out hq' (hx.ext lx1)).mono ?_
 rintro e w1 ⟨ao',len,cap',rfl,hz1,hz2,hz3,hz4,hb1⟩
 have br1:=br.below hb1
 go_wp2_with fail
 refine (value_any false ao' len cap' xs _ hz1 hz2 hz3 hz4).mono ?_
 rintro e w2 ⟨v,rfl,hv,hb2⟩
 have br2:=br1.below hb2
 obtain ⟨e1,e2,e3,e4⟩:=br2.two
 obtain ⟨vn,va,vl,vc,vx,rfl,hv2⟩:=hv
 go_wp2_with fail
 refine bodyPost_int rfl rfl rfl (br2.put2 _ _) ?_ (bset (bset (nx (nx hB0 hb1) hb2) (by omega) 0 _) (by omega) 1 _)
 refine IntV.ext ?_ (br2.lext2 (by decide) _ _)
 rw [show ((z.natAbs : Nat) : Int) = sgn false (nat xs) by rw [HZ.out,natAbs_sgn]; rfl]
 exact ⟨vn,va,vl,vc,vx,rfl,hv2⟩
set_option maxHeartbeats 1000000 in
theorem sub_any (v1 v2 : Value) (z1 z2 : Int) (w : World) (h1 : IntW w v1 z1) (h2 : IntW w v2 z2) (s1 : Sm z1) (s2 : Sm z2) : Calls Tryz.prog 124 #[v1,v2] w (RetInt w (z1 - z2)):=by
 have h1':=h1
 have H2:=Lib.hid h2
 obtain ⟨neg1,ao1,n1,cap1,xs,rfl,_⟩:=h1
 obtain ⟨neg2,ao2,n2,cap2,ys,rfl,hn2,hl2,hc2,hx2,hN2,hz2⟩:=h2
 have hcall : ∀W,LExt w W→Calls Tryz.prog 126 #[.agg #[.bool neg1,.slice ao1 n1 cap1],.agg #[.bool (!neg2),.slice ao2 n2 cap2]] W (RetInt W (z1 + -z2)):=fun W e=>
  add_any _ _ _ _ W (h1'.ext e) ⟨!neg2,ao2,n2,cap2,ys,rfl,hn2,hl2,hc2,hx2.ext e,hN2,by rw [hz2,sgn_not]⟩ s1 (by unfold Sm at s2 ⊢; rwa [Int.natAbs_neg])
 clear hn2 hz2 s1 s2 H2
 go_enter Tryz.func124,Tryz.ntmps124
 go_upto_region 1 with (fail)
 refine wp_world ?_
 intro W0 hW0
 obtain ⟨hB0,bx1,bx2,br,hs0⟩:=world3 hW0
 obtain ⟨c1,c2,c3,c4⟩:=bx1.two
 obtain ⟨d1,d2,d3,d4⟩:=bx2.two
 obtain ⟨r1,r2,r3,r4⟩:=br.two
 go_wp2_with fail
 refine (hcall _ (lx hB0)).mono ?_
 rintro e w2 ⟨v,rfl,hv,hb2⟩
 have br2:=br.below hb2
 obtain ⟨e1,e2,e3,e4⟩:=br2.two
 obtain ⟨vn,va,vl,vc,vx,rfl,hv2⟩:=hv
 go_wp2_with fail
 refine bodyPost_int rfl rfl rfl (br2.put2 _ _) ?_ (bset (bset (nx hB0 hb2) (by omega) 0 _) (by omega) 1 _)
 refine IntV.ext ?_ (br2.lext2 (by decide) _ _)
 rw [show z1 - z2 = z1 + -z2 from Int.sub_eq_add_neg]
 exact ⟨vn,va,vl,vc,vx,rfl,hv2⟩
theorem sgn_mul (a b : Bool) (m n : Nat) : sgn (a != b) (m * n) = sgn a m * sgn b n:=by
 cases a <;> cases b <;> simp [Int.neg_mul,Int.mul_neg]
set_option maxHeartbeats 1000000 in
theorem mul_any (v1 v2 : Value) (z1 z2 : Int) (w : World) (h1 : IntW w v1 z1) (h2 : IntW w v2 z2) (s1 : Sm z1) (s2 : Sm z2) : Calls Tryz.prog 89 #[v1,v2] w (RetInt w (z1 * z2)):=by
 obtain ⟨neg1,ao1,n1,cap1,xs,rfl,hn1,hl1,hc1,hx1,hN1,hz1,hq1⟩:=h1.len s1
 obtain ⟨neg2,ao2,n2,cap2,ys,rfl,hn2,hl2,hc2,hx2,hN2,hz2,hq2⟩:=h2.len s2
 have hcall1:=fun W hw=>trim_any ao1 n1 cap1 xs W hn1 hl1 hc1 hw
 rw [← hn1,topLen_of_normal hN1,hn1] at hcall1
 have hcall2:=fun W hw=>trim_any ao2 n2 cap2 ys W hn2 hl2 hc2 hw
 rw [← hn2,topLen_of_normal hN2,hn2] at hcall2
 have HN1:=Lib.hid hn1
 have HN2:=Lib.hid hn2
 have HZ1:=Lib.hid hz1
 have HZ2:=Lib.hid hz2
 clear hn1 hn2 hz1 hz2 s1 s2 h1 h2
 go_enter Tryz.func89,Tryz.ntmps89
 go_upto_region 1 with (fail)
 refine wp_world ?_
 intro W0 hW0
 obtain ⟨hB0,bx1,bx2,br,hs0⟩:=world3 hW0
 obtain ⟨c1,c2,c3,c4⟩:=bx1.two
 obtain ⟨d1,d2,d3,d4⟩:=bx2.two
 obtain ⟨r1,r2,r3,r4⟩:=br.two
 have hxd1:=hx1.ext (lx (nx hB0 (dr W0)))
 have hxd2:=hx2.ext (lx (nx hB0 (dr W0)))
 go_region_held3 (fun w'=>w'.cell? ⟨w.heap.size,0,none⟩ = some (.bool neg1)∧w'.cell? ⟨w.heap.size,1,none⟩ = some (.slice ao1 n1 cap1)∧w'.cell? ⟨w.heap.size + 1,0,none⟩ = some (.bool neg2)∧w'.cell? ⟨w.heap.size + 1,1,none⟩ = some (.slice ao2 n2 cap2))
  ((((try go_split_ands); (repeat' apply And.intro)) <;> first | exact kc_drew (by assumption) | exact kc_below (by assumption) hb1 | exact kc_below (by assumption) hb2 | assumption | exact kc_set (kc_set (by assumption) (by omega)) (by omega)))
  (first
   | (go_at_call_of 98 ao1; refine (hcall1 _ hxd1).mono ?_; rintro e w' ⟨rfl,rfl⟩)
   | (go_at_call_of 98 ao2; refine (hcall2 _ hxd2).mono ?_; rintro e w' ⟨rfl,rfl⟩)
   | (go_at_call 117; refine (times_any ao1 ao2 n1 n1 n2 n2 xs ys _ HN1.out HN2.out (by omega) (by omega) hxd1 hxd2).mono ?_; rintro e w1 ⟨ao',len,cap',zs,rfl,hz1,hz2,hz3,hz4,hz5,hb1⟩; have br1:=br.drew.below hb1)
   | (go_at_call 90; refine (value_any (neg1 != neg2) ao' len cap' zs _ hz1 hz2 hz3 hz4).mono ?_; rintro e w2 ⟨v,rfl,hv,hb2⟩; have br2:=br1.below hb2; obtain ⟨e1,e2,e3,e4⟩:=br2.two; obtain ⟨vn,va,vl,vc,vx,rfl,hv2⟩:=hv))
 go_wp2_with fail
 refine bodyPost_int rfl rfl rfl (br2.put2 _ _) ?_ (bset (bset (nx (nx (nx hB0 (dr W0)) hb1) hb2) (by omega) 0 _) (by omega) 1 _)
 refine IntV.ext ?_ (br2.lext2 (by decide) _ _)
 rw [HZ1.out,HZ2.out,← sgn_mul,← hz5]
 exact ⟨vn,va,vl,vc,vx,rfl,hv2⟩
set_option maxHeartbeats 1000000 in
theorem own_any (v1 : Value) (z : Int) (w : World) (h1 : IntV w v1 z) (s1 : Sm z) : Calls Tryz.prog 94 #[v1] w (RetInt w z):=by
  obtain ⟨neg,ao,n,cap,xs,rfl,hn,hl,hc,hx,hN,hz,hpos⟩:=h1
  have hq : n≤LIM:=by rw [← hn]; exact Sm.len (neg:=neg) (by rw [← hz]; exact s1) hN
  have HN:=Lib.hid hn
  have HZ:=Lib.hid hz
  have HP:=Lib.hid hpos
  clear hn hz s1 hpos
  have hq' : n≤4 * LIM:=by omega
  go_enter Tryz.func94,Tryz.ntmps94
  go_upto_region 1 with (fail)
  refine wp_world ?_
  intro W0 hW0
  obtain ⟨hB0,bx1,br,hs0⟩:=world2 hW0
  obtain ⟨c1,c2,c3,c4⟩:=bx1.two
  obtain ⟨d1,d2,d3,d4⟩:=br.two
  have lx1:=lx (nx hB0 (dr W0))
  go_region_held3 (fun w'=>w'.cell? ⟨w.heap.size,0,none⟩ = some (.bool neg)∧w'.cell? ⟨w.heap.size,1,none⟩ = some (.slice ao n cap))
    ((((try go_split_ands); (repeat' apply And.intro)) <;> first | exact kc_drew (by assumption) | exact kc_below (by assumption) hb1 | exact kc_below (by assumption) hb1 | exact kc_set (kc_set (by assumption) (by omega)) (by omega)))
    (first
      | ((go_at_call 125; refine (cloneU_any ao n cap xs _ HN.out hq' (hx.ext lx1)).mono ?_; rintro e w1 ⟨ao',len,cap',rfl,hz1,hz2,hz3,hz4,hb1⟩; have br1:=br.drew.below hb1; obtain ⟨e1,e2,e3,e4⟩:=br1.two))
      | (fail))
  go_wp2_with fail
  refine bodyPost_int rfl rfl rfl (br1.put2 _ _) ?_ (bset (bset (nx (nx hB0 (dr W0)) hb1) (by omega) 0 _) (by omega) 1 _)
  refine IntV.ext ?_ (br1.lext2 (by decide) _ _)
  exact ⟨neg,ao',len,cap',xs,rfl,hz1,hz2,hz3,hz4,hN,HZ.out,fun h=>HP.out (by rw [← HN.out,hz1,h])⟩
set_option maxHeartbeats 1000000 in
theorem valid_any (v1 : Value) (z : Int) (w : World) (h1 : IntV w v1 z) : Calls Tryz.prog 86 #[v1] w fun e w'=>e = .returned (.bool true)∧Below w.heap.size w w':=by
  obtain ⟨neg,ao,n,cap,xs,rfl,hn,hl,hc,hx,hN,hz,hpos⟩:=h1
  have HN:=Lib.hid hn
  clear hz
  cases n with
  | zero=>
    obtain rfl:=hpos rfl
    clear hn
    go_enter Tryz.func86,Tryz.ntmps86
    go_wp2
    go_ret
    exact ⟨rfl,(Below.refl _ _).alloc (Nat.le_refl _) _⟩
  | succ n=>
    obtain ⟨b,off,x,rfl,hbw,hx32,HX,hck⟩:=hx.limb (k:=n) (by omega)
    have hx0 : ((x : Int) != 0) = true:=by
      have:=hN n hn
      rw [HX.out] at this
      simpa using this
    clear hn hpos
    go_enter Tryz.func86,Tryz.ntmps86
    go_wp2
    go_ret
    exact ⟨rfl,(Below.refl _ _).alloc (Nat.le_refl _) _⟩
theorem cmpI_bd (a b : Int) : -1≤cmpI a b∧cmpI a b≤1:=by
  unfold cmpI
  by_cases h1 : a < b
  · rw [if_pos h1]; omega
  · rw [if_neg h1]; by_cases h2 : b < a
    · rw [if_pos h2]; omega
    · rw [if_neg h2]; omega
theorem cmpI_inv {a b : Int} : (cmpI a b = -1→a < b)∧(cmpI a b = 0→a = b)∧(cmpI a b = 1→b < a):=by
  rcases Int.lt_trichotomy a b with h | h | h
  · rw [cmpI_lt h]; omega
  · rw [cmpI_eq h]; omega
  · rw [cmpI_gt h]; omega
theorem cmp_signs_ne {a b : Int} (h : cmpI a 0 ≠ cmpI b 0) : cmpI (cmpI a 0) (cmpI b 0) = cmpI a b:=by
  rcases Int.lt_trichotomy a 0 with ha | ha | ha <;> rcases Int.lt_trichotomy b 0 with hb | hb | hb
  all_goals first
    | (exfalso; apply h; first | rw [cmpI_lt ha,cmpI_lt hb] | rw [cmpI_eq ha,cmpI_eq hb] | rw [cmpI_gt ha,cmpI_gt hb]; done)
    | (first | rw [cmpI_lt ha] | rw [cmpI_eq ha] | rw [cmpI_gt ha]
       first | rw [cmpI_lt hb] | rw [cmpI_eq hb] | rw [cmpI_gt hb]
       first | (rw [cmpI_lt (show a < b by omega)]; rfl) | (rw [cmpI_gt (show b < a by omega)]; rfl))
theorem cmp_signs_eq {a b : Int} (h : cmpI a 0 = cmpI b 0) : cmpI a 0 * cmpI (a.natAbs : Nat) (b.natAbs : Nat) = cmpI a b:=by
  rcases Int.lt_trichotomy a 0 with ha | ha | ha
  · rw [cmpI_lt ha] at h ⊢
    have hb : b < 0:=cmpI_inv.1 h.symm
    rcases Int.lt_trichotomy a b with h1 | h1 | h1
    · rw [cmpI_lt h1,cmpI_gt (by omega)]; rfl
    · rw [cmpI_eq h1,cmpI_eq (by omega)]; rfl
    · rw [cmpI_gt h1,cmpI_lt (by omega)]; rfl
  · rw [cmpI_eq ha] at h ⊢
    have hb : b = 0:=cmpI_inv.2.1 h.symm
    rw [Int.zero_mul,cmpI_eq (show a = b by omega)]
  · rw [cmpI_gt ha] at h ⊢
    have hb : 0 < b:=cmpI_inv.2.2 h.symm
    rw [Int.one_mul]
    rcases Int.lt_trichotomy a b with h1 | h1 | h1
    · rw [cmpI_lt h1,cmpI_lt (by omega)]
    · rw [cmpI_eq h1,cmpI_eq (by omega)]
    · rw [cmpI_gt h1,cmpI_gt (by omega)]
theorem i64_small (n : Int) (h1 : -1≤n) (h2 : n≤1) : IntKind.i64.wrap n = n:=IntWalk.i64_in n ⟨by omega,by omega⟩
set_option maxHeartbeats 2000000 in
theorem cmp_any (v1 v2 : Value) (z1 z2 : Int) (w : World) (h1 : IntW w v1 z1) (h2 : IntW w v2 z2) : Calls Tryz.prog 106 #[v1,v2] w fun e w'=>e = .returned (.int .i64 (cmpI z1 z2))∧Below w.heap.size w w':=by
  have H1:=Lib.hid h1
  have H2:=Lib.hid h2
  obtain ⟨neg1,ao1,n1,cap1,xs,rfl,hn1,hl1,hc1,hx1,hN1,hz1⟩:=h1
  obtain ⟨neg2,ao2,n2,cap2,ys,rfl,hn2,hl2,hc2,hx2,hN2,hz2⟩:=h2
  have hcall1:=fun W hw=>trim_any ao1 n1 cap1 xs W hn1 hl1 hc1 hw
  rw [← hn1,topLen_of_normal hN1,hn1] at hcall1
  have hcall2:=fun W hw=>trim_any ao2 n2 cap2 ys W hn2 hl2 hc2 hw
  rw [← hn2,topLen_of_normal hN2,hn2] at hcall2
  obtain ⟨s,hs⟩ : ∃s,cmpI z1 0 = s:=⟨_,rfl⟩
  obtain ⟨t,ht⟩ : ∃t,cmpI z2 0 = t:=⟨_,rfl⟩
  obtain ⟨c,hc⟩ : ∃c,cmpI (nat xs) (nat ys) = c:=⟨_,rfl⟩
  have hsb:=cmpI_bd z1 0
  have htb:=cmpI_bd z2 0
  have hcb:=cmpI_bd (nat xs) (nat ys)
  have hsg1:=fun W hw=>sign_any (.agg #[.bool neg1,.slice ao1 n1 cap1]) z1 W hw
  have hsg2:=fun W hw=>sign_any (.agg #[.bool neg2,.slice ao2 n2 cap2]) z2 W hw
  have hcmp:=fun W h1 h2=>compare_any ao1 ao2 n1 n1 n2 n2 xs ys W hn1 hn2 (Nat.le_refl _) (Nat.le_refl _) (by omega) (by omega) h1 h2 hN1 hN2
  rw [hs] at hsg1 hsb
  rw [ht] at hsg2 htb
  rw [hc] at hcmp hcb
  have hres : Hid ((s ≠ t→cmpI s t = cmpI z1 z2)∧(s = t→s * c = cmpI z1 z2)):=by
    subst hs; subst ht; subst hc
    refine ⟨fun h=>cmp_signs_ne h,fun h=>?_⟩
    have:=cmp_signs_eq h
    rw [hz1,hz2,natAbs_sgn,natAbs_sgn] at this
    rw [hz1,hz2]; exact this
  clear hn1 hn2 hz1 hz2 hs ht hc
  go_enter Tryz.func106,Tryz.ntmps106
  go_upto_region 1 with (fail)
  refine wp_world ?_
  intro W0 hW0
  obtain ⟨hB0,bx1,bx2,hs0⟩:=world2 hW0
  obtain ⟨c1,c2,c3,c4⟩:=bx1.two
  obtain ⟨d1,d2,d3,d4⟩:=bx2.two
  have lx1:=lx (nx hB0 (dr W0))
  go_region_held3 (fun w'=>w'.cell? ⟨w.heap.size,0,none⟩ = some (.bool neg1)∧w'.cell? ⟨w.heap.size,1,none⟩ = some (.slice ao1 n1 cap1)∧w'.cell? ⟨w.heap.size + 1,0,none⟩ = some (.bool neg2)∧w'.cell? ⟨w.heap.size + 1,1,none⟩ = some (.slice ao2 n2 cap2))
    ((((try go_split_ands); (repeat' apply And.intro)) <;> first | exact kc_drew (by assumption) | exact kc_below (by assumption) hb1 | exact kc_below (by assumption) hb2 | assumption))
    (first
      | (go_at_call_of 62 ao1; refine (hsg1 _ (H1.out.ext lx1)).mono ?_; rintro e w1 ⟨rfl,hb1⟩)
      | (go_at_call_of 62 ao2; refine (hsg2 _ (H2.out.ext (lx (nx (nx hB0 (dr W0)) hb1)))).mono ?_; rintro e w2 ⟨rfl,hb2⟩))
  have hB2:=nx (nx (nx hB0 (dr W0)) hb1) hb2
  by_cases hst : s = t
  · subst hst
    have e0 : ((s : Int) != s) = false:=by simp
    have HR : Hid (s * c = cmpI z1 z2):=hres.out.2 rfl
    clear hres
    have hq:=fun W=>hcmp W
    have bx1':=(bx1.drew.below hb1).below hb2
    have bx2':=(bx2.drew.below hb1).below hb2
    clear c1 c2 c3 c4 d1 d2 d3 d4
    go_wp2_with fail
    obtain ⟨c1,c2,c3,c4⟩:=bx1'.two
    obtain ⟨d1,d2,d3,d4⟩:=bx2'.two
    have hxd1:=hx1.ext (lx (nx hB2 (dr w2)))
    have hxd2:=hx2.ext (lx (nx hB2 (dr w2)))
    go_region_held3 (fun w'=>w'.cell? ⟨w.heap.size,1,none⟩ = some (.slice ao1 n1 cap1)∧w'.cell? ⟨w.heap.size + 1,1,none⟩ = some (.slice ao2 n2 cap2))
      ((((try go_split_ands); (repeat' apply And.intro)) <;> first | exact kc_drew (by assumption) | exact kc_below (by assumption) (drN _ _) | assumption))
      (first
        | (go_at_call_of 98 ao1; refine (hcall1 _ hxd1).mono ?_; rintro e w' ⟨rfl,rfl⟩)
        | (go_at_call_of 98 ao2; refine (hcall2 _ hxd2).mono ?_; rintro e w' ⟨rfl,rfl⟩)
        | (go_at_call 128; refine (hcmp _ hxd1 hxd2).mono ?_; rintro e w' ⟨rfl,q,rfl⟩))
    go_wp2_with fail
    go_ret
    have hr:=HR.out
    have hbd:=cmpI_bd z1 z2
    refine ⟨?_,nx hB2 (drN _ _)⟩
    rw [← hr] at hbd ⊢
    first | rfl | (show _ = Ending.returned (.int .i64 _); simp [IntWalk.wrap64_in _ ⟨show -9223372036854775808≤s * c by omega,by omega⟩,i64_small _ hbd.1 hbd.2])
  · have e0 : ((s : Int) != t) = true:=by simpa using hst
    have E:=hres.out.1 hst
    have hci:=fun W=>cmpInt_any s t W
    rw [E] at hci
    clear E hst
    go_wp2_with (go_at_call 127; refine (hci _).mono ?_; rintro e w' ⟨rfl,rfl⟩)
    go_ret
    exact ⟨rfl,hB2⟩
theorem wrap32_nat (n : Nat) (h : n < 4294967296) : IntKind.u32.wrap (n : Int) = n:=by rw [IntKind.wrap_u32]; omega
theorem or_shift (a b : Nat) (hb : b < 4294967296) : a * 4294967296 ||| b = a * 4294967296 + b:=by
 have h:=Nat.shiftLeft_add_eq_or_of_lt (i:=32) (show b < 2 ^ 32 from hb) a
 rw [Nat.shiftLeft_eq] at h
 exact h.symm
theorem or_u64 (a b : Nat) (ha : a < 4294967296) (hb : b < 4294967296) : bits BinOp.or IntKind.u64 ((a : Int) * 4294967296) (b : Int) = ((a * 4294967296 + b : Nat) : Int):=by
 have h:=u64_or_nat (a * 4294967296) b (by omega) (by omega)
 rw [or_shift a b hb] at h
 rw [← h]
 simp
theorem nat_drop_get (xs : List Nat) (k : Nat) (h : k < xs.length) : nat (xs.drop k) = xs.getD k 0 + B32 * nat (xs.drop (k + 1)):=by
 rw [List.drop_eq_getElem_cons h,nat_cons,List.getD_eq_getElem?_getD,List.getElem?_eq_getElem h]; rfl
theorem short_step {xs zs : List Nat} {k r d x : Nat} (h : nat (xs.drop (k + 1)) = nat (zs.drop (k + 1)) * d + r) (hk : k < xs.length) (hkz : k < zs.length) (hx : xs.getD k 0 = x) :
  nat (xs.drop k) = nat ((zs.set k ((r * 4294967296 + x) / d)).drop k) * d + (r * 4294967296 + x) % d:=by
 rw [nat_drop_get xs k hk,nat_drop_get _ k (by simpa using hkz),hx,h,drop_set_succ,List.getD_eq_getElem?_getD,List.getElem?_set_self hkz,B32_eq]
 simp only [Option.getD_some]
 have e:=Nat.div_add_mod (r * 4294967296 + x) d
 generalize (r * 4294967296 + x) / d = q at *
 generalize (r * 4294967296 + x) % d = s at *
 generalize nat (List.drop (k + 1) zs) = z at *
 rw [Nat.add_mul,Nat.mul_comm q d,Nat.mul_add,Nat.mul_assoc]
 omega
set_option maxHeartbeats 400000 in
theorem short_any (ao : Option Addr) (n cap : Nat) (xs : List Nat) (d : Nat) (w : World) (hn : xs.length = n) (hb : n≤4 * LIM) (hx : LimbsAt w ao xs) (hd0 : 0 < d) (hd : d < 4294967296) :
  Calls Tryz.prog 142 #[.slice ao n cap,.int .u32 (d : Nat)] w fun e w'=>
   ∃g qs r,e = .returned (.tuple #[.slice (some ⟨g,0,none⟩) n n,.int .u32 (r : Nat)])∧LBlk w' g qs∧Limbs qs∧qs.length = n∧r < d∧nat xs = nat qs * d + r∧Below w.heap.size w w':=by
 have HN:=Lib.hid hn
 have hlen1 : xs.length≤n:=by omega
 have hlen1' : n≤xs.length:=by omega
 clear hn
 rw [LIM_eq] at hb
 have hmk:=fun W=>mkU (n : Int) n (by omega) (by omega) W
 go_enter Tryz.func142,Tryz.ntmps142
 go_wp2
 clear hmk
 go_loopw [7,8] (fun rv i wr=>∃(k r : Nat) (zs : List Nat),k≤n∧i = .int .i64 ((k : Int) - 1)∧rv = .int .u64 r∧r < d∧LBlk wr w.heap.size zs∧Below w.heap.size w wr∧n≤zs.length ∧
   Hid (zs.length = n∧Limbs zs∧nat (xs.drop k) = nat (zs.drop k) * d + r)) (fun _ i _=>(intOf i + 1).toNat)
 case atStart=>exact ⟨n,0,List.replicate n 0,by omega,by go_num,rfl,by omega,LBlk.made _ _,(Below.refl _ _).alloc (Nat.le_refl _) _,by simp,⟨by simp,fun x hx=>by rw [List.eq_of_mem_replicate hx]; exact B32_pos,by rw [List.drop_eq_nil_of_le hlen1,List.drop_eq_nil_of_le (by simp)]; simp⟩⟩
 case round=>
  obtain ⟨k,r,zs,hk,rfl,rfl,hr,hblk,hbel,hlz,HH⟩:=hrel
  cases k with
  | zero=>
   go_wp2
   go_ret2
   refine ⟨_,zs,r,by congr 3,hblk,HH.out.2.1,HH.out.1,hr,by simpa using HH.out.2.2,hbel⟩
  | succ k=>
   have hfr:=hblk.frozen k
   obtain ⟨b,off,x,rfl,hbw,hx32,HX,hck⟩:=hx.limb (k:=k) (by omega)
   have hck':=(hbel.cell (p:=⟨b,off + k,none⟩) hbw).trans hck
   have hcz:=hblk.cell (k:=k) (by omega)
   clear hck
   have eo:=or_u64 r x (by omega) hx32
   have hq : (r * 4294967296 + x) / d < 4294967296:=by
    rw [Nat.div_lt_iff_lt_mul hd0]
    have : (r + 1) * 4294967296≤d * 4294967296:=Nat.mul_le_mul_right _ hr
    omega
   have hr' : (r * 4294967296 + x) % d < d:=Nat.mod_lt _ hd0
   have EQ : Hid (((r : Int) * 4294967296 + x) / d = (((r * 4294967296 + x) / d : Nat) : Int)):=by show _ = _; simp
   have ER : Hid (((r : Int) * 4294967296 + x) % d = (((r * 4294967296 + x) % d : Nat) : Int)):=by show _ = _; simp
   go_wp2
   go_roundw
   case rel=>exact ⟨k,(r * 4294967296 + x) % d,zs.set k ((r * 4294967296 + x) / d),by omega,by go_num,by rw [ER.out],hr',hblk.set' _ _ _ (by rw [EQ.out]; exact wrap32_nat _ hq),hbel.setCell (Nat.le_refl _) _,by simpa using hlz,
     ⟨by simpa using HH.out.1,HH.out.2.1.set _ _ hq,short_step HH.out.2.2 (by omega) (by omega) HX.out⟩⟩
   case measure=>simp [intOf]
end Go.Proofs.YtnocgagoaldfnaaGreat

namespace Go.Proofs.YtnocgagoaldfnaaGreat
open Go.Shelf Go.RowKit
def Tryz.lays128_ren : Go.Shelf.Ren:=⟨fun | 128=>148 | n=>n,fun | 51=>95 | 3=>3 | 4=>4 | 46=>96 | 5=>5 | 9=>9 | n=>n,fun | n=>n⟩
theorem Tryz.lays128 : Go.Proofs.Lays.n128 Tryz.prog Tryz.lays128_ren:={
 mixed:=by kernel_rfl
 f128:=Tryz.func148.trans (congrArg some (by kernel_rfl))
 t3:=Tryz.underlying3
 a3:=Tryz.isAgg3
 z3:=Tryz.sizeOf3
 v3:=Tryz.zeroValue3
 t4:=Tryz.underlying4
 a4:=Tryz.isAgg4
 z4:=Tryz.sizeOf4
 v4:=Tryz.zeroValue4
 t5:=Tryz.underlying5
 a5:=Tryz.isAgg5
 z5:=Tryz.sizeOf5
 v5:=Tryz.zeroValue5
 t9:=Tryz.underlying9
 a9:=Tryz.isAgg9
 z9:=Tryz.sizeOf9
 v9:=Tryz.zeroValue9
 t46:=Tryz.underlying96
 a46:=Tryz.isAgg96
 z46:=Tryz.sizeOf96
 v46:=Tryz.zeroValue96
 t51:=Tryz.underlying95
 a51:=Tryz.isAgg95
 z51:=Tryz.sizeOf95
 v51:=Tryz.zeroValue95 }
theorem Tryz.bits_Len32 (x : Int) (w : World) (h0 : 0≤x) (h1 : x≤4294967295) :
  Calls Tryz.prog 148 #[.int .u32 x] w fun e w'=>e = .returned (.int .i64 (Lib.bitLen x.toNat))∧w' = w:=Any.bits_Len32 Tryz.lays128 x w h0 h1
def Tryz.lays133_ren : Go.Shelf.Ren:=⟨fun | 133=>143 | 128=>148 | n=>n,fun | 51=>95 | 3=>3 | 4=>4 | 46=>96 | 5=>5 | 9=>9 | n=>n,fun | n=>n⟩
theorem Tryz.lays133 : Go.Proofs.Lays.n133 Tryz.prog Tryz.lays133_ren:={
 mixed:=by kernel_rfl
 f128:=Tryz.func148.trans (congrArg some (by kernel_rfl))
 f133:=Tryz.func143.trans (congrArg some (by kernel_rfl))
 t3:=Tryz.underlying3
 a3:=Tryz.isAgg3
 z3:=Tryz.sizeOf3
 v3:=Tryz.zeroValue3
 t4:=Tryz.underlying4
 a4:=Tryz.isAgg4
 z4:=Tryz.sizeOf4
 v4:=Tryz.zeroValue4
 t5:=Tryz.underlying5
 a5:=Tryz.isAgg5
 z5:=Tryz.sizeOf5
 v5:=Tryz.zeroValue5
 t9:=Tryz.underlying9
 a9:=Tryz.isAgg9
 z9:=Tryz.sizeOf9
 v9:=Tryz.zeroValue9
 t46:=Tryz.underlying96
 a46:=Tryz.isAgg96
 z46:=Tryz.sizeOf96
 v46:=Tryz.zeroValue96
 t51:=Tryz.underlying95
 a51:=Tryz.isAgg95
 z51:=Tryz.sizeOf95
 v51:=Tryz.zeroValue95 }
theorem Tryz.bits_LeadingZeros32 (x : Int) (w : World) (h0 : 0≤x) (h1 : x≤4294967295) :
  Calls Tryz.prog 143 #[.int .u32 x] w fun e w'=>e = .returned (.int .i64 (32 - (Lib.bitLen x.toNat : Int)))∧w' = w:=Any.bits_LeadingZeros32 Tryz.lays133 x w h0 h1
theorem bitLenAux_spec : ∀(f x : Nat),x < 2 ^ f→0 < x→2 ^ (Lib.bitLenAux f x - 1)≤x∧x < 2 ^ Lib.bitLenAux f x∧0 < Lib.bitLenAux f x
 | 0,x,h,h0=>by simp at h; omega
 | f + 1,x,h,h0=>by
  unfold Lib.bitLenAux
  rw [if_neg (by omega)]
  by_cases h1 : x / 2 = 0
  ·have : x = 1:=by omega
   subst this
   cases f <;> simp [Lib.bitLenAux]
  ·obtain ⟨a,b,c⟩:=bitLenAux_spec f (x / 2) (by rw [Nat.pow_succ] at h; omega) (by omega)
   generalize Lib.bitLenAux f (x / 2) = m at *
   obtain ⟨m,rfl⟩ : ∃k,m = k + 1:=⟨m - 1,by omega⟩
   rw [show 1 + (m + 1) - 1 = m + 1 by omega,show 1 + (m + 1) = m + 1 + 1 by omega,Nat.pow_succ,Nat.pow_succ 2 (m + 1)]
   simp only [Nat.add_sub_cancel] at a
   omega
theorem lead_any (x : Nat) (w : World) (h0 : 0 < x) (h1 : x < 4294967296) :
  ∃s : Nat,s < 32∧2147483648≤x * 2 ^ s∧x * 2 ^ s < 4294967296∧∀w,Calls Tryz.prog 143 #[.int .u32 (x : Nat)] w fun e w'=>e = .returned (.int .i64 (s : Nat))∧w = w':=by
 have hsp:=bitLenAux_spec 64 x (by omega) h0
 obtain ⟨a,b,c⟩:=hsp
 have hL : Lib.bitLen x≤32:=by
  unfold Lib.bitLen
  rcases Nat.lt_or_ge 32 (Lib.bitLenAux 64 x) with h | h
  ·have:=Nat.pow_le_pow_right (show 0 < 2 by omega) (show 32≤Lib.bitLenAux 64 x - 1 by omega)
   omega
  ·exact h
 refine ⟨32 - Lib.bitLen x,?_,?_,?_,fun w=>(Tryz.bits_LeadingZeros32 (x : Int) w (by omega) (by omega)).mono fun e w' h=>⟨?_,h.2.symm⟩⟩
 ·unfold Lib.bitLen; omega
 ·unfold Lib.bitLen at *
  generalize Lib.bitLenAux 64 x = m at *
  have : 2 ^ (m - 1) * 2 ^ (32 - m) = 2 ^ 31:=by rw [← Nat.pow_add]; congr 1; omega
  have h3:=Nat.mul_le_mul_right (2 ^ (32 - m)) a
  omega
 ·unfold Lib.bitLen at *
  generalize Lib.bitLenAux 64 x = m at *
  have : 2 ^ m * 2 ^ (32 - m) = 2 ^ 32:=by rw [← Nat.pow_add]; congr 1; omega
  have h3:=(Nat.mul_lt_mul_right (a:=2 ^ (32 - m)) (Nat.pow_pos (by omega))).2 b
  omega
 ·rw [h.1]
  simp only [Int.toNat_natCast]
  congr 2
  omega
end Go.Proofs.YtnocgagoaldfnaaGreat

namespace Go.Proofs.YtnocgagoaldfnaaGreat
open Go.RowKit
theorem or_low (d x s : Nat) (hd : d < 2 ^ s) : d ||| x * 2 ^ s = d + x * 2 ^ s:=by
 have h:=Nat.shiftLeft_add_eq_or_of_lt hd x
 rw [Nat.shiftLeft_eq] at h
 rw [Nat.or_comm,← h,Nat.add_comm]
theorem shift_lt {x s : Nat} (hx : x < 4294967296) (hs : s < 32) : x * 2 ^ s≤4294967295 * 2 ^ s∧4294967296 * 2 ^ s < 18446744073709551616:=by
 refine ⟨Nat.mul_le_mul_right _ (by omega),?_⟩
 have : 2 ^ s≤2 ^ 31:=Nat.pow_le_pow_right (by omega) (by omega)
 omega
theorem or_wrap (d x s : Nat) (hd : d < 2 ^ s) (hx : x < 4294967296) (hs : s < 32) : bits BinOp.or IntKind.u64 (d : Int) (IntKind.u64.wrap ((x : Int) * 2 ^ s)) = ((d + x * 2 ^ s : Nat) : Int):=by
 obtain ⟨h1,h2⟩:=shift_lt hx hs
 have e : IntKind.u64.wrap ((x : Int) * 2 ^ s) = ((x * 2 ^ s : Nat) : Int):=by
  rw [IntKind.wrap_u64,show (x : Int) * 2 ^ s = ((x * 2 ^ s : Nat) : Int) by simp]
  generalize x * 2 ^ s = m at *
  generalize 2 ^ s = p at *
  omega
 have h:=u64_or_nat d (x * 2 ^ s) (by generalize x * 2 ^ s = m at *; generalize 2 ^ s = p at *; omega) (by generalize x * 2 ^ s = m at *; generalize 2 ^ s = p at *; omega)
 rw [e,h,or_low d x s hd]
theorem shift_step {xs zs : List Nat} {k d x p m : Nat} (h : nat (zs.take k) + d * B32 ^ k = nat (xs.take k) * p) (hk : k < zs.length) (hx : xs.getD k 0 = x) (hm : d + x * p = m) :
  nat ((zs.set k (m % 4294967296)).take (k + 1)) + m / 4294967296 * B32 ^ (k + 1) = nat (xs.take (k + 1)) * p:=by
 rw [nat_take_set _ _ _ hk,nat_take_succ xs,hx,Nat.add_mul,← h,Nat.pow_succ,B32_eq]
 have e:=Nat.div_add_mod m 4294967296
 generalize m / 4294967296 = q at *
 generalize m % 4294967296 = r at *
 have e1 : x * 4294967296 ^ k * p = x * p * 4294967296 ^ k:=by simp only [Nat.mul_assoc,Nat.mul_comm,Nat.mul_left_comm]
 rw [e1]
 generalize 4294967296 ^ k = t at *
 have e2 : (4294967296 * q + r) * t = (d + x * p) * t:=by rw [e,hm]
 rw [Nat.add_mul,Nat.add_mul,Nat.mul_comm 4294967296 q,Nat.mul_assoc,Nat.mul_comm 4294967296 t] at e2
 omega
set_option maxHeartbeats 400000 in
theorem shift_any (ao : Option Addr) (n cap : Nat) (xs : List Nat) (s : Nat) (w : World) (hn : xs.length = n) (hb : n≤4 * LIM) (hx : LimbsAt w ao xs) (hs : s < 32) :
  Calls Tryz.prog 144 #[.slice ao n cap,.int .i64 (s : Nat)] w fun e w'=>
   ∃g zs,e = .returned (.slice (some ⟨g,0,none⟩) (n + 1) (n + 1))∧w.heap.size≤g∧LBlk w' g zs∧Limbs zs∧zs.length = n + 1∧nat zs = nat xs * 2 ^ s∧Below w.heap.size w w':=by
 have HN:=Lib.hid hn
 have hlen1 : xs.length≤n:=by omega
 have hlen1' : n≤xs.length:=by omega
 clear hn
 rw [LIM_eq] at hb
 have hmk:=fun W=>mkU ((n : Int) + 1) (n + 1) (by omega) (by omega) W
 go_enter Tryz.func144,Tryz.ntmps144
 go_wp2
 clear hmk
 go_loopw [6,15] (fun c i wr=>∃(k d : Nat) (zs : List Nat),k≤n∧i = .int .i64 k∧c = .int .u64 d∧d < 4294967296∧LBlk wr w.heap.size zs∧Below w.heap.size w wr∧n < zs.length ∧
   Hid (zs.length = n + 1∧Limbs zs∧d < 2 ^ s∧nat (zs.take k) + d * B32 ^ k = nat (xs.take k) * 2 ^ s)) (fun _ i _=>n - (intOf i).toNat)
 case atStart=>exact ⟨0,0,List.replicate (n + 1) 0,by omega,rfl,rfl,by omega,LBlk.made _ _,(Below.refl _ _).alloc (Nat.le_refl _) _,by simp,⟨by simp,fun x hx=>by rw [List.eq_of_mem_replicate hx]; exact B32_pos,Nat.pow_pos (by omega),by simp⟩⟩
 case round=>
  obtain ⟨k,d,zs,hk,rfl,rfl,hd,hblk,hbel,hlz,HH⟩:=hrel
  have hfr:=hblk.frozen k
  by_cases hkn : k < n
  ·obtain ⟨b,off,x,rfl,hbw,hx32,HX,hck⟩:=hx.limb (k:=k) (by omega)
   have hck':=(hbel.cell (p:=⟨b,off + k,none⟩) hbw).trans hck
   have hcz:=hblk.cell (k:=k) (by omega)
   clear hck
   have hor:=or_wrap d x s HH.out.2.2.1 hx32 hs
   obtain ⟨hs1,hs2⟩:=shift_lt hx32 hs
   obtain ⟨m,hm⟩ : ∃m,d + x * 2 ^ s = m:=⟨_,rfl⟩
   rw [hm] at hor
   have hmlt : m < 4294967296 * 2 ^ s:=by have:=HH.out.2.2.1; generalize x * 2 ^ s = y at *; generalize 2 ^ s = p at *; omega
   have hmd : m / 4294967296 < 2 ^ s:=by omega
   have HM:=Lib.hid hm
   have HMD:=Lib.hid hmd
   have hm64 : m < 18446744073709551616:=by generalize 2 ^ s = p at *; omega
   clear hm hmlt hs1 hs2 hmd
   go_wp2
   go_roundw
   case rel=>exact ⟨k + 1,m / 4294967296,zs.set k (m % 4294967296),by omega,by go_num,by go_num,by omega,hblk.set' _ _ _ (by simp [IntKind.wrap_u32]),hbel.setCell (Nat.le_refl _) _,by simpa using hlz,
     ⟨by simpa using HH.out.1,HH.out.2.1.set _ _ (Nat.mod_lt _ (by omega)),HMD.out,shift_step HH.out.2.2.2 (by omega) HX.out HM.out⟩⟩
   case measure=>simp [intOf]; omega
  ·obtain rfl : n = k:=by omega
   have hcz:=hblk.cell (k:=n) (by omega)
   go_wp2
   go_ret
   have h1:=HH.out.2.2.2
   have h2:=nat_take_set zs n d hlz
   rw [nat_take_all _ (by simp [HH.out.1]),h1,nat_take_all xs (by omega)] at h2
   exact ⟨_,zs.set n d,rfl,Nat.le_refl _,hblk.set' _ _ d (by simp [IntKind.wrap_u32]),HH.out.2.1.set _ _ hd,by simpa using HH.out.1,h2,hbel.setCell (Nat.le_refl _) _⟩
end Go.Proofs.YtnocgagoaldfnaaGreat
