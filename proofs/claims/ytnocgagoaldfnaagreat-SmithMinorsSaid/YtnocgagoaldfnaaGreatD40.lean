/- matrix.each for Scale; matrix.Scale. matrix.times. -/
import Derived.Test.YtnocgagoaldfnaaGreatD39
set_option linter.unusedVariables false
set_option linter.unusedSimpArgs false
set_option linter.unusedSectionVars false
namespace Go.Proofs.YtnocgagoaldfnaaGreat
open Go.RowKit
theorem valid2T (b : Nat) (c : Nat) (R1 C1 R2 C2 : Int) (A1 A2 : Value) (M1 M2 : List (List Int)) (w : World) (hb0 : Blk w b tM #[.int .i64 R1,.int .i64 C1,A1,.int .i64 R2,.int .i64 C2,A2]) (hc : 2<=c) (hc2 : c<=9223372036854775807)
  (h1 : MatV w (.agg #[.int .i64 R1,.int .i64 C1,A1]) R1 C1 M1) (h2 : MatV w (.agg #[.int .i64 R2,.int .i64 C2,A2]) R2 C2 M2) (v1 : ValidM R1 C1 M1) (v2 : ValidM R2 C2 M2) :
  Calls Tryz.prog 101 #[.slice (some ⟨b,0,none⟩) 2 c] w fun e w'=>∃v,e = .returned v/\v = .bool true/\Below w.heap.size w w':=by
 refine (valid2_any b c R1 C1 R2 C2 A1 A2 M1 M2 w hb0 hc hc2 h1 h2).mono ?_
 rintro e w' ⟨rfl,hb⟩
 exact ⟨_,rfl,by rw [decide_eq_true ⟨v1,v2⟩],hb⟩
theorem sliceseqTT (v1 v2 : Value) (R C : Int) (w : World) (h1 : SizesV R C w v1) (h2 : SizesV R C w v2) :
  Calls Tryz.prog 103 #[v1,v2] w fun e w'=>∃v,e = .returned v/\v = .bool true/\Below w.heap.size w w':=by
 refine (sliceseq_any v1 v2 R C R C w h1 h2).mono ?_
 rintro e w' ⟨rfl,hb⟩
 exact ⟨_,rfl,by rw [decide_eq_true ⟨rfl,rfl⟩],hb⟩
def SlM2 (a b c d e f : Value) : World->Value->Prop:=fun w v=>∃g,v = .slice (some ⟨g,0,none⟩) 2 2/\Blk w g tM #[a,b,c,d,e,f]
def SlM1 (a b c : Value) : World->Value->Prop:=fun w v=>∃g,v = .slice (some ⟨g,0,none⟩) 1 1/\Blk w g tM #[a,b,c]
theorem lastsB_slm2 (a b c d e f : Value) : LastsB (SlM2 a b c d e f):=fun _ _ _ x ⟨g,h1,h2⟩=>⟨g,h1,h2.below x⟩
theorem lastsB_slm1 (a b c : Value) : LastsB (SlM1 a b c):=fun _ _ _ x ⟨g,h1,h2⟩=>⟨g,h1,h2.below x⟩
def RetMT (w : World) (R C : Nat) (M : List (List Int)) (e : Ending) (w' : World) : Prop:=∃v bs,e = .returned (.tuple #[v,.int .i64 0])/\MatO w' w.heap.size v R C bs M/\Below w.heap.size w w'
set_option maxHeartbeats 4000000 in
set_option maxRecDepth 20000 in
theorem each_any (A : Value) (M : List (List Int)) (R C : Nat) (k : Int) (kb : Nat) (x y : Value) (w : World) (h : MatV w (.agg #[.int .i64 R,.int .i64 C,A]) R C M) (hF : Fits R C M) (hR : R<=1000000) (hC : C<=1000000)
  (hk : Blk w kb tI #[x,y]) (hkv : IntV w (.agg #[x,y]) k) (hS : ∀r ∈ M,∀z ∈ r,Sm z) (s2 : Sm k) :
  Calls Tryz.prog 87 #[.agg #[.int .i64 R,.int .i64 C,A],.agg #[.int .i64 R,.int .i64 C,A],.func (.func 88) #[] #[.pointer (some ⟨kb,0,none⟩)]] w (RetMT w R C (genM R C (fun i j=>k * ent M i j))):=by
 have hmf : ∀(fn : Fn) (first cap : Array Value) (w : World),(Instr.makeFunc fn first cap).run Tryz.prog w = .ok (.func fn first cap) w:=fun _ _ _ _=>rfl
 have h0:=h
 obtain ⟨A',eA,h⟩:=h
 obtain rfl : A = A':=by
  injection eA with eA
  simp only [Array.mk.injEq,List.cons.injEq] at eA
  exact eA.2.2.1
 obtain ⟨ao,n,cap,rfl,e2,e3,e4,-⟩:=id h
 have HF:=HidS.mk hF
 have HV:=HidS.mk hF.valid
 have HS:=HidS.mk hS
 have HK:=HidS.mk s2
 have HH:=HidS.mk h
 have HH0:=HidS.mk h0
 obtain ⟨G,hG⟩ : ∃G : Nat->Nat->Int,(fun i j=>k * ent M i j) = G:=⟨_,rfl⟩
 rw [hG]
 have HG:=HidS.mk hG
 clear hF hS s2 hG e2 h h0 eA
 have hl1:=lastsB_slm2 (.int .i64 R) (.int .i64 C) (.slice ao n cap) (.int .i64 R) (.int .i64 C) (.slice ao n cap)
 have hl2:=lastsB_slm1 (.int .i64 R) (.int .i64 C) (.slice ao n cap)
 have hl3:=lastsB_sizes R C
 go_enter Tryz.func87,Tryz.ntmps87
 go_upto_region 1 with (fail)
 refine wp_world ?_
 intro W0 hW0
 obtain ⟨hB0,bx1,bx2,bf,br,hs0⟩:=world4 hW0
 obtain ⟨c1,c2,c3,c4,c5,c6⟩:=bx1.three
 obtain ⟨d1,d2,d3,d4,d5,d6⟩:=bx2.three
 clear hW0
 refine wp_region_each rfl (RV W0 _ [⟨0,9,fun _ v=>v = .agg #[.int .i64 R,.int .i64 C,.slice ao n cap]⟩,⟨1,10,fun _ v=>v = .agg #[.int .i64 R,.int .i64 C,.slice ao n cap]⟩,⟨2,11,SlM2 (.int .i64 R) (.int .i64 C) (.slice ao n cap) (.int .i64 R) (.int .i64 C) (.slice ao n cap)⟩,⟨3,12,fun _ v=>v = .bool true⟩,⟨4,13,fun _ v=>v = .bool false⟩,⟨5,14,fun _ v=>v = .bool false⟩,⟨6,15,fun _ v=>v = .agg #[.int .i64 R,.int .i64 C,.slice ao n cap]⟩,⟨7,16,SlM1 (.int .i64 R) (.int .i64 C) (.slice ao n cap)⟩,⟨8,17,SizesV R C⟩,⟨9,18,fun _ v=>v = .agg #[.int .i64 R,.int .i64 C,.slice ao n cap]⟩,⟨10,19,SlM1 (.int .i64 R) (.int .i64 C) (.slice ao n cap)⟩,⟨11,20,SizesV R C⟩,⟨12,21,fun _ v=>v = .bool true⟩,⟨13,22,fun _ v=>v = .bool false⟩,⟨14,23,fun _ v=>v = .bool false⟩]) kR RV.start ?fin1 ?steps1
 case steps1=>
  refine ⟨?_,?_,?_,?_,?_,?_,?_,?_,?_,?_,?_,?_,?_,?_,?_,trivial⟩ <;> (intro L T wS hL hd hcl hI K hK; try refine step_wanted rfl ?_)
  ·have zt : T[3]? = some (.pointer (some ⟨w.heap.size,0,none⟩)):=hI.keep 3 sI
   have cc0:=hI.cell c1
   have cc1:=hI.cell c2
   have cc2:=hI.cell c3
   go_simp
   exact hK _ _ (hI.y mm0 rfl)
  ·have zt : T[4]? = some (.pointer (some ⟨w.heap.size + 1,0,none⟩)):=hI.keep 4 sI
   have cc0:=hI.cell d1
   have cc1:=hI.cell d2
   have cc2:=hI.cell d3
   go_simp
   exact hK _ _ (hI.y mm1 rfl)
  ·obtain ⟨_,zt0,rfl⟩:=hI.v mm0 (hd 0)
   obtain ⟨_,zt1,rfl⟩:=hI.v mm1 (hd 1)
   go_simp
   exact hK _ _ ((hI.world ((Below.refl _ _).alloc (Nat.le_refl _) _)).y mm2 ⟨_,rfl,Blk.new _ _ _⟩)
  ·obtain ⟨v2,zt2,h2⟩:=hI.v mm2 (hd 2)
   obtain ⟨g2,rfl,gb2⟩:=h2
   go_simp
   refine (valid2T g2 2 R C R C _ _ M M _ gb2 (Nat.le_refl _) oM ((HH0.out.below hB0).below hI.bel) ((HH0.out.below hB0).below hI.bel) HV.out HV.out).mono ?_
   rintro e wa ⟨v,rfl,hv,hba⟩
   exact hK _ _ ((hI.world hba).y mm3 hv)
  ·obtain ⟨_,zt3,rfl⟩:=hI.v mm3 (hd 3)
   go_simp
   exact hK _ _ (hI.y mm4 rfl)
  ·obtain ⟨_,zt4,rfl⟩:=hI.v mm4 (hd 4)
   go_simp
   exact hK _ _ (hI.y mm5 rfl)
  ·obtain ⟨_,zg,rfl⟩:=hI.v mm5 (hd 5)
   refine step_wanted (by simp [Region.wanted,yielded,zg]) ?_
   have zt : T[3]? = some (.pointer (some ⟨w.heap.size,0,none⟩)):=hI.keep 3 sI
   have cc0:=hI.cell c1
   have cc1:=hI.cell c2
   have cc2:=hI.cell c3
   go_simp
   exact hK _ _ (hI.y mm6 rfl)
  ·obtain ⟨_,zg,rfl⟩:=hI.v mm5 (hd 5)
   refine step_wanted (by simp [Region.wanted,yielded,zg]) ?_
   obtain ⟨_,zt6,rfl⟩:=hI.v mm6 (hd 6)
   go_simp
   exact hK _ _ ((hI.world ((Below.refl _ _).alloc (Nat.le_refl _) _)).y mm7 ⟨_,rfl,Blk.new _ _ _⟩)
  ·obtain ⟨_,zg,rfl⟩:=hI.v mm5 (hd 5)
   refine step_wanted (by simp [Region.wanted,yielded,zg]) ?_
   obtain ⟨v7,zt7,h7⟩:=hI.v mm7 (hd 7)
   obtain ⟨g7,rfl,gb7⟩:=h7
   go_simp
   refine (sizes_any g7 1 R C _ _ gb7 ⟨_,_,_,rfl⟩ (Nat.le_refl _) oM).mono ?_
   rintro e wa ⟨v,rfl,hv,hba⟩
   exact hK _ _ ((hI.world hba).y mm8 hv)
  ·obtain ⟨_,zg,rfl⟩:=hI.v mm5 (hd 5)
   refine step_wanted (by simp [Region.wanted,yielded,zg]) ?_
   have zt : T[4]? = some (.pointer (some ⟨w.heap.size + 1,0,none⟩)):=hI.keep 4 sI
   have cc0:=hI.cell d1
   have cc1:=hI.cell d2
   have cc2:=hI.cell d3
   go_simp
   exact hK _ _ (hI.y mm9 rfl)
  ·obtain ⟨_,zg,rfl⟩:=hI.v mm5 (hd 5)
   refine step_wanted (by simp [Region.wanted,yielded,zg]) ?_
   obtain ⟨_,zt9,rfl⟩:=hI.v mm9 (hd 9)
   go_simp
   exact hK _ _ ((hI.world ((Below.refl _ _).alloc (Nat.le_refl _) _)).y mm10 ⟨_,rfl,Blk.new _ _ _⟩)
  ·obtain ⟨_,zg,rfl⟩:=hI.v mm5 (hd 5)
   refine step_wanted (by simp [Region.wanted,yielded,zg]) ?_
   obtain ⟨v10,zt10,h10⟩:=hI.v mm10 (hd 10)
   obtain ⟨g10,rfl,gb10⟩:=h10
   go_simp
   refine (sizes_any g10 1 R C _ _ gb10 ⟨_,_,_,rfl⟩ (Nat.le_refl _) oM).mono ?_
   rintro e wa ⟨v,rfl,hv,hba⟩
   exact hK _ _ ((hI.world hba).y mm11 hv)
  ·obtain ⟨_,zg,rfl⟩:=hI.v mm5 (hd 5)
   refine step_wanted (by simp [Region.wanted,yielded,zg]) ?_
   obtain ⟨v8,zt8,h8⟩:=hI.v mm8 (hd 8)
   obtain ⟨v11,zt11,h11⟩:=hI.v mm11 (hd 11)
   go_simp
   refine (sliceseqTT _ _ R C _ h8 h11).mono ?_
   rintro e wa ⟨v,rfl,hv,hba⟩
   exact hK _ _ ((hI.world hba).y mm12 hv)
  ·obtain ⟨_,zg,rfl⟩:=hI.v mm5 (hd 5)
   refine step_wanted (by simp [Region.wanted,yielded,zg]) ?_
   obtain ⟨_,zt12,rfl⟩:=hI.v mm12 (hd 12)
   go_simp
   exact hK _ _ (hI.y mm13 rfl)
  ·obtain ⟨_,zt5,rfl⟩:=hI.v mm5 (hd 5)
   obtain ⟨_,zt13,rfl⟩:=hI.v mm13 (hd 13)
   go_simp
   exact hK _ _ (hI.y mm14 rfl)
 intro T w1 hI
 obtain ⟨va0,q0,rfl⟩:=hI.v mm0 rfl
 obtain ⟨va1,q1,rfl⟩:=hI.v mm1 rfl
 obtain ⟨va2,q2,ha2⟩:=hI.v mm2 rfl
 obtain ⟨va3,q3,rfl⟩:=hI.v mm3 rfl
 obtain ⟨va4,q4,rfl⟩:=hI.v mm4 rfl
 obtain ⟨va5,q5,rfl⟩:=hI.v mm5 rfl
 obtain ⟨va6,q6,rfl⟩:=hI.v mm6 rfl
 obtain ⟨va7,q7,ha7⟩:=hI.v mm7 rfl
 obtain ⟨va8,q8,ha8⟩:=hI.v mm8 rfl
 obtain ⟨va9,q9,rfl⟩:=hI.v mm9 rfl
 obtain ⟨va10,q10,ha10⟩:=hI.v mm10 rfl
 obtain ⟨va11,q11,ha11⟩:=hI.v mm11 rfl
 obtain ⟨va12,q12,rfl⟩:=hI.v mm12 rfl
 obtain ⟨va13,q13,rfl⟩:=hI.v mm13 rfl
 obtain ⟨va14,q14,rfl⟩:=hI.v mm14 rfl
 have hT:=tmps_set [(9,.agg #[.int .i64 R,.int .i64 C,.slice ao n cap]),(10,.agg #[.int .i64 R,.int .i64 C,.slice ao n cap]),(11,va2),(12,.bool true),(13,.bool false),(14,.bool false),(15,.agg #[.int .i64 R,.int .i64 C,.slice ao n cap]),(16,va7),(17,va8),(18,.agg #[.int .i64 R,.int .i64 C,.slice ao n cap]),(19,va10),(20,va11),(21,.bool true),(22,.bool false),(23,.bool false)]
  (fun j hj=>hI.keep j (by simp only [List.forall_mem_cons] at hj ⊢; simp [hj]))
  (by simp only [List.forall_mem_cons]; simp [q0,q1,q2,q3,q4,q5,q6,q7,q8,q9,q10,q11,q12,q13,q14]) hI.size
 have hbw1:=hI.bel
 clear hI
 simp only [List.foldl_cons,List.foldl_nil,List.setIfInBounds_toArray,List.set_cons_zero,List.set_cons_succ,ptr] at hT
 subst hT
 clear q0 q1 q2 q3 q4 q5 q6 q7 q8 q9 q10 q11 q12 q13 q14
 have hBt:=nx hB0 hbw1
 have bx1:=bx1.below hbw1
 have bx2:=bx2.below hbw1
 have bf:=bf.below hbw1
 have br:=br.below hbw1
 have hszb:=hBt.size
 have hszb1:=hbw1.size
 clear c1 c2 c3 c4 c5 c6 d1 d2 d3 d4 d5 d6 ha2 ha7 ha8 ha10 ha11
 obtain ⟨c1,c2,c3,c4,c5,c6⟩:=bx1.three
 obtain ⟨d1,d2,d3,d4,d5,d6⟩:=bx2.three
 go_wp2_with fail
 refine (combR_any _ M R C k (w.heap.size + 1 + 1) kb x y w1 (HH.out.below hBt) HF.out hR hC bf (hk.below hBt) (hkv.ext (lx hBt)) HS.out HK.out).mono ?_
 rintro e w2 ⟨rfl,⟨bs,hbl,ho⟩,hb2⟩
 rw [HG.out] at ho
 have hBt2:=nx hBt hb2
 have bx1:=bx1.below hb2
 have br:=br.below hb2
 clear c1 c2 c3 c4 c5 c6 d1 d2 d3 d4 d5 d6
 obtain ⟨c1,c2,c3,c4,c5,c6⟩:=bx1.three
 obtain ⟨r1,r2,r3,r4,r5,r6⟩:=br.three
 have lr:=br.lt
 go_wp2
 refine bodyPost_ret (results_mt rfl _ rfl (br.put3 _ _ _) rfl) rfl ⟨_,bs,rfl,⟨hbl,_,rfl,?_⟩,bset (bset (bset hBt2 oM 0 _) oM 1 _) oM 2 _⟩
 exact (ho.keep (fun k hk=>set3_old _ _ k _ _ _ oM) (br.lext3 dE _ _ _)).mono oM
set_option maxHeartbeats 4000000 in
set_option maxRecDepth 20000 in
theorem mscale_any (v kv : Value) (M : List (List Int)) (R C : Nat) (k : Int) (w : World) (h : MatV w v R C M) (hF : Fits R C M) (hk : IntV w kv k) (hR : R<=1000000) (hC : C<=1000000)
  (hS : ∀r ∈ M,∀z ∈ r,Sm z) (s2 : Sm k) :
  Calls Tryz.prog 47 #[v,kv] w (RetMat w R C (genM R C (fun i j=>k * ent M i j))):=by
 have hmf : ∀(fn : Fn) (first cap : Array Value) (w : World),(Instr.makeFunc fn first cap).run Tryz.prog w = .ok (.func fn first cap) w:=fun _ _ _ _=>rfl
 have h0:=h
 obtain ⟨A,rfl,h⟩:=h
 obtain ⟨ao,n,cap,rfl,e2,e3,e4,-⟩:=id h
 obtain ⟨kn,ka,kl,kc,kx,rfl,hkx⟩:=id hk
 have HF:=HidS.mk hF
 have HS:=HidS.mk hS
 have HK:=HidS.mk s2
 clear hF hS s2 hkx e2
 obtain ⟨G,hG⟩ : ∃G : Nat->Nat->Int,(fun i j=>k * ent M i j) = G:=⟨_,rfl⟩
 rw [hG]
 have HG:=HidS.mk hG
 clear hG
 go_enter Tryz.func47,Tryz.ntmps47
 go_upto_region 1 with (fail)
 refine wp_world ?_
 intro W0 hW0
 obtain ⟨hB0,bx1,bk,br,hs0⟩:=world3 hW0
 obtain ⟨c1,c2,c3,c4,c5,c6⟩:=bx1.three
 clear hW0
 go_wp2_with fail
 refine (each_any _ M R C k (w.heap.size + 1) _ _ W0 (h0.below hB0) HF.out hR hC bk (hk.ext (lx hB0)) HS.out HK.out).mono ?_
 rintro e w1 ⟨u,bs,rfl,⟨hbl,A2,rfl,ho⟩,hb1⟩
 rw [HG.out] at ho
 obtain ⟨oo,on,oc,rfl,-,-,-,-⟩:=id ho.rows
 have hBt:=nx hB0 hb1
 have br:=br.below hb1
 have hszb:=hb1.size
 clear c1 c2 c3 c4 c5 c6
 go_upto_region 2 with (fail)
 refine wp_world ?_
 intro W3 hW3
 obtain ⟨hB3,T5,hs3⟩:=world1 hW3
 have br:=br.below hB3
 have ho:=ho.below hB3
 have hBt:=nx hBt hB3
 obtain ⟨c1,c2,c3,c4,c5,c6⟩:=T5.three
 obtain ⟨r1,r2,r3,r4,r5,r6⟩:=br.three
 have lr:=br.lt
 clear hW3
 go_wp2
 refine bodyPost_mat rfl rfl rfl (br.put3 _ _ _) ⟨_,bs,rfl,⟨hbl,_,rfl,?_⟩,bset (bset (bset hBt oM 0 _) oM 1 _) oM 2 _⟩
 exact (ho.keep (fun k hk=>set3_old _ _ k _ _ _ oM) (br.lext3 dE _ _ _)).mono oM
def rowf (zs : List Int) (M : List (List Int)) (m j : Nat) : Int:=sumTo (fun t=>zs.getD t 0 * ent M t j) m
def TimesSm (zs : List Int) (M : List (List Int)) (m C : Nat) : Prop:=∀j,j < C->∀t,t < m->Sm (zs.getD t 0)/\Sm (ent M t j)/\Sm (zs.getD t 0 * ent M t j)/\Sm (rowf zs M t j)
theorem rowf_succ (zs : List Int) (M : List (List Int)) (m j : Nat) : rowf zs M (m + 1) j = rowf zs M m j + zs.getD m 0 * ent M m j:=rfl
theorem row_zero' (w : World) (n : Nat) (f : Nat->Int) (hf : ∀t,t < n->f t = 0) : RowAt (w.alloc (.cells (zeroCells n) tI)) w.heap.size (genV n f):=by
 have h4:=row_zero w n
 have h5 : List.replicate n (0 : Int) = genV n f:=by
  apply List.ext_getElem
  ·simp [genV]
  ·intro i h1 h2
   simp [genV] at h2
   simp [genV,hf i h2]
 rwa [h5] at h4
set_option maxHeartbeats 4000000 in
set_option maxRecDepth 20000 in
theorem mtimes_any (v mv : Value) (zs : List Int) (M : List (List Int)) (m C : Nat) (w : World) (hv0 : VecV w v zs) (hM : MatV w mv m C M) (hl : zs.length = m) (hF : Fits m C M) (hm : m<=1000000) (hC : C<=1000000) (hS : TimesSm zs M m C) :
  Calls Tryz.prog 102 #[v,mv] w fun e w'=>∃v,e = .returned v/\NewRow w.heap.size C (genV C (rowf zs M m)) w' v/\Below w.heap.size w w':=by
 obtain ⟨A,rfl,hM⟩:=hM
 obtain ⟨ao,n,cap,rfl,e2,e3,e4,-⟩:=id hM
 obtain rfl : m = n:=by rw [<-e2,hF.1]
 obtain ⟨vo,n1,vcap,rfl,f1,f3,f4,-⟩:=id hv0
 obtain rfl : m = n1:=by omega
 have hmk:=fun W=>mkI (C : Int) C rfl oM W
 have HL:=HidS.mk hl
 have HF:=HidS.mk hF
 have HS:=HidS.mk hS
 clear hl hF hS e2 f1
 go_enter Tryz.func102,Tryz.ntmps102
 go_upto_region 1 with (fail)
 refine wp_world ?_
 intro W0 hW0
 obtain ⟨hB0,bx,hs0⟩:=world1 hW0
 obtain ⟨c1,c2,c3,c4,c5,c6⟩:=bx.three
 clear hW0
 go_upto_region 2 with (fail)
 refine wp_world ?_
 intro W1 hW1
 obtain ⟨hB1,-,hs1⟩:=world1 hW1
 have hr : RowAt W1 W0.heap.size (genV C (rowf zs M 0)):=by
  rw [hW1.out]
  exact row_zero' W0 C _ (fun _ _=>rfl)
 have bx:=bx.below hB1
 have hB:=nx hB0 hB1
 clear hW1 hmk c1 c2 c3 c4 c5 c6
 go_wp2
 go_loopw [15] (fun iv wr=>∃i : Nat,i<=m/\iv = .int .i64 i/\Below w.heap.size w wr/\Blk wr w.heap.size tM #[.int .i64 m,.int .i64 C,.slice ao m cap]/\RowAt wr W0.heap.size (genV C (rowf zs M i))) (fun iv _=>m - (intOf iv).toNat)
 case atStart=>exact ⟨0,by omega,rfl,hB,bx,hr⟩
 case round=>
  obtain ⟨i,hi,rfl,hb,bx,hr⟩:=hrel
  have hB0s:=hB0.size
  by_cases hlt : i < m
  ·obtain ⟨b1,x,s1,a1,l1,k1,rfl,hbl1,hz1,p1,p2,hx⟩:=(hv0.below hb).cell (k:=i) (by rw [HL.out]; exact hlt)
   have hzx : HidS (zs.getD i 0 = x):=⟨getD_of hz1⟩
   have hbs:=hb.size
   have lbx:=bx.lt
   have lr:=hr.lt
   clear hz1
   go_upto_region 5 with (fail)
   refine wp_world ?_
   intro W6 hW6
   obtain ⟨hB6,T7,hs6⟩:=world1 hW6
   obtain ⟨d1,d2,d3,d4⟩:=T7.two
   have hx:=hx.ext (lx hB6)
   have bx:=bx.below hB6
   have hr:=hr.below hB6
   have hb:=nx hb hB6
   clear p1 p2 hW6
   go_wp2_with fail
   refine (sign_any _ x W6 hx.weak).mono ?_
   rintro e w7 ⟨rfl,hb7⟩
   have hx:=hx.ext (lx hb7)
   have bx:=bx.below hb7
   have hr:=hr.below hb7
   have T7:=T7.below hb7
   have hb:=nx hb hb7
   clear d1 d2 d3 d4
   by_cases hx0 : x = 0
   ·rw [cmpI_zero hx0]
    have hq : HidS (genV C (rowf zs M i) = genV C (rowf zs M (i + 1))):=⟨genV_congr fun t _=>by rw [rowf_succ,hzx.out,hx0,Int.zero_mul,Int.add_zero]⟩
    clear hx0
    go_wp2
    go_roundw
    case rel=>exact ⟨i + 1,by omega,by simp,hb,bx,hq.out ▸ hr⟩
    case measure=>simp [intOf]; omega
   ·have hc:=cmpI_ne hx0
    obtain ⟨k0,hk0⟩ : ∃k0,cmpI x 0 = k0:=⟨_,rfl⟩
    rw [hk0] at hc ⊢
    clear hk0 hx0
    obtain ⟨b2,ra,rn,rc,ys,rfl,hbl2,hz2,o1,hv⟩:=hM.row (k:=i) (by rw [HF.out.1]; exact hlt)
    have hyl:=HF.out.2 ys (List.mem_of_getElem? hz2)
    have hvl:=hv.len
    obtain rfl : C = rn:=by omega
    have HZ:=HidS.mk (And.intro hz2 hyl)
    have o1:=kc_below o1 hb
    obtain ⟨c1,c2,c3,c4,c5,c6⟩:=bx.three
    obtain ⟨hvl1,hvl2,hvl3⟩:=hvl
    have hst : genV C (rowf zs M i) = genV C (uptoV (rowf zs M (i + 1)) (rowf zs M i) 0):=genV_congr fun t _=>by unfold uptoV; rw [if_neg oM]
    rw [hst] at hr
    clear hz2 hyl hvl1 hst
    go_wp2
    rw [show (k0 == 0) = false by simpa using hc]
    clear hc o1 c1 c2 c3 c4 c5 c6
    go_loopw [29] (fun jv wt=>∃j : Nat,j<=C/\jv = .int .i64 j/\Below w.heap.size w wt/\Blk wt w.heap.size tM #[.int .i64 m,.int .i64 C,.slice (some ⟨b2,0,none⟩) m cap]/\RowAt wt W0.heap.size (genV C (uptoV (rowf zs M (i + 1)) (rowf zs M i) j))/\Blk wt wr.heap.size tI #[.bool s1,.slice a1 l1 k1]/\IntV wt (.agg #[.bool s1,.slice a1 l1 k1]) x) (fun jv _=>C - (intOf jv).toNat)
    case atStart=>exact ⟨0,by omega,rfl,hb,bx,hr,T7,hx⟩
    case round=>
     rename World=>wt
     obtain ⟨j,hj,rfl,hb,bx,hr,T7,hx⟩:=hrel
     by_cases hjc : j < C
     ·obtain ⟨b3,y,s2,a2,l2,k2,rfl,hbl3,hz3,q1,q2,hy⟩:=(hv.below hb).cell (k:=j) (by rw [HZ.out.2]; exact hjc)
      have hzy : HidS (ent M i j = y):=⟨ent_of HZ.out.1 hz3⟩
      have hbs2:=hb.size
      have lbx:=bx.lt
      have lr:=hr.lt
      have l7:=T7.lt
      clear hz3
      go_upto_region 9 with (fail)
      refine wp_world ?_
      intro W8 hW8
      obtain ⟨hB8,T9,hs8⟩:=world1 hW8
      obtain ⟨d1,d2,d3,d4⟩:=T9.two
      have hx:=hx.ext (lx hB8)
      have hy:=hy.ext (lx hB8)
      have bx:=bx.below hB8
      have hr:=hr.below hB8
      have T7:=T7.below hB8
      have hb:=nx hb hB8
      clear q1 q2 hW8
      go_wp2_with fail
      refine (sign_any _ y W8 hy.weak).mono ?_
      rintro e w9 ⟨rfl,hb9⟩
      have hx:=hx.ext (lx hb9)
      have hy:=hy.ext (lx hb9)
      have bx:=bx.below hb9
      have hr:=hr.below hb9
      have T7:=T7.below hb9
      have T9:=T9.below hb9
      have hb:=nx hb hb9
      clear d1 d2 d3 d4
      by_cases hy0 : y = 0
      ·rw [cmpI_zero hy0]
       have hq : HidS (genV C (uptoV (rowf zs M (i + 1)) (rowf zs M i) j) = genV C (uptoV (rowf zs M (i + 1)) (rowf zs M i) (j + 1))):=⟨genV_congr fun t _=>by
        unfold uptoV
        by_cases h1 : t < j
        ·rw [if_pos h1,if_pos oM]
        ·by_cases h2 : t = j
         ·subst h2
          rw [if_neg h1,if_pos oM,rowf_succ,hzy.out,hy0,Int.mul_zero,Int.add_zero]
         ·rw [if_neg h1,if_neg oM]⟩
       clear hy0
       go_wp2
       go_roundw
       case rel=>exact ⟨j + 1,by omega,by simp,hb,bx,hq.out ▸ hr,T7,hx⟩
       case measure=>simp [intOf]; omega
      ·have hc2:=cmpI_ne hy0
       obtain ⟨k1',hk1⟩ : ∃k1,cmpI y 0 = k1:=⟨_,rfl⟩
       rw [hk1] at hc2 ⊢
       clear hk1 hy0
       obtain ⟨n1,n2,n3,n4,r1,r2,-,-,hacc⟩:=hr.cell (genV_get hjc)
       have hua : uptoV (rowf zs M (i + 1)) (rowf zs M i) j j = rowf zs M i j:=by unfold uptoV; rw [if_neg oM]
       rw [hua] at hacc
       obtain ⟨d1,d2,d3,d4⟩:=T7.two
       obtain ⟨e1,e2,e3',e4'⟩:=T9.two
       have lbx:=bx.lt
       have lr:=hr.lt
       have l7:=T7.lt
       have l9:=T9.lt
       have hsm:=HS.out j hjc i hlt
       rw [hzx.out,hzy.out] at hsm
       have HSM:=HidS.mk hsm
       clear hsm hua
       go_upto_region 10 with (fail)
       refine wp_region_headed 11 rfl (RI w9 (w9.heap.size) _ 45
         [⟨0,37,fun _ v=>v = .slice (some ⟨W0.heap.size,0,none⟩) C C⟩,⟨1,38,fun _ v=>v = .int .i64 j⟩,⟨2,39,fun _ v=>v = .slice (some ⟨W0.heap.size,0,none⟩) C C⟩,⟨3,40,fun _ v=>v = .int .i64 j⟩,⟨4,41,fun _ v=>v = .pointer (some ⟨W0.heap.size,j * 2,none⟩)⟩,⟨5,42,fun _ v=>v = .agg #[.bool n1,.slice n2 n3 n4]⟩,⟨6,43,fun _ v=>v = .agg #[.bool s1,.slice a1 l1 k1]⟩,⟨7,44,fun _ v=>v = .agg #[.bool s2,.slice a2 l2 k2]⟩,⟨8,45,fun w v=>IntV w v (x * y)⟩,⟨9,46,fun w v=>IntV w v (rowf zs M i j + x * y)⟩,⟨10,47,fun _ v=>v = .pointer (some ⟨W0.heap.size,j * 2,none⟩)⟩]
         [] []) kR RI.start ?fin1 ?steps1
       case steps1=>
        refine ⟨?_,?_,?_,?_,?_,?_,?_,?_,?_,?_,?_,trivial⟩ <;> (intro L T wS hL hd hcl hI K hK; try refine step_wanted rfl ?_)
        ·have zt : T[5]? = some (.slice (some ⟨W0.heap.size,0,none⟩) C C):=hI.keep 5 sI sI
         go_simp
         exact hK _ _ (hI.y mm0 rfl)
        ·have zt : T[8]? = some (.int .i64 j):=hI.keep 8 sI sI
         go_simp
         exact hK _ _ (hI.y mm1 rfl)
        ·have zt : T[5]? = some (.slice (some ⟨W0.heap.size,0,none⟩) C C):=hI.keep 5 sI sI
         go_simp
         exact hK _ _ (hI.y mm2 rfl)
        ·have zt : T[8]? = some (.int .i64 j):=hI.keep 8 sI sI
         go_simp
         exact hK _ _ (hI.y mm3 rfl)
        ·obtain ⟨v2,zt2,rfl⟩:=hI.v mm2 (hd 2)
         obtain ⟨v3,zt3,rfl⟩:=hI.v mm3 (hd 3)
         go_simp
         exact hK _ _ (hI.y mm4 rfl)
        ·obtain ⟨v4,zt4,rfl⟩:=hI.v mm4 (hd 4)
         have cc0:=hI.cell r1 oM nom
         have cc1:=hI.cell r2 oM nom
         go_simp
         exact hK _ _ (hI.y mm5 rfl)
        ·have zt : T[7]? = some (.pointer (some ⟨wr.heap.size,0,none⟩)):=hI.keep 7 sI sI
         have cc0:=hI.cell d1 oM nom
         have cc1:=hI.cell d2 oM nom
         go_simp
         exact hK _ _ (hI.y mm6 rfl)
        ·have zt : T[9]? = some (.pointer (some ⟨wt.heap.size,0,none⟩)):=hI.keep 9 sI sI
         have cc0:=hI.cell e1 oM nom
         have cc1:=hI.cell e2 oM nom
         go_simp
         exact hK _ _ (hI.y mm7 rfl)
        ·obtain ⟨v6,zt6,rfl⟩:=hI.v mm6 (hd 6)
         obtain ⟨v7,zt7,rfl⟩:=hI.v mm7 (hd 7)
         go_simp
         refine (mul_any _ _ x y _ (hx.ext hI.lext).weak (hy.ext hI.lext).weak HSM.out.1 HSM.out.2.1).mono ?_
         rintro e wa ⟨v,rfl,hv,hba⟩
         exact hK _ _ ((hI.world hba).y mm8 hv)
        ·obtain ⟨v5,zt5,rfl⟩:=hI.v mm5 (hd 5)
         obtain ⟨v8,zt8,h8⟩:=hI.v mm8 (hd 8)
         go_simp
         refine (add_any _ _ (rowf zs M i j) (x * y) _ (hacc.ext hI.lext).weak h8.weak HSM.out.2.2.2 HSM.out.2.2.1).mono ?_
         rintro e wa ⟨v,rfl,hv,hba⟩
         exact hK _ _ ((hI.world hba).y mm9 hv)
        ·obtain ⟨v0,zt0,rfl⟩:=hI.v mm0 (hd 0)
         obtain ⟨v1,zt1,rfl⟩:=hI.v mm1 (hd 1)
         go_simp
         exact hK _ _ (hI.y mm10 rfl)
       intro T wv hI
       obtain ⟨va0,q0,rfl⟩:=hI.v mm0 rfl
       obtain ⟨va1,q1,rfl⟩:=hI.v mm1 rfl
       obtain ⟨va2,q2,rfl⟩:=hI.v mm2 rfl
       obtain ⟨va3,q3,rfl⟩:=hI.v mm3 rfl
       obtain ⟨va4,q4,rfl⟩:=hI.v mm4 rfl
       obtain ⟨va5,q5,rfl⟩:=hI.v mm5 rfl
       obtain ⟨va6,q6,rfl⟩:=hI.v mm6 rfl
       obtain ⟨va7,q7,rfl⟩:=hI.v mm7 rfl
       obtain ⟨va8,q8,ha8⟩:=hI.v mm8 rfl
       replace ha8 : IntV wv va8 (x * y):=ha8
       obtain ⟨va9,q9,ha9⟩:=hI.v mm9 rfl
       replace ha9 : IntV wv va9 (rowf zs M i j + x * y):=ha9
       obtain ⟨va10,q10,rfl⟩:=hI.v mm10 rfl
       have hT:=tmps_set [(37,.slice (some ⟨W0.heap.size,0,none⟩) C C),(38,.int .i64 j),(39,.slice (some ⟨W0.heap.size,0,none⟩) C C),(40,.int .i64 j),(41,.pointer (some ⟨W0.heap.size,j * 2,none⟩)),(42,.agg #[.bool n1,.slice n2 n3 n4]),(43,.agg #[.bool s1,.slice a1 l1 k1]),(44,.agg #[.bool s2,.slice a2 l2 k2]),(45,va8),(46,va9),(47,.pointer (some ⟨W0.heap.size,j * 2,none⟩))]
        (fun j hj=>hI.keep j (by simp only [List.forall_mem_cons] at hj ⊢; simp [hj]) (by simp only [List.forall_mem_cons] at hj ⊢; simp [hj]))
        (by simp only [List.forall_mem_cons]; simp [q0,q1,q2,q3,q4,q5,q6,q7,q8,q9,q10]) hI.size
       have hlwv:=hI.lext
       have hbwv:=hI.bel (w9.heap.size) oM nom
       have holdwv:=hI.old
       clear hI
       simp only [List.foldl_cons,List.foldl_nil,List.setIfInBounds_toArray,List.set_cons_zero,List.set_cons_succ,ptr] at hT
       subst hT
       clear q0 q1 q2 q3 q4 q5 q6 q7 q8 q9 q10
       simp only [List.drop_succ_cons,List.drop_zero]
       obtain ⟨pn,pa,pl,pc,px,rfl,hpx⟩:=id ha9
       have HPX:=Lib.hid hpx
       have hr:=hr.below hbwv
       have bx:=bx.below hbwv
       have T7:=T7.below hbwv
       have hx:=hx.ext (lx hbwv)
       have hb:=nx hb hbwv
       obtain ⟨m1,m2,m3,m4,z1,z2,z3,z4,-⟩:=hr.cell (genV_get hjc)
       have hset:=hr.set (k:=j) (by rw [genV_length]; exact hjc) ha9
       rw [upto_set (by rw [rowf_succ,hzx.out,hzy.out])] at hset
       clear hpx d1 d2 d3 d4 e1 e2 e3' e4' r1 r2
       go_wp2
       go_roundw
       case rel=>exact ⟨j + 1,by omega,by simp,bset (bset hb oM _ _) oM _ _,(set2_old _ _ _ _ _ _ _ oM).trans bx,hset.1,(set2_old _ _ _ _ _ _ _ oM).trans T7,hx.ext hset.2⟩
       case measure=>simp [intOf]; omega
     ·obtain rfl : j = C:=by omega
      have hq : genV j (uptoV (rowf zs M (i + 1)) (rowf zs M i) j) = genV j (rowf zs M (i + 1)):=genV_congr fun t ht=>by unfold uptoV; rw [if_pos ht]
      rw [hq] at hr
      go_wp2
      go_roundw
      case rel=>exact ⟨i + 1,by omega,by simp,hb,bx,hr⟩
      case measure=>simp [intOf]; omega
  ·obtain rfl : i = m:=by omega
   go_wp2
   go_ret
   exact ⟨_,rfl,⟨_,rfl,hB0s,hr⟩,hb⟩
end Go.Proofs.YtnocgagoaldfnaaGreat
