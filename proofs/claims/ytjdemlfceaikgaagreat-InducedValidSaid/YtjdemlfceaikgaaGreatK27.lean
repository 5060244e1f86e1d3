/- torsionlaw29.sanity. torsionlaw29.sanity. Sizes of the reference's maps; valid maps as the program wants them. -/
import Derived.Test.YtjdemlfceaikgaaGreatK25
import Derived.Test.YtjdemlfceaikgaaGreatK26
set_option linter.unusedVariables false
set_option linter.unusedSimpArgs false
set_option linter.unusedSectionVars false
namespace Go.Proofs.YtjdemlfceaikgaaGreat
open Go.RowKit Go.Maps
theorem Tryz.cell2 (i n : Int) (hi : 0 < i/\i<=100) (hn : n ≠ 0/\-100<=n/\n<=100) (w : World) : Calls Tryz.prog 38 #[.int .i64 0,.int .i64 0,.slice (some ⟨w.heap.size,0,none⟩) 2 2] (w.alloc (.cells #[.int .i64 i,.int .i64 n] 2)) fun e w'=>∃o k q,e = .returned (.agg #[.int .i64 0,.int .i64 0,.slice o k q])/\ChnV w' (.slice o k q) [(i,n)]/\Below w.heap.size w w':=by
 have h:=cell_any _ 0 0 [(i,n)] [(i,n)] _ (I64V.newS w [i,n] (by simp; omega) sI) (mak_one i n oM) (two_pow_lim (e:=10) (by simp [nrm]; omega) dE) sI
 refine (by simpa using h : Calls _ _ _ (w.alloc (.cells #[.int .i64 i,.int .i64 n] 2)) _).mono ?_
 rintro e w' ⟨_,rfl,⟨o,k,q,rfl,h1⟩,hb⟩
 exact ⟨o,k,q,rfl,h1,nx ((Below.refl _ _).alloc (Nat.le_refl _) _) (by simpa using hb)⟩
theorem Tryz.cell4 (w : World) (g : Nat) (hg : w.heap.size = g) : Calls Tryz.prog 38 #[.int .i64 0,.int .i64 0,.slice (some ⟨g,0,none⟩) 4 4] (w.alloc (.cells #[.int .i64 1,.int .i64 1,.int .i64 2,.int .i64 (-1)] 2)) fun e w'=>∃o k q,e = .returned (.agg #[.int .i64 0,.int .i64 0,.slice o k q])/\ChnV w' (.slice o k q) [(1,1),(2,-1)]/\Below w.heap.size w w':=by
 subst hg
 have h:=cell_any _ 0 0 [(1,1),(2,-1)] [(1,1),(2,-1)] _ (I64V.newS w [1,1,2,-1] dE dE) dE (two_pow_lim (e:=10) dE dE) sI
 refine (by simpa using h : Calls _ _ _ (w.alloc (.cells #[.int .i64 1,.int .i64 1,.int .i64 2,.int .i64 (-1)] 2)) _).mono ?_
 rintro e w' ⟨_,rfl,⟨o,k,q,rfl,h1⟩,hb⟩
 exact ⟨o,k,q,rfl,h1,nx ((Below.refl _ _).alloc (Nat.le_refl _) _) (by simpa using hb)⟩
def sillyM : Mp:=[(1,[(3,1)]),(2,[(3,1)])]
def voidM : Mp:=[(1,[])]
theorem com_ok {m n : Mp} (h : (m.all fun f=>actB (imgM n) f.2) = true) : ∀f ∈ m,ActOk (imgM n) f.2/\lenA (imgM n) f.2<=900000:=fun f hf=>actB_ok (List.all_eq_true.1 h f hf)
theorem ids_ok {x : Ch} (h : (x.all fun f=>i64B f.1) = true) : ∀f ∈ x,I64 f.1:=fun f hf=>i64B_ok (List.all_eq_true.1 h f hf)
theorem Tryz.comp55 (v u : Value) (w : World) (h1 : MapV w v (degM 5)) (h2 : MapV w u (degM 5)) : Calls Tryz.prog 24 #[v,u] w fun e w'=>∃o k q,e = .returned (.tuple #[.slice o k q,.int .i64 0])/\MapV w' (.slice o k q) (degM 25)/\Below w.heap.size w w':=by
 refine (icompose_any v u (degM 5) (degM 5) w h1 h2 (mpB_ok dE) dE (mpB_ok (n:=degM 5) dE).img (com_ok dE)).mono ?_
 rintro e w' ⟨_,rfl,⟨o,k,q,rfl,h⟩,hb⟩
 exact ⟨o,k,q,by rw [show coE (degM 5) (degM 5) = 0 from by decide],by rw [show coC (degM 5) (degM 5) = degM 25 from by decide] at h; exact h,hb⟩
theorem Tryz.comp10 (v u : Value) (w : World) (h1 : MapV w v (degM 1)) (h2 : MapV w u voidM) : Calls Tryz.prog 24 #[v,u] w fun e w'=>∃o k q,e = .returned (.tuple #[.slice o k q,.int .i64 290])/\Below w.heap.size w w':=by
 refine (icompose_any v u (degM 1) voidM w h1 h2 (mpB_ok dE) dE (mpB_ok (n:=degM 1) dE).img (com_ok dE)).mono ?_
 rintro e w' ⟨_,rfl,⟨o,k,q,rfl,h⟩,hb⟩
 exact ⟨o,k,q,by rw [show coE (degM 1) voidM = 290 from by decide],hb⟩
theorem Tryz.mat25 (va vb vm : Value) (w : World) (ha : CpxV w va circleC) (hb : CpxV w vb circleC) (hm : MapV w vm (degM 25)) : Calls Tryz.prog 14 #[va,vb,vm,.int .i64 1] w fun e w'=>∃R C o n q,e = .returned (.tuple #[.agg #[.int .i64 R,.int .i64 C,.slice o n q],.int .i64 0])/\MatV w' (.agg #[.int .i64 R,.int .i64 C,.slice o n q]) (1 : Nat) (1 : Nat) [[25]]/\Below w.heap.size w w':=by
 refine (imatrix_any va vb vm circleC circleC (degM 25) 1 w ha hb hm (vlB_ok dE)).mono ?_
 rintro e w' ⟨ok,hok,⟨_,rfl,R,C,o,n,q,rfl,h⟩,hbb⟩
 obtain rfl : ok = true:=hok.2 (valRB_ok dE)
 have h:=h rfl
 rw [show matM circleC circleC (degM 25) 1 = [[25]] from by decide] at h
 exact ⟨R,C,o,n,q,rfl,h,hbb⟩
theorem not_flat : ¬ ValR planeC circleC flatM:=fun h=>by
 have h1:=h.com 2 dE (3,2,[(2,2)]) (3,[]) rfl rfl
 unfold comP at h1
 revert h1
 decide
theorem Tryz.matFlat (va vb vm : Value) (w : World) (ha : CpxV w va planeC) (hb : CpxV w vb circleC) (hm : MapV w vm flatM) : Calls Tryz.prog 14 #[va,vb,vm,.int .i64 1] w fun e w'=>∃R C o n q,e = .returned (.tuple #[.agg #[.int .i64 R,.int .i64 C,.slice o n q],.int .i64 290])/\Below w.heap.size w w':=by
 refine (imatrix_any va vb vm planeC circleC flatM 1 w ha hb hm (vlB_ok dE)).mono ?_
 rintro e w' ⟨ok,hok,⟨_,rfl,R,C,o,n,q,rfl,h⟩,hbb⟩
 cases ok
 ·exact ⟨R,C,o,n,q,rfl,hbb⟩
 ·exact absurd (hok.1 rfl) not_flat
theorem Tryz.appInc (v u : Value) (w : World) (hm : MapV w v (incM circleC)) (hx : ChnV w u [(3,1)]) : Calls Tryz.prog 17 #[v,u] w fun e w'=>∃o n q,e = .returned (.tuple #[.slice o n q,.int .i64 290])/\Below w.heap.size w w':=by
 refine (iapply_any v u (incM circleC) [(3,1)] w hm hx (mpB_ok dE) (ids_ok dE) (actB_ok dE).1 (actB_ok dE).2).mono ?_
 rintro e w' ⟨_,rfl,⟨o,n,q,rfl,h⟩,hb⟩
 exact ⟨o,n,q,by rw [show apE (incM circleC) [(3,1)] = 290 from by decide],hb⟩
theorem Tryz.appSilly (v u : Value) (w : World) (hm : MapV w v sillyM) (hx : ChnV w u [(1,1),(2,-1)]) : Calls Tryz.prog 17 #[v,u] w fun e w'=>∃o q,e = .returned (.tuple #[.slice o 0 q,.int .i64 0])/\Below w.heap.size w w':=by
 refine (iapply_any v u sillyM [(1,1),(2,-1)] w hm hx (mpB_ok dE) (ids_ok dE) (actB_ok dE).1 (actB_ok dE).2).mono ?_
 rintro e w' ⟨_,rfl,⟨o,n,q,rfl,h⟩,hb⟩
 have hn:=h.len.1
 rw [show apC sillyM [(1,1),(2,-1)] = [] from by decide] at hn
 have hn : n = 0:=hn
 subst hn
 exact ⟨o,q,by rw [show apE sillyM [(1,1),(2,-1)] = 0 from by decide],hb⟩
theorem Tryz.valY (va vb vm : Value) (a b : Cx) (m : Mp) (w : World) (ha : CpxV w va a) (hb : CpxV w vb b) (hm : MapV w vm m) (h1 : vlB a b m = true) (h2 : valRB a b m = true) : Calls Tryz.prog 10 #[va,vb,vm] w fun e w'=>e = .returned (.bool true)/\Below w.heap.size w w':=by
 refine (ivalid_any va vb vm a b m w ha hb hm (vlB_ok h1)).mono ?_
 rintro e w' ⟨q,rfl,hq,hbb⟩
 obtain rfl : q = true:=hq.2 (valRB_ok h2)
 exact ⟨rfl,hbb⟩
theorem Tryz.valN (va vb vm : Value) (a b : Cx) (m : Mp) (w : World) (ha : CpxV w va a) (hb : CpxV w vb b) (hm : MapV w vm m) (h1 : vlB a b m = true) (h2 : ¬ ValR a b m) : Calls Tryz.prog 10 #[va,vb,vm] w fun e w'=>e = .returned (.bool false)/\Below w.heap.size w w':=by
 refine (ivalid_any va vb vm a b m w ha hb hm (vlB_ok h1)).mono ?_
 rintro e w' ⟨q,rfl,hq,hbb⟩
 cases q
 ·exact ⟨rfl,hbb⟩
 ·exact absurd (hq.1 rfl) h2
theorem im_one {w : World} {i : Int} {x : Ch} {o : Option Addr} {n c : Nat} (h : ChnV w (.slice o n c) x) : MapV (w.alloc (.cells #[.int .i64 i,.slice o n c] tIm)) (.slice (some ⟨w.heap.size,0,none⟩) 1 1) [(i,x)]:=
 (LsO.lits (e:=imgE) (base:=0) (Blk.new w tIm #[.int .i64 i,.slice o n c]) (Nat.zero_le _) [([.int .i64 i,.slice o n c],(i,x))] rfl (List.forall_mem_cons.2 ⟨imgEE (f:=(i,x)) (LsV.below h ((Below.refl _ _).alloc (Nat.le_refl _) _)),fun _ h=>by cases h⟩) sI).vs
theorem im_two {w : World} {i j : Int} {x y : Ch} {o p : Option Addr} {n c m d : Nat} (h : ChnV w (.slice o n c) x) (h2 : ChnV w (.slice p m d) y) : MapV (w.alloc (.cells #[.int .i64 i,.slice o n c,.int .i64 j,.slice p m d] tIm)) (.slice (some ⟨w.heap.size,0,none⟩) 2 2) [(i,x),(j,y)]:=
 (LsO.lits (e:=imgE) (base:=0) (Blk.new w tIm #[.int .i64 i,.slice o n c,.int .i64 j,.slice p m d]) (Nat.zero_le _) [([.int .i64 i,.slice o n c],(i,x)),([.int .i64 j,.slice p m d],(j,y))] rfl (List.forall_mem_cons.2 ⟨imgEE (f:=(i,x)) (LsV.below h ((Below.refl _ _).alloc (Nat.le_refl _) _)),List.forall_mem_cons.2 ⟨imgEE (f:=(j,y)) (LsV.below h2 ((Below.refl _ _).alloc (Nat.le_refl _) _)),fun _ h=>by cases h⟩⟩) sI).vs
theorem not_short : ¬ ValR circleC circleC ((degM 5).take 1):=fun h=>by have:=h.len; revert this; decide
set_option maxHeartbeats 16000000 in
set_option maxRecDepth 20000 in
theorem sanity29_any (w : World) : Calls Tryz.prog 8 #[] w fun e w'=>e = .returned (.bool true)/\Below w.heap.size w w':=by
 have hfl:=Tryz.fieldCe2
 go_enter Tryz.func8,Tryz.ntmps8
 go_wp2_with fail
 refine (space_any 4 w oM).mono ?_
 rintro e w1 ⟨u1,rfl,h1,hb1⟩
 obtain ⟨co,cc,rfl,-,-⟩:=h1.shape
 have HC:=HidS.mk (show CpxV w1 (.slice co 2 cc) circleC from h1)
 have hBB:=hb1
 rw [show (spaceC (4 % 14)).length = 2 from rfl]
 clear h1 hb1
 go_wp2_with fail
 refine (space_any 9 w1 oM).mono ?_
 rintro e w2 ⟨u2,rfl,h2,hb2⟩
 obtain ⟨po,pc,rfl,-,-⟩:=h2.shape
 have HP:=HidS.mk (show CpxV w2 (.slice po 3 pc) planeC from h2)
 have HC:=HidS.mk (HC.out.below hb2)
 have hBB:=nx hBB hb2
 rw [show (spaceC (9 % 14)).length = 3 from rfl]
 clear h2 hb2
 go_wp2_with fail
 refine (degree_any 3 w2 oM).mono ?_
 rintro e w3 ⟨u_w3,rfl,h_w3,hb_w3⟩
 obtain ⟨o_w3,k_w3,rfl⟩:=LsO.shape h_w3
 rw [show (degM 3).length = 2 from rfl] at h_w3 ⊢
 have hQ:=hb_w3
 have H3:=HidS.mk h_w3
 clear h_w3 hb_w3
 go_wp2_with fail
 refine (Tryz.cell2 3 3 oM oM w3).mono ?_
 rintro e w4 ⟨o_w4,n_w4,k_w4,rfl,h_w4,hb_w4⟩
 have hQ:=nx hQ hb_w4
 have H3:=HidS.mk (H3.out.below hb_w4)
 have H4:=HidS.mk h_w4
 clear hb_w4 h_w4
 have hal:=(Below.refl w4.heap.size w4).alloc (Nat.le_refl _) (.cells #[.int .i64 3,.slice o_w4 n_w4 k_w4] tIm)
 have HN:=HidS.mk (im_one (i:=3) H4.out)
 have H3:=HidS.mk (H3.out.below hal)
 have hQ:=nx hQ hal
 have hsz:=hQ.size
 clear hal
 go_wp2_with (at_builtin; go_loud (refine appIm rfl _ _ rfl w2.heap.size _ (degM 3) rfl H3.out _ [(3,[(3,3)])] rfl HN.out dE hsz ?_; intro v_w5 w5 hown_w5 hgr_w5 hte_w5))
 obtain ⟨eo,ek,rfl⟩:=LsO.shape hown_w5
 have HT:=HidS.mk (show MapV w5 (.slice eo 3 ek) threeM from hown_w5.vs)
 have hQ : Below w2.heap.size w2 w5:=hQ.grown hgr_w5 hsz (fun g hg=>by have:=H3.out.own g hg; omega)
 rw [show List.length (degM 3 ++ [((3 : Int),([(3,3)] : Ch))]) = 3 from rfl]
 clear hown_w5 hgr_w5 hte_w5 H3 HN hsz
 clear H4
 have HC:=HidS.mk (HC.out.below hQ)
 have HP:=HidS.mk (HP.out.below hQ)
 have hBB:=nx hBB hQ
 clear hQ
 go_wp2_with fail
 refine (degree_any 1 w5 oM).mono ?_
 rintro e w6 ⟨u_w6,rfl,h_w6,hb_w6⟩
 obtain ⟨o_w6,k_w6,rfl⟩:=LsO.shape h_w6
 rw [show (degM 1).length = 2 from rfl] at h_w6 ⊢
 have hQ:=hb_w6
 have H6:=HidS.mk h_w6
 clear h_w6 hb_w6
 have hal:=(Below.refl w6.heap.size w6).alloc (Nat.le_refl _) (.cells #[.int .i64 3,.slice none 0 0] tIm)
 have HN:=HidS.mk (im_one (i:=3) (LsV.nil faceE w6 none 0 (Nat.zero_le _)))
 have H6:=HidS.mk (H6.out.below hal)
 have hQ:=nx hQ hal
 have hsz:=hQ.size
 clear hal
 go_wp2_with (at_builtin; go_loud (refine appIm rfl _ _ rfl w5.heap.size _ (degM 1) rfl H6.out _ [(3,[])] rfl HN.out dE hsz ?_; intro v_w7 w7 hown_w7 hgr_w7 hte_w7))
 obtain ⟨fo,fk,rfl⟩:=LsO.shape hown_w7
 have HF:=HidS.mk (show MapV w7 (.slice fo 3 fk) flatM from hown_w7.vs)
 have hQ : Below w5.heap.size w5 w7:=hQ.grown hgr_w7 hsz (fun g hg=>by have:=H6.out.own g hg; omega)
 rw [show List.length (degM 1 ++ [((3 : Int),([] : Ch))]) = 3 from rfl]
 clear hown_w7 hgr_w7 hte_w7 H6 HN hsz
 have HC:=HidS.mk (HC.out.below hQ)
 have HP:=HidS.mk (HP.out.below hQ)
 have hBB:=nx hBB hQ
 have HT:=HidS.mk (HT.out.below hQ)
 clear hQ
 go_wp2_with fail
 refine (degree_any 5 w7 oM).mono ?_
 rintro e w8 ⟨u_w8,rfl,h_w8,hb_w8⟩
 obtain ⟨o_w8,k_w8,rfl⟩:=LsO.shape h_w8
 rw [show (degM 5).length = 2 from rfl] at h_w8 ⊢
 have hQ:=hb_w8
 have H8:=HidS.mk h_w8.vs
 clear h_w8 hb_w8
 go_wp2_with fail
 refine (degree_any 5 w8 oM).mono ?_
 rintro e w9 ⟨u_w9,rfl,h_w9,hb_w9⟩
 obtain ⟨o_w9,k_w9,rfl⟩:=LsO.shape h_w9
 rw [show (degM 5).length = 2 from rfl] at h_w9 ⊢
 have hQ:=nx hQ hb_w9
 have H8:=HidS.mk (H8.out.below hb_w9)
 have H9:=HidS.mk h_w9.vs
 clear h_w9 hb_w9
 go_wp2_with fail
 refine (Tryz.comp55 _ _ w9 H8.out H9.out).mono ?_
 rintro e w10 ⟨ao,an,ak,rfl,ha,hb_w10⟩
 have hQ:=nx hQ hb_w10
 have HA:=HidS.mk ha
 clear hb_w10 ha
 clear H8 H9
 have HC:=HidS.mk (HC.out.below hQ)
 have HP:=HidS.mk (HP.out.below hQ)
 have hBB:=nx hBB hQ
 have HT:=HidS.mk (HT.out.below hQ)
 have HF:=HidS.mk (HF.out.below hQ)
 clear hQ
 go_wp2_with fail
 refine (degree_any 25 w10 oM).mono ?_
 rintro e w11 ⟨u_w11,rfl,h_w11,hb_w11⟩
 obtain ⟨o_w11,k_w11,rfl⟩:=LsO.shape h_w11
 rw [show (degM 25).length = 2 from rfl] at h_w11 ⊢
 have hQ:=hb_w11
 have H11:=HidS.mk h_w11.vs
 clear h_w11 hb_w11
 have HC1:=HidS.mk (HC.out.below hQ)
 go_wp2_with fail
 refine (Tryz.mat25 _ _ _ w11 HC1.out HC1.out H11.out).mono ?_
 rintro e w12 ⟨mR,mC,mo,mn,mq,rfl,hm,hb_w12⟩
 have hQ:=nx hQ hb_w12
 have HMX:=HidS.mk hm
 clear hb_w12 hm
 clear H11 HC1
 have HC:=HidS.mk (HC.out.below hQ)
 have HP:=HidS.mk (HP.out.below hQ)
 have hBB:=nx hBB hQ
 have HT:=HidS.mk (HT.out.below hQ)
 have HF:=HidS.mk (HF.out.below hQ)
 have HA:=HidS.mk (HA.out.below hQ)
 clear hQ
 go_upto_region 6 with (fail)
 refine wp_world ?_
 intro w13 hw13
 obtain ⟨hQ,TB,hs13⟩:=world1 hw13
 have HTB:=HidS.mk TB
 have HMX:=HidS.mk (HMX.out.below hQ)
 clear hw13 TB hs13
 have HC:=HidS.mk (HC.out.below hQ)
 have HP:=HidS.mk (HP.out.below hQ)
 have hBB:=nx hBB hQ
 have HT:=HidS.mk (HT.out.below hQ)
 have HF:=HidS.mk (HF.out.below hQ)
 have HA:=HidS.mk (HA.out.below hQ)
 clear hQ
 have hC1:=HC.out
 go_wp2_with fail
 refine (incl29_any _ circleC w13 hC1 dE).mono ?_
 rintro e w14 ⟨u14,rfl,hi14,hb_w14⟩
 have hQ:=hb_w14
 clear hb_w14
 obtain ⟨io,ik,rfl,-,-⟩:=hi14.shape
 have H14:=HidS.mk hi14
 clear hi14 hC1
 go_wp2_with fail
 refine (Tryz.cell2 3 1 oM oM w14).mono ?_
 rintro e w15 ⟨o_w15,n_w15,k_w15,rfl,h_w15,hb_w15⟩
 have hQ:=nx hQ hb_w15
 have H14:=HidS.mk (H14.out.below hb_w15)
 have H15:=HidS.mk h_w15
 clear hb_w15 h_w15
 go_wp2_with fail
 refine (Tryz.appInc _ _ w15 H14.out H15.out).mono ?_
 rintro e w16 ⟨xo,xn,xk,rfl,hb_w16⟩
 have hQ:=nx hQ hb_w16
 clear hb_w16
 clear H14 H15
 have HC:=HidS.mk (HC.out.below hQ)
 have HP:=HidS.mk (HP.out.below hQ)
 have hBB:=nx hBB hQ
 have HT:=HidS.mk (HT.out.below hQ)
 have HF:=HidS.mk (HF.out.below hQ)
 have HA:=HidS.mk (HA.out.below hQ)
 have HTB:=HidS.mk (HTB.out.below hQ)
 have HMX:=HidS.mk (HMX.out.below hQ)
 clear hQ
 go_wp2_with fail
 refine (Tryz.cell2 3 1 oM oM w16).mono ?_
 rintro e w17 ⟨o_w17,n_w17,k_w17,rfl,h_w17,hb_w17⟩
 have hQ:=hb_w17
 have H17:=HidS.mk h_w17
 clear hb_w17 h_w17
 go_wp2_with fail
 refine (Tryz.cell2 3 1 oM oM w17).mono ?_
 rintro e w18 ⟨o_w18,n_w18,k_w18,rfl,h_w18,hb_w18⟩
 have hQ:=nx hQ hb_w18
 have H17:=HidS.mk (H17.out.below hb_w18)
 have H18:=HidS.mk h_w18
 clear hb_w18 h_w18
 have hal:=(Below.refl w18.heap.size w18).alloc (Nat.le_refl _) (.cells #[.int .i64 1,.slice o_w17 n_w17 k_w17,.int .i64 2,.slice o_w18 n_w18 k_w18] tIm)
 obtain ⟨w19,hw19⟩ : ∃t,w18.alloc (.cells #[.int .i64 1,.slice o_w17 n_w17 k_w17,.int .i64 2,.slice o_w18 n_w18 k_w18] tIm) = t:=⟨_,rfl⟩
 have HM:=HidS.mk (im_two (i:=1) (j:=2) H17.out H18.out)
 rw [hw19] at hal HM
 have hQ:=nx hQ hal
 have HW:=HidS.mk hw19
 have HS19 : HidS (w19.heap.size = w18.heap.size + 1):=⟨by rw [<-hw19]; simp⟩
 clear hal hw19
 go_wp2_with fail
 rw [HW.out]
 refine (Tryz.cell4 w19 _ HS19.out).mono ?_
 rintro e w20 ⟨o20,n20,k20,rfl,h20,hb20⟩
 have hQ:=nx hQ hb20
 have HM:=HidS.mk (HM.out.below hb20)
 have H20:=HidS.mk h20
 clear h20 hb20 HW HS19
 go_wp2_with fail
 refine (Tryz.appSilly _ _ w20 HM.out H20.out).mono ?_
 rintro e w21 ⟨yo,yk,rfl,hb_w21⟩
 have hQ:=nx hQ hb_w21
 clear hb_w21
 clear H17 H18 HM H20
 have HC:=HidS.mk (HC.out.below hQ)
 have HP:=HidS.mk (HP.out.below hQ)
 have hBB:=nx hBB hQ
 have HT:=HidS.mk (HT.out.below hQ)
 have HF:=HidS.mk (HF.out.below hQ)
 have HA:=HidS.mk (HA.out.below hQ)
 have HTB:=HidS.mk (HTB.out.below hQ)
 have HMX:=HidS.mk (HMX.out.below hQ)
 clear hQ
 go_wp2_with fail
 refine (Tryz.matFlat _ _ _ w21 HP.out HC.out HF.out).mono ?_
 rintro e w22 ⟨nR,nC,no,nn,nk,rfl,hb_w22⟩
 have hQ:=hb_w22
 clear hb_w22
 have HC:=HidS.mk (HC.out.below hQ)
 have HP:=HidS.mk (HP.out.below hQ)
 have hBB:=nx hBB hQ
 have HT:=HidS.mk (HT.out.below hQ)
 have HF:=HidS.mk (HF.out.below hQ)
 have HA:=HidS.mk (HA.out.below hQ)
 have HTB:=HidS.mk (HTB.out.below hQ)
 have HMX:=HidS.mk (HMX.out.below hQ)
 clear hQ
 go_upto_region 9 with (fail)
 refine wp_world ?_
 intro w23 hw23
 obtain ⟨hQ,TB,hs23⟩:=world1 hw23
 clear hw23 TB hs23
 have HC:=HidS.mk (HC.out.below hQ)
 have HP:=HidS.mk (HP.out.below hQ)
 have hBB:=nx hBB hQ
 have HT:=HidS.mk (HT.out.below hQ)
 have HF:=HidS.mk (HF.out.below hQ)
 have HA:=HidS.mk (HA.out.below hQ)
 have HTB:=HidS.mk (HTB.out.below hQ)
 have HMX:=HidS.mk (HMX.out.below hQ)
 clear hQ
 go_wp2_with fail
 refine (degree_any 1 w23 oM).mono ?_
 rintro e w24 ⟨u_w24,rfl,h_w24,hb_w24⟩
 obtain ⟨o_w24,k_w24,rfl⟩:=LsO.shape h_w24
 rw [show (degM 1).length = 2 from rfl] at h_w24 ⊢
 have hQ:=hb_w24
 have H24:=HidS.mk h_w24.vs
 clear h_w24 hb_w24
 have hal:=(Below.refl w24.heap.size w24).alloc (Nat.le_refl _) (.cells #[.int .i64 1,.slice none 0 0] tIm)
 have HN:=HidS.mk (im_one (i:=1) (LsV.nil faceE w24 none 0 (Nat.zero_le _)))
 have H24:=HidS.mk (H24.out.below hal)
 have hQ:=nx hQ hal
 clear hal
 go_wp2_with fail
 refine (Tryz.comp10 _ _ _ H24.out HN.out).mono ?_
 rintro e w25 ⟨zo,zn,zk,rfl,hb_w25⟩
 have hQ:=nx hQ hb_w25
 clear hb_w25
 clear H24 HN
 have HC:=HidS.mk (HC.out.below hQ)
 have HP:=HidS.mk (HP.out.below hQ)
 have hBB:=nx hBB hQ
 have HT:=HidS.mk (HT.out.below hQ)
 have HF:=HidS.mk (HF.out.below hQ)
 have HA:=HidS.mk (HA.out.below hQ)
 have HTB:=HidS.mk (HTB.out.below hQ)
 have HMX:=HidS.mk (HMX.out.below hQ)
 clear hQ
 go_wp2_with fail
 refine (degree_any 5 w25 oM).mono ?_
 rintro e w26 ⟨u_w26,rfl,h_w26,hb_w26⟩
 obtain ⟨o_w26,k_w26,rfl⟩:=LsO.shape h_w26
 rw [show (degM 5).length = 2 from rfl] at h_w26 ⊢
 have hQ:=hb_w26
 have H26:=HidS.mk h_w26.vs
 clear h_w26 hb_w26
 have HC:=HidS.mk (HC.out.below hQ)
 have HP:=HidS.mk (HP.out.below hQ)
 have hBB:=nx hBB hQ
 have HT:=HidS.mk (HT.out.below hQ)
 have HF:=HidS.mk (HF.out.below hQ)
 have HA:=HidS.mk (HA.out.below hQ)
 have HTB:=HidS.mk (HTB.out.below hQ)
 have HMX:=HidS.mk (HMX.out.below hQ)
 clear hQ
 go_wp2_with fail
 refine (Tryz.valY _ _ _ circleC circleC (degM 5) w26 HC.out HC.out H26.out dE dE).mono ?_
 rintro e w27 ⟨rfl,hb_w27⟩
 have hQ:=hb_w27
 clear hb_w27
 clear H26
 have HC:=HidS.mk (HC.out.below hQ)
 have HP:=HidS.mk (HP.out.below hQ)
 have hBB:=nx hBB hQ
 have HT:=HidS.mk (HT.out.below hQ)
 have HF:=HidS.mk (HF.out.below hQ)
 have HA:=HidS.mk (HA.out.below hQ)
 have HTB:=HidS.mk (HTB.out.below hQ)
 have HMX:=HidS.mk (HMX.out.below hQ)
 clear hQ
 have hC1:=HC.out
 go_wp2_with fail
 refine (incl29_any _ circleC w27 hC1 dE).mono ?_
 rintro e w28 ⟨u28,rfl,hi28,hb_w28⟩
 have hQ:=hb_w28
 clear hb_w28
 obtain ⟨io2,ik2,rfl,-,-⟩:=hi28.shape
 have H28:=HidS.mk hi28
 clear hi28 hC1
 have HC:=HidS.mk (HC.out.below hQ)
 have HP:=HidS.mk (HP.out.below hQ)
 have hBB:=nx hBB hQ
 have HT:=HidS.mk (HT.out.below hQ)
 have HF:=HidS.mk (HF.out.below hQ)
 have HA:=HidS.mk (HA.out.below hQ)
 have HTB:=HidS.mk (HTB.out.below hQ)
 have HMX:=HidS.mk (HMX.out.below hQ)
 clear hQ
 go_wp2_with fail
 refine (Tryz.valY _ _ _ circleC planeC (incM circleC) w28 HC.out HP.out H28.out dE dE).mono ?_
 rintro e w29 ⟨rfl,hb_w29⟩
 have hQ:=hb_w29
 clear hb_w29
 clear H28
 have HC:=HidS.mk (HC.out.below hQ)
 have HP:=HidS.mk (HP.out.below hQ)
 have hBB:=nx hBB hQ
 have HT:=HidS.mk (HT.out.below hQ)
 have HF:=HidS.mk (HF.out.below hQ)
 have HA:=HidS.mk (HA.out.below hQ)
 have HTB:=HidS.mk (HTB.out.below hQ)
 have HMX:=HidS.mk (HMX.out.below hQ)
 clear hQ
 go_wp2_with fail
 refine (Tryz.valN _ _ _ planeC circleC flatM w29 HP.out HC.out HF.out dE not_flat).mono ?_
 rintro e w30 ⟨rfl,hb_w30⟩
 have hQ:=hb_w30
 clear hb_w30
 have HC:=HidS.mk (HC.out.below hQ)
 have HP:=HidS.mk (HP.out.below hQ)
 have hBB:=nx hBB hQ
 have HT:=HidS.mk (HT.out.below hQ)
 have HF:=HidS.mk (HF.out.below hQ)
 have HA:=HidS.mk (HA.out.below hQ)
 have HTB:=HidS.mk (HTB.out.below hQ)
 have HMX:=HidS.mk (HMX.out.below hQ)
 clear hQ
 go_wp2_with fail
 refine (Tryz.valY _ _ _ planeC planeC threeM w30 HP.out HP.out HT.out dE dE).mono ?_
 rintro e w31 ⟨rfl,hb_w31⟩
 have hQ:=hb_w31
 clear hb_w31
 have HC:=HidS.mk (HC.out.below hQ)
 have HP:=HidS.mk (HP.out.below hQ)
 have hBB:=nx hBB hQ
 have HT:=HidS.mk (HT.out.below hQ)
 have HF:=HidS.mk (HF.out.below hQ)
 have HA:=HidS.mk (HA.out.below hQ)
 have HTB:=HidS.mk (HTB.out.below hQ)
 have HMX:=HidS.mk (HMX.out.below hQ)
 clear hQ
 go_wp2_with fail
 refine (degree_any 5 w31 oM).mono ?_
 rintro e w32 ⟨u_w32,rfl,h_w32,hb_w32⟩
 obtain ⟨o_w32,k_w32,rfl⟩:=LsO.shape h_w32
 rw [show (degM 5).length = 2 from rfl] at h_w32 ⊢
 have hQ:=hb_w32
 have H32:=HidS.mk h_w32.vs
 clear h_w32 hb_w32
 have HC:=HidS.mk (HC.out.below hQ)
 have HP:=HidS.mk (HP.out.below hQ)
 have hBB:=nx hBB hQ
 have HT:=HidS.mk (HT.out.below hQ)
 have HF:=HidS.mk (HF.out.below hQ)
 have HA:=HidS.mk (HA.out.below hQ)
 have HTB:=HidS.mk (HTB.out.below hQ)
 have HMX:=HidS.mk (HMX.out.below hQ)
 clear hQ
 have hcap : 2<=k_w32/\k_w32<=9223372036854775807:=H32.out.len.2
 have hcap1 : 1<=k_w32:=by omega
 have H32:=HidS.mk (LsV.take H32.out (m:=1) oM)
 go_wp2_with fail
 refine (Tryz.valN _ _ _ circleC circleC ((degM 5).take 1) w32 HC.out HC.out H32.out dE not_short).mono ?_
 rintro e w33 ⟨rfl,hb_w33⟩
 have hQ:=hb_w33
 clear hb_w33
 clear H32 hcap hcap1
 have HC:=HidS.mk (HC.out.below hQ)
 have HP:=HidS.mk (HP.out.below hQ)
 have hBB:=nx hBB hQ
 have HT:=HidS.mk (HT.out.below hQ)
 have HF:=HidS.mk (HF.out.below hQ)
 have HA:=HidS.mk (HA.out.below hQ)
 have HTB:=HidS.mk (HTB.out.below hQ)
 have HMX:=HidS.mk (HMX.out.below hQ)
 clear hQ
 clear HP HT HF
 go_upto_region 11 with (fail)
 obtain ⟨c1,c2,c3,c4,c5,c6⟩:=HTB.out.three
 refine wp_ser [pcD 7 [] (fun w v=>MapV w v (degM 25)),pcD 8 [7] (fun _ v=>v = .bool true),pcD 16 [] (fun w v=>I64V w v [25]),pcD 17 [16] (fun w v=>MatV w v (1 : Nat) (1 : Nat) [[25]]),pcD 18 [17] (fun _ v=>v = .bool true),pcD 43 [] (fun w v=>MapV w v (incM circleC)),pcD 45 [] (fun w v=>MapV w v (incM circleC)),pcD 46 [43,45] (fun _ v=>v = .bool true)] ?_
 refine sRd ?_
 refine sRc (fun wS hI Gk hG=>by go_simp; exact ck hG ((degree_any 25 wS oM).mono fun e w' ⟨u,h1,h2,h3⟩=>⟨u,h1,h2.vs,h3⟩)) (fun _ hv=>?_)
 obtain ⟨_,-,hv⟩:=hv
 obtain ⟨o7,k7,rfl,-,-⟩:=LsV.shape hv
 clear hv
 refine sRc (fun wS hI h7 Gk hG=>by go_simp; exact ck hG ((msame_any _ _ (degM 25) (degM 25) wS (LsV.below HA.out hI.bel) h7).mono fun e w' ⟨h1,h2⟩=>⟨_,h1,congrArg Value.bool (decide_eq_true rfl),h2⟩)) (fun _ hv=>?_)
 obtain ⟨_,-,rfl⟩:=hv
 refine sRd ?_
 refine sRc (fun wS hI Gk hG=>?_) (fun _ hv=>?_)
 ·go_simp
  exact ⟨hG _ _ (I64V.newS _ [25] dE dE),(Below.refl _ _).alloc (Nat.le_refl _) _⟩
 obtain ⟨_,-,i16,j16,k16,rfl,-⟩:=hv
 refine sRc (fun wS hI h16 Gk hG=>by go_simp; exact ck hG (intsM _ [25] 1 1 1 1 [[25]] wS h16 (by rfl) (by rfl) (by rfl) oM oM (by rfl))) (fun _ hv=>?_)
 obtain ⟨_,-,A17,rfl,a17,b17,c17,rfl,-⟩:=hv
 refine sRc (fun wS hI h17 Gk hG=>by go_simp; exact ck hG ((same_any _ _ (1 : Nat) (1 : Nat) (1 : Nat) (1 : Nat) [[25]] [[25]] wS (HMX.out.below hI.bel) h17).mono fun e w' ⟨h1,h2⟩=>⟨_,h1,congrArg Value.bool (decide_eq_true ⟨rfl,rfl,rfl⟩),h2⟩)) (fun _ hv=>?_)
 obtain ⟨_,-,rfl⟩:=hv
 refine sRd ?_
 refine sRc (fun wS hI Gk hG=>by go_simp; exact ck hG (iincl_any _ circleC wS (LsV.below HC.out hI.bel) dE)) (fun _ hv=>?_)
 obtain ⟨_,-,hv⟩:=hv
 obtain ⟨o43,k43,rfl,-,-⟩:=LsV.shape hv
 clear hv
 refine sRd ?_
 refine sRc (fun wS hI Gk hG=>by go_simp; exact ck hG (incl29_any _ circleC wS (LsV.below HC.out hI.bel) dE)) (fun _ hv=>?_)
 obtain ⟨_,-,hv⟩:=hv
 obtain ⟨o45,k45,rfl,-,-⟩:=LsV.shape hv
 clear hv
 refine sRc (fun wS hI h43 h45 Gk hG=>by go_simp; exact ck hG ((msame_any _ _ (incM circleC) (incM circleC) wS h43 h45).mono fun e w' ⟨h1,h2⟩=>⟨_,h1,congrArg Value.bool (decide_eq_true rfl),h2⟩)) (fun _ hv=>?_)
 obtain ⟨_,-,rfl⟩:=hv
 refine sRd ?_
 refine sRe ?_
 intro w40 hb40 _ _ _ _ _ _ _ _
 have hBB:=nx hBB hb40
 go_wp2
 go_ret
 exact ⟨rfl,hBB⟩
theorem CxI.i64 {t : Nat} {c : Cx} (h : CxI t c) (ht : t<=4) : ∀f ∈ c,I64 f.1:=fun f hf=>by
 have:=h.ids f hf
 unfold I64
 omega
theorem CxI.l16 {t : Nat} {c : Cx} (h : CxI t c) (ht : t<=4) : c.length<=11:=by have:=h.len; omega
structure MpS (m : Mp) (e : Nat) : Prop where
 ok : MpOk m
 sz : ∀i,nrm (imgM m i)<=2 ^ e
 len : ∀i,(imgM m i).length<=11
theorem imgM_of {m : Mp} {P : Ch->Prop} (h0 : P []) (h : ∀g ∈ m,P g.2) (i : Int) : P (imgM m i):=by
 unfold imgM
 rcases hf : findM m i with _ | u
 ·exact h0
 ·exact h _ (findM_mem hf)
theorem ValM.get {a b : Cx} {m : Mp} (h : ValM a b m) {g : Int × Ch} (hg : g ∈ m) : imgM m g.1 = g.2/\∃f ∈ a,f.1 = g.1/\HomD b f.2.1 g.2:=by
 have h1 : imgM m g.1 = g.2:=by unfold imgM; rw [findM_srt h.prp.srt hg]
 obtain ⟨f,hf,e⟩:=List.mem_map.1 (show g.1 ∈ a.map (·.1) by rw [<-h.ids]; exact List.mem_map_of_mem hg)
 refine ⟨h1,f,hf,e,?_⟩
 have:=h.dim f hf
 have e : f.1 = g.1:=e
 rw [e,h1] at this
 exact this
theorem ValM.mps {t e : Nat} {a b : Cx} {m : Mp} (ha : CxI t a) (hb : CxI t b) (ht : t<=4) (h : ValM a b m) (hn : ∀g ∈ m,nrm g.2<=2 ^ e) : MpS m e:=by
 have hl : ∀g ∈ m,g.2.length<=11:=fun g hg=>by
  obtain ⟨-,f,-,-,h1⟩:=h.get hg
  exact Nat.le_trans (h1.length hb.val (h.prp.val g hg)) (hb.l16 ht)
 refine ⟨⟨h.prp.srt,fun g hg=>?_,fun g hg p hp=>?_,?_⟩,imgM_of (P:=fun x=>nrm x<=2 ^ e) (Nat.zero_le _) hn,imgM_of (P:=fun x=>x.length<=11) (Nat.zero_le _) hl⟩
 ·obtain ⟨-,f,h1,h2,-⟩:=h.get hg
  rw [<-h2]; exact ha.i64 ht f h1
 ·obtain ⟨-,f,-,-,h1⟩:=h.get hg
  exact hom_ids (hb.i64 ht) h1 p hp
 ·have h1:=congrArg List.length h.ids
  rw [List.length_map,List.length_map] at h1
  have:=ha.l16 ht
  omega
theorem MpS.act {m : Mp} {e s : Nat} {x : Ch} (h : MpS m e) (he : e<=10000000) (hx : nrm x<=2 ^ s) (hs : s<=10000000) (hl : x.length<=10000) : ActOk (imgM m) x/\lenA (imgM m) x<=900000:=by
 have hlen:=lenA_le (F:=imgM m) (x:=x) h.len
 refine ⟨⟨?_,fun f hf=>⟨two_pow_le (Nat.le_trans (nrm_le hf) hx) (by unfold LIM; omega),two_pow_le (h.sz f.1) (by unfold LIM; omega)⟩,by omega⟩,by omega⟩
 refine two_pow_le (e:=s + e) (Nat.le_trans (nrmA_le h.sz) ?_) (by unfold LIM; omega)
 rw [Nat.pow_add]
 exact Nat.mul_le_mul_right _ hx
theorem MpS.app {m : Mp} {e s : Nat} {x : Ch} (h : MpS m e) (hx : nrm x<=2 ^ s) : nrm (appM m x)<=2 ^ (s + e)/\(appM m x).length<=x.length * 11:=by
 have h1:=nrm_act (F:=imgM m) (x:=x) (a:=[])
 have h2:=len_act (F:=imgM m) (x:=x) (a:=[])
 have h3:=nrmA_le (F:=imgM m) (x:=x) h.sz
 have h4:=lenA_le (F:=imgM m) (x:=x) h.len
 have h5:=Nat.mul_le_mul_right (2 ^ e) hx
 rw [<-Nat.pow_add] at h5
 simp only [nrm,List.length_nil] at h1 h2
 unfold appM
 constructor <;> omega
theorem ValM.valR {a b : Cx} {m : Mp} (ha : ValX a) (h : ValM a b m) : ValR a b m:=by
 have hl : m.length = a.length:=by
  have h1:=congrArg List.length h.ids
  rwa [List.length_map,List.length_map] at h1
 have key : ∀(j : Nat) (f : Cel) (g : Int × Ch),a[j]? = some f->m[j]? = some g->g.1 = f.1/\imgM m f.1 = g.2:=fun j f g hf hg=>by
  have h1:=congrArg (·[j]?) h.ids
  simp only [List.getElem?_map,hf,hg] at h1
  have h2 : g.1 = f.1:=Option.some.inj h1
  refine ⟨h2,?_⟩
  rw [<-h2]
  exact (h.get (List.mem_of_getElem? hg)).1
 refine ⟨h.prp,hl,fun j _ f g hf hg=>?_,fun j _ f g hf hg=>?_⟩
 ·obtain ⟨h1,h2⟩:=key j f g hf hg
  have h3:=h.dim f (List.mem_of_getElem? hf)
  rw [h2] at h3
  exact ⟨h1,(dimC_hom h3).1,(dimC_hom h3).2⟩
 ·obtain ⟨h1,h2⟩:=key j f g hf hg
  have hfa:=List.mem_of_getElem? hf
  have h3:=h.dim f hfa
  have h4:=h.com f hfa
  rw [h2] at h3 h4
  unfold comP
  rw [edC_hom h3,h4]
  unfold apC
  rw [if_pos (hasB_iff.2 (h.has (ha.face f hfa).1))]
theorem ValM.vlok {t e : Nat} {a b : Cx} {m : Mp} (ha : CxI t a) (hb : CxI t b) (ht : t<=4) (h : ValM a b m) (hn : ∀g ∈ m,nrm g.2<=2 ^ e) (he : e<=10000000) : VlOk a b m:=by
 have hS:=h.mps ha hb ht hn
 have hl : ∀g ∈ m,g.2.length<=11:=fun g hg=>by rw [<-(h.get hg).1]; exact hS.len _
 refine ⟨ha.val,hb.val,ha.i64 ht,hb.i64 ht,hS.ok.img,by have:=ha.l16 ht; omega,by have:=hb.l16 ht; omega,fun g hg=>by have:=hl g hg; omega,fun g hg=>two_pow_le (hn g hg) (by unfold LIM; omega),fun g hg=>?_,fun f hf=>?_⟩
 ·refine ⟨hb.act ht (hn g hg) he (by have:=hl g hg; omega),?_⟩
  have h1:=lenA_le (F:=bOf b) (x:=g.2) fun i=>(hb.bof ht i).2
  have:=hl g hg
  omega
 ·have h1:=ha.bof ht f.1
  rw [bOf_at ha.val hf] at h1
  exact hS.act he h1.1 dE oM
structure MdS (a b : Cx) (m : Mp) : Prop where
 ca : CxI 4 a
 cb : CxI 4 b
 val : ValM a b m
 sz : ∀g ∈ m,nrm g.2<=2 ^ (eB + 20)
theorem hom_nrm {t : Nat} {c : Cx} (h : CxI t c) (ht : t<=4) {n : Int} (hn : n.natAbs<=3) (l : List Int) : ∀g ∈ homM c n (raisC c l),nrm g.2<=2 ^ (eB + 20):=fun g hg=>by
 obtain ⟨i,hi,rfl⟩:=List.mem_map.1 hg
 have hi:=List.mem_range.1 hi
 obtain ⟨_,_,_,_,_,hs⟩:=homS_ex h ht hn l (List.getElem?_eq_getElem hi)
 exact hs.s4.1
theorem MdP.mds {a b : Cx} {m : Mp} (h : MdP a b m) : MdS a b m:=by
 obtain ⟨hc,k,n,l,hk,hn,rfl,rfl⟩:=h
 exact ⟨hc.take k,hc,homM_val hc.val n (rais_homH hc.val l) k,fun g hg=>hom_nrm hc oM hn l g (List.mem_of_mem_take hg)⟩
theorem MdS.mps {a b : Cx} {m : Mp} (h : MdS a b m) : MpS m (eB + 20):=h.val.mps h.ca h.cb oM h.sz
theorem MdS.vlok {a b : Cx} {m : Mp} (h : MdS a b m) : VlOk a b m:=h.val.vlok h.ca h.cb oM h.sz dE
theorem comb_ok {c : Cx} (hc : CxI 4 c) (k : Int) (l : List Int) : ValC (combC c k l)/\HomD c k (combC c k l)/\nrm (combC c k l)<=2 ^ 7/\(combC c k l).length<=11:=by
 have h1 : HomD c k (combC c k l):=ofC_hom hc.val k _
 have h2 : ValC (combC c k l):=ofC_val _ _
 have h3:=comb_nrm c k l
 have h4:=nrm_of (cellsC c k) (genV (cellsC c k).length (digF (cellsC c k).length l 0))
 have h5:=cells_len (c:=c) (k:=k)
 have h6:=hc.l16 oM
 refine ⟨h2,h1,?_,Nat.le_trans (h1.length hc.val h2) h6⟩
 unfold combC
 have : 2 ^ 7 = 128:=rfl
 omega
theorem apC_has {m : Mp} {x : Ch} (h : HasM m x) : apC m x = appM m x/\apE m x = 0:=by
 have:=hasB_iff.2 h
 unfold apC apE
 rw [this]
 exact ⟨rfl,rfl⟩
end Go.Proofs.YtjdemlfceaikgaaGreat
