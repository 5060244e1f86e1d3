/- torsionlaw29.InducedComposes: whatever the input, it returns true, and the input reads as it did. No conditions. -/
import Derived.Test.YtjdemlfceaikgaaGreatRows
import Derived.Test.YtjdemlfceaikgaaGreatJ02
import Derived.Test.YtjdemlfceaikgaaGreatK22
set_option linter.unusedVariables false
set_option linter.unusedSimpArgs false
set_option linter.unusedSectionVars false
namespace Go.Proofs.YtjdemlfceaikgaaGreat
open Go.RowKit Go.Maps
structure CpS (m n : Mp) : Prop where
 ok : MpOk n
 len : m.length<=1000000
 ids : ∀f ∈ m,∀g ∈ f.2,I64 g.1
 act : ∀f ∈ m,ActOk (imgM n) f.2/\lenA (imgM n) f.2<=900000
 er : coE m n = 0
 co : coC m n = comM m n
structure VmS (a b : Cx) (m : Mp) (e : Nat) : Prop where
 ca : CxI 4 a
 cb : CxI 4 b
 val : ValM a b m
 sz : ∀g ∈ m,nrm g.2<=2 ^ e
theorem VmS.mps {a b : Cx} {m : Mp} {e : Nat} (h : VmS a b m e) : MpS m e:=h.val.mps h.ca h.cb oM h.sz
theorem VmS.cps {a b c : Cx} {m n : Mp} {d e : Nat} (h : VmS a b m d) (k : VmS b c n e) (hd : d<=10000000) (he : e<=10000000) : CpS m n/\VmS a c (comM m n) (d + e):=by
 have hl : ∀g ∈ m,g.2.length<=11:=fun g hg=>by rw [<-(h.val.get hg).1]; exact h.mps.len _
 have hc : coB m n = true:=by
  unfold coB
  exact List.all_eq_true.2 fun g hg=>by
   obtain ⟨-,f,-,-,h1⟩:=h.val.get hg
   exact hasB_iff.2 (k.val.has h1)
 refine ⟨⟨k.mps.ok,h.mps.ok.len,h.mps.ok.img,fun g hg=>k.mps.act oM (h.sz g hg) oM (by have:=hl g hg; omega),by unfold coE; rw [hc]; rfl,by unfold coC; rw [hc]; rfl⟩,h.ca,k.cb,h.val.comp h.cb.val k.val,fun g hg=>?_⟩
 obtain ⟨f,hf,rfl⟩:=List.mem_map.1 hg
 exact (k.mps.app (h.sz f hf)).1
theorem VmS.vlok {a b : Cx} {m : Mp} {e : Nat} (h : VmS a b m e) (he : e<=10000000) : VlOk a b m:=h.val.vlok h.ca h.cb oM h.sz he
theorem VmS.valR {a b : Cx} {m : Mp} {e : Nat} (h : VmS a b m e) : ValR a b m:=h.val.valR h.ca.val
theorem MdS.vms {a b : Cx} {m : Mp} (h : MdS a b m) : VmS a b m (eB + 20):=⟨h.ca,h.cb,h.val,h.sz⟩
theorem hom_vms {c : Cx} (h : CxI 4 c) {n : Int} (hn : n.natAbs<=3) (l : List Int) : VmS c c (homM c n (raisC c l)) (eB + 20):=by
 have h1:=homM_val h.val n (rais_homH h.val l) c.length
 rw [take_all rfl,take_all (by unfold homM; simp)] at h1
 exact ⟨h,h,h1,hom_nrm h oM hn l⟩
theorem inc_vms {c : Cx} (h : CxI 4 c) : VmS c c (incM c) 0:=by
 have h1:=inc_val h.val c.length
 rw [take_all rfl] at h1
 exact ⟨h,h,h1,fun g hg=>by
  obtain ⟨f,-,rfl⟩:=List.mem_map.1 hg
  exact Nat.le_refl _⟩
theorem icomp_ok (v u : Value) (m n : Mp) (w : World) (hm : MapV w v m) (hn : MapV w u n) (h : CpS m n) :
  Calls Tryz.prog 24 #[v,u] w fun e w'=>∃o k q,e = .returned (.tuple #[.slice o k q,.int .i64 0])/\MapV w' (.slice o k q) (comM m n)/\Below w.heap.size w w':=by
 refine (icompose_any v u m n w hm hn h.ok h.len h.ids h.act).mono ?_
 rintro e w' ⟨_,rfl,⟨o,k,q,rfl,h1⟩,hb⟩
 rw [h.co] at h1
 rw [h.er]
 exact ⟨o,k,q,rfl,h1,hb⟩
theorem val29_ok (va vb vm : Value) (a b : Cx) (m : Mp) (e : Nat) (w : World) (ha : CpxV w va a) (hb : CpxV w vb b) (hm : MapV w vm m) (h : VmS a b m e) (he : e<=10000000) :
  Calls Tryz.prog 22 #[va,vb,vm] w fun e w'=>e = .returned (.bool true)/\Below w.heap.size w w':=by
 have hv:=h.vlok he
 refine (val29_any va vb vm a b m w ha hb hm (fun g hg=>(hv.ob g hg).1) (fun f hf=>(hv.oa f hf).1)).mono ?_
 rintro e w' ⟨q,rfl,hq,hb⟩
 obtain rfl : q = true:=hq.2 h.valR
 exact ⟨rfl,hb⟩
theorem imat_ok (va vb vm : Value) (a b : Cx) (m : Mp) (k : Int) (e : Nat) (w : World) (ha : CpxV w va a) (hb : CpxV w vb b) (hm : MapV w vm m) (h : VmS a b m e) (he : e<=10000000) (r c : Nat) (M : List (List Int)) (hr : (cellsC a k).length = r) (hc : (cellsC b k).length = c) (hM : matM a b m k = M) :
  Calls Tryz.prog 14 #[va,vb,vm,.int .i64 k] w fun e w'=>∃R C o n q,e = .returned (.tuple #[.agg #[.int .i64 R,.int .i64 C,.slice o n q],.int .i64 0])/\MatV w' (.agg #[.int .i64 R,.int .i64 C,.slice o n q]) r c M/\Below w.heap.size w w':=by
 subst hr
 subst hc
 subst hM
 refine (imatrix_any va vb vm a b m k w ha hb hm (h.vlok he)).mono ?_
 rintro e w' ⟨ok,hok,⟨_,rfl,R,C,o,n,q,rfl,h1⟩,hb⟩
 obtain rfl : ok = true:=hok.2 h.valR
 exact ⟨R,C,o,n,q,rfl,h1 rfl,hb⟩
set_option maxHeartbeats 16000000 in
set_option maxRecDepth 20000 in
theorem inducedComposes_any (s A : Nat) (N : Int) (v lv : Value) (n0 n1 : Int) (v1 : Value) (L : List Q4) (l l1 : List Int) (w : World) (hs : s<=255) (hA : A<=255) (hN : -128<=N/\N<=127) (h : QdV w v L) (hl : I8V w lv l) (hn0 : -128<=n0/\n0<=127) (hn1 : -128<=n1/\n1<=127) (h1 : I8V w v1 l1) :
  Calls Tryz.prog 7 #[.agg #[.int .u8 s,v,.int .u8 A,.int .i8 N,lv],.agg #[.int .i8 n0,.int .i8 n1],v1] w fun e w'=>e = .returned (.bool true)/\Below w.heap.size w w':=by
 obtain ⟨qo,qn,qc,rfl,-⟩:=id h
 obtain ⟨lo,ln,lc,rfl,-⟩:=id hl
 have H:=HidS.mk h
 have HL:=HidS.mk hl
 obtain ⟨lo1,ln1,lc1,rfl,-⟩:=id h1
 have H1:=HidS.mk h1
 obtain ⟨m0,hm0⟩ : ∃t,n0.tmod 3 = t:=⟨_,rfl⟩
 obtain ⟨m1,hm1⟩ : ∃t,n1.tmod 3 = t:=⟨_,rfl⟩
 have hb0 : -2<=m0/\m0<=2:=by
  rw [<-hm0]
  rcases Int.lt_or_le n0 0 with hz0 | hz0
  ·have h1 : n0.tmod 3 = -((-n0) % 3):=by rw [<-Int.neg_neg n0,Int.neg_tmod,Int.tmod_eq_emod_of_nonneg oM,Int.neg_neg]
   omega
  ·rw [Int.tmod_eq_emod_of_nonneg hz0]; omega
 have hb1' : -2<=m1/\m1<=2:=by
  rw [<-hm1]
  rcases Int.lt_or_le n1 0 with hz0 | hz0
  ·have h1 : n1.tmod 3 = -((-n1) % 3):=by rw [<-Int.neg_neg n1,Int.neg_tmod,Int.tmod_eq_emod_of_nonneg oM,Int.neg_neg]
   omega
  ·rw [Int.tmod_eq_emod_of_nonneg hz0]; omega
 have hw80 : IntKind.i8.wrap m0 = m0:=IntWalk.i8_in _ oM
 have hw640 : IntKind.i64.wrap m0 = m0:=IntWalk.i64_in _ oM
 have hw81 : IntKind.i8.wrap m1 = m1:=IntWalk.i8_in _ oM
 have hw641 : IntKind.i64.wrap m1 = m1:=IntWalk.i64_in _ oM
 have HW:=HidS.mk (And.intro hm0 (And.intro hm1 (And.intro hw80 (And.intro hw640 (And.intro hw81 hw641)))))
 clear h hl h1 hm0 hm1 hw80 hw640 hw81 hw641
 go_enter Tryz.func7,Tryz.ntmps7
 go_upto_region 1 with (fail)
 refine wp_world ?_
 intro W0 hW0
 obtain ⟨hB0,T5,T6,hs0⟩:=world2 hW0
 have HT5:=HidS.mk T5
 have HT6:=HidS.mk T6
 have H:=HidS.mk (H.out.below hB0)
 have HL:=HidS.mk (HL.out.below hB0)
 clear hW0 T5 T6
 go_wp2_with fail
 refine (sanity29_any W0).mono ?_
 rintro e w1 ⟨rfl,hb1⟩
 have H:=HidS.mk (H.out.below hb1)
 have HL:=HidS.mk (HL.out.below hb1)
 have HT5:=HidS.mk (HT5.out.below hb1)
 have HT6:=HidS.mk (HT6.out.below hb1)
 have T5:=HT5.out
 have d0:=T5.cell 0
 have d1:=T5.cell 1
 have d2:=T5.cell 2
 have d3:=T5.cell 3
 have d4:=T5.cell 4
 simp at d0 d1 d2 d3 d4
 clear T5
 go_wp2_with fail
 refine (md29_any s A N _ _ L l w1 hs hA hN H.out HL.out).mono ?_
 rintro e w2 ⟨_,rfl,⟨a,b,m,va,vb,vm,rfl,hP,ha,hb,hm⟩,hb2⟩
 have HMD:=HidS.mk hP.mds.vms
 obtain ⟨ao,ac,rfl,-,-⟩:=LsV.shape ha
 obtain ⟨bo,bc,rfl,-,-⟩:=LsV.shape hb
 obtain ⟨mo,mc,rfl,-,-⟩:=LsV.shape hm
 have HAV:=HidS.mk ha
 have HBV:=HidS.mk hb
 have HMV:=HidS.mk hm
 have HL:=HidS.mk (HL.out.below hb2)
 have hBB:=nx (nx hB0 hb1) hb2
 have H1:=HidS.mk (H1.out.below hBB)
 have T5:=HT5.out.below hb2
 have T6:=HT6.out.below hb2
 clear d0 d1 d2 d3 d4 hP ha hb hm
 have d4:=T5.cell 4
 have e0:=T6.cell 0
 have e1:=T6.cell 1
 simp at d4 e0 e1
 obtain ⟨hm0,hm1,hw80,hw640,hw81,hw641⟩:=HW.out
 obtain ⟨P,hP⟩ : ∃t,homM b m0 (raisC b l1) = t:=⟨_,rfl⟩
 obtain ⟨Q,hQ⟩ : ∃t,homM b m1 (raisC b l) = t:=⟨_,rfl⟩
 have HVP : HidS (VmS b b P (eB + 20)):=⟨by rw [<-hP]; exact hom_vms HMD.out.cb oM l1⟩
 have HVQ : HidS (VmS b b Q (eB + 20)):=⟨by rw [<-hQ]; exact hom_vms HMD.out.cb oM l⟩
 have HPE:=HidS.mk hP
 have HQE:=HidS.mk hQ
 clear hP hQ T5 T6
 go_upto_region 3 with (fail)
 refine wp_ser [pcD 6 [] (fun w v=>MapV w v P),pcD 14 [] (fun w v=>MapV w v Q)] ?_
 refine sRd ?_
 refine sRc (fun wS hI Gk hG=>by go_simp; exact ck hG ((homotopic_any _ _ b m0 l1 wS (HBV.out.below hI.bel) (H1.out.below hI.bel) HMD.out.cb oM oM).mono fun e w' ⟨u,h1,h2,h3⟩=>⟨u,h1,by rw [<-HPE.out]; exact h2.vs,h3⟩)) (fun _ hv=>?_)
 obtain ⟨_,-,hv⟩:=hv
 obtain ⟨po,pc,rfl,-,-⟩:=LsV.shape hv
 clear hv
 refine sRd ?_
 refine sRc (fun wS hI Gk hG=>by go_simp; exact ck hG ((homotopic_any _ _ b m1 l wS (HBV.out.below hI.bel) (HL.out.below hI.bel) HMD.out.cb oM oM).mono fun e w' ⟨u,h1,h2,h3⟩=>⟨u,h1,by rw [<-HQE.out]; exact h2.vs,h3⟩)) (fun _ hv=>?_)
 obtain ⟨_,-,hv⟩:=hv
 obtain ⟨qo',qc',rfl,-,-⟩:=LsV.shape hv
 clear hv
 refine sRd ?_
 refine sRe ?_
 intro w3 hb3 hp3 hq3
 have HPV:=HidS.mk (show MapV w3 _ P from hp3)
 have HQV:=HidS.mk (show MapV w3 _ Q from hq3)
 have HAV:=HidS.mk (HAV.out.below hb3)
 have HBV:=HidS.mk (HBV.out.below hb3)
 have HMV:=HidS.mk (HMV.out.below hb3)
 have hBB:=nx hBB hb3
 clear hp3 hq3 hb3 d4 e0 e1 hm0 hm1 hw80 hw640 hw81 hw641 H HL H1 HT5 HT6 HPE HQE HW hb0 hb1'
 have HC1:=HidS.mk (HMD.out.cps HVP.out dE dE)
 have HC2:=HidS.mk (HVP.out.cps HVQ.out dE dE)
 have HC3:=HidS.mk (HC1.out.2.cps HVQ.out dE dE)
 have HC4:=HidS.mk (HMD.out.cps HC2.out.2 dE dE)
 have HC5:=HidS.mk (HMD.out.cps (inc_vms HMD.out.cb) dE dE)
 have HC6:=HidS.mk ((inc_vms HMD.out.ca).cps HMD.out dE dE)
 have HE5:=HidS.mk (comM_inc_right HMD.out.cb.val HMD.out.val)
 have HE6:=HidS.mk (comM_inc_left HMD.out.ca.val HMD.out.val.prp HMD.out.val.ids)
 have HE3:=HidS.mk (comM_assoc m P Q)
 have hla : a.length<=1000000:=by have:=HMD.out.ca.l16 oM; omega
 have hlb : b.length<=1000000:=by have:=HMD.out.cb.l16 oM; omega
 have HLA:=HidS.mk hla
 have HLB:=HidS.mk hlb
 clear hla hlb
 go_wp2_with fail
 refine (icomp_ok _ _ m P w3 HMV.out HPV.out HC1.out.1).mono ?_
 rintro e w4 ⟨o4,n4,k4,rfl,h4,hb4⟩
 have HMP:=HidS.mk h4
 have HAV:=HidS.mk (HAV.out.below hb4)
 have HBV:=HidS.mk (HBV.out.below hb4)
 have HMV:=HidS.mk (HMV.out.below hb4)
 have HPV:=HidS.mk (HPV.out.below hb4)
 have HQV:=HidS.mk (HQV.out.below hb4)
 have hBB:=nx hBB hb4
 clear h4 hb4
 go_wp2_with fail
 refine (icomp_ok _ _ P Q w4 HPV.out HQV.out HC2.out.1).mono ?_
 rintro e w5 ⟨o5,n5,k5,rfl,h5,hb5⟩
 have HPQ:=HidS.mk h5
 have HQV:=HidS.mk (HQV.out.below hb5)
 have hBB:=nx hBB hb5
 have HAV:=HidS.mk (HAV.out.below hb5)
 have HBV:=HidS.mk (HBV.out.below hb5)
 have HMV:=HidS.mk (HMV.out.below hb5)
 have HPV:=HidS.mk (HPV.out.below hb5)
 have HMP:=HidS.mk (HMP.out.below hb5)
 clear h5 hb5
 go_wp2_with fail
 refine (val29_ok _ _ _ a b (comM m P) _ w5 HAV.out HBV.out HMP.out HC1.out.2 dE).mono ?_
 rintro e w6 ⟨rfl,hb6⟩
 have HPQ:=HidS.mk (HPQ.out.below hb6)
 have HQV:=HidS.mk (HQV.out.below hb6)
 have hBB:=nx hBB hb6
 have HAV:=HidS.mk (HAV.out.below hb6)
 have HBV:=HidS.mk (HBV.out.below hb6)
 have HMV:=HidS.mk (HMV.out.below hb6)
 have HPV:=HidS.mk (HPV.out.below hb6)
 have HMP:=HidS.mk (HMP.out.below hb6)
 clear hb6
 go_wp2_with fail
 refine (val29_ok _ _ _ b b (comM P Q) _ w6 HBV.out HBV.out HPQ.out HC2.out.2 dE).mono ?_
 rintro e w7 ⟨rfl,hb7⟩
 have HPQ:=HidS.mk (HPQ.out.below hb7)
 have HQV:=HidS.mk (HQV.out.below hb7)
 have hBB:=nx hBB hb7
 have HAV:=HidS.mk (HAV.out.below hb7)
 have HBV:=HidS.mk (HBV.out.below hb7)
 have HMV:=HidS.mk (HMV.out.below hb7)
 have HPV:=HidS.mk (HPV.out.below hb7)
 have HMP:=HidS.mk (HMP.out.below hb7)
 clear hb7
 go_wp2_with fail
 refine (icomp_ok _ _ (comM m P) Q w7 HMP.out HQV.out HC3.out.1).mono ?_
 rintro e w8 ⟨o8,n8,k8,rfl,h8,hb8⟩
 rw [HE3.out] at h8
 have HLE:=HidS.mk h8
 have HPQ:=HidS.mk (HPQ.out.below hb8)
 have hBB:=nx hBB hb8
 have HAV:=HidS.mk (HAV.out.below hb8)
 have HBV:=HidS.mk (HBV.out.below hb8)
 have HMV:=HidS.mk (HMV.out.below hb8)
 have HPV:=HidS.mk (HPV.out.below hb8)
 have HMP:=HidS.mk (HMP.out.below hb8)
 clear h8 hb8 HQV
 go_wp2_with fail
 refine (icomp_ok _ _ m (comM P Q) w8 HMV.out HPQ.out HC4.out.1).mono ?_
 rintro e w9 ⟨o9,n9,k9,rfl,h9,hb9⟩
 have HRI:=HidS.mk h9
 have HLE:=HidS.mk (HLE.out.below hb9)
 have hBB:=nx hBB hb9
 have HAV:=HidS.mk (HAV.out.below hb9)
 have HBV:=HidS.mk (HBV.out.below hb9)
 have HMV:=HidS.mk (HMV.out.below hb9)
 have HPV:=HidS.mk (HPV.out.below hb9)
 have HMP:=HidS.mk (HMP.out.below hb9)
 clear h9 hb9 HPQ
 go_wp2_with fail
 refine (iincl_any _ b w9 HBV.out HLB.out).mono ?_
 rintro e w10 ⟨u10,rfl,h10,hb10⟩
 obtain ⟨o10,k10,rfl,-,-⟩:=LsV.shape h10
 have HIB:=HidS.mk h10
 have HLE:=HidS.mk (HLE.out.below hb10)
 have HRI:=HidS.mk (HRI.out.below hb10)
 have hBB:=nx hBB hb10
 have HAV:=HidS.mk (HAV.out.below hb10)
 have HBV:=HidS.mk (HBV.out.below hb10)
 have HMV:=HidS.mk (HMV.out.below hb10)
 have HPV:=HidS.mk (HPV.out.below hb10)
 have HMP:=HidS.mk (HMP.out.below hb10)
 clear h10 hb10
 go_wp2_with fail
 refine (icomp_ok _ _ m (incM b) w10 HMV.out HIB.out HC5.out.1).mono ?_
 rintro e w11 ⟨o11,n11,k11,rfl,h11,hb11⟩
 rw [HE5.out] at h11
 have HSA:=HidS.mk h11
 have HLE:=HidS.mk (HLE.out.below hb11)
 have HRI:=HidS.mk (HRI.out.below hb11)
 have hBB:=nx hBB hb11
 have HAV:=HidS.mk (HAV.out.below hb11)
 have HBV:=HidS.mk (HBV.out.below hb11)
 have HMV:=HidS.mk (HMV.out.below hb11)
 have HPV:=HidS.mk (HPV.out.below hb11)
 have HMP:=HidS.mk (HMP.out.below hb11)
 clear h11 hb11 HIB
 go_wp2_with fail
 refine (iincl_any _ a w11 HAV.out HLA.out).mono ?_
 rintro e w12 ⟨u12,rfl,h12,hb12⟩
 obtain ⟨o12,k12,rfl,-,-⟩:=LsV.shape h12
 have HIB:=HidS.mk h12
 have HLE:=HidS.mk (HLE.out.below hb12)
 have HRI:=HidS.mk (HRI.out.below hb12)
 have HSA:=HidS.mk (HSA.out.below hb12)
 have hBB:=nx hBB hb12
 have HAV:=HidS.mk (HAV.out.below hb12)
 have HBV:=HidS.mk (HBV.out.below hb12)
 have HMV:=HidS.mk (HMV.out.below hb12)
 have HPV:=HidS.mk (HPV.out.below hb12)
 have HMP:=HidS.mk (HMP.out.below hb12)
 clear h12 hb12
 go_wp2_with fail
 refine (icomp_ok _ _ (incM a) m w12 HIB.out HMV.out HC6.out.1).mono ?_
 rintro e w13 ⟨o13,n13,k13,rfl,h13,hb13⟩
 rw [HE6.out] at h13
 have HAL:=HidS.mk h13
 have HLE:=HidS.mk (HLE.out.below hb13)
 have HRI:=HidS.mk (HRI.out.below hb13)
 have HSA:=HidS.mk (HSA.out.below hb13)
 have hBB:=nx hBB hb13
 have HAV:=HidS.mk (HAV.out.below hb13)
 have HBV:=HidS.mk (HBV.out.below hb13)
 have HMV:=HidS.mk (HMV.out.below hb13)
 have HPV:=HidS.mk (HPV.out.below hb13)
 have HMP:=HidS.mk (HMP.out.below hb13)
 clear h13 hb13 HIB
 go_wp2_with fail
 refine (msame_any _ _ _ _ w13 HLE.out HRI.out).mono ?_
 rintro e w14 ⟨rfl,hb14⟩
 rw [decide_eq_true rfl]
 have HSA:=HidS.mk (HSA.out.below hb14)
 have HAL:=HidS.mk (HAL.out.below hb14)
 have hBB:=nx hBB hb14
 have HAV:=HidS.mk (HAV.out.below hb14)
 have HBV:=HidS.mk (HBV.out.below hb14)
 have HMV:=HidS.mk (HMV.out.below hb14)
 have HPV:=HidS.mk (HPV.out.below hb14)
 have HMP:=HidS.mk (HMP.out.below hb14)
 clear hb14 HLE HRI
 go_wp2_with fail
 refine (msame_any _ _ _ _ w14 HSA.out HMV.out).mono ?_
 rintro e w15 ⟨rfl,hb15⟩
 rw [decide_eq_true rfl]
 have HAL:=HidS.mk (HAL.out.below hb15)
 have hBB:=nx hBB hb15
 have HAV:=HidS.mk (HAV.out.below hb15)
 have HBV:=HidS.mk (HBV.out.below hb15)
 have HMV:=HidS.mk (HMV.out.below hb15)
 have HPV:=HidS.mk (HPV.out.below hb15)
 have HMP:=HidS.mk (HMP.out.below hb15)
 clear hb15 HSA
 go_wp2_with fail
 refine (msame_any _ _ _ _ w15 HAL.out HMV.out).mono ?_
 rintro e w16 ⟨rfl,hb16⟩
 rw [decide_eq_true rfl]
 have hBB:=nx hBB hb16
 have HAV:=HidS.mk (HAV.out.below hb16)
 have HBV:=HidS.mk (HBV.out.below hb16)
 have HMV:=HidS.mk (HMV.out.below hb16)
 have HPV:=HidS.mk (HPV.out.below hb16)
 have HMP:=HidS.mk (HMP.out.below hb16)
 clear hb16 HAL
 go_wp2
 go_loopw [25,27,29,31,32,33] (fun iv _ _ _ _ _ wr=>∃d : Nat,d<=4/\iv = .int .i64 d/\Below w16.heap.size w16 wr) (fun iv _ _ _ _ _ _=>4 - (intOf iv).toNat)
 case atStart=>exact ⟨0,by omega,rfl,Below.refl _ _⟩
 case round=>
  obtain ⟨d,hd,rfl,hB⟩:=hrel
  by_cases hlt : d < 4
  ·have hle : (d : Int)<=3:=by omega
   obtain ⟨M1,hM1⟩ : ∃t,matM a b m d = t:=⟨_,rfl⟩
   obtain ⟨M2,hM2⟩ : ∃t,matM b b P d = t:=⟨_,rfl⟩
   obtain ⟨M3,hM3⟩ : ∃t,matM a b (comM m P) d = t:=⟨_,rfl⟩
   obtain ⟨r,hr⟩ : ∃t,(cellsC a d).length = t:=⟨_,rfl⟩
   obtain ⟨c,hc⟩ : ∃t,(cellsC b d).length = t:=⟨_,rfl⟩
   have HF1 : HidS (Fits r c M1/\Fits c c M2):=⟨by
    rw [<-hr,<-hc,<-hM1,<-hM2,matM_id,matM_id]
    exact ⟨idM_fits _ _ _,idM_fits _ _ _⟩⟩
   have HLN : HidS (r<=11/\c<=11):=⟨by
    rw [<-hr,<-hc]
    exact ⟨len11 HMD.out.ca _,len11 HMD.out.cb _⟩⟩
   have HPR : HidS (genM r c (mulf M1 M2 c) = M3):=⟨by
    rw [<-hr,<-hc,<-hM1,<-hM2,<-hM3]
    exact mat_mul HMD.out.cb.val HMD.out.val d⟩
   have HSM : HidS (MulSm M1 M2 r c c):=⟨by
    rw [<-hr,<-hc,<-hM1,<-hM2]
    exact mulSm_11 (mat_leM HMD.out.mps d) (mat_leM HVP.out.mps d) (len11 HMD.out.cb d) (two_mul_bits _ _) dE⟩
   have HE:=HidS.mk (And.intro hM1 (And.intro hM2 (And.intro hM3 (And.intro hr hc))))
   clear hM1 hM2 hM3 hr hc
   go_wp2_with fail
   refine (imat_ok _ _ _ a b m d _ wr (HAV.out.below hB) (HBV.out.below hB) (HMV.out.below hB) HMD.out dE r c M1 HE.out.2.2.2.1 HE.out.2.2.2.2 HE.out.1).mono ?_
   rintro e w5 ⟨R5,C5,o5,n5,q5,rfl,h5,hb5⟩
   have H5:=HidS.mk h5
   have hB5:=nx hB hb5
   clear h5 hb5
   go_upto_region 18 with (fail)
   refine wp_world ?_
   intro W6 hW6
   obtain ⟨hB6,T6,hs6⟩:=world1 hW6
   have HT6:=HidS.mk T6
   have H5:=HidS.mk (H5.out.below hB6)
   have hB6:=nx hB5 hB6
   clear hW6 T6
   go_wp2_with fail
   refine (imat_ok _ _ _ b b P d _ W6 (HBV.out.below hB6) (HBV.out.below hB6) (HPV.out.below hB6) HVP.out dE c c M2 HE.out.2.2.2.2 HE.out.2.2.2.2 HE.out.2.1).mono ?_
   rintro e w7 ⟨R7,C7,o7,n7,q7,rfl,h7,hb7⟩
   have H7:=HidS.mk h7
   have H5:=HidS.mk (H5.out.below hb7)
   have HT6:=HidS.mk (HT6.out.below hb7)
   have hB7:=nx hB6 hb7
   clear h7 hb7
   go_upto_region 19 with (fail)
   refine wp_world ?_
   intro W8 hW8
   obtain ⟨hB8,T8,hs8⟩:=world1 hW8
   have HT8:=HidS.mk T8
   have H5:=HidS.mk (H5.out.below hB8)
   have H7:=HidS.mk (H7.out.below hB8)
   have HT6:=HidS.mk (HT6.out.below hB8)
   have hB8:=nx hB7 hB8
   clear hW8 T8
   go_wp2_with fail
   refine (imat_ok _ _ _ a b (comM m P) d _ W8 (HAV.out.below hB8) (HBV.out.below hB8) (HMP.out.below hB8) HC1.out.2 dE r c M3 HE.out.2.2.2.1 HE.out.2.2.2.2 HE.out.2.2.1).mono ?_
   rintro e w9 ⟨R9,C9,o9,n9,q9,rfl,h9,hb9⟩
   have H9:=HidS.mk h9
   have H5:=HidS.mk (H5.out.below hb9)
   have H7:=HidS.mk (H7.out.below hb9)
   have HT6:=HidS.mk (HT6.out.below hb9)
   have HT8:=HidS.mk (HT8.out.below hb9)
   have hB9:=nx hB8 hb9
   clear h9 hb9
   go_upto_region 20 with (fail)
   refine wp_world ?_
   intro W10 hW10
   obtain ⟨hB10,T10,hs10⟩:=world1 hW10
   have HT10:=HidS.mk T10
   have H5:=HidS.mk (H5.out.below hB10)
   have H7:=HidS.mk (H7.out.below hB10)
   have H9:=HidS.mk (H9.out.below hB10)
   have HT6:=HidS.mk (HT6.out.below hB10)
   have HT8:=HidS.mk (HT8.out.below hB10)
   have hB10:=nx hB9 hB10
   clear hW10 T10
   go_wp2_with fail
   refine (ccells_any _ a d W10 (HAV.out.below hB10) HLA.out).mono ?_
   rintro e w11 ⟨u11,rfl,h11,hb11⟩
   obtain ⟨o11',k11',rfl⟩:=LsO.shape h11
   rw [HE.out.2.2.2.1]
   have H5:=HidS.mk (H5.out.below hb11)
   have H7:=HidS.mk (H7.out.below hb11)
   have H9:=HidS.mk (H9.out.below hb11)
   have HT6:=HidS.mk (HT6.out.below hb11)
   have HT8:=HidS.mk (HT8.out.below hb11)
   have HT10:=HidS.mk (HT10.out.below hb11)
   have hB11:=nx hB10 hb11
   clear h11 hb11
   go_wp2_with fail
   refine (ccells_any _ b d w11 (HBV.out.below hB11) HLB.out).mono ?_
   rintro e w12' ⟨u12',rfl,h12,hb12⟩
   obtain ⟨o12',k12',rfl⟩:=LsO.shape h12
   rw [HE.out.2.2.2.2]
   have H5:=HidS.mk (H5.out.below hb12)
   have H7:=HidS.mk (H7.out.below hb12)
   have H9:=HidS.mk (H9.out.below hb12)
   obtain ⟨k1,k2,k3,k4,k5',k6⟩:=(HT6.out.below hb12).three
   obtain ⟨l1',l2,l3,l4,l5,l6⟩:=(HT8.out.below hb12).three
   obtain ⟨m1',m2,m3,m4,m5,m6⟩:=(HT10.out.below hb12).three
   have hB12:=nx hB11 hb12
   clear h12 hb12 HT6 HT8 HT10
   go_upto_region 21 with (fail)
   refine wp_ser [pcD 14 [] (fun _ v=>v = .bool true),pcD 21 [] (fun _ v=>v = .bool true),pcD 28 [] (fun w v=>MatV w v r c M3),pcD 29 [28] (fun _ v=>v = .bool true)] ?_
   refine sRd ?_
   refine sRc (fun wS hI Gk hG=>by go_simp; exact ck hG ((sized_ans _ r c r c M1 true (decide_eq_true ⟨rfl,rfl,HF1.out.1.valid⟩) wS (H5.out.below hI.bel)).mono fun e w' ⟨h1,h2⟩=>⟨_,h1,rfl,h2⟩)) (fun _ hv=>?_)
   obtain ⟨_,-,rfl⟩:=hv
   refine sRd ?_
   refine sRc (fun wS hI Gk hG=>by go_simp; exact ck hG ((sized_ans _ c c c c M2 true (decide_eq_true ⟨rfl,rfl,HF1.out.2.valid⟩) wS (H7.out.below hI.bel)).mono fun e w' ⟨h1,h2⟩=>⟨_,h1,rfl,h2⟩)) (fun _ hv=>?_)
   obtain ⟨_,-,rfl⟩:=hv
   refine sRd ?_
   refine sRc (fun wS hI Gk hG=>by go_simp; exact ck hG ((r5product_any _ _ r c c M1 M2 wS (H5.out.below hI.bel) (H7.out.below hI.bel) HF1.out.1 HF1.out.2 (by have:=HLN.out; omega) (by have:=HLN.out; omega) (by have:=HLN.out; omega) HSM.out).mono fun e w' ⟨v,bs,he,hm,hb⟩=>⟨v,he,by have:=hm.mat.1; rw [HPR.out] at this; exact this,hb⟩)) (fun _ hv=>?_)
   obtain ⟨_,-,A28,rfl,a28,b28,c28,rfl,-⟩:=hv
   refine sRc (fun wS hI h28 Gk hG=>by go_simp; exact ck hG ((same_any _ _ r c r c M3 M3 wS (H9.out.below hI.bel) h28).mono fun e w' ⟨h1,h2⟩=>⟨_,h1,congrArg Value.bool (decide_eq_true ⟨rfl,rfl,rfl⟩),h2⟩)) (fun _ hv=>?_)
   obtain ⟨_,-,rfl⟩:=hv
   refine sRd ?_
   refine sRe ?_
   intro w13' hb13 _ _ _ _
   have hB13:=nx hB12 hb13
   clear k1 k2 k3 k4 k5' k6 l1' l2 l3 l4 l5 l6 m1' m2 m3 m4 m5 m6 H5 H7 H9
   go_wp2
   go_roundw
   case rel=>exact ⟨d + 1,by omega,by simp,hB13⟩
   case measure=>simp [intOf]; omega
  ·obtain rfl : d = 4:=by omega
   have h44 : ((4 : Nat) : Int) = 4:=rfl
   rw [h44]
   have hBZ:=nx hBB hB
   go_wp2
   go_ret
   exact ⟨rfl,hBZ⟩
end Go.Proofs.YtjdemlfceaikgaaGreat

namespace Go.Proofs.YtjdemlfceaikgaaGreat
open Go.ChangeShapes Go.WideShapes Go.ChangeAt Go.RowKit
set_option maxRecDepth 100000 in
theorem open_pair8 {H : Type} {enc : TypeId × Value->H} {w : World} {b0 base : Nat} {spare : Nat->Bool} {held : Bool} {r : Reach} {v : Value} {d : DataW H} {ps : List MemPlace} (hval : Value.okWide Tryz.prog w r b0 56 v)
  (h : DataW.Trod enc Tryz.prog w base spare held 56 v d ps) : ∃a b : Int,v = .agg #[.int .i8 a,.int .i8 b]/\(-128<=a/\a<=127)/\(-128<=b/\b<=127):=by
 simp only [Value.okWide,Tryz.underlying56] at hval
 obtain ⟨cs,rfl,hsz,-⟩:=hval
 obtain ⟨fuel,hf⟩:=h
 obtain ⟨xs,m,-,-,h1,h2,h3⟩:=DataW.trod_array Tryz.underlying56 hf
 have c2 : Tryz.prog.cellsOf 56 = 2:=by kernel_rfl
 have c1 : Tryz.prog.cellsOf 25 = 1:=by kernel_rfl
 rw [c2] at h1
 have e0:=h3 0 oM
 have e1:=h3 1 oM
 rw [c1] at e0 e1
 rw [List.getElem?_eq_getElem oM] at e0 e1
 obtain ⟨a,ha,-,wa⟩:=DataW.trod_int Tryz.underlying25 e0
 obtain ⟨b,hb,-,wb⟩:=DataW.trod_int Tryz.underlying25 e1
 simp only [Value.cells] at ha hb h1
 obtain ⟨cl⟩:=cs
 match cl,h1 with
 | [c0,c1],_=>
  simp at ha hb
  subst ha
  subst hb
  exact ⟨a,b,rfl,bounds_i8 wa,bounds_i8 wb⟩
set_option maxRecDepth 100000 in
theorem inducedComposes_lifted (os : Os) (started : os.Started) (H : Type) (enc : TypeId × Value->H) :
  ReturnsInHanded {} Tryz.checked os 7 .any (Rows.inducedComposesSpec.pre6 enc Tryz.prog Tryz.f7 Rows.inducedComposesRow.domain false) (Rows.inducedComposesSpec.post enc Tryz.prog Tryz.f7 false true false false):=by
 refine returnsInHanded_of_change (C:=Tryz.checked) Tryz.own started kR Tryz.func7
  (ChangeSpec.witness6 (enc:=enc) (C:=Tryz.checked) false ⟨#[],#[.agg #[.int .u8 0,.slice none 0 0,.int .u8 0,.int .i8 0,.slice none 0 0],.agg #[.int .i8 0,.int .i8 0],.slice none 0 0],[]⟩ 8 kR kR kR kR) ?_
 intro W base args ds gs before hval0 hW hcnd _
 have hval : ∀(j : Nat) t v,Tryz.f7.params[j]? = some t->args[j]? = some v->Value.okWide Tryz.prog W .any base t v:=hval0
 have hW':=hW
 obtain ⟨p,q,hA0,hV,rfl,hfz,hnd⟩:=hW
 have hA : DataW.TrodAll enc Tryz.prog W 0 (fun _=>true) true Tryz.f7.params.toList args.toList ds p:=hA0
 rw [Tryz.params7] at hA hval
 obtain ⟨v0,v1,v2,d0,d1,d2,p0,p1,p2,rfl,rfl,rfl,h0,h1,h2⟩:=trodAll_three hA
 obtain ⟨rfl,rfl⟩:=trodVars_none hV
 clear hA0 hval0
 simp only [List.append_nil] at hW'
 have hlt0 : ∀x ∈ p0,x.block < W.heap.size:=fun x hx=>hW'.lt x (by simp [hx])
 have hlt1 : ∀x ∈ p1,x.block < W.heap.size:=fun x hx=>hW'.lt x (by simp [hx])
 have hlt2 : ∀x ∈ p2,x.block < W.heap.size:=fun x hx=>hW'.lt x (by simp [hx])
 obtain ⟨s,A,N,sv,lv,L,l,rfl,hs9,hA9,hN9,hI9,hl9⟩:=open_raw29 (hval 0 28 v0 rfl rfl) h0 hlt0
 obtain ⟨n1,m1,rfl,hn1,hm1⟩:=open_pair8 (hval 1 56 v1 rfl rfl) h1
 obtain ⟨ls2,hI2⟩:=open_i8v (hval 2 26 v2 rfl rfl) h2 hlt2
 refine (inducedComposes_any s A N sv lv n1 m1 v2 L l ls2 W hs9 hA9 hN9 hI9 hl9 hn1 hm1 hI2).mono fun e W' ⟨he,hB⟩=>?_
 subst he
 refine ⟨_,rfl,_,_,_,[],p0 ++ (p1 ++ p2),[],hW',?_,?_,rfl,hB.frame _,fun h=>by cases h⟩
 ·exact trodAll_mk1 (shut_bool Tryz.underlying4 true)
 ·exact trodAll_mk3 (Below.trod Tryz.laidOut kR (of_decide_eq_true kR) h0 hB hlt0) (Below.trod Tryz.laidOut kR (of_decide_eq_true kR) h1 hB hlt1) (Below.trod Tryz.laidOut kR (of_decide_eq_true kR) h2 hB hlt2)
theorem inducedComposes_j1 : (Rows.inducedComposesRow.inPlace == Tryz.pinned.checked.prog.inPlace 7) = true:=by kernel_rfl
theorem inducedComposes_j2 : (Rows.inducedComposesRow.unfollowed == Tryz.pinned.checked.prog.unfollowed 7) = true:=by kernel_rfl
theorem inducedComposes_j3 : (Rows.inducedComposesRow.recurses == Tryz.pinned.checked.prog.recurses 7) = true:=by kernel_rfl
theorem inducedComposes_j4 : (Rows.inducedComposesRow.named == Tryz.pinned.checked.prog.varsNamed 7) = true:=by kernel_rfl
theorem inducedComposes_joined : joinedFacts Tryz.pinned.checked.prog 7 Tryz.f7 Rows.inducedComposesSpec Rows.inducedComposesRow = true:=by
 unfold joinedFacts
 rw [inducedComposes_j1,inducedComposes_j2,inducedComposes_j3,inducedComposes_j4]
 kernel_rfl
theorem inducedComposes_holds : Rows.InducedComposesSaid:=
 OpenClaim.holds_of_wide 7 Tryz.f7 rfl rfl rfl rfl rfl rfl rfl ⟨rfl,rfl,rfl,rfl,rfl⟩ rfl rfl rfl rfl rfl kR Tryz.func7 inducedComposes_joined
  (of_decide_eq_true kR) (by unfold Func.isWrapper; first | (rw [if_pos (by decide +kernel)]; kernel_rfl) | (rw [if_neg (by decide +kernel)]; exact ⟨rfl,rfl⟩))
  (fun os started H enc _=>inducedComposes_lifted os started H enc)
end Go.Proofs.YtjdemlfceaikgaaGreat
