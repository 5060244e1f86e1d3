/- torsionlaw29.InducedLinear. torsionlaw29.InducedLinear: whatever the input, it returns true, and the input reads as it did. No conditions. -/
import Derived.Test.YtjdemlfceaikgaaGreatRows
import Derived.Test.YtjdemlfceaikgaaGreatK22
import Derived.Test.YtjdemlfceaikgaaGreatK27
set_option linter.unusedVariables false
set_option linter.unusedSimpArgs false
set_option linter.unusedSectionVars false
namespace Go.Proofs.YtjdemlfceaikgaaGreat
open Go.RowKit Go.Maps
theorem MdS.far {a b : Cx} {m : Mp} (h : MdS a b m) : apE m [(1048576,1)] = 290:=by
 unfold apE
 rw [if_neg]
 intro hh
 obtain ⟨y,hy⟩:=hasB_iff.1 hh (1048576,1) List.mem_cons_self
 have h1:=findM_mem hy
 obtain ⟨-,f,hf,e,-⟩:=h.val.get h1
 have:=h.ca.ids f hf
 have e : f.1 = 1048576:=e
 omega
structure LinS (a : Cx) (m : Mp) (y z : Ch) (k : Int) : Prop where
 ay : ActOk (imgM m) y/\lenA (imgM m) y<=900000
 az : ActOk (imgM m) z/\lenA (imgM m) z<=900000
 ap : ActOk (imgM m) (plusC y z k)/\lenA (imgM m) (plusC y z k)<=900000
 iy : ∀f ∈ y,I64 f.1
 iz : ∀f ∈ z,I64 f.1
 ip : ∀f ∈ plusC y z k,I64 f.1
 cy : apC m y = appM m y/\apE m y = 0
 cz : apC m z = appM m z/\apE m z = 0
 cs : apC m (plusC y z k) = plusC (appM m y) (appM m z) k/\apE m (plusC y z k) = 0
 s1 : SmN (nrm y + k.natAbs * nrm z)/\SmN k.natAbs/\SmN (nrm z)/\y.length + z.length<=1000000
 s2 : SmN (nrm (appM m y) + k.natAbs * nrm (appM m z))/\SmN (nrm (appM m z))/\(appM m y).length + (appM m z).length<=1000000
theorem lin_ok {a b : Cx} {m : Mp} (h : MdS a b m) (d k : Int) (hk : k.natAbs<=2 ^ 64) (l j : List Int) : LinS a m (combC a d l) (combC a d j) k:=by
 obtain ⟨y1,y2,y3,y4⟩:=comb_ok h.ca d l
 obtain ⟨z1,z2,z3,z4⟩:=comb_ok h.ca d j
 have hS:=h.mps
 have s2 : HomD a d (plusC (combC a d l) (combC a d j) k):=y2.add z2
 have s3 : nrm (plusC (combC a d l) (combC a d j) k)<=2 ^ 72:=by
  have h1:=nrm_add (a:=combC a d l) (b:=combC a d j) (k:=k)
  have h2:=Nat.mul_le_mul hk z3
  have e1 : 2 ^ 64 * 2 ^ 7 = 2361183241434822606848:=by decide
  have e2 : 2 ^ 72 = 4722366482869645213696:=by decide
  have e3 : 2 ^ 7 = 128:=rfl
  omega
 have s4 : (plusC (combC a d l) (combC a d j) k).length<=22:=by
  have:=addC_len (a:=combC a d l) (b:=combC a d j) (k:=k)
  omega
 obtain ⟨py,ly⟩:=hS.app y3
 obtain ⟨pz,lz⟩:=hS.app z3
 have hy:=hS.act dE y3 oM oM
 have hz:=hS.act dE z3 oM oM
 have hs:=hS.act dE s3 oM oM
 refine ⟨hy,hz,hs,hom_ids (h.ca.i64 oM) y2,hom_ids (h.ca.i64 oM) z2,hom_ids (h.ca.i64 oM) s2,apC_has (h.val.has y2),apC_has (h.val.has z2),?_,⟨?_,two_pow_le hk dE,two_pow_le z3 dE,by omega⟩,⟨?_,two_pow_le pz dE,by omega⟩⟩
 ·obtain ⟨e1,e2⟩:=apC_has (h.val.has s2)
  exact ⟨by rw [e1,appM_add],e2⟩
 ·refine two_pow_le (e:=72) ?_ dE
  have h2:=Nat.mul_le_mul hk z3
  have e1 : 2 ^ 64 * 2 ^ 7 = 2361183241434822606848:=by decide
  have e2 : 2 ^ 72 = 4722366482869645213696:=by decide
  have e3 : 2 ^ 7 = 128:=rfl
  omega
 ·refine two_pow_le (e:=72 + (eB + 20)) ?_ dE
  have h2:=Nat.mul_le_mul hk pz
  have e1 : 2 ^ (7 + (eB + 20)) = 128 * 2 ^ (eB + 20):=by rw [Nat.pow_add]
  have e2 : 2 ^ (72 + (eB + 20)) = 4722366482869645213696 * 2 ^ (eB + 20):=by rw [Nat.pow_add]
  have e3 : 2 ^ 64 * (128 * 2 ^ (eB + 20)) = 2361183241434822606848 * 2 ^ (eB + 20):=by rw [<-Nat.mul_assoc]
  rw [e1] at h2 py
  rw [e2]
  rw [e3] at h2
  omega
set_option maxHeartbeats 16000000 in
set_option maxRecDepth 20000 in
theorem inducedLinear_any (s A : Nat) (N : Int) (v lv v1 v2 : Value) (L : List Q4) (l l1 l2 : List Int) (w : World) (hs : s<=255) (hA : A<=255) (hN : -128<=N/\N<=127) (h : QdV w v L) (hl : I8V w lv l) (h1 : I8V w v1 l1) (h2 : I8V w v2 l2) :
  Calls Tryz.prog 5 #[.agg #[.int .u8 s,v,.int .u8 A,.int .i8 N,lv],v1,v2] w fun e w'=>e = .returned (.bool true)/\Below w.heap.size w w':=by
 obtain ⟨qo,qn,qc,rfl,-⟩:=id h
 obtain ⟨lo,ln,lc,rfl,-⟩:=id hl
 have H:=HidS.mk h
 have HL:=HidS.mk hl
 obtain ⟨lo1,ln1,lc1,rfl,-⟩:=id h1
 obtain ⟨lo2,ln2,lc2,rfl,hx1,hx2,hx3,-⟩:=id h2
 have H1:=HidS.mk h1
 have H2:=HidS.mk h2
 clear h hl h1 h2
 go_enter Tryz.func5,Tryz.ntmps5
 go_upto_region 1 with (fail)
 refine wp_world ?_
 intro W0 hW0
 obtain ⟨hB0,T5,hs0⟩:=world1 hW0
 have HT5:=HidS.mk T5
 have H:=HidS.mk (H.out.below hB0)
 have HL:=HidS.mk (HL.out.below hB0)
 clear hW0 T5
 go_wp2_with fail
 refine (sanity29_any W0).mono ?_
 rintro e w1 ⟨rfl,hb1⟩
 have H:=HidS.mk (H.out.below hb1)
 have HL:=HidS.mk (HL.out.below hb1)
 have T5:=HT5.out.below hb1
 have d0:=T5.cell 0
 have d1:=T5.cell 1
 have d2:=T5.cell 2
 have d3:=T5.cell 3
 have d4:=T5.cell 4
 simp at d0 d1 d2 d3 d4
 clear T5
 go_wp2_with fail
 refine (md29_any s A N _ _ L l w1 hs hA hN H.out HL.out).mono ?_
 rintro e w2 ⟨_,rfl,⟨a,b,m,va,vb,vm,rfl,hP,ha,hb,hm⟩,hb2⟩
 have HMD:=HidS.mk hP.mds
 obtain ⟨ao,ac,rfl,-,-⟩:=LsV.shape ha
 obtain ⟨bo,bc,rfl,-,-⟩:=LsV.shape hb
 obtain ⟨mo,mc,rfl,-,-⟩:=LsV.shape hm
 have HAV:=HidS.mk ha
 have HBV:=HidS.mk hb
 have HMV:=HidS.mk hm
 have hBB:=nx (nx hB0 hb1) hb2
 clear d0 d1 d2 d3 d4 hP ha hb hm
 obtain ⟨kk,hkk⟩ : ∃kk : Int,(ln2 : Int) - 3 = kk:=⟨_,rfl⟩
 have hkb : -3<=kk/\kk<=9223372036854775807:=by omega
 have hwk : IntKind.i64.wrap kk = kk:=IntWalk.i64_in _ oM
 have hk64 : kk.natAbs<=2 ^ 64:=by have : 2 ^ 64 = 18446744073709551616:=rfl; omega
 go_wp2_with fail
 refine (r1of_any kk w2 oM oM).mono ?_
 rintro e w3 ⟨v3,rfl,hv3,hb3⟩
 obtain ⟨s6,a6,l6,k6,_,rfl,-⟩:=id hv3
 have HV3:=HidS.mk hv3
 clear hkk hwk hv3
 go_upto_region 4 with (fail)
 refine wp_world ?_
 intro W4 hW4
 obtain ⟨hB4,T2,hs4⟩:=world1 hW4
 have HT2:=HidS.mk T2
 have hb4:=nx hb3 hB4
 have HAV:=HidS.mk (HAV.out.below hb4)
 have HMV:=HidS.mk (HMV.out.below hb4)
 have HKV:=HidS.mk (HV3.out.ext (lx hB4))
 have H1:=HidS.mk (H1.out.below (nx hBB hb4))
 have H2:=HidS.mk (H2.out.below (nx hBB hb4))
 have hBB:=nx hBB hb4
 clear hW4 T2 hb4 hB4 hb3 HV3
 have hcl : a.length<=16:=by have:=HMD.out.ca.l16 oM; omega
 have HCL:=HidS.mk hcl
 have HLI : HidS (∀d : Int,LinS a m (combC a d l1) (combC a d l2) kk):=⟨fun d=>lin_ok HMD.out d kk hk64 l1 l2⟩
 clear hcl hk64
 go_wp2
 go_loopw [12,13,14,15,16,17,18,19,20] (fun iv _ _ _ _ _ _ _ _ wr=>∃d : Nat,d<=4/\iv = .int .i64 d/\Below W4.heap.size W4 wr) (fun iv _ _ _ _ _ _ _ _ _=>4 - (intOf iv).toNat)
 case atStart=>exact ⟨0,by omega,rfl,Below.refl _ _⟩
 case round=>
  obtain ⟨d,hd,rfl,hB⟩:=hrel
  by_cases hlt : d < 4
  ·have hle : (d : Int)<=3:=by omega
   have HS:=HidS.mk (HLI.out d)
   obtain ⟨y,hy⟩ : ∃y,combC a d l1 = y:=⟨_,rfl⟩
   obtain ⟨z,hz⟩ : ∃y,combC a d l2 = y:=⟨_,rfl⟩
   rw [hy,hz] at HS
   have HY:=HidS.mk hy
   have HZ:=HidS.mk hz
   clear hy hz
   go_wp2_with fail
   refine (comb_any _ _ a d l1 wr (HAV.out.below hB) (H1.out.below hB) HCL.out).mono ?_
   rintro e w5 ⟨u5,rfl,h5,hb5⟩
   rw [HY.out] at h5
   obtain ⟨o5,k5,rfl,-,-⟩:=LsV.shape h5
   have H5:=HidS.mk h5
   have hB5:=nx hB hb5
   clear h5 hb5
   go_wp2_with fail
   refine (comb_any _ _ a d l2 w5 (HAV.out.below hB5) (H2.out.below hB5) HCL.out).mono ?_
   rintro e w6 ⟨u6,rfl,h6,hb6⟩
   rw [HZ.out] at h6
   obtain ⟨o6,k6',rfl,-,-⟩:=LsV.shape h6
   have H5:=HidS.mk (H5.out.below hb6)
   have H6:=HidS.mk h6
   have hB6:=nx hB5 hb6
   clear h6 hb6
   go_wp2_with fail
   refine (iapply_any _ _ m y w6 (HMV.out.below hB6) H5.out HMD.out.mps.ok HS.out.iy HS.out.ay.1 HS.out.ay.2).mono ?_
   rintro e w7 ⟨_,rfl,⟨o7,n7,k7,rfl,h7⟩,hb7⟩
   rw [HS.out.cy.1] at h7
   rw [HS.out.cy.2]
   have H5:=HidS.mk (H5.out.below hb7)
   have H6:=HidS.mk (H6.out.below hb7)
   have H7:=HidS.mk h7
   have hB7:=nx hB6 hb7
   clear h7 hb7
   go_wp2_with fail
   refine (iapply_any _ _ m z w7 (HMV.out.below hB7) H6.out HMD.out.mps.ok HS.out.iz HS.out.az.1 HS.out.az.2).mono ?_
   rintro e w8 ⟨_,rfl,⟨o8,n8,k8,rfl,h8⟩,hb8⟩
   rw [HS.out.cz.1] at h8
   rw [HS.out.cz.2]
   have H5:=HidS.mk (H5.out.below hb8)
   have H6:=HidS.mk (H6.out.below hb8)
   have H7:=HidS.mk (H7.out.below hb8)
   have H8:=HidS.mk h8
   have hB8:=nx hB7 hb8
   obtain ⟨c1,c2,c3,c4⟩:=(HT2.out.below hB8).two
   clear h8 hb8
   go_wp2_with fail
   refine (cadd_any _ _ _ y z kk w8 H5.out H6.out (HKV.out.ext (lx hB8)) HS.out.s1.1 HS.out.s1.2.1 HS.out.s1.2.2.1 HS.out.s1.2.2.2).mono ?_
   rintro e w9 ⟨u9,rfl,h9,hb9⟩
   obtain ⟨o9,k9,rfl,-,-⟩:=LsV.shape h9
   have H7:=HidS.mk (H7.out.below hb9)
   have H8:=HidS.mk (H8.out.below hb9)
   have H9:=HidS.mk h9
   have hB9:=nx hB8 hb9
   clear h9 hb9 c1 c2 c3 c4 H5 H6
   go_wp2_with fail
   refine (iapply_any _ _ m (plusC y z kk) w9 (HMV.out.below hB9) H9.out HMD.out.mps.ok HS.out.ip HS.out.ap.1 HS.out.ap.2).mono ?_
   rintro e w10 ⟨_,rfl,⟨o10,n10,k10,rfl,h10⟩,hb10⟩
   rw [HS.out.cs.1] at h10
   rw [HS.out.cs.2]
   have H7:=HidS.mk (H7.out.below hb10)
   have H8:=HidS.mk (H8.out.below hb10)
   have H10:=HidS.mk h10
   have hB10:=nx hB9 hb10
   clear h10 hb10 H9
   go_wp2_with fail
   refine (cvalid_any _ _ w10 H7.out).mono ?_
   rintro e w11 ⟨q,rfl,hq,hb11⟩
   obtain rfl : q = true:=hq.2 (appM_val _ _)
   have H7:=HidS.mk (H7.out.below hb11)
   have H8:=HidS.mk (H8.out.below hb11)
   have H10:=HidS.mk (H10.out.below hb11)
   have hB11:=nx hB10 hb11
   clear hq hb11
   go_wp2_with fail
   refine (cvalid_any _ _ w11 H8.out).mono ?_
   rintro e w12 ⟨q,rfl,hq,hb12⟩
   obtain rfl : q = true:=hq.2 (appM_val _ _)
   have H7:=HidS.mk (H7.out.below hb12)
   have H8:=HidS.mk (H8.out.below hb12)
   have H10:=HidS.mk (H10.out.below hb12)
   have hB12:=nx hB11 hb12
   obtain ⟨c1,c2,c3,c4⟩:=(HT2.out.below hB12).two
   clear hq hb12
   go_wp2_with fail
   refine (cadd_any _ _ _ (appM m y) (appM m z) kk w12 H7.out H8.out (HKV.out.ext (lx hB12)) HS.out.s2.1 HS.out.s1.2.1 HS.out.s2.2.1 HS.out.s2.2.2).mono ?_
   rintro e w13 ⟨u13,rfl,h13,hb13⟩
   obtain ⟨o13,k13,rfl,-,-⟩:=LsV.shape h13
   have H10:=HidS.mk (H10.out.below hb13)
   have H13:=HidS.mk h13
   have hB13:=nx hB12 hb13
   clear h13 hb13 c1 c2 c3 c4 H7 H8
   go_wp2_with fail
   refine (csame_any _ _ _ _ w13 H10.out H13.out).mono ?_
   rintro e w14 ⟨rfl,hb14⟩
   rw [decide_eq_true rfl]
   have hB14:=nx hB13 hb14
   clear hb14 H10 H13
   go_wp2
   go_roundw
   case rel=>exact ⟨d + 1,by omega,by simp,hB14⟩
   case measure=>simp [intOf]; omega
  ·obtain rfl : d = 4:=by omega
   have h44 : ((4 : Nat) : Int) = 4:=rfl
   rw [h44]
   go_wp2_with fail
   refine (r1of_any 1 wr oM oM).mono ?_
   rintro e w5 ⟨v5,rfl,hv5,hb5⟩
   obtain ⟨s7,a7,l7,k7,_,rfl,-⟩:=id hv5
   have hal:=(Below.refl w5.heap.size w5).alloc (Nat.le_refl _) (.cells #[.int .i64 1048576,.bool s7,.slice a7 l7 k7] tFc)
   obtain ⟨w6,hw6⟩ : ∃t,w5.alloc (.cells #[.int .i64 1048576,.bool s7,.slice a7 l7 k7] tFc) = t:=⟨_,rfl⟩
   have hN:=ChnV.one (Blk.new w5 tFc #[.int .i64 1048576,.bool s7,.slice a7 l7 k7]) (IntV.ext hv5 (lx hal))
   rw [hw6] at hN hal
   have HN:=HidS.mk hN
   have HW:=HidS.mk hw6
   have hB6:=nx (nx hB hb5) hal
   clear hv5 hN hw6 hal
   go_wp2_with fail
   rw [HW.out]
   refine (iapply_any _ _ m [(1048576,1)] w6 (HMV.out.below hB6) HN.out HMD.out.mps.ok (ids_ok dE) (HMD.out.mps.act (s:=1) dE dE dE dE).1 (HMD.out.mps.act (s:=1) dE dE dE dE).2).mono ?_
   rintro e w7 ⟨_,rfl,⟨o7,n7,k7',rfl,-⟩,hb7⟩
   rw [HMD.out.far]
   have hBZ:=nx hBB (nx hB6 hb7)
   go_wp2
   go_ret
   exact ⟨rfl,hBZ⟩
end Go.Proofs.YtjdemlfceaikgaaGreat

namespace Go.Proofs.YtjdemlfceaikgaaGreat
open Go.ChangeShapes Go.WideShapes Go.ChangeAt Go.RowKit
set_option maxRecDepth 100000 in
theorem inducedLinear_lifted (os : Os) (started : os.Started) (H : Type) (enc : TypeId × Value->H) :
  ReturnsInHanded {} Tryz.checked os 5 .any (Rows.inducedLinearSpec.pre6 enc Tryz.prog Tryz.f5 Rows.inducedLinearRow.domain false) (Rows.inducedLinearSpec.post enc Tryz.prog Tryz.f5 false true false false):=by
 refine returnsInHanded_of_change (C:=Tryz.checked) Tryz.own started kR Tryz.func5
  (ChangeSpec.witness6 (enc:=enc) (C:=Tryz.checked) false ⟨#[],#[.agg #[.int .u8 0,.slice none 0 0,.int .u8 0,.int .i8 0,.slice none 0 0],.slice none 0 0,.slice none 0 0],[]⟩ 8 kR kR kR kR) ?_
 intro W base args ds gs before hval0 hW hcnd _
 have hval : ∀(j : Nat) t v,Tryz.f5.params[j]? = some t->args[j]? = some v->Value.okWide Tryz.prog W .any base t v:=hval0
 have hW':=hW
 obtain ⟨p,q,hA0,hV,rfl,hfz,hnd⟩:=hW
 have hA : DataW.TrodAll enc Tryz.prog W 0 (fun _=>true) true Tryz.f5.params.toList args.toList ds p:=hA0
 rw [Tryz.params5] at hA hval
 obtain ⟨v0,v1,v2,d0,d1,d2,p0,p1,p2,rfl,rfl,rfl,h0,h1,h2⟩:=trodAll_three hA
 obtain ⟨rfl,rfl⟩:=trodVars_none hV
 clear hA0 hval0
 simp only [List.append_nil] at hW'
 have hlt0 : ∀x ∈ p0,x.block < W.heap.size:=fun x hx=>hW'.lt x (by simp [hx])
 have hlt1 : ∀x ∈ p1,x.block < W.heap.size:=fun x hx=>hW'.lt x (by simp [hx])
 have hlt2 : ∀x ∈ p2,x.block < W.heap.size:=fun x hx=>hW'.lt x (by simp [hx])
 obtain ⟨s,A,N,sv,lv,L,l,rfl,hs,hA,hN,hI,hl⟩:=open_raw29 (hval 0 28 v0 rfl rfl) h0 hlt0
 obtain ⟨ls1,hI1⟩:=open_i8v (hval 1 26 v1 rfl rfl) h1 hlt1
 obtain ⟨ls2,hI2⟩:=open_i8v (hval 2 26 v2 rfl rfl) h2 hlt2
 refine (inducedLinear_any s A N sv lv v1 v2 L l ls1 ls2 W hs hA hN hI hl hI1 hI2).mono fun e W' ⟨he,hB⟩=>?_
 subst he
 refine ⟨_,rfl,_,_,_,[],p0 ++ (p1 ++ p2),[],hW',?_,?_,rfl,hB.frame _,fun h=>by cases h⟩
 ·exact trodAll_mk1 (shut_bool Tryz.underlying4 true)
 ·exact trodAll_mk3 (Below.trod Tryz.laidOut kR (of_decide_eq_true kR) h0 hB hlt0) (Below.trod Tryz.laidOut kR (of_decide_eq_true kR) h1 hB hlt1) (Below.trod Tryz.laidOut kR (of_decide_eq_true kR) h2 hB hlt2)
theorem inducedLinear_j1 : (Rows.inducedLinearRow.inPlace == Tryz.pinned.checked.prog.inPlace 5) = true:=by kernel_rfl
theorem inducedLinear_j2 : (Rows.inducedLinearRow.unfollowed == Tryz.pinned.checked.prog.unfollowed 5) = true:=by kernel_rfl
theorem inducedLinear_j3 : (Rows.inducedLinearRow.recurses == Tryz.pinned.checked.prog.recurses 5) = true:=by kernel_rfl
theorem inducedLinear_j4 : (Rows.inducedLinearRow.named == Tryz.pinned.checked.prog.varsNamed 5) = true:=by kernel_rfl
theorem inducedLinear_joined : joinedFacts Tryz.pinned.checked.prog 5 Tryz.f5 Rows.inducedLinearSpec Rows.inducedLinearRow = true:=by
 unfold joinedFacts
 rw [inducedLinear_j1,inducedLinear_j2,inducedLinear_j3,inducedLinear_j4]
 kernel_rfl
theorem inducedLinear_holds : Rows.InducedLinearSaid:=
 OpenClaim.holds_of_wide 5 Tryz.f5 rfl rfl rfl rfl rfl rfl rfl ⟨rfl,rfl,rfl,rfl,rfl⟩ rfl rfl rfl rfl rfl kR Tryz.func5 inducedLinear_joined
  (of_decide_eq_true kR) (by unfold Func.isWrapper; first | (rw [if_pos (by decide +kernel)]; kernel_rfl) | (rw [if_neg (by decide +kernel)]; exact ⟨rfl,rfl⟩))
  (fun os started H enc _=>inducedLinear_lifted os started H enc)
end Go.Proofs.YtjdemlfceaikgaaGreat
