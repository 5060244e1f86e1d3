/- torsionlaw29.InducedMakes: whatever the input, it returns true, and the input reads as it did. No conditions. -/
import Derived.Test.YtjdemlfceaikgaaGreatRows
import Derived.Test.YtjdemlfceaikgaaGreatK22
import Derived.Test.YtjdemlfceaikgaaGreatK25
import Derived.Test.YtjdemlfceaikgaaGreatK26
import Derived.Test.YtjdemlfceaikgaaGreatK27
set_option linter.unusedVariables false
set_option linter.unusedSimpArgs false
set_option linter.unusedSectionVars false
namespace Go.Proofs.YtjdemlfceaikgaaGreat
open Go.RowKit
def idM (is js : List Int) (F : Int->Int->Int) : List (List Int):=is.map fun i=>js.map (F i)
theorem idM_gen (is js : List Int) (F : Int->Int->Int) : idM is js F = genM is.length js.length fun r s=>F (is.getD r 0) (js.getD s 0):=by
 unfold idM genM
 refine List.ext_getElem sI fun i h1 h2=>?_
 simp only [List.length_map] at h1
 rw [List.getElem_map,List.getElem_map,List.getElem_range]
 refine List.ext_getElem sI fun j h3 h4=>?_
 simp only [List.length_map] at h3
 rw [List.getElem_map,List.getElem_map,List.getElem_range]
 show _ = F (is.getD i 0) (js.getD j 0)
 rw [List.getD_eq_getElem?_getD,List.getD_eq_getElem?_getD,List.getElem?_eq_getElem h1,List.getElem?_eq_getElem h3]
 rfl
theorem matM_id (a b : Cx) (m : Mp) (k : Int) : matM a b m k = idM (cellsC a k) (cellsC b k) fun i=>coef (imgM m i):=rfl
end Go.Proofs.YtjdemlfceaikgaaGreat

namespace Go.Proofs.YtjdemlfceaikgaaGreat
open Go.RowKit Go.Maps
def eC : Nat:=20537200
structure CmS (a b : Cx) (m : Mp) (k : Int) : Prop where
 vl : VlOk a b m
 vr : ValR a b m
 s1 : MulSm (matM a b m k) (bdLs b k) (cellsC a k).length (cellsC b k).length (cellsC b (k - 1)).length
 s2 : MulSm (bdLs a k) (matM a b m (k - 1)) (cellsC a k).length (cellsC a (k - 1)).length (cellsC b (k - 1)).length
 pr : genM (cellsC a k).length (cellsC b (k - 1)).length (mulf (matM a b m k) (bdLs b k) (cellsC b k).length) = genM (cellsC a k).length (cellsC b (k - 1)).length (mulf (bdLs a k) (matM a b m (k - 1)) (cellsC a (k - 1)).length)
theorem len11 {c : Cx} (h : CxI 4 c) (k : Int) : (cellsC c k).length<=11:=Nat.le_trans cells_len (h.l16 oM)
structure CyS (a b : Cx) (m : Mp) (y : Ch) : Prop where
 ids : ∀f ∈ y,I64 f.1
 act : ActOk (imgM m) y/\lenA (imgM m) y<=900000
 ap : apC m y = appM m y/\apE m y = 0
 bo : ActOk (bOf b) (appM m y)
 cy : (dimC b (appM m y)).2 = 0/\bdC b (appM m y) = []
structure CpS (m n : Mp) : Prop where
 ok : MpOk n
 len : m.length<=1000000
 ids : ∀f ∈ m,∀g ∈ f.2,I64 g.1
 act : ∀f ∈ m,ActOk (imgM n) f.2/\lenA (imgM n) f.2<=900000
 er : coE m n = 0
 co : coC m n = comM m n
structure VmS (a b : Cx) (m : Mp) (e : Nat) : Prop where
 ca : CxI 4 a
 cb : CxI 4 b
 val : ValM a b m
 sz : ∀g ∈ m,nrm g.2<=2 ^ e
theorem VmS.mps {a b : Cx} {m : Mp} {e : Nat} (h : VmS a b m e) : MpS m e:=h.val.mps h.ca h.cb oM h.sz
theorem VmS.vlok {a b : Cx} {m : Mp} {e : Nat} (h : VmS a b m e) (he : e<=10000000) : VlOk a b m:=h.val.vlok h.ca h.cb oM h.sz he
theorem VmS.valR {a b : Cx} {m : Mp} {e : Nat} (h : VmS a b m e) : ValR a b m:=h.val.valR h.ca.val
theorem MdS.vms {a b : Cx} {m : Mp} (h : MdS a b m) : VmS a b m (eB + 20):=⟨h.ca,h.cb,h.val,h.sz⟩
theorem val29_ok (va vb vm : Value) (a b : Cx) (m : Mp) (e : Nat) (w : World) (ha : CpxV w va a) (hb : CpxV w vb b) (hm : MapV w vm m) (h : VmS a b m e) (he : e<=10000000) :
  Calls Tryz.prog 22 #[va,vb,vm] w fun e w'=>e = .returned (.bool true)/\Below w.heap.size w w':=by
 have hv:=h.vlok he
 refine (val29_any va vb vm a b m w ha hb hm (fun g hg=>(hv.ob g hg).1) (fun f hf=>(hv.oa f hf).1)).mono ?_
 rintro e w' ⟨q,rfl,hq,hb⟩
 obtain rfl : q = true:=hq.2 h.valR
 exact ⟨rfl,hb⟩
theorem imat_ok (va vb vm : Value) (a b : Cx) (m : Mp) (k : Int) (e : Nat) (w : World) (ha : CpxV w va a) (hb : CpxV w vb b) (hm : MapV w vm m) (h : VmS a b m e) (he : e<=10000000) (r c : Nat) (M : List (List Int)) (hr : (cellsC a k).length = r) (hc : (cellsC b k).length = c) (hM : matM a b m k = M) :
  Calls Tryz.prog 14 #[va,vb,vm,.int .i64 k] w fun e w'=>∃R C o n q,e = .returned (.tuple #[.agg #[.int .i64 R,.int .i64 C,.slice o n q],.int .i64 0])/\MatV w' (.agg #[.int .i64 R,.int .i64 C,.slice o n q]) r c M/\Below w.heap.size w w':=by
 subst hr
 subst hc
 subst hM
 refine (imatrix_any va vb vm a b m k w ha hb hm (h.vlok he)).mono ?_
 rintro e w' ⟨ok,hok,⟨_,rfl,R,C,o,n,q,rfl,h1⟩,hb⟩
 obtain rfl : ok = true:=hok.2 h.valR
 exact ⟨R,C,o,n,q,rfl,h1 rfl,hb⟩
theorem TE.set2 {ts : List TypeId} {w : World} {g : Nat} {T : TypeId} {cs : Array Value} (h : Blk w g T cs) (hT : T ∉ ts) (i j : Nat) (u v : Value) : TE ts w ((w.setCell ⟨g,i,none⟩ u).setCell ⟨g,j,none⟩ v):=fun b c t fz ht hb=>by
 have hg : b ≠ g:=by
  rintro rfl
  unfold Blk at h
  rw [h] at hb
  injection hb with hb
  injection hb with _ hb
  exact hT (hb ▸ ht)
 exact (set2_old _ _ _ _ _ _ _ hg).trans hb
theorem VecV.far2 {w : World} {b o i j n c : Nat} {u x : Value} {zs : List Int} (h : VecV w (.slice (some ⟨b,0,none⟩) n c) zs) (hb : b ≠ o) (hx : LExt w ((w.setCell ⟨o,i,none⟩ u).setCell ⟨o,j,none⟩ x)) : VecV ((w.setCell ⟨o,i,none⟩ u).setCell ⟨o,j,none⟩ x) (.slice (some ⟨b,0,none⟩) n c) zs:=by
 obtain ⟨ao,n',cap,e1,e2,e3,e4,e5⟩:=h
 refine ⟨ao,n',cap,e1,e2,e3,e4,fun hn=>?_⟩
 obtain ⟨b2,f1,hr⟩:=e5 hn
 cases e1
 cases f1
 exact ⟨b,rfl,hr.old (set2_old _ _ _ _ _ _ _ hb) hx⟩
set_option maxHeartbeats 16000000 in
set_option maxRecDepth 20000 in
theorem matrix29_any (va vb vm : Value) (a b : Cx) (m : Mp) (k : Int) (e9 : Nat) (w : World) (ha : CpxV w va a) (hb : CpxV w vb b) (hm : MapV w vm m) (h : VmS a b m e9) (he : e9<=10000000) (R C : Nat) (M : List (List Int)) (hr : (cellsC a k).length = R) (hc : (cellsC b k).length = C) (hM : matM a b m k = M) :
  Calls Tryz.prog 15 #[.agg #[va,vb],vm,.int .i64 k] w fun e w'=>∃R' C' o n q,e = .returned (.tuple #[.agg #[.int .i64 R',.int .i64 C',.slice o n q],.int .i64 0])/\MatV w' (.agg #[.int .i64 R',.int .i64 C',.slice o n q]) R C M/\Below w.heap.size w w':=by
 obtain ⟨ao,ac,rfl,-,-⟩:=id ha.shape
 obtain ⟨bo,bc,rfl,-,-⟩:=id hb.shape
 obtain ⟨mo,mc,rfl,-,-⟩:=id hm.shape
 obtain ⟨na,hna⟩ : ∃n,a.length = n:=⟨_,rfl⟩
 obtain ⟨nb,hnb⟩ : ∃n,b.length = n:=⟨_,rfl⟩
 obtain ⟨nm,hnm⟩ : ∃n,m.length = n:=⟨_,rfl⟩
 have hR11 : R<=11:=by rw [<-hr]; exact len11 h.ca k
 have hC11 : C<=11:=by rw [<-hc]; exact len11 h.cb k
 have HLA : HidS (a.length<=1000000/\b.length<=1000):=⟨by have:=h.ca.l16 oM; omega,by have:=h.cb.l16 oM; omega⟩
 rw [hna] at ha ⊢
 rw [hnb] at hb ⊢
 rw [hnm] at hm ⊢
 obtain ⟨F,hF⟩ : ∃F : Nat->Nat->Int,(fun r s=>coef (imgM m ((cellsC a k).getD r 0)) ((cellsC b k).getD s 0)) = F:=⟨_,rfl⟩
 have HFM : HidS (genM R C F = M):=⟨by rw [<-hF,<-hM,matM_id,idM_gen,hr,hc]⟩
 have HFE:=HidS.mk (fun r s=>congrFun (congrFun hF.symm r) s)
 have HAV:=HidS.mk ha
 have HBV:=HidS.mk hb
 have HMV:=HidS.mk hm
 have HOK:=HidS.mk h
 have HRR:=HidS.mk hr
 have HCC:=HidS.mk hc
 have HE9:=HidS.mk he
 clear ha hb hm h hr hc hM hF he hna hnb hnm
 go_enter Tryz.func15,Tryz.ntmps15
 go_upto_region 1 with (fail)
 refine wp_world ?_
 intro W0 hW0
 obtain ⟨hB0,T3,T6,hs0⟩:=world2 hW0
 have HT3:=HidS.mk T3
 have HT6:=HidS.mk T6
 have HAV:=HidS.mk (HAV.out.below hB0)
 have HBV:=HidS.mk (HBV.out.below hB0)
 have HMV:=HidS.mk (HMV.out.below hB0)
 obtain ⟨c1,c2,c3,c4⟩:=T3.two
 clear hW0 T3 T6
 go_wp2_with fail
 refine (val29_ok _ _ _ a b m _ W0 HAV.out HBV.out HMV.out HOK.out HE9.out).mono ?_
 rintro e w1 ⟨rfl,hb1⟩
 clear c1 c2 c3 c4
 obtain ⟨c1,c2,c3,c4⟩:=(HT3.out.below hb1).two
 go_wp2_with fail
 refine (ccells_any _ a k w1 (HAV.out.below hb1) HLA.out.1).mono ?_
 rintro e w2 ⟨u2,rfl,h2,hb2⟩
 obtain ⟨io,iq,rfl⟩:=LsO.shape h2
 rw [HRR.out] at h2 ⊢
 have HI:=HidS.mk h2.vs
 have hB2:=nx hb1 hb2
 clear c1 c2 c3 c4 h2 hb1 hb2
 obtain ⟨c1,c2,c3,c4⟩:=(HT3.out.below hB2).two
 go_wp2_with fail
 refine (ccells_any _ b k w2 (HBV.out.below hB2) (by have:=HLA.out; omega)).mono ?_
 rintro e w3 ⟨u3,rfl,h3,hb3⟩
 obtain ⟨jo,jq,rfl⟩:=LsO.shape h3
 rw [HCC.out]
 have HI:=HidS.mk (HI.out.below hb3)
 have hB3:=nx hB2 hb3
 clear c1 c2 c3 c4 h3 hb3 hB2
 go_wp2_with fail
 refine (r5new_any R C w3 oM oM).mono ?_
 rintro e w4 ⟨u,bs,rfl,⟨hbl,A2,rfl,ho⟩,hb4⟩
 obtain ⟨oo,on,oc,rfl,e2,e3,-,-⟩:=id ho.rows
 have hlts:=ho.lts
 go_upto_region 5 with (fail)
 refine wp_world ?_
 intro W5 hW5
 obtain ⟨hB5,T9,hs5⟩:=world1 hW5
 have ho:=ho.below hB5
 rw [upTo_start R C F] at ho
 have hB5:=nx hb4 hB5
 have hq9 : w3.heap.size<=w4.heap.size:=hb4.size
 have HI:=HidS.mk (HI.out.below hB5)
 obtain ⟨q9,hq⟩ : ∃q,w4.heap.size = q:=⟨_,rfl⟩
 rw [hq] at T9 hq9 hs5 ⊢
 have HLT:=HidS.mk hlts
 have hbsl : HidS (∀(i b : Nat),bs[i]? = some b->b < q9):=⟨fun i b hb=>by have:=hlts i b hb; omega⟩
 have hst : HidS (Blk W5 q9 41 #[.int .i64 R,.int .i64 C,.slice oo on oc]/\RowsO W5 w3.heap.size (.slice oo on oc) C bs (genM R C (upTo F 0 0))/\TE [tInt] W5 W5):=⟨T9,ho,TE.refl _ _⟩
 clear hW5 T9 ho hb4 hq hlts HLT e2 e3
 go_wp2
 go_loopw [10,11,12,13,14] (fun iv _ _ _ _ wr=>∃i : Nat,i<=R/\iv = .int .i64 i/\HidS (Blk wr q9 41 #[.int .i64 R,.int .i64 C,.slice oo on oc]/\RowsO wr w3.heap.size (.slice oo on oc) C bs (genM R C (upTo F i 0))/\TE [tInt] W5 wr)/\Below w3.heap.size w3 wr/\q9 < wr.heap.size) (fun iv _ _ _ _ _=>R - (intOf iv).toNat)
 case atStart=>exact ⟨0,by omega,rfl,hst,hB5,hs5⟩
 case round=>
  clear hst hB5
  obtain ⟨i,hi,rfl,hS,hB,hsz⟩:=hrel
  by_cases hlt : i < R
  ·obtain ⟨id0,hid⟩:=lt_get HRR.out hlt
   have hidg : HidS ((cellsC a k).getD i 0 = id0):=⟨by rw [List.getD_eq_getElem?_getD,hid]; rfl⟩
   have hBW:=nx hB3 hB
   have hdc : HidS ((dimC b (imgM m id0)).2 = 0/\(imgM m id0 ≠ []->(dimC b (imgM m id0)).1 = k)/\ValC (imgM m id0)/\(imgM m id0).length<=1000000):=⟨by
    obtain ⟨f,h1,h2,h3⟩:=cellsC_mem.1 (List.mem_of_getElem? hid)
    have h4:=HOK.out.val.dim f h1
    rw [h2,h3] at h4
    have h5:=HOK.out.mps.len id0
    exact ⟨(dimC_hom h4).1,(dimC_hom h4).2,imgM_val HOK.out.val.prp _,by omega⟩⟩
   obtain ⟨b2,rfl,hb2i,g1⟩:=(LsV.te HI.out hS.out.2.2).int hid
   clear hid
   go_wp2_with fail
   refine (mfind_any _ m id0 wr (HMV.out.below hBW)).mono ?_
   rintro e w6 ⟨_,rfl,⟨o6,n6,k6,rfl,h6⟩,hb6⟩
   have H6:=HidS.mk h6
   have hB6:=nx hB hb6
   obtain ⟨c1,c2,c3,c4⟩:=(HT3.out.below (nx hB3 hB6)).two
   obtain ⟨fl,hfl⟩ : ∃t,(findM m id0).isSome = t:=⟨_,rfl⟩
   rw [hfl]
   clear h6 g1 hfl
   go_wp2_with fail
   refine (row26_own _ _ b k (imgM m id0) w6 (HBV.out.below (nx hB3 hB6)) H6.out hdc.out.2.2.1 hdc.out.1 hdc.out.2.1 HLA.out.2 hdc.out.2.2.2).mono ?_
   rintro e w7 ⟨u7,rfl,h7,hb7⟩
   obtain ⟨zs,hzs⟩ : ∃z,(cellsC b k).map (coef (imgM m id0)) = z:=⟨_,rfl⟩
   have HZS:=HidS.mk hzs
   rw [hzs] at h7
   have hzl : zs.length = C:=by rw [<-hzs,List.length_map,HCC.out]
   obtain ⟨o7,k7,rfl⟩:=LsO.shape h7
   rw [hzl] at h7 ⊢
   have HOW : HidS (∀g,(Value.slice o7 C k7).ownBlock = some g->w6.heap.size<=g):=⟨fun g hg=>(h7.own g hg).1⟩
   have H7:=HidS.mk h7.vs.vec
   have HZL:=HidS.mk hzl
   have hB67:=nx hb6 hb7
   have hB7:=nx hB hB67
   have hst2 : HidS (Blk w7 q9 41 #[.int .i64 R,.int .i64 C,.slice oo on oc]/\RowsO w7 w3.heap.size (.slice oo on oc) C bs (genM R C (upTo F i 0))/\TE [tInt] W5 w7/\VecV w7 (.slice o7 C k7) zs):=⟨hS.out.1.below hB67,hS.out.2.1.below hB67,hS.out.2.2.trans (TE.below hB67 (Nat.le_refl _)),H7.out⟩
   have hsz7 : q9 < w7.heap.size:=by have:=hB67.size; omega
   have hsz6 : q9 < w6.heap.size:=by have:=hb6.size; omega
   clear h7 c1 c2 c3 c4 hS hzs hzl hB67 hb6 hb7 H6
   go_wp2
   go_loopw [14] (fun jv wr=>∃j : Nat,j<=C/\jv = .int .i64 j/\HidS (Blk wr q9 41 #[.int .i64 R,.int .i64 C,.slice oo on oc]/\RowsO wr w3.heap.size (.slice oo on oc) C bs (genM R C (upTo F i j))/\TE [tInt] W5 wr/\VecV wr (.slice o7 C k7) zs)/\Below w3.heap.size w3 wr/\q9 < wr.heap.size) (fun jv _=>C - (intOf jv).toNat)
   case atStart=>exact ⟨0,by omega,rfl,hst2,hB7,hsz7⟩
   case round=>
    clear hst2 hB7 hsz7
    obtain ⟨j,hj,rfl,hS,hB,hsz⟩:=hrel
    by_cases hjc : j < C
    ·obtain ⟨b',z,s,a',l,c,rfl,hbl',hzk,q1,q2',hzv⟩:=hS.out.2.2.2.cell (k:=j) (by rw [HZL.out]; exact hjc)
     have hb'6 : w6.heap.size<=b':=HOW.out b' rfl
     have hbi : i < bs.length:=by omega
     obtain ⟨g,bo',rfl,hg,hbo,hbo2,o1,hon⟩:=hS.out.2.1.at_ (i:=i) hbi
     have hbq:=hbsl.out i bo' hbo
     have hio : i < on:=by omega
     have hzF : HidS (z = F i j):=⟨by
      rw [HFE.out,hidg.out]
      have h1:=hzk
      rw [<-HZS.out,List.getElem?_map] at h1
      rcases hjd : (cellsC b k)[j]? with _ | jd
      ·rw [hjd] at h1; cases h1
      ·rw [hjd] at h1
       rw [List.getD_eq_getElem?_getD,hjd]
       exact (Option.some.inj h1).symm⟩
     have HV:=HidS.mk hzv
     obtain ⟨f1,f2,f3,f4,f5,f6⟩:=hS.out.1.three
     have HBO:=HidS.mk hbo
     clear hzk hzv hon hbo
     go_upto_region 13 with (fail)
     refine wp_serH 11 [] ?_
     refine sRd ?_
     refine sRf ?_
     intro w9 hb9
     have ho9:=hS.out.2.1.below hb9
     obtain ⟨sn,sa,sl,sc,z1,z2,z3,z4,-⟩:=ho9.cellAt HBO.out hjc
     have hset:=ho9.set HBO.out hjc (HV.out.ext (lx hb9))
     have HSET:=HidS.mk hset
     have HBK : HidS (∃cs,Blk w9 bo' tI cs):=⟨by
      have hiM : i < (genM R C (upTo F i j)).length:=by unfold genM; rw [List.length_map,List.length_range]; exact hlt
      obtain ⟨_,_,cs,g1,-⟩:=ho9.row i bo' _ HBO.out (List.getElem?_eq_getElem hiM)
      exact ⟨cs,g1⟩⟩
     have hB9:=nx hB hb9
     have hs9:=hb9.size
     have HS9:=HidS.mk (And.intro (hS.out.1.below hb9) (And.intro (hS.out.2.2.1.trans (TE.below hb9 (Nat.le_refl _))) (hS.out.2.2.2.below hb9)))
     clear f1 f2 f3 f4 f5 f6 q1 q2' o1 hset hS ho9
     go_wp2
     go_roundw
     case rel=>
      have hq:=HSET.out
      rw [hzF.out,upTo_step hlt hjc] at hq
      refine ⟨j + 1,by omega,by simp,⟨(set2_old _ _ _ _ _ _ _ oM).trans HS9.out.1,hq.1,?_,?_⟩,bset (bset hB9 oM _ _) oM _ _,by simp; omega⟩
      ·obtain ⟨cs,hcs⟩:=HBK.out
       exact HS9.out.2.1.trans (TE.set2 hcs dE _ _ _ _)
      ·exact HS9.out.2.2.far2 oM HSET.out.2.1
     case measure=>simp [intOf]; omega
    ·obtain rfl : C = j:=by omega
     rw [upTo_row] at hS
     go_wp2
     go_roundw
     case rel=>exact ⟨i + 1,by omega,by simp,⟨hS.out.1,hS.out.2.1,hS.out.2.2.1⟩,hB,hsz⟩
     case measure=>simp [intOf]; omega
  ·obtain rfl : R = i:=by omega
   rw [upTo_end] at hS
   obtain ⟨f1,f2,f3,f4,f5,f6⟩:=hS.out.1.three
   have TT:=HT6.out.below (nx hB3 hB)
   obtain ⟨d1,d2,d3,d4,d5,d6⟩:=TT.three
   have hBB:=nx hB0 (nx hB3 hB)
   have hq0:=hB0.size
   have hq3:=hB3.size
   go_wp2
   refine bodyPost_ret (results_mt rfl _ rfl (TT.put3 _ _ _) rfl) rfl ⟨_,_,_,_,_,rfl,⟨_,rfl,?_⟩,bset (bset (bset hBB oM 0 _) oM 1 _) oM 2 _⟩
   rw [<-HFM.out]
   exact (hS.out.2.1.keep (fun k hk=>set3_old _ _ k _ _ _ oM) (TT.lext3 dE _ _ _)).rows
theorem MdP.inc {a b : Cx} {m : Mp} (h : MdP a b m) : VmS a b (incM a) 0:=by
 have hs:=h.mds
 obtain ⟨hc,k,n,l,hk,hn,rfl,rfl⟩:=h
 exact ⟨hs.ca,hs.cb,inc_val hc.val k,fun g hg=>by
  obtain ⟨f,-,rfl⟩:=List.mem_map.1 hg
  exact Nat.le_refl _⟩
structure MkS (m : Mp) (y : Ch) : Prop where
 iy : ∀f ∈ y,I64 f.1
 ay : ActOk (imgM m) y/\lenA (imgM m) y<=900000
 er : apE m y = 0
theorem mk_ok {a b : Cx} {m : Mp} {e : Nat} (h : VmS a b m e) (he : e<=10000000) (d : Int) (l : List Int) : MkS m (combC a d l):=by
 obtain ⟨y1,y2,y3,y4⟩:=comb_ok h.ca d l
 exact ⟨hom_ids (h.ca.i64 oM) y2,h.mps.act he y3 oM oM,(apC_has (h.val.has y2)).2⟩
set_option maxHeartbeats 16000000 in
set_option maxRecDepth 20000 in
theorem inducedMakes_any (s A : Nat) (N : Int) (v lv v1 : Value) (n0 : Int) (L : List Q4) (l l1 : List Int) (w : World) (hs : s<=255) (hA : A<=255) (hN : -128<=N/\N<=127) (h : QdV w v L) (hl : I8V w lv l) (h1 : I8V w v1 l1) (hn0 : -128<=n0) (hn1 : n0<=127) :
  Calls Tryz.prog 3 #[.agg #[.int .u8 s,v,.int .u8 A,.int .i8 N,lv],v1,.int .i8 n0] w fun e w'=>e = .returned (.bool true)/\Below w.heap.size w w':=by
 obtain ⟨qo,qn,qc,rfl,-⟩:=id h
 obtain ⟨lo,ln,lc,rfl,-⟩:=id hl
 have H:=HidS.mk h
 have HL:=HidS.mk hl
 obtain ⟨lo1,ln1,lc1,rfl,-⟩:=id h1
 have H1:=HidS.mk h1
 obtain ⟨d,hd⟩ : ∃t,n0.tmod 4 = t:=⟨_,rfl⟩
 have hdb : -3<=d/\d<=3:=by
  rw [<-hd]
  rcases Int.lt_or_le n0 0 with hz0 | hz0
  ·have h1 : n0.tmod 4 = -((-n0) % 4):=by rw [<-Int.neg_neg n0,Int.neg_tmod,Int.tmod_eq_emod_of_nonneg oM,Int.neg_neg]
   omega
  ·rw [Int.tmod_eq_emod_of_nonneg hz0]; omega
 have hw8 : IntKind.i8.wrap d = d:=IntWalk.i8_in _ oM
 have hw64 : IntKind.i64.wrap d = d:=IntWalk.i64_in _ oM
 have HD:=HidS.mk (And.intro hd (And.intro hw8 hw64))
 clear h hl h1 hd hw8 hw64
 go_enter Tryz.func3,Tryz.ntmps3
 go_upto_region 1 with (fail)
 refine wp_world ?_
 intro W0 hW0
 obtain ⟨hB0,T5,hs0⟩:=world1 hW0
 have HT5:=HidS.mk T5
 have H:=HidS.mk (H.out.below hB0)
 have HL:=HidS.mk (HL.out.below hB0)
 clear hW0 T5
 go_wp2_with fail
 refine (sanity29_any W0).mono ?_
 rintro e w1 ⟨rfl,hb1⟩
 have H:=HidS.mk (H.out.below hb1)
 have HL:=HidS.mk (HL.out.below hb1)
 have T5:=HT5.out.below hb1
 have d0:=T5.cell 0
 have d1:=T5.cell 1
 have d2:=T5.cell 2
 have d3:=T5.cell 3
 have d4:=T5.cell 4
 simp at d0 d1 d2 d3 d4
 clear T5
 go_wp2_with fail
 refine (md29_any s A N _ _ L l w1 hs hA hN H.out HL.out).mono ?_
 rintro e w2 ⟨_,rfl,⟨a,b,m,va,vb,vm,rfl,hP,ha,hb,hm⟩,hb2⟩
 have HMD:=HidS.mk hP.mds.vms
 have HINC:=HidS.mk hP.inc
 obtain ⟨ao,ac,rfl,-,-⟩:=LsV.shape ha
 obtain ⟨bo,bc,rfl,-,-⟩:=LsV.shape hb
 obtain ⟨mo,mc,rfl,-,-⟩:=LsV.shape hm
 have HAV:=HidS.mk ha
 have HBV:=HidS.mk hb
 have HMV:=HidS.mk hm
 have hBB:=nx (nx hB0 hb1) hb2
 clear d0 d1 d2 d3 d4 hP ha hb hm
 have H1:=HidS.mk (H1.out.below hBB)
 obtain ⟨hd,hw8,hw64⟩:=HD.out
 obtain ⟨r,hr⟩ : ∃t,(cellsC a d).length = t:=⟨_,rfl⟩
 obtain ⟨c,hc⟩ : ∃t,(cellsC b d).length = t:=⟨_,rfl⟩
 obtain ⟨M,hM⟩ : ∃t,matM a b m d = t:=⟨_,rfl⟩
 have HE:=HidS.mk (And.intro hr (And.intro hc hM))
 have HCL : HidS (a.length<=16/\a.length<=1000000/\a.length<=1000):=⟨by have:=HMD.out.ca.l16 oM; omega⟩
 clear hr hc hM
 go_upto_region 4 with (fail)
 clear hd hw8 hw64
 go_wp2_with fail
 refine (ivalid_any _ _ _ a b m w2 HAV.out HBV.out HMV.out (HMD.out.vlok dE)).mono ?_
 rintro e w3 ⟨q,rfl,hq,hb3⟩
 obtain rfl : q = true:=hq.2 HMD.out.valR
 have hB3:=hb3
 clear hq hb3
 go_wp2_with fail
 refine (iincl_any _ a w3 (HAV.out.below hB3) HCL.out.2.1).mono ?_
 rintro e w4 ⟨u4,rfl,h4,hb4⟩
 obtain ⟨o4,k4,rfl,-,-⟩:=LsV.shape h4
 have H4:=HidS.mk h4
 have hB4:=nx hB3 hb4
 clear h4 hb4
 go_wp2_with fail
 refine (incl29_any _ a w4 (HAV.out.below hB4) HCL.out.2.2).mono ?_
 rintro e w5 ⟨u5,rfl,h5,hb5⟩
 obtain ⟨o5,k5,rfl,-,-⟩:=LsV.shape h5
 have H5:=HidS.mk h5
 have H4:=HidS.mk (H4.out.below hb5)
 have hB5:=nx hB4 hb5
 clear h5 hb5
 go_wp2_with fail
 refine (msame_any _ _ _ _ w5 H4.out H5.out).mono ?_
 rintro e w6 ⟨rfl,hb6⟩
 rw [decide_eq_true rfl]
 have hB6:=nx hB5 hb6
 clear hb6 H4 H5
 go_wp2_with fail
 refine (incl29_any _ a w6 (HAV.out.below hB6) HCL.out.2.2).mono ?_
 rintro e w7 ⟨u7,rfl,h7,hb7⟩
 obtain ⟨o7,k7,rfl,-,-⟩:=LsV.shape h7
 have H7:=HidS.mk h7
 have hB7:=nx hB6 hb7
 clear h7 hb7
 go_wp2_with fail
 refine (ivalid_any _ _ _ a b (incM a) w7 (HAV.out.below hB7) (HBV.out.below hB7) H7.out (HINC.out.vlok dE)).mono ?_
 rintro e w8 ⟨q,rfl,hq,hb8⟩
 obtain rfl : q = true:=hq.2 HINC.out.valR
 have hB8:=nx hB7 hb8
 clear hq hb8 H7
 go_wp2_with fail
 refine (imat_ok _ _ _ a b m d _ w8 (HAV.out.below hB8) (HBV.out.below hB8) (HMV.out.below hB8) HMD.out dE r c M HE.out.1 HE.out.2.1 HE.out.2.2).mono ?_
 rintro e w9 ⟨R9,C9,o9,n9,q9,rfl,h9,hb9⟩
 have H9:=HidS.mk h9
 have hB9:=nx hB8 hb9
 clear h9 hb9
 go_upto_region 7 with (fail)
 refine wp_world ?_
 intro W9 hW9
 obtain ⟨hb9,T9,hs9⟩:=world1 hW9
 have HT9:=HidS.mk T9
 have H9:=HidS.mk (H9.out.below hb9)
 have hB9:=nx hB9 hb9
 clear hW9 T9 hb9
 go_wp2_with fail
 refine (matrix29_any _ _ _ a b m d _ W9 (HAV.out.below hB9) (HBV.out.below hB9) (HMV.out.below hB9) HMD.out dE r c M HE.out.1 HE.out.2.1 HE.out.2.2).mono ?_
 rintro e w11 ⟨R11,C11,o11,n11,q11,rfl,h11,hb11⟩
 have H11:=HidS.mk h11
 have H9:=HidS.mk (H9.out.below hb11)
 have HT9:=HidS.mk (HT9.out.below hb11)
 have hB11:=nx hB9 hb11
 clear h11 hb11
 go_upto_region 8 with (fail)
 refine wp_world ?_
 intro W12 hW12
 obtain ⟨hb12,T11,hs11⟩:=world1 hW12
 have HT11:=HidS.mk T11
 have H9:=HidS.mk (H9.out.below hb12)
 have H11:=HidS.mk (H11.out.below hb12)
 have HT9:=HidS.mk (HT9.out.below hb12)
 have hBz:=nx hB11 hb12
 clear hW12 T11 hb12
 obtain ⟨dm,hdm⟩ : ∃t,max d 0 = t:=⟨_,rfl⟩
 obtain ⟨y,hy⟩ : ∃t,combC a dm l1 = t:=⟨_,rfl⟩
 have HMK:=HidS.mk (mk_ok HMD.out dE dm l1)
 rw [hy] at HMK
 have HY:=HidS.mk hy
 have HDM:=HidS.mk hdm
 clear hy hdm
 go_wp2_with fail
 rw [HDM.out]
 refine (comb_any _ _ a dm l1 _ (HAV.out.below hBz) (H1.out.below hBz) HCL.out.1).mono ?_
 rintro e w13 ⟨u13,rfl,h13,hb13⟩
 rw [HY.out] at h13
 obtain ⟨o13,k13,rfl,-,-⟩:=LsV.shape h13
 have H13:=HidS.mk h13
 have hB13:=nx hBz hb13
 have HT9:=HidS.mk (HT9.out.below hb13)
 have HT11:=HidS.mk (HT11.out.below hb13)
 have H9:=HidS.mk (H9.out.below hb13)
 have H11:=HidS.mk (H11.out.below hb13)
 clear h13 hb13
 go_wp2_with fail
 refine (iapply_any _ _ m y w13 (HMV.out.below hB13) H13.out HMD.out.mps.ok HMK.out.iy HMK.out.ay.1 HMK.out.ay.2).mono ?_
 rintro e w14 ⟨_,rfl,⟨o14,n14,k14,rfl,h14⟩,hb14⟩
 rw [HMK.out.er]
 have H14:=HidS.mk h14
 have H13:=HidS.mk (H13.out.below hb14)
 have hB14:=nx hB13 hb14
 have H9:=HidS.mk (H9.out.below hb14)
 have H11:=HidS.mk (H11.out.below hb14)
 obtain ⟨k1,k2,k3,k4,k5,k6⟩:=(HT9.out.below hb14).three
 obtain ⟨l1',l2,l3,l4,l5,l6⟩:=(HT11.out.below hb14).three
 clear h14 hb14 HT9 HT11
 go_wp2_with fail
 refine (same_any _ _ r c r c M M w14 H9.out H11.out).mono ?_
 rintro e w15 ⟨rfl,hb15⟩
 rw [decide_eq_true (⟨rfl,rfl,rfl⟩ : (r : Int) = r/\(c : Int) = c/\M = M)]
 have H13:=HidS.mk (H13.out.below hb15)
 have H14:=HidS.mk (H14.out.below hb15)
 have hB15:=nx hB14 hb15
 clear hb15 H9 H11 k1 k2 k3 k4 k5 k6 l1' l2 l3 l4 l5 l6
 go_wp2_with fail
 refine (image29_any _ _ m y w15 (HMV.out.below hB15) H13.out HMK.out.ay.1).mono ?_
 rintro e w16 ⟨u16,rfl,h16,hb16⟩
 obtain ⟨o16,k16,rfl,-,-⟩:=LsV.shape h16
 have H16:=HidS.mk h16
 have H14:=HidS.mk (H14.out.below hb16)
 have hB16:=nx hB15 hb16
 clear h16 hb16 H13
 go_wp2_with fail
 refine (csame_any _ _ _ _ w16 H14.out H16.out).mono ?_
 rintro e w17 ⟨rfl,hb17⟩
 rw [decide_eq_true rfl]
 have hBZ:=nx hBB (nx hB16 hb17)
 clear hb17 H14 H16
 go_wp2
 go_ret
 exact ⟨rfl,hBZ⟩
end Go.Proofs.YtjdemlfceaikgaaGreat

namespace Go.Proofs.YtjdemlfceaikgaaGreat
open Go.ChangeShapes Go.WideShapes Go.ChangeAt Go.RowKit
set_option maxRecDepth 100000 in
theorem open_sb9 {H : Type} {enc : TypeId × Value->H} {w : World} {b0 : Nat} {r : Reach} {v : Value} {d : DataW H} {ps : List MemPlace} (hval : Value.okWide Tryz.prog w r b0 25 v)
  (h : DataW.Trod enc Tryz.prog w 0 (fun _=>true) true 25 v d ps) : ∃n : Int,v = .int .i8 n/\-128<=n/\n<=127:=by
 obtain ⟨z,rfl⟩:=okWide_int Tryz.underlying25 hval
 obtain ⟨fuel,hf⟩:=h
 obtain ⟨a,ha,-,wa⟩:=DataW.trod_int Tryz.underlying25 hf
 simp [Value.cells] at ha
 subst ha
 exact ⟨z,rfl,bounds_i8 wa⟩
set_option maxRecDepth 100000 in
theorem inducedMakes_lifted (os : Os) (started : os.Started) (H : Type) (enc : TypeId × Value->H) :
  ReturnsInHanded {} Tryz.checked os 3 .any (Rows.inducedMakesSpec.pre6 enc Tryz.prog Tryz.f3 Rows.inducedMakesRow.domain false) (Rows.inducedMakesSpec.post enc Tryz.prog Tryz.f3 false true false false):=by
 refine returnsInHanded_of_change (C:=Tryz.checked) Tryz.own started kR Tryz.func3
  (ChangeSpec.witness6 (enc:=enc) (C:=Tryz.checked) false ⟨#[],#[.agg #[.int .u8 0,.slice none 0 0,.int .u8 0,.int .i8 0,.slice none 0 0],.slice none 0 0,.int .i8 0],[]⟩ 8 kR kR kR kR) ?_
 intro W base args ds gs before hval0 hW hcnd _
 have hval : ∀(j : Nat) t v,Tryz.f3.params[j]? = some t->args[j]? = some v->Value.okWide Tryz.prog W .any base t v:=hval0
 have hW':=hW
 obtain ⟨p,q,hA0,hV,rfl,hfz,hnd⟩:=hW
 have hA : DataW.TrodAll enc Tryz.prog W 0 (fun _=>true) true Tryz.f3.params.toList args.toList ds p:=hA0
 rw [Tryz.params3] at hA hval
 obtain ⟨v0,v1,v2,d0,d1,d2,p0,p1,p2,rfl,rfl,rfl,h0,h1,h2⟩:=trodAll_three hA
 obtain ⟨rfl,rfl⟩:=trodVars_none hV
 clear hA0 hval0
 simp only [List.append_nil] at hW'
 have hlt0 : ∀x ∈ p0,x.block < W.heap.size:=fun x hx=>hW'.lt x (by simp [hx])
 have hlt1 : ∀x ∈ p1,x.block < W.heap.size:=fun x hx=>hW'.lt x (by simp [hx])
 have hlt2 : ∀x ∈ p2,x.block < W.heap.size:=fun x hx=>hW'.lt x (by simp [hx])
 obtain ⟨s,A,N,sv,lv,L,l,rfl,hs9,hA9,hN9,hI9,hl9⟩:=open_raw29 (hval 0 28 v0 rfl rfl) h0 hlt0
 obtain ⟨ls1,hI1⟩:=open_i8v (hval 1 26 v1 rfl rfl) h1 hlt1
 obtain ⟨n2,rfl,hn2,hm2⟩:=open_sb9 (hval 2 25 v2 rfl rfl) h2
 refine (inducedMakes_any s A N sv lv v1 n2 L l ls1 W hs9 hA9 hN9 hI9 hl9 hI1 hn2 hm2).mono fun e W' ⟨he,hB⟩=>?_
 subst he
 refine ⟨_,rfl,_,_,_,[],p0 ++ (p1 ++ p2),[],hW',?_,?_,rfl,hB.frame _,fun h=>by cases h⟩
 ·exact trodAll_mk1 (shut_bool Tryz.underlying4 true)
 ·exact trodAll_mk3 (Below.trod Tryz.laidOut kR (of_decide_eq_true kR) h0 hB hlt0) (Below.trod Tryz.laidOut kR (of_decide_eq_true kR) h1 hB hlt1) (Below.trod Tryz.laidOut kR (of_decide_eq_true kR) h2 hB hlt2)
theorem inducedMakes_j1 : (Rows.inducedMakesRow.inPlace == Tryz.pinned.checked.prog.inPlace 3) = true:=by kernel_rfl
theorem inducedMakes_j2 : (Rows.inducedMakesRow.unfollowed == Tryz.pinned.checked.prog.unfollowed 3) = true:=by kernel_rfl
theorem inducedMakes_j3 : (Rows.inducedMakesRow.recurses == Tryz.pinned.checked.prog.recurses 3) = true:=by kernel_rfl
theorem inducedMakes_j4 : (Rows.inducedMakesRow.named == Tryz.pinned.checked.prog.varsNamed 3) = true:=by kernel_rfl
theorem inducedMakes_joined : joinedFacts Tryz.pinned.checked.prog 3 Tryz.f3 Rows.inducedMakesSpec Rows.inducedMakesRow = true:=by
 unfold joinedFacts
 rw [inducedMakes_j1,inducedMakes_j2,inducedMakes_j3,inducedMakes_j4]
 kernel_rfl
theorem inducedMakes_holds : Rows.InducedMakesSaid:=
 OpenClaim.holds_of_wide 3 Tryz.f3 rfl rfl rfl rfl rfl rfl rfl ⟨rfl,rfl,rfl,rfl,rfl⟩ rfl rfl rfl rfl rfl kR Tryz.func3 inducedMakes_joined
  (of_decide_eq_true kR) (by unfold Func.isWrapper; first | (rw [if_pos (by decide +kernel)]; kernel_rfl) | (rw [if_neg (by decide +kernel)]; exact ⟨rfl,rfl⟩))
  (fun os started H enc _=>inducedMakes_lifted os started H enc)
end Go.Proofs.YtjdemlfceaikgaaGreat
