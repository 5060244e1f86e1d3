/- Matrices of chain maps and boundaries: their products. torsionlaw29.InducedCommutes. -/
import Derived.Test.YtjdemlfceaikgaaGreatK25
import Derived.Test.YtjdemlfceaikgaaGreatK26
import Derived.Test.YtjdemlfceaikgaaGreatK27
set_option linter.unusedVariables false
set_option linter.unusedSimpArgs false
set_option linter.unusedSectionVars false
namespace Go.Proofs.YtjdemlfceaikgaaGreat
open Go.RowKit
theorem cells_srt {c : Cx} (hs : c.Pairwise fun a b=>a.1 < b.1) (k : Int) : (cellsC c k).Pairwise (· < ·):=by
 unfold cellsC
 exact List.pairwise_map.2 (List.Pairwise.sublist List.filter_sublist hs)
theorem cells_inj {c : Cx} (hs : c.Pairwise fun a b=>a.1 < b.1) {k : Int} {s t : Nat} (h1 : s < (cellsC c k).length) (h2 : t < (cellsC c k).length) (e : (cellsC c k).getD s 0 = (cellsC c k).getD t 0) : s = t:=by
 have key : ∀{s t : Nat},s < t->t < (cellsC c k).length->(cellsC c k).getD s 0 < (cellsC c k).getD t 0:=fun {s t} h1 h2=>by
  rw [List.getD_eq_getElem?_getD,List.getD_eq_getElem?_getD,List.getElem?_eq_getElem oM,List.getElem?_eq_getElem h2]
  exact List.pairwise_iff_getElem.1 (cells_srt hs k) s t oM h2 h1
 rcases Nat.lt_trichotomy s t with h | h | h
 ·have:=key h h2; omega
 ·exact h
 ·have:=key h h1; omega
theorem lin_ids {c : Cx} (hs : c.Pairwise fun a b=>a.1 < b.1) {k : Int} {g : Int->Int} : ∀{x : Ch},HomD c k x->(sumN (cellsC c k).length fun t=>coef x ((cellsC c k).getD t 0) * g ((cellsC c k).getD t 0)) = lin g x:=by
 intro x
 induction x with
 | nil=>
  intro _
  exact sumN_zero fun t _=>by unfold coef; simp [lin]
 | cons p x ih=>
  intro hx
  obtain ⟨n,hn,e⟩ : ∃n,n < (cellsC c k).length/\(cellsC c k).getD n 0 = p.1:=by
   obtain ⟨q,h1,h2⟩:=hx p List.mem_cons_self
   obtain ⟨h3,h4⟩:=findC_mem h1
   obtain ⟨n,hn,h5⟩:=List.getElem_of_mem (cellsC_mem.2 ⟨q,h3,h4,h2⟩)
   exact ⟨n,hn,by rw [List.getD_eq_getElem?_getD,List.getElem?_eq_getElem hn]; exact h5⟩
  simp only [lin]
  rw [<-ih fun f hf=>hx f (List.mem_cons_of_mem _ hf),<-e]
  have e2 : ∀t,coef (p :: x) ((cellsC c k).getD t 0) * g ((cellsC c k).getD t 0) = (if (cellsC c k).getD t 0 = (cellsC c k).getD n 0 then p.2 * g ((cellsC c k).getD t 0) else 0) + coef x ((cellsC c k).getD t 0) * g ((cellsC c k).getD t 0):=fun t=>by
   unfold coef
   simp only [lin]
   rw [Int.add_mul]
   congr 1
   split
   ·rename_i e3; rw [show dl ((cellsC c k).getD t 0) p.1 = 1 by simp only [dl]; rw [if_pos oM],Int.mul_one]
   ·rename_i e3; rw [show dl ((cellsC c k).getD t 0) p.1 = 0 by simp only [dl]; rw [if_neg oM],Int.mul_zero,Int.zero_mul]
  rw [sumN_congr fun t _=>e2 t,sumN_add]
  congr 1
  rw [sumN_one (c:=n) hn fun t ht hne=>by rw [if_neg fun h=>hne (cells_inj hs ht hn h)]]
  rw [if_pos rfl]
def idM (is js : List Int) (F : Int->Int->Int) : List (List Int):=is.map fun i=>js.map (F i)
theorem idM_gen (is js : List Int) (F : Int->Int->Int) : idM is js F = genM is.length js.length fun r s=>F (is.getD r 0) (js.getD s 0):=by
 unfold idM genM
 refine List.ext_getElem sI fun i h1 h2=>?_
 simp only [List.length_map] at h1
 rw [List.getElem_map,List.getElem_map,List.getElem_range]
 refine List.ext_getElem sI fun j h3 h4=>?_
 simp only [List.length_map] at h3
 rw [List.getElem_map,List.getElem_map,List.getElem_range]
 show _ = F (is.getD i 0) (js.getD j 0)
 rw [List.getD_eq_getElem?_getD,List.getD_eq_getElem?_getD,List.getElem?_eq_getElem h1,List.getElem?_eq_getElem h3]
 rfl
theorem matM_id (a b : Cx) (m : Mp) (k : Int) : matM a b m k = idM (cellsC a k) (cellsC b k) fun i=>coef (imgM m i):=rfl
theorem bdLs_id (c : Cx) (k : Int) : bdLs c k = idM (cellsC c k) (cellsC c (k - 1)) fun i=>coef (bOf c i):=rfl
theorem idM_fits (is js : List Int) (F : Int->Int->Int) : Fits is.length js.length (idM is js F):=by rw [idM_gen]; exact genM_fits _ _ _
theorem idM_mul (is js ks : List Int) (F G : Int->Int->Int) : genM is.length ks.length (mulf (idM is js F) (idM js ks G) js.length) = genM is.length ks.length fun r s=>sumN js.length fun t=>F (is.getD r 0) (js.getD t 0) * G (js.getD t 0) (ks.getD s 0):=genM_congr fun i hi j hj=>by
 unfold mulf
 rw [sumTo_sumN,idM_gen,idM_gen]
 exact sumN_congr fun t ht=>by rw [ent_genM hi ht,ent_genM ht hj]
theorem getD_mem {l : List Int} {i : Nat} (h : i < l.length) : l.getD i 0 ∈ l:=by
 rw [List.getD_eq_getElem?_getD,List.getElem?_eq_getElem h]
 exact List.getElem_mem h
theorem mat_com {a b : Cx} {m : Mp} (ha : ValX a) (hb : ValX b) (h : ValM a b m) (k : Int) :
  genM (cellsC a k).length (cellsC b (k - 1)).length (mulf (matM a b m k) (bdLs b k) (cellsC b k).length) = genM (cellsC a k).length (cellsC b (k - 1)).length (mulf (bdLs a k) (matM a b m (k - 1)) (cellsC a (k - 1)).length):=by
 rw [matM_id,bdLs_id,bdLs_id,matM_id,idM_mul,idM_mul]
 refine genM_congr fun i hi j hj=>?_
 obtain ⟨f,h1,h2,h3⟩:=cellsC_mem.1 (getD_mem hi)
 rw [<-h2]
 have e1:=h.dim f h1
 rw [h3] at e1
 have e2:=(ha.face f h1).1
 rw [h3] at e2
 have hbo:=bOf_at ha h1
 have s1:=lin_ids hb.srt (g:=fun z=>coef (bOf b z) ((cellsC b (k - 1)).getD j 0)) e1
 have s2:=lin_ids ha.srt (g:=fun z=>coef (imgM m z) ((cellsC b (k - 1)).getD j 0)) e2
 rw [s1,hbo,s2]
 have h4:=congrArg (lin (dl ((cellsC b (k - 1)).getD j 0))) (h.com f h1)
 rw [lin_bd,lin_app] at h4
 exact h4
theorem mat_mul {a b c : Cx} {m p : Mp} (hb : ValX b) (h : ValM a b m) (k : Int) :
  genM (cellsC a k).length (cellsC c k).length (mulf (matM a b m k) (matM b c p k) (cellsC b k).length) = matM a c (comM m p) k:=by
 rw [matM_id,matM_id,matM_id,idM_mul,idM_gen]
 refine genM_congr fun i hi j hj=>?_
 obtain ⟨f,h1,h2,h3⟩:=cellsC_mem.1 (getD_mem hi)
 rw [<-h2]
 have e1:=h.dim f h1
 rw [h3] at e1
 have s1:=lin_ids hb.srt (g:=fun z=>coef (imgM p z) ((cellsC c k).getD j 0)) e1
 rw [s1,imgM_com]
 show _ = lin (dl ((cellsC c k).getD j 0)) (appM p (imgM m f.1))
 rw [lin_app]
 rfl
end Go.Proofs.YtjdemlfceaikgaaGreat

namespace Go.Proofs.YtjdemlfceaikgaaGreat
open Go.RowKit Go.Maps
theorem MpS.act9 {m : Mp} {e s : Nat} {x : Ch} (h : MpS m e) (he : e<=1000000000) (hx : nrm x<=2 ^ s) (hs : s<=1000000000) (hl : x.length<=10000) : ActOk (imgM m) x/\lenA (imgM m) x<=900000:=by
 have hlen:=lenA_le (F:=imgM m) (x:=x) h.len
 refine ⟨⟨?_,fun f hf=>⟨two_pow_le (Nat.le_trans (nrm_le hf) hx) (by unfold LIM; omega),two_pow_le (h.sz f.1) (by unfold LIM; omega)⟩,by omega⟩,by omega⟩
 refine two_pow_le (e:=s + e) (Nat.le_trans (nrmA_le h.sz) ?_) (by unfold LIM; omega)
 rw [Nat.pow_add]
 exact Nat.mul_le_mul_right _ hx
theorem CxI.act9 {t e : Nat} {c : Cx} {x : Ch} (h : CxI t c) (ht : t<=4) (hx : nrm x<=2 ^ e) (he : e<=1000000000) (hl : x.length<=10000) : ActOk (bOf c) x:=by
 have hb:=h.bof ht
 refine ⟨?_,fun f hf=>⟨two_pow_le (Nat.le_trans (nrm_le hf) hx) (by unfold LIM; omega),two_pow_le (hb f.1).1 dE⟩,?_⟩
 ·refine two_pow_le (e:=e + eB) (Nat.le_trans (nrmA_le fun i=>(hb i).1) ?_) (by unfold LIM eB; omega)
  rw [Nat.pow_add]
  exact Nat.mul_le_mul_right _ hx
 ·have:=lenA_le (F:=bOf c) (x:=x) fun i=>(hb i).2
  omega
theorem mulSm_11 {h1 h2 e R m C : Nat} {A B : List (List Int)} (hA : leM h1 R m (ent A)) (hB : leM h2 m C (ent B)) (hm : m<=11) (he : h1 + h2 + 11 * (h1 * h2)<=2 ^ e) (he2 : e<=1000000000) : MulSm A B R m C:=fun i hi j hj k hk=>by
 have hs : SmN (2 ^ e):=two_pow_le (Nat.le_refl _) (by unfold LIM; omega)
 have g1:=hA i hi k hk
 have g2:=hB k hk j hj
 have g3 : (ent A i k * ent B k j).natAbs<=h1 * h2:=by rw [Int.natAbs_mul]; exact Nat.mul_le_mul g1 g2
 refine ⟨hs.sm oM,hs.sm oM,hs.sm oM,hs.sm ?_⟩
 unfold mulf
 rw [sumTo_sumN]
 have h9 : (sumN k fun t=>ent A i t * ent B t j).natAbs<=k * (h1 * h2):=sumN_natAbs fun t ht=>by
  rw [Int.natAbs_mul]
  exact Nat.mul_le_mul (hA i hi t oM) (hB t oM j hj)
 have h10:=Nat.mul_le_mul_right (h1 * h2) (show k<=11 by omega)
 omega
theorem idM_leM {is js : List Int} {F : Int->Int->Int} {h : Nat} (hF : ∀i j,(F i j).natAbs<=h) : leM h is.length js.length (ent (idM is js F)):=fun a ha b hb=>by
 rw [idM_gen,ent_genM ha hb]
 exact hF _ _
theorem two_mul_bits (a b : Nat) : 2 ^ a + 2 ^ b + 11 * (2 ^ a * 2 ^ b)<=2 ^ (a + b + 4):=by
 have h1 : 2 ^ a * 2 ^ b = 2 ^ (a + b):=(Nat.pow_add 2 a b).symm
 have h2 : 2 ^ (a + b + 4) = 16 * 2 ^ (a + b):=by rw [Nat.pow_add,Nat.mul_comm]
 have h3 : 2 ^ a<=2 ^ (a + b):=Nat.pow_le_pow_right oM oM
 have h4 : 2 ^ b<=2 ^ (a + b):=Nat.pow_le_pow_right oM oM
 rw [h1,h2]
 omega
def eC : Nat:=20537200
theorem cyc_bits (k : Int) (hk : k<=3) {n : Nat} (h : n<=21 * cbn k) : n<=2 ^ eC:=by
 have h1:=kbn_two (eb k.toNat)
 unfold cbn at h
 have h2 : eb k.toNat<=419121:=by
  rcases (by omega : k.toNat = 0 ∨ k.toNat = 1 ∨ k.toNat = 2 ∨ k.toNat = 3) with e | e | e | e <;> rw [e] <;> decide
 have h3 : 2 ^ (49 * eb k.toNat + 171) * 3<=2 ^ (49 * eb k.toNat + 171 + 2):=by
  rw [show 2 ^ (49 * eb k.toNat + 171 + 2) = 2 ^ (49 * eb k.toNat + 171) * 4 from Nat.pow_add 2 _ 2]
  omega
 have h4 : 2 ^ (49 * eb k.toNat + 171 + 2)<=2 ^ eC:=Nat.pow_le_pow_right oM (by unfold eC; omega)
 have h5 : n<=2 ^ (49 * eb k.toNat + 171) * 3:=by
  have : n<=21 * (7 * kbn (2 ^ eb k.toNat)):=h
  omega
 exact Nat.le_trans h5 (Nat.le_trans h3 h4)
structure CmS (a b : Cx) (m : Mp) (k : Int) : Prop where
 vl : VlOk a b m
 vr : ValR a b m
 s1 : MulSm (matM a b m k) (bdLs b k) (cellsC a k).length (cellsC b k).length (cellsC b (k - 1)).length
 s2 : MulSm (bdLs a k) (matM a b m (k - 1)) (cellsC a k).length (cellsC a (k - 1)).length (cellsC b (k - 1)).length
 pr : genM (cellsC a k).length (cellsC b (k - 1)).length (mulf (matM a b m k) (bdLs b k) (cellsC b k).length) = genM (cellsC a k).length (cellsC b (k - 1)).length (mulf (bdLs a k) (matM a b m (k - 1)) (cellsC a (k - 1)).length)
theorem len11 {c : Cx} (h : CxI 4 c) (k : Int) : (cellsC c k).length<=11:=Nat.le_trans cells_len (h.l16 oM)
theorem mat_leM {a b : Cx} {m : Mp} {e : Nat} (h : MpS m e) (k : Int) : leM (2 ^ e) (cellsC a k).length (cellsC b k).length (ent (matM a b m k)):=by
 rw [matM_id]
 exact idM_leM fun i j=>Nat.le_trans (coef_nrm _) (h.sz i)
theorem bd_leM {c : Cx} (h : CxI 4 c) (k : Int) : leM (2 ^ eB) (cellsC c k).length (cellsC c (k - 1)).length (ent (bdLs c k)):=by
 rw [bdLs_id]
 exact idM_leM fun i j=>Nat.le_trans (coef_nrm _) (h.bof oM i).1
theorem cm_ok {a b : Cx} {m : Mp} (h : MdS a b m) (k : Int) : CmS a b m k:=
 ⟨h.vlok,h.val.valR h.ca.val,mulSm_11 (mat_leM h.mps k) (bd_leM h.cb k) (len11 h.cb k) (two_mul_bits _ _) dE,mulSm_11 (bd_leM h.ca k) (mat_leM h.mps (k - 1)) (len11 h.ca _) (two_mul_bits _ _) dE,mat_com h.ca.val h.cb.val h.val k⟩
structure CyS (a b : Cx) (m : Mp) (y : Ch) : Prop where
 ids : ∀f ∈ y,I64 f.1
 act : ActOk (imgM m) y/\lenA (imgM m) y<=900000
 ap : apC m y = appM m y/\apE m y = 0
 bo : ActOk (bOf b) (appM m y)
 cy : (dimC b (appM m y)).2 = 0/\bdC b (appM m y) = []
theorem cy_ok {a b : Cx} {m : Mp} {y : Ch} {k : Int} (h : MdS a b m) (hk : k<=3) (hy : GrS a k y 7) : CyS a b m y:=by
 obtain ⟨y1,y2,y3,y4⟩:=hy.okn
 have y5:=cyc_bits k hk (n:=nrm y) oM
 have y6 : y.length<=11:=Nat.le_trans (y2.length h.ca.val y1) (h.ca.l16 oM)
 have hS:=h.mps
 obtain ⟨p1,p2⟩:=hS.app y5
 have hb:=h.val.hom y2
 refine ⟨hom_ids (h.ca.i64 oM) y2,hS.act9 dE y5 dE oM,apC_has (h.val.has y2),h.cb.act9 oM p1 dE oM,(dimC_hom hb).1,?_⟩
 rw [h.val.bd h.ca.val y2,y3]
 rfl
set_option maxHeartbeats 16000000 in
set_option maxRecDepth 20000 in
theorem inducedCommutes_any (s A : Nat) (N : Int) (v lv v1 : Value) (L : List Q4) (l l1 : List Int) (w : World) (hs : s<=255) (hA : A<=255) (hN : -128<=N/\N<=127) (h : QdV w v L) (hl : I8V w lv l) (h1 : I8V w v1 l1) :
  Calls Tryz.prog 6 #[.agg #[.int .u8 s,v,.int .u8 A,.int .i8 N,lv],v1] w fun e w'=>e = .returned (.bool true)/\Below w.heap.size w w':=by
 obtain ⟨qo,qn,qc,rfl,-⟩:=id h
 obtain ⟨lo,ln,lc,rfl,-⟩:=id hl
 have H:=HidS.mk h
 have HL:=HidS.mk hl
 obtain ⟨lo1,ln1,lc1,rfl,-⟩:=id h1
 have H1:=HidS.mk h1
 clear h hl h1
 go_enter Tryz.func6,Tryz.ntmps6
 go_upto_region 1 with (fail)
 refine wp_world ?_
 intro W0 hW0
 obtain ⟨hB0,T5,hs0⟩:=world1 hW0
 have HT5:=HidS.mk T5
 have H:=HidS.mk (H.out.below hB0)
 have HL:=HidS.mk (HL.out.below hB0)
 clear hW0 T5
 go_wp2_with fail
 refine (sanity29_any W0).mono ?_
 rintro e w1 ⟨rfl,hb1⟩
 have H:=HidS.mk (H.out.below hb1)
 have HL:=HidS.mk (HL.out.below hb1)
 have T5:=HT5.out.below hb1
 have d0:=T5.cell 0
 have d1:=T5.cell 1
 have d2:=T5.cell 2
 have d3:=T5.cell 3
 have d4:=T5.cell 4
 simp at d0 d1 d2 d3 d4
 clear T5
 go_wp2_with fail
 refine (md29_any s A N _ _ L l w1 hs hA hN H.out HL.out).mono ?_
 rintro e w2 ⟨_,rfl,⟨a,b,m,va,vb,vm,rfl,hP,ha,hb,hm⟩,hb2⟩
 have HMD:=HidS.mk hP.mds
 obtain ⟨ao,ac,rfl,-,-⟩:=LsV.shape ha
 obtain ⟨bo,bc,rfl,-,-⟩:=LsV.shape hb
 obtain ⟨mo,mc,rfl,-,-⟩:=LsV.shape hm
 have HAV:=HidS.mk ha
 have HBV:=HidS.mk hb
 have HMV:=HidS.mk hm
 have hBB:=nx (nx hB0 hb1) hb2
 clear d0 d1 d2 d3 d4 hP ha hb hm
 have H1:=HidS.mk (H1.out.below hBB)
 go_wp2
 go_loopw [9,11,13,16,17] (fun iv _ _ _ _ wr=>∃p : Nat,p<=3/\iv = .int .i64 ((p + 1 : Nat) : Int)/\Below w2.heap.size w2 wr) (fun iv _ _ _ _ _=>4 - (intOf iv).toNat)
 case atStart=>exact ⟨0,by omega,rfl,Below.refl _ _⟩
 case round=>
  obtain ⟨p,hp,rfl,hB⟩:=hrel
  obtain ⟨d,hd⟩ : ∃d,p + 1 = d:=⟨_,rfl⟩
  rw [hd]
  by_cases hlt : p < 3
  ·have hle : (d : Int)<=3:=by omega
   have hpI : (d : Int) - 1 = (p : Int):=by omega
   have hwp : IntKind.i64.wrap (p : Int) = (p : Int):=IntWalk.i64_in _ oM
   have HS:=HidS.mk (cm_ok HMD.out d)
   obtain ⟨M1,hM1⟩ : ∃t,matM a b m d = t:=⟨_,rfl⟩
   obtain ⟨M0,hM0⟩ : ∃t,matM a b m ((d : Int) - 1) = t:=⟨_,rfl⟩
   obtain ⟨S1,hS1⟩ : ∃t,bdLs a d = t:=⟨_,rfl⟩
   obtain ⟨T1,hT1⟩ : ∃t,bdLs b d = t:=⟨_,rfl⟩
   obtain ⟨r1,hr1⟩ : ∃t,(cellsC a d).length = t:=⟨_,rfl⟩
   obtain ⟨c1,hc1⟩ : ∃t,(cellsC b d).length = t:=⟨_,rfl⟩
   obtain ⟨r0,hr0⟩ : ∃t,(cellsC a ((d : Int) - 1)).length = t:=⟨_,rfl⟩
   obtain ⟨c0,hc0⟩ : ∃t,(cellsC b ((d : Int) - 1)).length = t:=⟨_,rfl⟩
   have HF1 : HidS (Fits r1 c1 M1/\Fits r0 c0 M0/\Fits r1 r0 S1/\Fits c1 c0 T1):=⟨by
    rw [<-hr1,<-hr0,<-hc1,<-hc0,<-hM1,<-hM0,<-hS1,<-hT1,matM_id,matM_id,bdLs_id,bdLs_id]
    exact ⟨idM_fits _ _ _,idM_fits _ _ _,idM_fits _ _ _,idM_fits _ _ _⟩⟩
   have HLN : HidS (r1<=11/\r0<=11/\c1<=11/\c0<=11):=⟨by
    rw [<-hr1,<-hr0,<-hc1,<-hc0]
    exact ⟨len11 HMD.out.ca _,len11 HMD.out.ca _,len11 HMD.out.cb _,len11 HMD.out.cb _⟩⟩
   have HP:=HidS.mk HS.out.pr
   have HS1:=HidS.mk HS.out.s1
   have HS2:=HidS.mk HS.out.s2
   rw [hM1,hM0,hS1,hT1,hr1,hc1,hr0,hc0] at HP
   rw [hM1,hT1,hr1,hc1,hc0] at HS1
   rw [hM0,hS1,hr1,hr0,hc0] at HS2
   have HE:=HidS.mk (And.intro hM1 (And.intro hM0 (And.intro hS1 (And.intro hT1 (And.intro hr1 (And.intro hc1 (And.intro hr0 hc0)))))))
   have HPI:=HidS.mk hpI
   have HDD:=HidS.mk hd
   clear hM1 hM0 hS1 hT1 hr1 hc1 hr0 hc0 hd
   go_wp2_with fail
   refine (imatrix_any _ _ _ a b m d wr (HAV.out.below hB) (HBV.out.below hB) (HMV.out.below hB) HS.out.vl).mono ?_
   rintro e w5 ⟨ok,hok,⟨_,rfl,R5,C5,o5,n5,q5,rfl,h5⟩,hb5⟩
   obtain rfl : ok = true:=hok.2 HS.out.vr
   have h5:=h5 rfl
   rw [HE.out.2.2.2.2.1,HE.out.2.2.2.2.2.1,HE.out.1] at h5
   have H5:=HidS.mk h5
   have hB5:=nx hB hb5
   clear h5 hb5 hok
   go_upto_region 7 with (fail)
   refine wp_world ?_
   intro W6 hW6
   obtain ⟨hB6,T6,hs6⟩:=world1 hW6
   have HT6:=HidS.mk T6
   have H5:=HidS.mk (H5.out.below hB6)
   have hB6:=nx hB5 hB6
   clear hW6 T6
   go_wp2_with fail
   refine (imatrix_any _ _ _ a b m p W6 (HAV.out.below hB6) (HBV.out.below hB6) (HMV.out.below hB6) HS.out.vl).mono ?_
   rintro e w7 ⟨ok,hok,⟨_,rfl,R7,C7,o7,n7,q7,rfl,h7⟩,hb7⟩
   obtain rfl : ok = true:=hok.2 HS.out.vr
   have h7:=h7 rfl
   rw [<-HPI.out,HE.out.2.2.2.2.2.2.1,HE.out.2.2.2.2.2.2.2,HE.out.2.1] at h7
   have H7:=HidS.mk h7
   have H5:=HidS.mk (H5.out.below hb7)
   have HT6:=HidS.mk (HT6.out.below hb7)
   have hB7:=nx hB6 hb7
   clear h7 hb7 hok
   go_upto_region 8 with (fail)
   refine wp_world ?_
   intro W8 hW8
   obtain ⟨hB8,T8,hs8⟩:=world1 hW8
   have HT8:=HidS.mk T8
   have H5:=HidS.mk (H5.out.below hB8)
   have H7:=HidS.mk (H7.out.below hB8)
   have HT6:=HidS.mk (HT6.out.below hB8)
   have hB8:=nx hB7 hB8
   clear hW8 T8
   go_wp2_with fail
   refine (bd25_any _ a d W8 (HAV.out.below hB8) HMD.out.ca.val (by have:=HMD.out.ca.l16 oM; omega) oM (fun f hf=>by have:=HMD.out.ca.lens f hf; omega)).mono ?_
   rintro e w9 ⟨u9,rfl,h9,hb9⟩
   rw [HE.out.2.2.2.2.1,HE.out.2.2.2.2.2.2.1,HE.out.2.2.1] at h9
   obtain ⟨A9,rfl,o9,n9,q9,rfl,h9'⟩:=id h9
   have H9:=HidS.mk h9
   have H5:=HidS.mk (H5.out.below hb9)
   have H7:=HidS.mk (H7.out.below hb9)
   have HT6:=HidS.mk (HT6.out.below hb9)
   have HT8:=HidS.mk (HT8.out.below hb9)
   have hB9:=nx hB8 hb9
   clear h9 h9' hb9
   go_wp2_with fail
   refine (bd25_any _ b d w9 (HBV.out.below hB9) HMD.out.cb.val (by have:=HMD.out.cb.l16 oM; omega) oM (fun f hf=>by have:=HMD.out.cb.lens f hf; omega)).mono ?_
   rintro e w10 ⟨u10,rfl,h10,hb10⟩
   rw [HE.out.2.2.2.2.2.1,HE.out.2.2.2.2.2.2.2,HE.out.2.2.2.1] at h10
   obtain ⟨A10,rfl,o10,n10,q10,rfl,h10'⟩:=id h10
   have H10:=HidS.mk h10
   have H9:=HidS.mk (H9.out.below hb10)
   have H5:=HidS.mk (H5.out.below hb10)
   have H7:=HidS.mk (H7.out.below hb10)
   have HT6:=HidS.mk (HT6.out.below hb10)
   have HT8:=HidS.mk (HT8.out.below hb10)
   have hB10:=nx hB9 hb10
   clear h10 h10' hb10
   go_upto_region 9 with (fail)
   refine wp_world ?_
   intro W11 hW11
   obtain ⟨hB11,T11,T12,hs11⟩:=world2 hW11
   have H5:=HidS.mk (H5.out.below hB11)
   have H7:=HidS.mk (H7.out.below hB11)
   have H9:=HidS.mk (H9.out.below hB11)
   have H10:=HidS.mk (H10.out.below hB11)
   obtain ⟨k1,k2,k3,k4,k5,k6⟩:=(HT6.out.below hB11).three
   obtain ⟨l1,l2,l3,l4,l5,l6⟩:=(HT8.out.below hB11).three
   obtain ⟨m1,m2,m3,m4,m5,m6⟩:=T11.three
   obtain ⟨n1,n2,n3,n4,n5',n6⟩:=T12.three
   have hB11:=nx hB10 hB11
   obtain ⟨PM,hPM⟩ : ∃t,genM r1 c0 (mulf M1 T1 c1) = t:=⟨_,rfl⟩
   have HPM:=HidS.mk hPM
   clear hW11 T11 T12 hPM hpI hwp
   refine wp_ser [pcD 12 [] (fun _ v=>v = .bool true),pcD 21 [] (fun _ v=>v = .bool true),pcD 27 [] (fun w v=>MatV w v r1 c0 PM),pcD 30 [] (fun w v=>MatV w v r1 c0 PM),pcD 31 [27,30] (fun _ v=>v = .bool true)] ?_
   refine sRd ?_
   refine sRc (fun wS hI Gk hG=>by go_simp; exact ck hG ((sized_ans _ r1 c1 r1 c1 M1 true (decide_eq_true ⟨rfl,rfl,HF1.out.1.valid⟩) wS (H5.out.below hI.bel)).mono fun e w' ⟨h1,h2⟩=>⟨_,h1,rfl,h2⟩)) (fun _ hv=>?_)
   obtain ⟨_,-,rfl⟩:=hv
   refine sRd ?_
   refine sRc (fun wS hI Gk hG=>by go_simp; exact ck hG ((sized_ans _ r0 c0 r0 c0 M0 true (decide_eq_true ⟨rfl,rfl,HF1.out.2.1.valid⟩) wS (H7.out.below hI.bel)).mono fun e w' ⟨h1,h2⟩=>⟨_,h1,rfl,h2⟩)) (fun _ hv=>?_)
   obtain ⟨_,-,rfl⟩:=hv
   refine sRd ?_
   refine sRc (fun wS hI Gk hG=>by go_simp; exact ck hG ((r5product_any _ _ r1 c1 c0 M1 T1 wS (H5.out.below hI.bel) (H10.out.below hI.bel) HF1.out.1 HF1.out.2.2.2 (by have:=HLN.out; omega) (by have:=HLN.out; omega) (by have:=HLN.out; omega) HS1.out).mono fun e w' ⟨v,bs,he,hm,hb⟩=>⟨v,he,by have:=hm.mat.1; rw [HPM.out] at this; exact this,hb⟩)) (fun _ hv=>?_)
   obtain ⟨_,-,A27,rfl,a27,b27,c27,rfl,-⟩:=hv
   refine sRd ?_
   refine sRc (fun wS hI Gk hG=>by go_simp; exact ck hG ((r5product_any _ _ r1 r0 c0 S1 M0 wS (H9.out.below hI.bel) (H7.out.below hI.bel) HF1.out.2.2.1 HF1.out.2.1 (by have:=HLN.out; omega) (by have:=HLN.out; omega) (by have:=HLN.out; omega) HS2.out).mono fun e w' ⟨v,bs,he,hm,hb⟩=>⟨v,he,by have:=hm.mat.1; rw [<-HP.out,HPM.out] at this; exact this,hb⟩)) (fun _ hv=>?_)
   obtain ⟨_,-,A30,rfl,a30,b30,c30,rfl,-⟩:=hv
   refine sRc (fun wS hI h27 h30 Gk hG=>by go_simp; exact ck hG ((same_any _ _ r1 c0 r1 c0 PM PM wS h27 h30).mono fun e w' ⟨h1,h2⟩=>⟨_,h1,congrArg Value.bool (decide_eq_true ⟨rfl,rfl,rfl⟩),h2⟩)) (fun _ hv=>?_)
   obtain ⟨_,-,rfl⟩:=hv
   refine sRd ?_
   refine sRe ?_
   intro w12 hb12 _ _ _ _ _
   have hB12:=nx hB11 hb12
   clear k1 k2 k3 k4 k5 k6 l1 l2 l3 l4 l5 l6 m1 m2 m3 m4 m5 m6 n1 n2 n3 n4 n5' n6 H5 H7 H9 H10 HT6 HT8
   go_wp2_with fail
   refine (cyclic_any _ _ a d _ w12 (HAV.out.below hB12) (H1.out.below hB12) HMD.out.ca oM oM).mono ?_
   rintro e w13 ⟨u13,y,rfl,h13,hgr,hb13⟩
   obtain ⟨o13,k13,rfl,-,-⟩:=LsV.shape h13
   have HY:=HidS.mk (cy_ok HMD.out hle hgr)
   have H13:=HidS.mk h13
   have hB13:=nx hB12 hb13
   clear h13 hgr hb13
   go_wp2_with fail
   refine (iapply_any _ _ m y w13 (HMV.out.below hB13) H13.out HMD.out.mps.ok HY.out.ids HY.out.act.1 HY.out.act.2).mono ?_
   rintro e w14 ⟨_,rfl,⟨o14,n14,k14,rfl,h14⟩,hb14⟩
   rw [HY.out.ap.1] at h14
   rw [HY.out.ap.2]
   have H14:=HidS.mk h14
   have hB14:=nx hB13 hb14
   clear h14 hb14 H13
   go_wp2_with fail
   refine (cvalid_any _ _ w14 H14.out).mono ?_
   rintro e w15 ⟨q,rfl,hq,hb15⟩
   obtain rfl : q = true:=hq.2 (appM_val _ _)
   have H14:=HidS.mk (H14.out.below hb15)
   have hB15:=nx hB14 hb15
   clear hq hb15
   go_wp2_with fail
   refine (cycle_any _ _ b (appM m y) w15 (HBV.out.below hB15) H14.out HY.out.bo).mono ?_
   rintro e w16 ⟨rfl,hb16⟩
   rw [decide_eq_true HY.out.cy]
   have hB16:=nx hB15 hb16
   clear hb16 H14
   have hd2 : (d : Int) + 1 = ((p + 1 + 1 : Nat) : Int):=by have:=HDD.out; omega
   go_wp2
   go_roundw
   case rel=>exact ⟨p + 1,by omega,by simp,hB16⟩
   case measure=>simp [intOf]; omega
  ·obtain rfl : p = 3:=by omega
   subst hd
   have h44 : ((3 + 1 : Nat) : Int) = 4:=rfl
   rw [h44]
   have hBZ:=nx hBB hB
   go_wp2
   go_ret
   exact ⟨rfl,hBZ⟩
end Go.Proofs.YtjdemlfceaikgaaGreat
