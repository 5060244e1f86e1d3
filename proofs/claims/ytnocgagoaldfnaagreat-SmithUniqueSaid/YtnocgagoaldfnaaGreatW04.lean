/- torsionref13.Changed: the walk. -/
import Derived.Test.YtnocgagoaldfnaaGreatW03
set_option linter.unusedVariables false
set_option linter.unusedSimpArgs false
set_option linter.unusedSectionVars false
namespace Go.Proofs.YtnocgagoaldfnaaGreat
open Go.RowKit
set_option maxHeartbeats 8000000 in
set_option maxRecDepth 20000 in
theorem changed_any (v lv : Value) (R C lim : Nat) (L : List (List Int)) (ls : List (Nat × Nat × Nat × Int)) (M : Nat) (w : World) (h : MatV w v R C L) (hF : Fits R C L) (hR : R<=16) (hC : C<=16) (hst : StV w lv ls) (hlim : lim<=100) (hM : M * 3 ^ lim<=2 ^ 90) (hL : leM M R C (ent L)) :
  Calls Tryz.prog 32 #[v,lv,.int .i64 lim] w fun e w'=>∃v' bs F,e = .returned v'/\MatO w' w.heap.size v' R C bs (genM R C F)/\Below w.heap.size w w'/\ChI R C M lim (ent L) F:=by
 have h0:=h
 obtain ⟨A,rfl,h⟩:=h
 obtain ⟨ao,n,cap,rfl,e2,e3,e4,-⟩:=id h
 obtain ⟨so,sn,sc,rfl,hsl,hsn,hsc,-,-⟩:=id hst
 have HSL:=Lib.hid hsl
 have HF:=HidS.mk hF
 have HS0 : HidS (∀r ∈ L,∀z ∈ r,Sm z):=⟨fun r hr z hz=>by
  obtain ⟨i,hi,rfl⟩:=List.getElem_of_mem hr
  obtain ⟨j,hj,rfl⟩:=List.getElem_of_mem hz
  have hl:=hF.2 _ (List.getElem_mem hi)
  have:=hL i (by rw [<-hF.1]; exact hi) j oM
  have e : ent L i j = L[i][j]:=ent_of (List.getElem?_eq_getElem hi) (List.getElem?_eq_getElem hj)
  rw [e] at this
  refine (small_smd (Nat.le_trans this (Nat.le_trans (Nat.le_mul_of_pos_right _ (Nat.pow_pos oM)) (Nat.le_trans hM dE)))).sm⟩
 have hch0 : HidS (ChI R C M 0 (ent L) (ent L)):=⟨⟨Fac.refl _ _ _,Fac.refl _ _ _,by simpa using hL⟩⟩
 have HMB : HidS (∀i,i<=lim->M * 3 ^ i<=2 ^ 90):=⟨fun i hi=>Nat.le_trans (Nat.mul_le_mul_left _ (le_pow2 oM hi)) hM⟩
 have HGL:=HidS.mk (fits_genM hF)
 obtain ⟨F0,hF0⟩ : ∃F0,ent L = F0:=⟨_,rfl⟩
 rw [hF0] at hch0 HGL ⊢
 clear hF hsl hM hL hF0 e2
 go_enter Tryz.func32,Tryz.ntmps32
 go_upto_region 1 with (fail)
 refine wp_world ?_
 intro W0 hW0
 obtain ⟨hB0,bx,br,hs0⟩:=world2 hW0
 obtain ⟨c1,c2,c3,c4,c5,c6⟩:=bx.three
 clear hW0
 go_wp2_with fail
 refine (r5copied_any _ R C L W0 (h0.below hB0) HF.out oM oM HS0.out).mono ?_
 rintro e w2 ⟨u,bs,rfl,⟨hbl,A2,rfl,ho⟩,hb2⟩
 obtain ⟨oo,on,oc,rfl,-,-,-,-⟩:=id ho.rows
 rw [HGL.out] at ho
 have hlts:=ho.lts
 go_upto_region 2 with (fail)
 refine wp_world ?_
 intro W3 hW3
 obtain ⟨hB3,T7,hs3⟩:=world1 hW3
 have br:=(br.below hb2).below hB3
 have ho:=ho.below hB3
 have hBt:=nx (nx hB0 hb2) hB3
 have q1:=hB0.size
 have q2:=hb2.size
 have hmb : ∀b ∈ bs,b < w2.heap.size:=fun b hb=>by
  obtain ⟨i,hi,e⟩:=List.getElem_of_mem hb
  exact hlts i b (by rw [List.getElem?_eq_getElem hi,e])
 clear hW3 c1 c2 c3 c4 c5 c6 h0 h hlts
 go_wp2
 go_loopw [8] (fun iv wr=>∃(i : Nat) (F : Nat->Nat->Int) (bs : List Nat),iv = .int .i64 i/\i<=lim/\Below w.heap.size w wr/\Blk wr (w.heap.size + 1) 28 #[.int .i64 0,.int .i64 0,.slice none 0 0]/\Blk wr w2.heap.size 28 #[.int .i64 R,.int .i64 C,.slice oo on oc]/\RowsO wr W0.heap.size (.slice oo on oc) C bs (genM R C F)/\bs.length = R/\(∀b ∈ bs,b < w2.heap.size)/\HidS (ChI R C M i F0 F)) (fun iv _=>lim - (intOf iv).toNat)
 case atStart=>exact ⟨0,F0,bs,rfl,by omega,hBt,br,T7,ho,hbl,hmb,hch0⟩
 case round=>
  obtain ⟨i,F,bs,rfl,hi,hb,br,T7,ho,hbl,hmb,hch⟩:=hrel
  obtain ⟨f1,f2,f3,f4,f5,f6⟩:=T7.three
  by_cases hgo : i < sn/\i < lim
  ·obtain ⟨hl,hlm⟩:=hgo
   obtain ⟨b0,off,p,q,r,z,rfl,hb0,hp,hq,hr,hz1,hz2,d1,d2,d3,d4⟩:=hst.cell (k:=i) (by rw [HSL.out]; exact hl)
   have d1:=(hb.cell (p:=⟨b0,off + i * 4,none⟩) hb0).trans d1
   have d2:=(hb.cell (p:=⟨b0,off + i * 4 + 1,none⟩) hb0).trans d2
   have d3:=(hb.cell (p:=⟨b0,off + i * 4 + 2,none⟩) hb0).trans d3
   have d4:=(hb.cell (p:=⟨b0,off + i * 4 + 3,none⟩) hb0).trans d4
   obtain ⟨op,hop⟩ : ∃op : Nat,op = p % 4:=⟨_,rfl⟩
   have hop4 : op < 4:=by omega
   have hpo : (p : Int) % 4 = (op : Int):=by omega
   have ht9 : (Int.tmod z 3).natAbs<=2:=tmod3
   obtain ⟨t,ht⟩ : ∃t,Int.tmod z 3 = t:=⟨_,rfl⟩
   rw [ht] at ht9
   have HT:=HidS.mk ht
   clear hop ht
   have hnext : ∀G,ChI R C M (i + 1) F0 G->HidS (ChI R C M (i + 1) F0 G):=fun G h=>⟨h⟩
   have HNX:=HidS.mk hnext
   have hsame:=hch.out.same
   have HSM:=HidS.mk hsame
   clear hnext hsame
   have hb0r : b0 < wr.heap.size:=Nat.lt_of_lt_of_le hb0 hb.size
   have HSF : HidS ((∀a,a < R->∀b,b < C->Sm (F a b)/\Sm (t * F a b))/\Sm t):=⟨⟨fun a ha b hb=>by
    have g1:=Nat.le_trans (hch.out.le a ha b hb) (HMB.out i hi)
    have g2:=abs_mul_le ht9 g1
    exact ⟨(small_smd (Nat.le_trans g1 dE)).sm,(small_smd (Nat.le_trans g2 dE)).sm⟩,(small_smd (Nat.le_trans ht9 dE)).sm⟩⟩
   by_cases hop2 : op < 2
   ·by_cases hS0 : 0 < R
    ·skip
     obtain ⟨x,hx⟩ : ∃x : Nat,x = q % R:=⟨_,rfl⟩
     obtain ⟨y,hy⟩ : ∃y : Nat,y = r % R:=⟨_,rfl⟩
     have hxs : x < R:=by rw [hx]; exact Nat.mod_lt _ hS0
     have hys : y < R:=by rw [hy]; exact Nat.mod_lt _ hS0
     have HX : HidS ((q : Int) % (R : Int) = (x : Int)):=⟨by rw [hx]; rfl⟩
     have HY : HidS ((r : Int) % (R : Int) = (y : Int)):=⟨by rw [hy]; rfl⟩
     clear hx hy
     go_upto_region 9 with (fail)
     refine wp_region_each rfl (RI wr (wr.heap.size) _ 45
       [⟨0,40,fun _ v=>v = .slice (some ⟨b0,off,none⟩) sn sc⟩,⟨1,41,fun _ v=>v = .int .i64 i⟩,⟨2,42,fun _ v=>v = .pointer (some ⟨b0,off + i * 4,none⟩)⟩,⟨3,43,fun _ v=>v = .pointer (some ⟨b0,off + i * 4 + 1,none⟩)⟩,⟨4,44,fun _ v=>v = .int .u8 q⟩,⟨5,45,fun _ v=>v = .int .i64 q⟩,⟨6,46,fun _ v=>v = .int .i64 R⟩,⟨7,47,fun _ v=>v = .int .i64 x⟩,⟨8,48,fun _ v=>v = .slice (some ⟨b0,off,none⟩) sn sc⟩,⟨9,49,fun _ v=>v = .int .i64 i⟩,⟨10,50,fun _ v=>v = .pointer (some ⟨b0,off + i * 4,none⟩)⟩,⟨11,51,fun _ v=>v = .pointer (some ⟨b0,off + i * 4 + 2,none⟩)⟩,⟨12,52,fun _ v=>v = .int .u8 r⟩,⟨13,53,fun _ v=>v = .int .i64 r⟩,⟨14,54,fun _ v=>v = .int .i64 R⟩,⟨15,55,fun _ v=>v = .int .i64 y⟩,⟨16,56,fun _ v=>v = .slice (some ⟨b0,off,none⟩) sn sc⟩,⟨17,57,fun _ v=>v = .int .i64 i⟩,⟨18,58,fun _ v=>v = .pointer (some ⟨b0,off + i * 4,none⟩)⟩,⟨19,59,fun _ v=>v = .pointer (some ⟨b0,off + i * 4 + 3,none⟩)⟩,⟨20,60,fun _ v=>v = .int .i8 z⟩,⟨21,61,fun _ v=>v = .int .i64 z⟩,⟨22,62,fun _ v=>v = .int .i64 t⟩,⟨23,63,fun w v=>IntV w v (t)⟩,⟨25,10,fun _ v=>v = .int .i64 x⟩,⟨26,11,fun _ v=>v = .int .i64 y⟩]
       [⟨24,12,27,fun w v=>IntV w v (t)⟩] []) kR RI.start ?fin1 ?steps1
     case steps1=>
      refine ⟨?_,?_,?_,?_,?_,?_,?_,?_,?_,?_,?_,?_,?_,?_,?_,?_,?_,?_,?_,?_,?_,?_,?_,?_,?_,?_,?_,?_,trivial⟩ <;> (intro L T wS hL hd hcl hI K hK; try refine step_wanted rfl ?_)
      ·have zt : T[1]? = some (.slice (some ⟨b0,off,none⟩) sn sc):=hI.keep 1 sI sI
       go_simp
       exact hK _ _ (hI.y mm0 rfl)
      ·have zt : T[8]? = some (.int .i64 i):=hI.keep 8 sI sI
       go_simp
       exact hK _ _ (hI.y mm1 rfl)
      ·obtain ⟨v0,zt0,rfl⟩:=hI.v mm0 (hd 0)
       obtain ⟨v1,zt1,rfl⟩:=hI.v mm1 (hd 1)
       go_simp
       exact hK _ _ (hI.y mm2 rfl)
      ·obtain ⟨v2,zt2,rfl⟩:=hI.v mm2 (hd 2)
       go_simp
       exact hK _ _ (hI.y mm3 rfl)
      ·obtain ⟨v3,zt3,rfl⟩:=hI.v mm3 (hd 3)
       have cc0:=hI.cell d2 oM nom
       go_simp
       exact hK _ _ (hI.y mm4 rfl)
      ·obtain ⟨v4,zt4,rfl⟩:=hI.v mm4 (hd 4)
       go_simp
       exact hK _ _ (hI.y mm5 (congrArg (Value.int .i64) (IntWalk.i64_in _ oM)))
      ·have zt : T[9]? = some (.int .i64 R):=hI.keep 9 sI sI
       go_simp
       exact hK _ _ (hI.y mm6 rfl)
      ·obtain ⟨_,zt5,rfl⟩:=hI.v mm5 (hd 5)
       obtain ⟨_,zt6,rfl⟩:=hI.v mm6 (hd 6)
       go_simp
       rw [if_neg oM]
       go_simp
       exact hK _ _ (hI.y mm7 (congrArg (Value.int .i64) HX.out))
      ·have zt : T[1]? = some (.slice (some ⟨b0,off,none⟩) sn sc):=hI.keep 1 sI sI
       go_simp
       exact hK _ _ (hI.y mm8 rfl)
      ·have zt : T[8]? = some (.int .i64 i):=hI.keep 8 sI sI
       go_simp
       exact hK _ _ (hI.y mm9 rfl)
      ·obtain ⟨v8,zt8,rfl⟩:=hI.v mm8 (hd 8)
       obtain ⟨v9,zt9,rfl⟩:=hI.v mm9 (hd 9)
       go_simp
       exact hK _ _ (hI.y mm10 rfl)
      ·obtain ⟨v10,zt10,rfl⟩:=hI.v mm10 (hd 10)
       go_simp
       exact hK _ _ (hI.y mm11 rfl)
      ·obtain ⟨v11,zt11,rfl⟩:=hI.v mm11 (hd 11)
       have cc0:=hI.cell d3 oM nom
       go_simp
       exact hK _ _ (hI.y mm12 rfl)
      ·obtain ⟨v12,zt12,rfl⟩:=hI.v mm12 (hd 12)
       go_simp
       exact hK _ _ (hI.y mm13 (congrArg (Value.int .i64) (IntWalk.i64_in _ oM)))
      ·have zt : T[9]? = some (.int .i64 R):=hI.keep 9 sI sI
       go_simp
       exact hK _ _ (hI.y mm14 rfl)
      ·obtain ⟨_,zt13,rfl⟩:=hI.v mm13 (hd 13)
       obtain ⟨_,zt14,rfl⟩:=hI.v mm14 (hd 14)
       go_simp
       rw [if_neg oM]
       go_simp
       exact hK _ _ (hI.y mm15 (congrArg (Value.int .i64) HY.out))
      ·have zt : T[1]? = some (.slice (some ⟨b0,off,none⟩) sn sc):=hI.keep 1 sI sI
       go_simp
       exact hK _ _ (hI.y mm16 rfl)
      ·have zt : T[8]? = some (.int .i64 i):=hI.keep 8 sI sI
       go_simp
       exact hK _ _ (hI.y mm17 rfl)
      ·obtain ⟨v16,zt16,rfl⟩:=hI.v mm16 (hd 16)
       obtain ⟨v17,zt17,rfl⟩:=hI.v mm17 (hd 17)
       go_simp
       exact hK _ _ (hI.y mm18 rfl)
      ·obtain ⟨v18,zt18,rfl⟩:=hI.v mm18 (hd 18)
       go_simp
       exact hK _ _ (hI.y mm19 rfl)
      ·obtain ⟨v19,zt19,rfl⟩:=hI.v mm19 (hd 19)
       have cc0:=hI.cell d4 oM nom
       go_simp
       exact hK _ _ (hI.y mm20 rfl)
      ·obtain ⟨v20,zt20,rfl⟩:=hI.v mm20 (hd 20)
       go_simp
       exact hK _ _ (hI.y mm21 (congrArg (Value.int .i64) (IntWalk.i64_in _ oM)))
      ·obtain ⟨v21,zt21,rfl⟩:=hI.v mm21 (hd 21)
       go_simp
       exact hK _ _ (hI.y mm22 (congrArg (Value.int .i64) HT.out))
      ·obtain ⟨v22,zt22,rfl⟩:=hI.v mm22 (hd 22)
       go_simp
       refine (r1of_any t _ oM oM).mono ?_
       rintro e wa ⟨v,rfl,hv,hba⟩
       exact hK _ _ ((hI.world hba).y mm23 hv)
      ·go_simp
       exact hK _ _ (hI.alloc ⟨24,12,27,_⟩ mm0 rfl hL)
      ·obtain ⟨v7,zt7,rfl⟩:=hI.v mm7 (hd 7)
       go_simp
       exact hK _ _ (hI.y mm24 rfl)
      ·obtain ⟨v15,zt15,rfl⟩:=hI.v mm15 (hd 15)
       go_simp
       exact hK _ _ (hI.y mm25 rfl)
      ·obtain ⟨v,t1,hv⟩:=hI.v mm23 (hd 23)
       obtain ⟨b,x,y,t2,hb1,hb2,-⟩:=hI.box _ mm0 (hd 24)
       obtain ⟨vneg,vao,vlen,vcap,vls,rfl,hv'⟩:=id hv
       have HT:=Lib.hid t2
       unfold ptr at t2
       obtain ⟨k1,k2,k3,k4⟩:=hb2.two
       go_simp
       exact hK _ _ (hI.store ⟨24,12,27,_⟩ mm0 rfl (hd 24) HT.out hv)
     intro T w9 hI
     obtain ⟨va0,q0,rfl⟩:=hI.v mm0 rfl
     obtain ⟨va1,q1,rfl⟩:=hI.v mm1 rfl
     obtain ⟨va2,q2,rfl⟩:=hI.v mm2 rfl
     obtain ⟨va3,q3,rfl⟩:=hI.v mm3 rfl
     obtain ⟨va4,q4,rfl⟩:=hI.v mm4 rfl
     obtain ⟨va5,q5,rfl⟩:=hI.v mm5 rfl
     obtain ⟨va6,q6,rfl⟩:=hI.v mm6 rfl
     obtain ⟨va7,q7,rfl⟩:=hI.v mm7 rfl
     obtain ⟨va8,q8,rfl⟩:=hI.v mm8 rfl
     obtain ⟨va9,q9,rfl⟩:=hI.v mm9 rfl
     obtain ⟨va10,q10,rfl⟩:=hI.v mm10 rfl
     obtain ⟨va11,q11,rfl⟩:=hI.v mm11 rfl
     obtain ⟨va12,q12,rfl⟩:=hI.v mm12 rfl
     obtain ⟨va13,q13,rfl⟩:=hI.v mm13 rfl
     obtain ⟨va14,q14,rfl⟩:=hI.v mm14 rfl
     obtain ⟨va15,q15,rfl⟩:=hI.v mm15 rfl
     obtain ⟨va16,q16,rfl⟩:=hI.v mm16 rfl
     obtain ⟨va17,q17,rfl⟩:=hI.v mm17 rfl
     obtain ⟨va18,q18,rfl⟩:=hI.v mm18 rfl
     obtain ⟨va19,q19,rfl⟩:=hI.v mm19 rfl
     obtain ⟨va20,q20,rfl⟩:=hI.v mm20 rfl
     obtain ⟨va21,q21,rfl⟩:=hI.v mm21 rfl
     obtain ⟨va22,q22,rfl⟩:=hI.v mm22 rfl
     obtain ⟨va23,q23,ha23⟩:=hI.v mm23 rfl
     replace ha23 : IntV w9 va23 (t):=ha23
     obtain ⟨va25,q25,rfl⟩:=hI.v mm24 rfl
     obtain ⟨va26,q26,rfl⟩:=hI.v mm25 rfl
     obtain ⟨ca24,xa24,ya24,r24,ga24,ka24,ia24⟩:=hI.box _ mm0 rfl
     replace ia24 : IntV w9 (.agg #[xa24,ya24]) (t):=ia24 rfl
     have hT:=tmps_set [(40,.slice (some ⟨b0,off,none⟩) sn sc),(41,.int .i64 i),(42,.pointer (some ⟨b0,off + i * 4,none⟩)),(43,.pointer (some ⟨b0,off + i * 4 + 1,none⟩)),(44,.int .u8 q),(45,.int .i64 q),(46,.int .i64 R),(47,.int .i64 x),(48,.slice (some ⟨b0,off,none⟩) sn sc),(49,.int .i64 i),(50,.pointer (some ⟨b0,off + i * 4,none⟩)),(51,.pointer (some ⟨b0,off + i * 4 + 2,none⟩)),(52,.int .u8 r),(53,.int .i64 r),(54,.int .i64 R),(55,.int .i64 y),(56,.slice (some ⟨b0,off,none⟩) sn sc),(57,.int .i64 i),(58,.pointer (some ⟨b0,off + i * 4,none⟩)),(59,.pointer (some ⟨b0,off + i * 4 + 3,none⟩)),(60,.int .i8 z),(61,.int .i64 z),(62,.int .i64 t),(63,va23),(10,.int .i64 x),(11,.int .i64 y),(12,ptr ca24)]
      (fun j hj=>hI.keep j (by simp only [List.forall_mem_cons] at hj ⊢; simp [hj]) (by simp only [List.forall_mem_cons] at hj ⊢; simp [hj]))
      (by simp only [List.forall_mem_cons]; simp [q0,q1,q2,q3,q4,q5,q6,q7,q8,q9,q10,q11,q12,q13,q14,q15,q16,q17,q18,q19,q20,q21,q22,q23,q25,q26,r24]) hI.size
     have hlw9:=hI.lext
     have hbw9:=hI.bel (wr.heap.size) oM nom
     have holdw9:=hI.old
     clear hI
     simp only [List.foldl_cons,List.foldl_nil,List.setIfInBounds_toArray,List.set_cons_zero,List.set_cons_succ,ptr] at hT
     subst hT
     clear q0 q1 q2 q3 q4 q5 q6 q7 q8 q9 q10 q11 q12 q13 q14 q15 q16 q17 q18 q19 q20 q21 q22 q23 q25 q26 r24
     have hb:=nx hb hbw9
     have br:=br.below hbw9
     have T7:=T7.below hbw9
     have ho:=ho.below hbw9
     have hst9:=hbw9.size
     clear d2 d3 d4 f1 f2 f3 f4 f5 f6
     by_cases hxy : x = y
     ·subst hxy
      go_wp2
      go_roundw
      case rel=>exact ⟨i + 1,F,bs,by simp,by omega,hb,br,T7,ho,hbl,hmb,HSM⟩
      case measure=>simp [intOf]; omega
     ·have d1:=(hbw9.cell (p:=⟨b0,off + i * 4,none⟩) hb0r).trans d1
      obtain ⟨f1,f2,f3,f4,f5,f6⟩:=T7.three
      obtain ⟨k1,k2,k3,k4⟩:=ka24.two
      by_cases hop0 : op = 0
      ·subst hop0
       go_wp2_with fail
       refine (combine_any _ _ R C x y W0.heap.size bs F t w9 ho hbl hxs hys hxy ia24 oM oM HSF.out.1 HSF.out.2).mono ?_
       rintro e wa ⟨⟨uu,rfl⟩,hon,ho'⟩
       have hbs:=ho.bases
       have hbN:=Only.below hb hon (fun k hk=>by have:=hbs k hk; omega) hb.size
       have T7':=Only.blk T7 hon (fun hh=>by have:=hmb _ hh; omega)
       have br':=Only.blk br hon (fun hh=>by have:=hbs _ hh; omega)
       clear k1 k2 k3 k4 f1 f2 f3 f4 f5 f6 d1
       go_wp2
       go_roundw
       case rel=>exact ⟨i + 1,_,bs,by simp,by omega,hbN,br',T7',ho',hbl,hmb,⟨hch.out.add hxs hys hxy ht9⟩⟩
       case measure=>simp [intOf]; omega
      ·obtain rfl : op = 1:=by omega
       obtain ⟨g,bi,rfl,hg,hbi,hbi2,o1,ho3⟩:=ho.at_ (i:=x) oM
       obtain ⟨g',bj,eg,-,hbj,hbj2,o2,-⟩:=ho.at_ (i:=y) oM
       obtain rfl : g = g':=by injection eg with eg; injection eg
       obtain ⟨cur,hBr,hcz⟩:=RowsO.gblk ho
       have hion : x < on/\y < on:=by omega
       obtain ⟨hion,hjon⟩:=hion
       have q1:=hBr.frozen x
       have q2:=hBr.frozen y
       have s2 : (w9.setCell ⟨g,x,none⟩ (.slice (some ⟨bj,0,none⟩) C C)).frozen? ⟨g,y,none⟩ = false:=(hBr.set_ x _).frozen y
       obtain ⟨u,s1⟩ : ∃u,(w9.setCell ⟨g,x,none⟩ (.slice (some ⟨bj,0,none⟩) C C)).cell? ⟨g,y,none⟩ = some u:=by
        rw [(hBr.set_ x _).cell y]
        exact ⟨_,Array.getElem?_eq_getElem (by simpa using (by omega : y < cur.size))⟩
       have hsw:=ho.swap hbi hbj (genM_row R C F hxs) (genM_row R C F hys)
       have hgT:=hBr.ne T7 dE
       have hgb:=hBr.ne br dE
       have hbg:=ho.blk.1
       have hmem : ∀b ∈ (bs.set x bj).set y bi,b ∈ bs:=fun b hb=>by
        rcases List.mem_or_eq_of_mem_set hb with h1 | h1
        ·rcases List.mem_or_eq_of_mem_set h1 with h2 | h2
         ·exact h2
         ·rw [h2]; exact List.mem_of_getElem? hbj
        ·rw [h1]; exact List.mem_of_getElem? hbi
       have HSW:=HidS.mk hsw
       have HO3:=Lib.hid ho3
       clear hsw ho3 eg hBr
       go_upto_region 19 with (fail)
       go_region
       clear o1 o2 q1 q2 s1 s2 k1 k2 k3 k4 f1 f2 f3 f4 f5 f6 d1
       go_wp2
       go_roundw
       case rel=>
        have hsw:=HSW.out.1
        have e : ((genM R C F).set x ((List.range C).map (F y))).set y ((List.range C).map (F x)) = genM R C (fun a b=>F (swp x y a) b):=genM_swap hxs hys
        rw [e] at hsw
        exact ⟨i + 1,_,(bs.set x bj).set y bi,by simp,by omega,(bset (bset hb oM _ _) oM _ _).drew,(set2_old _ _ _ _ _ _ _ hgb.symm).trans br,(set2_old _ _ _ _ _ _ _ hgT.symm).trans T7,hsw.below (dr _),by simpa using hbl,fun b hb=>hmb b (hmem b hb),⟨hch.out.swap hxs hys⟩⟩
       case measure=>simp [intOf]; omega
    ·obtain rfl : R = 0:=by omega
     go_wp2
     go_roundw
     case rel=>exact ⟨i + 1,F,bs,by simp,by omega,hb,br,T7,ho,hbl,hmb,HSM⟩
     case measure=>simp [intOf]; omega
   ·by_cases hS0 : 0 < C
    ·skip
     obtain ⟨x,hx⟩ : ∃x : Nat,x = q % C:=⟨_,rfl⟩
     obtain ⟨y,hy⟩ : ∃y : Nat,y = r % C:=⟨_,rfl⟩
     have hxs : x < C:=by rw [hx]; exact Nat.mod_lt _ hS0
     have hys : y < C:=by rw [hy]; exact Nat.mod_lt _ hS0
     have HX : HidS ((q : Int) % (C : Int) = (x : Int)):=⟨by rw [hx]; rfl⟩
     have HY : HidS ((r : Int) % (C : Int) = (y : Int)):=⟨by rw [hy]; rfl⟩
     clear hx hy
     go_upto_region 9 with (fail)
     refine wp_region_each rfl (RI wr (wr.heap.size) _ 45
       [⟨0,40,fun _ v=>v = .slice (some ⟨b0,off,none⟩) sn sc⟩,⟨1,41,fun _ v=>v = .int .i64 i⟩,⟨2,42,fun _ v=>v = .pointer (some ⟨b0,off + i * 4,none⟩)⟩,⟨3,43,fun _ v=>v = .pointer (some ⟨b0,off + i * 4 + 1,none⟩)⟩,⟨4,44,fun _ v=>v = .int .u8 q⟩,⟨5,45,fun _ v=>v = .int .i64 q⟩,⟨6,46,fun _ v=>v = .int .i64 C⟩,⟨7,47,fun _ v=>v = .int .i64 x⟩,⟨8,48,fun _ v=>v = .slice (some ⟨b0,off,none⟩) sn sc⟩,⟨9,49,fun _ v=>v = .int .i64 i⟩,⟨10,50,fun _ v=>v = .pointer (some ⟨b0,off + i * 4,none⟩)⟩,⟨11,51,fun _ v=>v = .pointer (some ⟨b0,off + i * 4 + 2,none⟩)⟩,⟨12,52,fun _ v=>v = .int .u8 r⟩,⟨13,53,fun _ v=>v = .int .i64 r⟩,⟨14,54,fun _ v=>v = .int .i64 C⟩,⟨15,55,fun _ v=>v = .int .i64 y⟩,⟨16,56,fun _ v=>v = .slice (some ⟨b0,off,none⟩) sn sc⟩,⟨17,57,fun _ v=>v = .int .i64 i⟩,⟨18,58,fun _ v=>v = .pointer (some ⟨b0,off + i * 4,none⟩)⟩,⟨19,59,fun _ v=>v = .pointer (some ⟨b0,off + i * 4 + 3,none⟩)⟩,⟨20,60,fun _ v=>v = .int .i8 z⟩,⟨21,61,fun _ v=>v = .int .i64 z⟩,⟨22,62,fun _ v=>v = .int .i64 t⟩,⟨23,63,fun w v=>IntV w v (t)⟩,⟨25,10,fun _ v=>v = .int .i64 x⟩,⟨26,11,fun _ v=>v = .int .i64 y⟩]
       [⟨24,12,27,fun w v=>IntV w v (t)⟩] []) kR RI.start ?fin2 ?steps2
     case steps2=>
      refine ⟨?_,?_,?_,?_,?_,?_,?_,?_,?_,?_,?_,?_,?_,?_,?_,?_,?_,?_,?_,?_,?_,?_,?_,?_,?_,?_,?_,?_,trivial⟩ <;> (intro L T wS hL hd hcl hI K hK; try refine step_wanted rfl ?_)
      ·have zt : T[1]? = some (.slice (some ⟨b0,off,none⟩) sn sc):=hI.keep 1 sI sI
       go_simp
       exact hK _ _ (hI.y mm0 rfl)
      ·have zt : T[8]? = some (.int .i64 i):=hI.keep 8 sI sI
       go_simp
       exact hK _ _ (hI.y mm1 rfl)
      ·obtain ⟨v0,zt0,rfl⟩:=hI.v mm0 (hd 0)
       obtain ⟨v1,zt1,rfl⟩:=hI.v mm1 (hd 1)
       go_simp
       exact hK _ _ (hI.y mm2 rfl)
      ·obtain ⟨v2,zt2,rfl⟩:=hI.v mm2 (hd 2)
       go_simp
       exact hK _ _ (hI.y mm3 rfl)
      ·obtain ⟨v3,zt3,rfl⟩:=hI.v mm3 (hd 3)
       have cc0:=hI.cell d2 oM nom
       go_simp
       exact hK _ _ (hI.y mm4 rfl)
      ·obtain ⟨v4,zt4,rfl⟩:=hI.v mm4 (hd 4)
       go_simp
       exact hK _ _ (hI.y mm5 (congrArg (Value.int .i64) (IntWalk.i64_in _ oM)))
      ·have zt : T[9]? = some (.int .i64 C):=hI.keep 9 sI sI
       go_simp
       exact hK _ _ (hI.y mm6 rfl)
      ·obtain ⟨_,zt5,rfl⟩:=hI.v mm5 (hd 5)
       obtain ⟨_,zt6,rfl⟩:=hI.v mm6 (hd 6)
       go_simp
       rw [if_neg oM]
       go_simp
       exact hK _ _ (hI.y mm7 (congrArg (Value.int .i64) HX.out))
      ·have zt : T[1]? = some (.slice (some ⟨b0,off,none⟩) sn sc):=hI.keep 1 sI sI
       go_simp
       exact hK _ _ (hI.y mm8 rfl)
      ·have zt : T[8]? = some (.int .i64 i):=hI.keep 8 sI sI
       go_simp
       exact hK _ _ (hI.y mm9 rfl)
      ·obtain ⟨v8,zt8,rfl⟩:=hI.v mm8 (hd 8)
       obtain ⟨v9,zt9,rfl⟩:=hI.v mm9 (hd 9)
       go_simp
       exact hK _ _ (hI.y mm10 rfl)
      ·obtain ⟨v10,zt10,rfl⟩:=hI.v mm10 (hd 10)
       go_simp
       exact hK _ _ (hI.y mm11 rfl)
      ·obtain ⟨v11,zt11,rfl⟩:=hI.v mm11 (hd 11)
       have cc0:=hI.cell d3 oM nom
       go_simp
       exact hK _ _ (hI.y mm12 rfl)
      ·obtain ⟨v12,zt12,rfl⟩:=hI.v mm12 (hd 12)
       go_simp
       exact hK _ _ (hI.y mm13 (congrArg (Value.int .i64) (IntWalk.i64_in _ oM)))
      ·have zt : T[9]? = some (.int .i64 C):=hI.keep 9 sI sI
       go_simp
       exact hK _ _ (hI.y mm14 rfl)
      ·obtain ⟨_,zt13,rfl⟩:=hI.v mm13 (hd 13)
       obtain ⟨_,zt14,rfl⟩:=hI.v mm14 (hd 14)
       go_simp
       rw [if_neg oM]
       go_simp
       exact hK _ _ (hI.y mm15 (congrArg (Value.int .i64) HY.out))
      ·have zt : T[1]? = some (.slice (some ⟨b0,off,none⟩) sn sc):=hI.keep 1 sI sI
       go_simp
       exact hK _ _ (hI.y mm16 rfl)
      ·have zt : T[8]? = some (.int .i64 i):=hI.keep 8 sI sI
       go_simp
       exact hK _ _ (hI.y mm17 rfl)
      ·obtain ⟨v16,zt16,rfl⟩:=hI.v mm16 (hd 16)
       obtain ⟨v17,zt17,rfl⟩:=hI.v mm17 (hd 17)
       go_simp
       exact hK _ _ (hI.y mm18 rfl)
      ·obtain ⟨v18,zt18,rfl⟩:=hI.v mm18 (hd 18)
       go_simp
       exact hK _ _ (hI.y mm19 rfl)
      ·obtain ⟨v19,zt19,rfl⟩:=hI.v mm19 (hd 19)
       have cc0:=hI.cell d4 oM nom
       go_simp
       exact hK _ _ (hI.y mm20 rfl)
      ·obtain ⟨v20,zt20,rfl⟩:=hI.v mm20 (hd 20)
       go_simp
       exact hK _ _ (hI.y mm21 (congrArg (Value.int .i64) (IntWalk.i64_in _ oM)))
      ·obtain ⟨v21,zt21,rfl⟩:=hI.v mm21 (hd 21)
       go_simp
       exact hK _ _ (hI.y mm22 (congrArg (Value.int .i64) HT.out))
      ·obtain ⟨v22,zt22,rfl⟩:=hI.v mm22 (hd 22)
       go_simp
       refine (r1of_any t _ oM oM).mono ?_
       rintro e wa ⟨v,rfl,hv,hba⟩
       exact hK _ _ ((hI.world hba).y mm23 hv)
      ·go_simp
       exact hK _ _ (hI.alloc ⟨24,12,27,_⟩ mm0 rfl hL)
      ·obtain ⟨v7,zt7,rfl⟩:=hI.v mm7 (hd 7)
       go_simp
       exact hK _ _ (hI.y mm24 rfl)
      ·obtain ⟨v15,zt15,rfl⟩:=hI.v mm15 (hd 15)
       go_simp
       exact hK _ _ (hI.y mm25 rfl)
      ·obtain ⟨v,t1,hv⟩:=hI.v mm23 (hd 23)
       obtain ⟨b,x,y,t2,hb1,hb2,-⟩:=hI.box _ mm0 (hd 24)
       obtain ⟨vneg,vao,vlen,vcap,vls,rfl,hv'⟩:=id hv
       have HT:=Lib.hid t2
       unfold ptr at t2
       obtain ⟨k1,k2,k3,k4⟩:=hb2.two
       go_simp
       exact hK _ _ (hI.store ⟨24,12,27,_⟩ mm0 rfl (hd 24) HT.out hv)
     intro T w9 hI
     obtain ⟨va0,q0,rfl⟩:=hI.v mm0 rfl
     obtain ⟨va1,q1,rfl⟩:=hI.v mm1 rfl
     obtain ⟨va2,q2,rfl⟩:=hI.v mm2 rfl
     obtain ⟨va3,q3,rfl⟩:=hI.v mm3 rfl
     obtain ⟨va4,q4,rfl⟩:=hI.v mm4 rfl
     obtain ⟨va5,q5,rfl⟩:=hI.v mm5 rfl
     obtain ⟨va6,q6,rfl⟩:=hI.v mm6 rfl
     obtain ⟨va7,q7,rfl⟩:=hI.v mm7 rfl
     obtain ⟨va8,q8,rfl⟩:=hI.v mm8 rfl
     obtain ⟨va9,q9,rfl⟩:=hI.v mm9 rfl
     obtain ⟨va10,q10,rfl⟩:=hI.v mm10 rfl
     obtain ⟨va11,q11,rfl⟩:=hI.v mm11 rfl
     obtain ⟨va12,q12,rfl⟩:=hI.v mm12 rfl
     obtain ⟨va13,q13,rfl⟩:=hI.v mm13 rfl
     obtain ⟨va14,q14,rfl⟩:=hI.v mm14 rfl
     obtain ⟨va15,q15,rfl⟩:=hI.v mm15 rfl
     obtain ⟨va16,q16,rfl⟩:=hI.v mm16 rfl
     obtain ⟨va17,q17,rfl⟩:=hI.v mm17 rfl
     obtain ⟨va18,q18,rfl⟩:=hI.v mm18 rfl
     obtain ⟨va19,q19,rfl⟩:=hI.v mm19 rfl
     obtain ⟨va20,q20,rfl⟩:=hI.v mm20 rfl
     obtain ⟨va21,q21,rfl⟩:=hI.v mm21 rfl
     obtain ⟨va22,q22,rfl⟩:=hI.v mm22 rfl
     obtain ⟨va23,q23,ha23⟩:=hI.v mm23 rfl
     replace ha23 : IntV w9 va23 (t):=ha23
     obtain ⟨va25,q25,rfl⟩:=hI.v mm24 rfl
     obtain ⟨va26,q26,rfl⟩:=hI.v mm25 rfl
     obtain ⟨ca24,xa24,ya24,r24,ga24,ka24,ia24⟩:=hI.box _ mm0 rfl
     replace ia24 : IntV w9 (.agg #[xa24,ya24]) (t):=ia24 rfl
     have hT:=tmps_set [(40,.slice (some ⟨b0,off,none⟩) sn sc),(41,.int .i64 i),(42,.pointer (some ⟨b0,off + i * 4,none⟩)),(43,.pointer (some ⟨b0,off + i * 4 + 1,none⟩)),(44,.int .u8 q),(45,.int .i64 q),(46,.int .i64 C),(47,.int .i64 x),(48,.slice (some ⟨b0,off,none⟩) sn sc),(49,.int .i64 i),(50,.pointer (some ⟨b0,off + i * 4,none⟩)),(51,.pointer (some ⟨b0,off + i * 4 + 2,none⟩)),(52,.int .u8 r),(53,.int .i64 r),(54,.int .i64 C),(55,.int .i64 y),(56,.slice (some ⟨b0,off,none⟩) sn sc),(57,.int .i64 i),(58,.pointer (some ⟨b0,off + i * 4,none⟩)),(59,.pointer (some ⟨b0,off + i * 4 + 3,none⟩)),(60,.int .i8 z),(61,.int .i64 z),(62,.int .i64 t),(63,va23),(10,.int .i64 x),(11,.int .i64 y),(12,ptr ca24)]
      (fun j hj=>hI.keep j (by simp only [List.forall_mem_cons] at hj ⊢; simp [hj]) (by simp only [List.forall_mem_cons] at hj ⊢; simp [hj]))
      (by simp only [List.forall_mem_cons]; simp [q0,q1,q2,q3,q4,q5,q6,q7,q8,q9,q10,q11,q12,q13,q14,q15,q16,q17,q18,q19,q20,q21,q22,q23,q25,q26,r24]) hI.size
     have hlw9:=hI.lext
     have hbw9:=hI.bel (wr.heap.size) oM nom
     have holdw9:=hI.old
     clear hI
     simp only [List.foldl_cons,List.foldl_nil,List.setIfInBounds_toArray,List.set_cons_zero,List.set_cons_succ,ptr] at hT
     subst hT
     clear q0 q1 q2 q3 q4 q5 q6 q7 q8 q9 q10 q11 q12 q13 q14 q15 q16 q17 q18 q19 q20 q21 q22 q23 q25 q26 r24
     have hb:=nx hb hbw9
     have br:=br.below hbw9
     have T7:=T7.below hbw9
     have ho:=ho.below hbw9
     have hst9:=hbw9.size
     clear d2 d3 d4 f1 f2 f3 f4 f5 f6
     by_cases hxy : x = y
     ·subst hxy
      go_wp2
      go_roundw
      case rel=>exact ⟨i + 1,F,bs,by simp,by omega,hb,br,T7,ho,hbl,hmb,HSM⟩
      case measure=>simp [intOf]; omega
     ·have d1:=(hbw9.cell (p:=⟨b0,off + i * 4,none⟩) hb0r).trans d1
      obtain ⟨f1,f2,f3,f4,f5,f6⟩:=T7.three
      obtain ⟨k1,k2,k3,k4⟩:=ka24.two
      by_cases hop3 : op = 2
      ·subst hop3
       go_wp2_with fail
       refine (combineColumns_any _ _ R C x y W0.heap.size bs F t w9 ho hbl hxs hys hxy ia24 oM oM HSF.out.1 HSF.out.2).mono ?_
       rintro e wa ⟨⟨uu,rfl⟩,hon,ho'⟩
       have hbs:=ho.bases
       have hbN:=Only.below hb hon (fun k hk=>by have:=hbs k hk; omega) hb.size
       have T7':=Only.blk T7 hon (fun hh=>by have:=hmb _ hh; omega)
       have br':=Only.blk br hon (fun hh=>by have:=hbs _ hh; omega)
       clear k1 k2 k3 k4 f1 f2 f3 f4 f5 f6 d1
       go_wp2
       go_roundw
       case rel=>exact ⟨i + 1,_,bs,by simp,by omega,hbN,br',T7',ho',hbl,hmb,⟨hch.out.addc hxs hys hxy ht9⟩⟩
       case measure=>simp [intOf]; omega
      ·obtain rfl : op = 3:=by omega
       have hst0 : genM R C F = genM R C (swnU F x y 0):=genM_congr fun a _ b _=>by unfold swnU; rw [if_neg oM]
       rw [hst0] at ho
       clear hst0
       go_upto_region 12 with (fail)
       go_wp2
       clear k1 k2 k3 k4 f1 f2 f3 f4 f5 f6 d1
       go_loopw [13] (fun rv wr=>∃r : Nat,r<=R/\rv = .int .i64 r/\Below w.heap.size w wr/\Blk wr (w.heap.size + 1) 28 #[.int .i64 0,.int .i64 0,.slice none 0 0]/\Blk wr w2.heap.size 28 #[.int .i64 R,.int .i64 C,.slice oo on oc]/\RowsO wr W0.heap.size (.slice oo on oc) C bs (genM R C (swnU F x y r))) (fun rv _=>R - (intOf rv).toNat)
       case atStart=>exact ⟨0,by omega,rfl,hb,br,T7,ho⟩
       case round=>
        rename_i K1 aK1 _ _ _ _
        clear hb br T7 ho
        obtain ⟨r',hr',rfl,hb,br,T7,ho⟩:=hrel
        obtain ⟨f1,f2,f3,f4,f5,f6⟩:=T7.three
        by_cases hlt : r' < R
        ·obtain ⟨g,bi,rfl,hg,hbi,hbi2,o1,ho3⟩:=ho.at_ (i:=r') oM
         have hion : r' < on:=by omega
         obtain ⟨xs,xa,xl,xc,p1,p2,p3,p4,hzx⟩:=ho.cellAt hbi hxs
         obtain ⟨ys,ya,yl,yc,q1,q2,q3,q4,hzy⟩:=ho.cellAt hbi hys
         rw [ent_genM hlt hxs] at hzx
         rw [ent_genM hlt hys] at hzy
         have e1 : swnU F x y r' r' x = F r' x:=by unfold swnU; rw [if_neg oM]
         have e2 : swnU F x y r' r' y = F r' y:=by unfold swnU; rw [if_neg oM]
         rw [e1] at hzx
         rw [e2] at hzy
         obtain ⟨rowb,hrowb,hrow⟩:=ho.rowAt hlt
         obtain rfl : rowb = bi:=Option.some.inj (hrowb.symm.trans hbi)
         obtain ⟨rcs,hrcs,-⟩:=id hrow
         have hBb : Blk wr rowb tI rcs:=hrcs
         have HBB:=HidS.mk hBb
         have HO3:=Lib.hid ho3
         have hyz : rcs.size > y * 2 + 1:=by
          have : wr.cell? ⟨rowb,y * 2 + 1,none⟩ = rcs[y * 2 + 1]?:=hBb.cell _
          rw [this] at q2
          exact (Array.getElem?_eq_some_iff.1 q2).1
         have SY : HidS (Sm (F r' y)):=⟨(HSF.out.1 r' hlt y hys).1⟩
         have hbolt:=hbi2
         have lt7:=T7.lt
         clear hrow hrcs hBb e1 e2 ho3 hrowb q3 q4
         go_upto_region 15 with (fail)
         refine wp_region_each rfl (RIT wr (wr.heap.size) _ 45
           [⟨0,79,fun _ v=>v = .pointer (some ⟨w2.heap.size,2,none⟩)⟩,⟨1,80,fun _ v=>v = .slice (some ⟨g,0,none⟩) on oc⟩,⟨2,81,fun _ v=>v = .int .i64 r'⟩,⟨3,82,fun _ v=>v = .pointer (some ⟨g,r',none⟩)⟩,⟨4,83,fun _ v=>v = .slice (some ⟨rowb,0,none⟩) C C⟩,⟨5,84,fun _ v=>v = .int .i64 x⟩,⟨6,85,fun _ v=>v = .pointer (some ⟨w2.heap.size,2,none⟩)⟩,⟨7,86,fun _ v=>v = .slice (some ⟨g,0,none⟩) on oc⟩,⟨8,87,fun _ v=>v = .int .i64 r'⟩,⟨9,88,fun _ v=>v = .pointer (some ⟨g,r',none⟩)⟩,⟨10,89,fun _ v=>v = .slice (some ⟨rowb,0,none⟩) C C⟩,⟨11,90,fun _ v=>v = .int .i64 y⟩,⟨12,91,fun _ v=>v = .pointer (some ⟨w2.heap.size,2,none⟩)⟩,⟨13,92,fun _ v=>v = .slice (some ⟨g,0,none⟩) on oc⟩,⟨14,93,fun _ v=>v = .int .i64 r'⟩,⟨15,94,fun _ v=>v = .pointer (some ⟨g,r',none⟩)⟩,⟨16,95,fun _ v=>v = .slice (some ⟨rowb,0,none⟩) C C⟩,⟨17,96,fun _ v=>v = .int .i64 y⟩,⟨18,97,fun _ v=>v = .pointer (some ⟨rowb,y * 2,none⟩)⟩,⟨19,98,fun _ v=>v = .agg #[.bool ys,.slice ya yl yc]⟩,⟨20,99,fun w v=>IntV w v (-(F r' y))⟩,⟨21,100,fun _ v=>v = .pointer (some ⟨w2.heap.size,2,none⟩)⟩,⟨22,101,fun _ v=>v = .slice (some ⟨g,0,none⟩) on oc⟩,⟨23,102,fun _ v=>v = .int .i64 r'⟩,⟨24,103,fun _ v=>v = .pointer (some ⟨g,r',none⟩)⟩,⟨25,104,fun _ v=>v = .slice (some ⟨rowb,0,none⟩) C C⟩,⟨26,105,fun _ v=>v = .int .i64 x⟩,⟨27,106,fun _ v=>v = .pointer (some ⟨rowb,x * 2,none⟩)⟩,⟨28,107,fun _ v=>v = .agg #[.bool xs,.slice xa xl xc]⟩,⟨29,108,fun _ v=>v = .pointer (some ⟨rowb,x * 2,none⟩)⟩,⟨31,109,fun _ v=>v = .pointer (some ⟨rowb,y * 2,none⟩)⟩]
           [] [] 30 32 (put2At 99 rowb (x * 2)) (fun _ w=>(w.setCell ⟨rowb,y * 2,none⟩ (.bool xs)).setCell ⟨rowb,y * 2 + 1,none⟩ (.slice xa xl xc))) kR (RIT.start RI.start) ?fin3 ?steps3
         case steps3=>
          refine ⟨?_,?_,?_,?_,?_,?_,?_,?_,?_,?_,?_,?_,?_,?_,?_,?_,?_,?_,?_,?_,?_,?_,?_,?_,?_,?_,?_,?_,?_,?_,?_,?_,?_,trivial⟩
          ·refine StepAt.liftT kR kR dE ?_
           intro L T wS hL hd hcl hI K hK
           try refine step_wanted rfl ?_
           have zt : T[7]? = some (.pointer (some ⟨w2.heap.size,0,none⟩)):=hI.keep 7 sI sI
           go_simp
           exact hK _ _ (hI.y mm0 rfl)
          ·refine StepAt.liftT kR kR dE ?_
           intro L T wS hL hd hcl hI K hK
           try refine step_wanted rfl ?_
           obtain ⟨v0,zt0,rfl⟩:=hI.v mm0 (hd 0)
           have cc0:=hI.cell f3 oM aU
           go_simp
           exact hK _ _ (hI.y mm1 rfl)
          ·refine StepAt.liftT kR kR dE ?_
           intro L T wS hL hd hcl hI K hK
           try refine step_wanted rfl ?_
           have zt : T[13]? = some (.int .i64 r'):=hI.keep 13 sI sI
           go_simp
           exact hK _ _ (hI.y mm2 rfl)
          ·refine StepAt.liftT kR kR dE ?_
           intro L T wS hL hd hcl hI K hK
           try refine step_wanted rfl ?_
           obtain ⟨v1,zt1,rfl⟩:=hI.v mm1 (hd 1)
           obtain ⟨v2,zt2,rfl⟩:=hI.v mm2 (hd 2)
           go_simp
           exact hK _ _ (hI.y mm3 rfl)
          ·refine StepAt.liftT kR kR dE ?_
           intro L T wS hL hd hcl hI K hK
           try refine step_wanted rfl ?_
           obtain ⟨v3,zt3,rfl⟩:=hI.v mm3 (hd 3)
           have cc0:=hI.cell o1 oM aU
           go_simp
           exact hK _ _ (hI.y mm4 rfl)
          ·refine StepAt.liftT kR kR dE ?_
           intro L T wS hL hd hcl hI K hK
           try refine step_wanted rfl ?_
           have zt : T[10]? = some (.int .i64 x):=hI.keep 10 sI sI
           go_simp
           exact hK _ _ (hI.y mm5 rfl)
          ·refine StepAt.liftT kR kR dE ?_
           intro L T wS hL hd hcl hI K hK
           try refine step_wanted rfl ?_
           have zt : T[7]? = some (.pointer (some ⟨w2.heap.size,0,none⟩)):=hI.keep 7 sI sI
           go_simp
           exact hK _ _ (hI.y mm6 rfl)
          ·refine StepAt.liftT kR kR dE ?_
           intro L T wS hL hd hcl hI K hK
           try refine step_wanted rfl ?_
           obtain ⟨v6,zt6,rfl⟩:=hI.v mm6 (hd 6)
           have cc0:=hI.cell f3 oM aU
           go_simp
           exact hK _ _ (hI.y mm7 rfl)
          ·refine StepAt.liftT kR kR dE ?_
           intro L T wS hL hd hcl hI K hK
           try refine step_wanted rfl ?_
           have zt : T[13]? = some (.int .i64 r'):=hI.keep 13 sI sI
           go_simp
           exact hK _ _ (hI.y mm8 rfl)
          ·refine StepAt.liftT kR kR dE ?_
           intro L T wS hL hd hcl hI K hK
           try refine step_wanted rfl ?_
           obtain ⟨v7,zt7,rfl⟩:=hI.v mm7 (hd 7)
           obtain ⟨v8,zt8,rfl⟩:=hI.v mm8 (hd 8)
           go_simp
           exact hK _ _ (hI.y mm9 rfl)
          ·refine StepAt.liftT kR kR dE ?_
           intro L T wS hL hd hcl hI K hK
           try refine step_wanted rfl ?_
           obtain ⟨v9,zt9,rfl⟩:=hI.v mm9 (hd 9)
           have cc0:=hI.cell o1 oM aU
           go_simp
           exact hK _ _ (hI.y mm10 rfl)
          ·intro L T wS hL hd hcl hI K hK
           try refine step_wanted rfl ?_
           have zt : T[11]? = some (.int .i64 y):=hI.keep sI sI
           go_simp
           exact hK _ _ (hI.value hcl kR hL dE ⟨11,90,_⟩ mm11 rfl (fun _=>rfl) (put2_set sI))
          ·refine StepAt.liftT kR kR dE ?_
           intro L T wS hL hd hcl hI K hK
           try refine step_wanted rfl ?_
           have zt : T[7]? = some (.pointer (some ⟨w2.heap.size,0,none⟩)):=hI.keep 7 sI sI
           go_simp
           exact hK _ _ (hI.y mm12 rfl)
          ·refine StepAt.liftT kR kR dE ?_
           intro L T wS hL hd hcl hI K hK
           try refine step_wanted rfl ?_
           obtain ⟨v12,zt12,rfl⟩:=hI.v mm12 (hd 12)
           have cc0:=hI.cell f3 oM aU
           go_simp
           exact hK _ _ (hI.y mm13 rfl)
          ·refine StepAt.liftT kR kR dE ?_
           intro L T wS hL hd hcl hI K hK
           try refine step_wanted rfl ?_
           have zt : T[13]? = some (.int .i64 r'):=hI.keep 13 sI sI
           go_simp
           exact hK _ _ (hI.y mm14 rfl)
          ·refine StepAt.liftT kR kR dE ?_
           intro L T wS hL hd hcl hI K hK
           try refine step_wanted rfl ?_
           obtain ⟨v13,zt13,rfl⟩:=hI.v mm13 (hd 13)
           obtain ⟨v14,zt14,rfl⟩:=hI.v mm14 (hd 14)
           go_simp
           exact hK _ _ (hI.y mm15 rfl)
          ·refine StepAt.liftT kR kR dE ?_
           intro L T wS hL hd hcl hI K hK
           try refine step_wanted rfl ?_
           obtain ⟨v15,zt15,rfl⟩:=hI.v mm15 (hd 15)
           have cc0:=hI.cell o1 oM aU
           go_simp
           exact hK _ _ (hI.y mm16 rfl)
          ·refine StepAt.liftT kR kR dE ?_
           intro L T wS hL hd hcl hI K hK
           try refine step_wanted rfl ?_
           have zt : T[11]? = some (.int .i64 y):=hI.keep 11 sI sI
           go_simp
           exact hK _ _ (hI.y mm17 rfl)
          ·refine StepAt.liftT kR kR dE ?_
           intro L T wS hL hd hcl hI K hK
           try refine step_wanted rfl ?_
           obtain ⟨v16,zt16,rfl⟩:=hI.v mm16 (hd 16)
           obtain ⟨v17,zt17,rfl⟩:=hI.v mm17 (hd 17)
           go_simp
           exact hK _ _ (hI.y mm18 rfl)
          ·refine StepAt.liftT kR kR dE ?_
           intro L T wS hL hd hcl hI K hK
           try refine step_wanted rfl ?_
           obtain ⟨v18,zt18,rfl⟩:=hI.v mm18 (hd 18)
           have cc0:=hI.cell q1 oM aU
           have cc1:=hI.cell q2 oM aU
           go_simp
           exact hK _ _ (hI.y mm19 rfl)
          ·refine StepAt.liftT kR kR dE ?_
           intro L T wS hL hd hcl hI K hK
           try refine step_wanted rfl ?_
           obtain ⟨v19,zt19,rfl⟩:=hI.v mm19 (hd 19)
           go_simp
           refine (r1neg_any _ (F r' y) _ (hzy.ext hI.lext).weak SY.out).mono ?_
           rintro e wa ⟨v,rfl,hv,hba⟩
           exact hK _ _ ((hI.world hba).y mm20 hv)
          ·refine StepAt.liftT kR kR dE ?_
           intro L T wS hL hd hcl hI K hK
           try refine step_wanted rfl ?_
           have zt : T[7]? = some (.pointer (some ⟨w2.heap.size,0,none⟩)):=hI.keep 7 sI sI
           go_simp
           exact hK _ _ (hI.y mm21 rfl)
          ·refine StepAt.liftT kR kR dE ?_
           intro L T wS hL hd hcl hI K hK
           try refine step_wanted rfl ?_
           obtain ⟨v21,zt21,rfl⟩:=hI.v mm21 (hd 21)
           have cc0:=hI.cell f3 oM aU
           go_simp
           exact hK _ _ (hI.y mm22 rfl)
          ·refine StepAt.liftT kR kR dE ?_
           intro L T wS hL hd hcl hI K hK
           try refine step_wanted rfl ?_
           have zt : T[13]? = some (.int .i64 r'):=hI.keep 13 sI sI
           go_simp
           exact hK _ _ (hI.y mm23 rfl)
          ·refine StepAt.liftT kR kR dE ?_
           intro L T wS hL hd hcl hI K hK
           try refine step_wanted rfl ?_
           obtain ⟨v22,zt22,rfl⟩:=hI.v mm22 (hd 22)
           obtain ⟨v23,zt23,rfl⟩:=hI.v mm23 (hd 23)
           go_simp
           exact hK _ _ (hI.y mm24 rfl)
          ·refine StepAt.liftT kR kR dE ?_
           intro L T wS hL hd hcl hI K hK
           try refine step_wanted rfl ?_
           obtain ⟨v24,zt24,rfl⟩:=hI.v mm24 (hd 24)
           have cc0:=hI.cell o1 oM aU
           go_simp
           exact hK _ _ (hI.y mm25 rfl)
          ·refine StepAt.liftT kR kR dE ?_
           intro L T wS hL hd hcl hI K hK
           try refine step_wanted rfl ?_
           have zt : T[10]? = some (.int .i64 x):=hI.keep 10 sI sI
           go_simp
           exact hK _ _ (hI.y mm26 rfl)
          ·refine StepAt.liftT kR kR dE ?_
           intro L T wS hL hd hcl hI K hK
           try refine step_wanted rfl ?_
           obtain ⟨v25,zt25,rfl⟩:=hI.v mm25 (hd 25)
           obtain ⟨v26,zt26,rfl⟩:=hI.v mm26 (hd 26)
           go_simp
           exact hK _ _ (hI.y mm27 rfl)
          ·refine StepAt.liftT kR kR dE ?_
           intro L T wS hL hd hcl hI K hK
           try refine step_wanted rfl ?_
           obtain ⟨v27,zt27,rfl⟩:=hI.v mm27 (hd 27)
           have cc0:=hI.cell p1 oM aU
           have cc1:=hI.cell p2 oM aU
           go_simp
           exact hK _ _ (hI.y mm28 rfl)
          ·refine StepAt.liftT kR kR dE ?_
           intro L T wS hL hd hcl hI K hK
           try refine step_wanted rfl ?_
           obtain ⟨v4,zt4,rfl⟩:=hI.v mm4 (hd 4)
           obtain ⟨v5,zt5,rfl⟩:=hI.v mm5 (hd 5)
           go_simp
           exact hK _ _ (hI.y mm29 rfl)
          ·intro L T wS hL hd hcl hI K hK
           try refine step_wanted rfl ?_
           obtain ⟨hI0,hIS⟩:=hI.first hcl kR hL dE sI sI sI
           obtain ⟨_,zt29,rfl⟩:=hI0.v mm29 (hd 29)
           obtain ⟨v20,zt20,h20⟩:=hI0.v mm20 (hd 20)
           obtain ⟨vneg,vao,vlen,vcap,vls,rfl,hv'⟩:=id h20
           have hh:=hI0.old rowb oM sI
           have cc1:=(cell_same hh).trans p1
           have cc2:=(cell_same hh).trans p2
           have cc3:=(frozen_same hh).trans p3
           have cc4:=(frozen_same hh).trans p4
           clear hh
           obtain ⟨e1,e2⟩:=cellOf_two zt20
           simp only [put2At,e1,e2] at hIS
           go_simp
           exact hK _ _ hIS
          ·intro L T wS hL hd hcl hI K hK
           try refine step_wanted rfl ?_
           obtain ⟨v10,zt10,hz10⟩:=hI.val mm10 (hd 10) (fun _ _ _ h=>h)
           replace hz10 : v10 = .slice (some ⟨rowb,0,none⟩) C C:=hz10 wS
           subst hz10
           obtain ⟨v11,zt11,hz11⟩:=hI.val mm11 (hd 11) (fun _ _ _ h=>h)
           replace hz11 : v11 = .int .i64 y:=hz11 wS
           subst hz11
           go_simp
           exact hK _ _ (hI.value hcl kR hL dE ⟨31,109,_⟩ mm30 rfl (fun _=>rfl) (put2_set sI))
          ·intro L T wS hL hd hcl hI K hK
           try refine step_wanted rfl ?_
           obtain ⟨w0,rfl,hI0,hIS⟩:=hI.second (hd 30) hL sI sI sI
           obtain ⟨_,zt31,rfl⟩:=hI0.v mm30 (hd 31)
           obtain ⟨_,zt28,rfl⟩:=hI0.v mm28 (hd 28)
           obtain ⟨v20,zt20,h20⟩:=hI0.v mm20 (hd 20)
           obtain ⟨vneg,vao,vlen,vcap,vls,rfl,hv'⟩:=id h20
           obtain ⟨e1,e2⟩:=cellOf_two zt20
           simp only [put2At,e1,e2] at hIS ⊢
           have hw0 : Blk w0 rowb tI rcs:=(hI0.old rowb oM sI).trans HBB.out
           have hw1:=(hw0.set_ (x * 2) (.bool vneg)).set_ (x * 2 + 1) (.slice vao vlen vcap)
           obtain ⟨uu1,cc1⟩ : ∃u,((w0.setCell ⟨rowb,x * 2,none⟩ (.bool vneg)).setCell ⟨rowb,x * 2 + 1,none⟩ (.slice vao vlen vcap)).cell? ⟨rowb,y * 2,none⟩ = some u:=⟨_,(hw1.cell _).trans (Array.getElem?_eq_getElem (by simp; omega))⟩
           obtain ⟨uu2,cc2⟩ : ∃u,((w0.setCell ⟨rowb,x * 2,none⟩ (.bool vneg)).setCell ⟨rowb,x * 2 + 1,none⟩ (.slice vao vlen vcap)).cell? ⟨rowb,y * 2 + 1,none⟩ = some u:=⟨_,(hw1.cell _).trans (Array.getElem?_eq_getElem (by simp; omega))⟩
           have cc3:=hw1.frozen (y * 2)
           have cc4:=hw1.frozen (y * 2 + 1)
           clear hw0 hw1
           go_simp
           exact hK _ _ hIS
         intro T wf3 hIS
         obtain ⟨w10,hI,hwfg⟩:=hIS.fin dE
         obtain ⟨vg0,q0,rfl⟩:=hI.v mm0 rfl
         obtain ⟨vg1,q1,rfl⟩:=hI.v mm1 rfl
         obtain ⟨vg2,q2,rfl⟩:=hI.v mm2 rfl
         obtain ⟨vg3,q3,rfl⟩:=hI.v mm3 rfl
         obtain ⟨vg4,q4,rfl⟩:=hI.v mm4 rfl
         obtain ⟨vg5,q5,rfl⟩:=hI.v mm5 rfl
         obtain ⟨vg6,q6,rfl⟩:=hI.v mm6 rfl
         obtain ⟨vg7,q7,rfl⟩:=hI.v mm7 rfl
         obtain ⟨vg8,q8,rfl⟩:=hI.v mm8 rfl
         obtain ⟨vg9,q9,rfl⟩:=hI.v mm9 rfl
         obtain ⟨vg10,q10,rfl⟩:=hI.v mm10 rfl
         obtain ⟨vg11,q11,rfl⟩:=hI.v mm11 rfl
         obtain ⟨vg12,q12,rfl⟩:=hI.v mm12 rfl
         obtain ⟨vg13,q13,rfl⟩:=hI.v mm13 rfl
         obtain ⟨vg14,q14,rfl⟩:=hI.v mm14 rfl
         obtain ⟨vg15,q15,rfl⟩:=hI.v mm15 rfl
         obtain ⟨vg16,q16,rfl⟩:=hI.v mm16 rfl
         obtain ⟨vg17,q17,rfl⟩:=hI.v mm17 rfl
         obtain ⟨vg18,q18,rfl⟩:=hI.v mm18 rfl
         obtain ⟨vg19,q19,rfl⟩:=hI.v mm19 rfl
         obtain ⟨vg20,q20,hg20⟩:=hI.v mm20 rfl
         replace hg20 : IntV w10 vg20 (-(F r' y)):=hg20
         obtain ⟨vg21,q21,rfl⟩:=hI.v mm21 rfl
         obtain ⟨vg22,q22,rfl⟩:=hI.v mm22 rfl
         obtain ⟨vg23,q23,rfl⟩:=hI.v mm23 rfl
         obtain ⟨vg24,q24,rfl⟩:=hI.v mm24 rfl
         obtain ⟨vg25,q25,rfl⟩:=hI.v mm25 rfl
         obtain ⟨vg26,q26,rfl⟩:=hI.v mm26 rfl
         obtain ⟨vg27,q27,rfl⟩:=hI.v mm27 rfl
         obtain ⟨vg28,q28,rfl⟩:=hI.v mm28 rfl
         obtain ⟨vg29,q29,rfl⟩:=hI.v mm29 rfl
         obtain ⟨vg31,q31,rfl⟩:=hI.v mm30 rfl
         have hT:=tmps_set [(79,.pointer (some ⟨w2.heap.size,2,none⟩)),(80,.slice (some ⟨g,0,none⟩) on oc),(81,.int .i64 r'),(82,.pointer (some ⟨g,r',none⟩)),(83,.slice (some ⟨rowb,0,none⟩) C C),(84,.int .i64 x),(85,.pointer (some ⟨w2.heap.size,2,none⟩)),(86,.slice (some ⟨g,0,none⟩) on oc),(87,.int .i64 r'),(88,.pointer (some ⟨g,r',none⟩)),(89,.slice (some ⟨rowb,0,none⟩) C C),(90,.int .i64 y),(91,.pointer (some ⟨w2.heap.size,2,none⟩)),(92,.slice (some ⟨g,0,none⟩) on oc),(93,.int .i64 r'),(94,.pointer (some ⟨g,r',none⟩)),(95,.slice (some ⟨rowb,0,none⟩) C C),(96,.int .i64 y),(97,.pointer (some ⟨rowb,y * 2,none⟩)),(98,.agg #[.bool ys,.slice ya yl yc]),(99,vg20),(100,.pointer (some ⟨w2.heap.size,2,none⟩)),(101,.slice (some ⟨g,0,none⟩) on oc),(102,.int .i64 r'),(103,.pointer (some ⟨g,r',none⟩)),(104,.slice (some ⟨rowb,0,none⟩) C C),(105,.int .i64 x),(106,.pointer (some ⟨rowb,x * 2,none⟩)),(107,.agg #[.bool xs,.slice xa xl xc]),(108,.pointer (some ⟨rowb,x * 2,none⟩)),(109,.pointer (some ⟨rowb,y * 2,none⟩))]
          (fun j hj=>hI.keep j (by simp only [List.forall_mem_cons] at hj ⊢; simp [hj]) (by simp only [List.forall_mem_cons] at hj ⊢; simp [hj]))
          (by simp only [List.forall_mem_cons]; simp [q0,q1,q2,q3,q4,q5,q6,q7,q8,q9,q10,q11,q12,q13,q14,q15,q16,q17,q18,q19,q20,q21,q22,q23,q24,q25,q26,q27,q28,q29,q31]) hI.size
         have hlw10:=hI.lext
         have hbw10:=hI.bel (wr.heap.size) oM aU
         have holdw10:=hI.old
         clear hI
         simp only [List.foldl_cons,List.foldl_nil,List.setIfInBounds_toArray,List.set_cons_zero,List.set_cons_succ,ptr] at hT
         subst hT
         clear q0 q1 q2 q3 q4 q5 q6 q7 q8 q9 q10 q11 q12 q13 q14 q15 q16 q17 q18 q19 q20 q21 q22 q23 q24 q25 q26 q27 q28 q29 q31
         obtain ⟨qn,qa,ql,qc,qx,rfl,hqx⟩:=id hg20
         have HQX:=Lib.hid hqx
         clear hqx
         have hwf : wf3 = (((w10.setCell ⟨rowb,x * 2,none⟩ (.bool qn)).setCell ⟨rowb,x * 2 + 1,none⟩ (.slice qa ql qc)).setCell ⟨rowb,y * 2,none⟩ (.bool xs)).setCell ⟨rowb,y * 2 + 1,none⟩ (.slice xa xl xc):=hwfg
         subst hwf
         clear hwfg
         have hoA:=ho.below hbw10
         have hset1:=hoA.set hbi hxs hg20
         have hset2:=hset1.1.set hbi hys (hzx.ext (hlw10.trans hset1.2.1))
         have hbase:=hset1.2.2
         have hmm:=hmb rowb (List.mem_of_getElem? hbi)
         have HSET:=HidS.mk hset2
         clear hset1 hset2
         go_wp2
         go_roundw
         case rel=>
          have hs:=HSET.out.1
          have hq : setM (setM (genM R C (swnU F x y r')) r' x (-(F r' y))) r' y (F r' x) = genM R C (swnU F x y (r' + 1)):=by
           rw [setM_genM _ hlt hxs,setM_genM _ hlt hys]
           exact genM_congr fun a _ b _=>by
            unfold swnU swnF
            by_cases h1 : a = r'
            ·rw [h1]
             have hlt1 : r' < r' + 1:=by omega
             have hnlt : ¬ r' < r':=by omega
             rw [if_pos hlt1,if_neg hnlt]
             by_cases h2 : b = y
             ·have h3 : ¬ b = x:=fun e=>hxy (e.symm.trans h2)
              rw [if_pos ⟨rfl,h2⟩,if_neg h3,if_pos h2]
             ·rw [if_neg (fun h=>h2 h.2)]
              by_cases h3 : b = x
              ·rw [if_pos ⟨rfl,h3⟩,if_pos h3]
              ·rw [if_neg (fun h=>h3 h.2),if_neg h3,if_neg h2]
            ·rw [if_neg (fun h=>h1 h.1),if_neg (fun h=>h1 h.1)]
             by_cases h4 : a < r'
             ·have h5 : a < r' + 1:=by omega
              rw [if_pos h4,if_pos h5]
             ·have h5 : ¬ a < r' + 1:=by omega
              rw [if_neg h4,if_neg h5]
          rw [hq] at hs
          have hn1 : ∀b,b ≠ rowb->((((w10.setCell ⟨rowb,x * 2,none⟩ (.bool qn)).setCell ⟨rowb,x * 2 + 1,none⟩ (.slice qa ql qc)).setCell ⟨rowb,y * 2,none⟩ (.bool xs)).setCell ⟨rowb,y * 2 + 1,none⟩ (.slice xa xl xc)).heap[b]? = w10.heap[b]?:=fun b h1=>(set2_old _ _ _ _ _ _ _ h1).trans (set2_old _ _ _ _ _ _ _ h1)
          exact ⟨r' + 1,by omega,by simp,bset (bset (bset (bset (nx hb hbw10) oM _ _) oM _ _) oM _ _) oM _ _,(hn1 _ oM).trans (br.below hbw10),(hn1 _ oM).trans (T7.below hbw10),hs⟩
         case measure=>simp [intOf]; omega
        ·obtain rfl : r' = R:=by omega
         have hq : genM r' C (swnU F x y r') = genM r' C (swnF F x y):=genM_congr fun a ha b _=>by unfold swnU; rw [if_pos ha]
         rw [hq] at ho
         go_wp2
         go_roundw
         case rel=>exact ⟨i + 1,_,bs,by simp,by omega,hb,br,T7,ho,hbl,hmb,⟨hch.out.swn hxs hys hxy⟩⟩
         case measure=>simp [intOf]; omega
    ·obtain rfl : C = 0:=by omega
     go_wp2
     go_roundw
     case rel=>exact ⟨i + 1,F,bs,by simp,by omega,hb,br,T7,ho,hbl,hmb,HSM⟩
     case measure=>simp [intOf]; omega
  ·have hfin : HidS (ChI R C M lim F0 F):=⟨⟨hch.out.to_,hch.out.back,hch.out.le.mono (Nat.mul_le_mul_left _ (le_pow2 oM hi))⟩⟩
   have HGO : HidS (∀K : Prop,(i < sn->¬ i < lim->K)->(¬ i < sn->K)->K):=⟨fun K h1 h2=>by
    by_cases hs : i < sn
    ·exact h1 hs (fun hl=>hgo ⟨hs,hl⟩)
    ·exact h2 hs⟩
   clear hgo
   refine HGO.out _ ?_ ?_
   ·intro hl hlm
    obtain ⟨r1,r2,r3,r4,r5,r6⟩:=br.three
    go_wp2
    refine bodyPost_mat rfl rfl rfl (br.put3 _ _ _) ⟨_,bs,F,rfl,⟨hbl,_,rfl,(ho.keep (fun k hk=>set3_old _ _ k _ _ _ oM) (br.lext3 dE _ _ _)).mono q1⟩,bset (bset (bset hb oM 0 _) oM 1 _) oM 2 _,hfin.out⟩
   ·intro hl
    obtain ⟨r1,r2,r3,r4,r5,r6⟩:=br.three
    go_wp2
    refine bodyPost_mat rfl rfl rfl (br.put3 _ _ _) ⟨_,bs,F,rfl,⟨hbl,_,rfl,(ho.keep (fun k hk=>set3_old _ _ k _ _ _ oM) (br.lext3 dE _ _ _)).mono q1⟩,bset (bset (bset hb oM 0 _) oM 1 _) oM 2 _,hfin.out⟩
end Go.Proofs.YtnocgagoaldfnaaGreat
