/- Joined. -/
import Derived.Test.YtnocgagoaldfnaaGreatZ01
set_option linter.unusedVariables false
set_option linter.unusedSimpArgs false
set_option linter.unusedSectionVars false
namespace Go.Proofs.YtnocgagoaldfnaaGreat
open Go.RowKit
set_option maxHeartbeats 8000000 in
set_option maxRecDepth 20000 in
theorem changed_any (v lv : Value) (R C lim : Nat) (L : List (List Int)) (ls : List (Nat × Nat × Nat × Int)) (M : Nat) (w : World) (h : MatV w v R C L) (hF : Fits R C L) (hR : R<=16) (hC : C<=16) (hst : StV w lv ls) (hlim : lim<=100) (hM : M * 3 ^ lim<=2 ^ 90) (hL : leM M R C (ent L)) :
  Calls Tryz.prog 32 #[v,lv,.int .i64 lim] w fun e w'=>∃v' bs F,e = .returned v'/\MatO w' w.heap.size v' R C bs (genM R C F)/\Below w.heap.size w w'/\ChI R C M lim (ent L) F:=by
 have h0:=h
 obtain ⟨A,rfl,h⟩:=h
 obtain ⟨ao,n,cap,rfl,e2,e3,e4,-⟩:=id h
 obtain ⟨so,sn,sc,rfl,hsl,hsn,hsc,-,-⟩:=id hst
 have HSL:=Lib.hid hsl
 have HF:=Hk hF
 have HS0 : HidS (∀r ∈ L,∀z ∈ r,Sm z):=⟨fun r hr z hz=>by
  obtain ⟨i,hi,rfl⟩:=List.getElem_of_mem hr
  obtain ⟨j,hj,rfl⟩:=List.getElem_of_mem hz
  have hl:=hF.2 _ (List.getElem_mem hi)
  have:=hL i (by rw [<-hF.1]; exact hi) j oM
  have e : ent L i j = L[i][j]:=ent_of (List.getElem?_eq_getElem hi) (List.getElem?_eq_getElem hj)
  rw [e] at this
  refine (small_smd (Nat.le_trans this (Nat.le_trans (Nat.le_mul_of_pos_right _ (Nat.pow_pos oM)) (Nat.le_trans hM dE)))).sm⟩
 have hch0 : HidS (ChI R C M 0 (ent L) (ent L)):=⟨⟨Fac.refl _ _ _,Fac.refl _ _ _,by simpa using hL⟩⟩
 have HMB : HidS (∀i,i<=lim->M * 3 ^ i<=2 ^ 90):=⟨fun i hi=>Nat.le_trans (Nat.mul_le_mul_left _ (le_pow2 oM hi)) hM⟩
 have HGL:=Hk (fits_genM hF)
 obtain ⟨F0,hF0⟩ : ∃F0,ent L = F0:=⟨_,rfl⟩
 rw [hF0] at hch0 HGL ⊢
 clear hF hsl hM hL hF0 e2
 go_enter Tryz.func32,Tryz.ntmps32
 go_upto_region 1 with (fail)
 refine wp_world ?_
 intro W0 hW0
 obtain ⟨hB0,bx,br,hs0⟩:=world2 hW0
 obtain ⟨c1,c2,c3,c4,c5,c6⟩:=bx.three
 clear hW0
 go_wp2_with fail
 refine (r5copied_any _ R C L W0 (h0.below hB0) HF.out oM oM HS0.out).mono ?_
 rintro e w2 ⟨u,bs,rfl,⟨hbl,A2,rfl,ho⟩,hb2⟩
 obtain ⟨oo,on,oc,rfl,-,-,-,-⟩:=id ho.rows
 rw [HGL.out] at ho
 have hlts:=ho.lts
 go_upto_region 2 with (fail)
 refine wp_world ?_
 intro W3 hW3
 obtain ⟨hB3,T7,hs3⟩:=world1 hW3
 have br:=(br.below hb2).below hB3
 have ho:=ho.below hB3
 have hBt:=nx (nx hB0 hb2) hB3
 have q1:=hB0.size
 have q2:=hb2.size
 have hmb : ∀b ∈ bs,b < w2.heap.size:=fun b hb=>by
  obtain ⟨i,hi,e⟩:=List.getElem_of_mem hb
  exact hlts i b (by rw [List.getElem?_eq_getElem hi,e])
 clear hW3 c1 c2 c3 c4 c5 c6 h0 h hlts
 go_wp2
 go_loopw [8] (fun iv wr=>∃(i : Nat) (F : Nat->Nat->Int) (bs : List Nat),iv = .int .i64 i/\i<=lim/\Below w.heap.size w wr/\Blk wr (w.heap.size + 1) 28 #[.int .i64 0,.int .i64 0,.slice none 0 0]/\Blk wr w2.heap.size 28 #[.int .i64 R,.int .i64 C,.slice oo on oc]/\RowsO wr W0.heap.size (.slice oo on oc) C bs (genM R C F)/\bs.length = R/\(∀b ∈ bs,b < w2.heap.size)/\HidS (ChI R C M i F0 F)) (fun iv _=>lim - (intOf iv).toNat)
 case atStart=>exact ⟨0,F0,bs,rfl,by omega,hBt,br,T7,ho,hbl,hmb,hch0⟩
 case round=>
  obtain ⟨i,F,bs,rfl,hi,hb,br,T7,ho,hbl,hmb,hch⟩:=hrel
  obtain ⟨f1,f2,f3,f4,f5,f6⟩:=T7.three
  by_cases hgo : i < sn/\i < lim
  ·obtain ⟨hl,hlm⟩:=hgo
   obtain ⟨b0,off,p,q,r,z,rfl,hb0,hp,hq,hr,hz1,hz2,d1,d2,d3,d4⟩:=hst.cell (k:=i) (by rw [HSL.out]; exact hl)
   have d1:=(hb.cell (p:=⟨b0,off + i * 4,none⟩) hb0).trans d1
   have d2:=(hb.cell (p:=⟨b0,off + i * 4 + 1,none⟩) hb0).trans d2
   have d3:=(hb.cell (p:=⟨b0,off + i * 4 + 2,none⟩) hb0).trans d3
   have d4:=(hb.cell (p:=⟨b0,off + i * 4 + 3,none⟩) hb0).trans d4
   obtain ⟨op,hop⟩ : ∃op : Nat,op = p % 4:=⟨_,rfl⟩
   have hop4 : op < 4:=by omega
   have hpo : (p : Int) % 4 = (op : Int):=by omega
   have ht9 : (Int.tmod z 3).natAbs<=2:=tmod3
   obtain ⟨t,ht⟩ : ∃t,Int.tmod z 3 = t:=⟨_,rfl⟩
   rw [ht] at ht9
   have HT:=Hk ht
   clear hop ht
   have hnext : ∀G,ChI R C M (i + 1) F0 G->HidS (ChI R C M (i + 1) F0 G):=fun G h=>⟨h⟩
   have HNX:=Hk hnext
   have hsame:=hch.out.same
   have HSM:=Hk hsame
   clear hnext hsame
   have hb0r : b0 < wr.heap.size:=Nat.lt_of_lt_of_le hb0 hb.size
   have HSF : HidS ((∀a,a < R->∀b,b < C->Sm (F a b)/\Sm (t * F a b))/\Sm t):=⟨⟨fun a ha b hb=>by
    have g1:=Nat.le_trans (hch.out.le a ha b hb) (HMB.out i hi)
    have g2:=abs_mul_le ht9 g1
    exact ⟨(small_smd (Nat.le_trans g1 dE)).sm,(small_smd (Nat.le_trans g2 dE)).sm⟩,(small_smd (Nat.le_trans ht9 dE)).sm⟩⟩
   by_cases hop2 : op < 2
   ·by_cases hS0 : 0 < R
    ·skip
     obtain ⟨x,hx⟩ : ∃x : Nat,x = q % R:=⟨_,rfl⟩
     obtain ⟨y,hy⟩ : ∃y : Nat,y = r % R:=⟨_,rfl⟩
     have hxs : x < R:=by rw [hx]; exact Nat.mod_lt _ hS0
     have hys : y < R:=by rw [hy]; exact Nat.mod_lt _ hS0
     have HX : HidS ((q : Int) % (R : Int) = (x : Int)):=⟨by rw [hx]; rfl⟩
     have HY : HidS ((r : Int) % (R : Int) = (y : Int)):=⟨by rw [hy]; rfl⟩
     clear hx hy
     go_upto_region 9 with (fail)
     refine wp_region_each rfl (RI wr (wr.heap.size) _ 45
       [⟨0,40,fun _ v=>v = .slice (some ⟨b0,off,none⟩) sn sc⟩,⟨1,41,fun _ v=>v = .int .i64 i⟩,⟨2,42,fun _ v=>v = .pointer (some ⟨b0,off + i * 4,none⟩)⟩,⟨3,43,fun _ v=>v = .pointer (some ⟨b0,off + i * 4 + 1,none⟩)⟩,⟨4,44,fun _ v=>v = .int .u8 q⟩,⟨5,45,fun _ v=>v = .int .i64 q⟩,⟨6,46,fun _ v=>v = .int .i64 R⟩,⟨7,47,fun _ v=>v = .int .i64 x⟩,⟨8,48,fun _ v=>v = .slice (some ⟨b0,off,none⟩) sn sc⟩,⟨9,49,fun _ v=>v = .int .i64 i⟩,⟨10,50,fun _ v=>v = .pointer (some ⟨b0,off + i * 4,none⟩)⟩,⟨11,51,fun _ v=>v = .pointer (some ⟨b0,off + i * 4 + 2,none⟩)⟩,⟨12,52,fun _ v=>v = .int .u8 r⟩,⟨13,53,fun _ v=>v = .int .i64 r⟩,⟨14,54,fun _ v=>v = .int .i64 R⟩,⟨15,55,fun _ v=>v = .int .i64 y⟩,⟨16,56,fun _ v=>v = .slice (some ⟨b0,off,none⟩) sn sc⟩,⟨17,57,fun _ v=>v = .int .i64 i⟩,⟨18,58,fun _ v=>v = .pointer (some ⟨b0,off + i * 4,none⟩)⟩,⟨19,59,fun _ v=>v = .pointer (some ⟨b0,off + i * 4 + 3,none⟩)⟩,⟨20,60,fun _ v=>v = .int .i8 z⟩,⟨21,61,fun _ v=>v = .int .i64 z⟩,⟨22,62,fun _ v=>v = .int .i64 t⟩,⟨23,63,fun w v=>IntV w v (t)⟩,⟨25,10,fun _ v=>v = .int .i64 x⟩,⟨26,11,fun _ v=>v = .int .i64 y⟩]
       [⟨24,12,27,fun w v=>IntV w v (t)⟩] []) kR RI.start ?fin1 ?steps1
     case steps1=>
      refine ⟨?_,?_,?_,?_,?_,?_,?_,?_,?_,?_,?_,?_,?_,?_,?_,?_,?_,?_,?_,?_,?_,?_,?_,?_,?_,?_,?_,?_,trivial⟩ <;> (intro L T wS hL hd hcl hI K hK; try refine sW rfl ?_)
      ·have zt : T[1]? = some (.slice (some ⟨b0,off,none⟩) sn sc):=hI.keep 1 sI sI
       go_simp
       exact hK _ _ (hI.y mm0 rfl)
      ·have zt : T[8]? = some (.int .i64 i):=hI.keep 8 sI sI
       go_simp
       exact hK _ _ (hI.y mm1 rfl)
      ·obtain ⟨v0,zt0,rfl⟩:=hI.v mm0 (hd 0)
       obtain ⟨v1,zt1,rfl⟩:=hI.v mm1 (hd 1)
       go_simp
       exact hK _ _ (hI.y mm2 rfl)
      ·obtain ⟨v2,zt2,rfl⟩:=hI.v mm2 (hd 2)
       go_simp
       exact hK _ _ (hI.y mm3 rfl)
      ·obtain ⟨v3,zt3,rfl⟩:=hI.v mm3 (hd 3)
       have cc0:=hI.cell d2 oM nom
       go_simp
       exact hK _ _ (hI.y mm4 rfl)
      ·obtain ⟨v4,zt4,rfl⟩:=hI.v mm4 (hd 4)
       go_simp
       exact hK _ _ (hI.y mm5 (congrArg (Value.int .i64) (IntWalk.i64_in _ oM)))
      ·have zt : T[9]? = some (.int .i64 R):=hI.keep 9 sI sI
       go_simp
       exact hK _ _ (hI.y mm6 rfl)
      ·obtain ⟨_,zt5,rfl⟩:=hI.v mm5 (hd 5)
       obtain ⟨_,zt6,rfl⟩:=hI.v mm6 (hd 6)
       go_simp
       rw [if_neg oM]
       go_simp
       exact hK _ _ (hI.y mm7 (congrArg (Value.int .i64) HX.out))
      ·have zt : T[1]? = some (.slice (some ⟨b0,off,none⟩) sn sc):=hI.keep 1 sI sI
       go_simp
       exact hK _ _ (hI.y mm8 rfl)
      ·have zt : T[8]? = some (.int .i64 i):=hI.keep 8 sI sI
       go_simp
       exact hK _ _ (hI.y mm9 rfl)
      ·obtain ⟨v8,zt8,rfl⟩:=hI.v mm8 (hd 8)
       obtain ⟨v9,zt9,rfl⟩:=hI.v mm9 (hd 9)
       go_simp
       exact hK _ _ (hI.y mm10 rfl)
      ·obtain ⟨v10,zt10,rfl⟩:=hI.v mm10 (hd 10)
       go_simp
       exact hK _ _ (hI.y mm11 rfl)
      ·obtain ⟨v11,zt11,rfl⟩:=hI.v mm11 (hd 11)
       have cc0:=hI.cell d3 oM nom
       go_simp
       exact hK _ _ (hI.y mm12 rfl)
      ·obtain ⟨v12,zt12,rfl⟩:=hI.v mm12 (hd 12)
       go_simp
       exact hK _ _ (hI.y mm13 (congrArg (Value.int .i64) (IntWalk.i64_in _ oM)))
      ·have zt : T[9]? = some (.int .i64 R):=hI.keep 9 sI sI
       go_simp
       exact hK _ _ (hI.y mm14 rfl)
      ·obtain ⟨_,zt13,rfl⟩:=hI.v mm13 (hd 13)
       obtain ⟨_,zt14,rfl⟩:=hI.v mm14 (hd 14)
       go_simp
       rw [if_neg oM]
       go_simp
       exact hK _ _ (hI.y mm15 (congrArg (Value.int .i64) HY.out))
      ·have zt : T[1]? = some (.slice (some ⟨b0,off,none⟩) sn sc):=hI.keep 1 sI sI
       go_simp
       exact hK _ _ (hI.y mm16 rfl)
      ·have zt : T[8]? = some (.int .i64 i):=hI.keep 8 sI sI
       go_simp
       exact hK _ _ (hI.y mm17 rfl)
      ·obtain ⟨v16,zt16,rfl⟩:=hI.v mm16 (hd 16)
       obtain ⟨v17,zt17,rfl⟩:=hI.v mm17 (hd 17)
       go_simp
       exact hK _ _ (hI.y mm18 rfl)
      ·obtain ⟨v18,zt18,rfl⟩:=hI.v mm18 (hd 18)
       go_simp
       exact hK _ _ (hI.y mm19 rfl)
      ·obtain ⟨v19,zt19,rfl⟩:=hI.v mm19 (hd 19)
       have cc0:=hI.cell d4 oM nom
       go_simp
       exact hK _ _ (hI.y mm20 rfl)
      ·obtain ⟨v20,zt20,rfl⟩:=hI.v mm20 (hd 20)
       go_simp
       exact hK _ _ (hI.y mm21 (congrArg (Value.int .i64) (IntWalk.i64_in _ oM)))
      ·obtain ⟨v21,zt21,rfl⟩:=hI.v mm21 (hd 21)
       go_simp
       exact hK _ _ (hI.y mm22 (congrArg (Value.int .i64) HT.out))
      ·obtain ⟨v22,zt22,rfl⟩:=hI.v mm22 (hd 22)
       go_simp
       refine (r1of_any t _ oM oM).mono ?_
       rintro e wa ⟨v,rfl,hv,hba⟩
       exact hK _ _ ((hI.world hba).y mm23 hv)
      ·go_simp
       exact hK _ _ (hI.alloc ⟨24,12,27,_⟩ mm0 rfl hL)
      ·obtain ⟨v7,zt7,rfl⟩:=hI.v mm7 (hd 7)
       go_simp
       exact hK _ _ (hI.y mm24 rfl)
      ·obtain ⟨v15,zt15,rfl⟩:=hI.v mm15 (hd 15)
       go_simp
       exact hK _ _ (hI.y mm25 rfl)
      ·obtain ⟨v,t1,hv⟩:=hI.v mm23 (hd 23)
       obtain ⟨b,x,y,t2,hb1,hb2,-⟩:=hI.box _ mm0 (hd 24)
       obtain ⟨vneg,vao,vlen,vcap,vls,rfl,hv'⟩:=id hv
       have HT:=Lib.hid t2
       unfold ptr at t2
       obtain ⟨k1,k2,k3,k4⟩:=hb2.two
       go_simp
       exact hK _ _ (hI.store ⟨24,12,27,_⟩ mm0 rfl (hd 24) HT.out hv)
     intro T w9 hI
     obtain ⟨va0,q0,rfl⟩:=hI.v mm0 rfl
     obtain ⟨va1,q1,rfl⟩:=hI.v mm1 rfl
     obtain ⟨va2,q2,rfl⟩:=hI.v mm2 rfl
     obtain ⟨va3,q3,rfl⟩:=hI.v mm3 rfl
     obtain ⟨va4,q4,rfl⟩:=hI.v mm4 rfl
     obtain ⟨va5,q5,rfl⟩:=hI.v mm5 rfl
     obtain ⟨va6,q6,rfl⟩:=hI.v mm6 rfl
     obtain ⟨va7,q7,rfl⟩:=hI.v mm7 rfl
     obtain ⟨va8,q8,rfl⟩:=hI.v mm8 rfl
     obtain ⟨va9,q9,rfl⟩:=hI.v mm9 rfl
     obtain ⟨va10,q10,rfl⟩:=hI.v mm10 rfl
     obtain ⟨va11,q11,rfl⟩:=hI.v mm11 rfl
     obtain ⟨va12,q12,rfl⟩:=hI.v mm12 rfl
     obtain ⟨va13,q13,rfl⟩:=hI.v mm13 rfl
     obtain ⟨va14,q14,rfl⟩:=hI.v mm14 rfl
     obtain ⟨va15,q15,rfl⟩:=hI.v mm15 rfl
     obtain ⟨va16,q16,rfl⟩:=hI.v mm16 rfl
     obtain ⟨va17,q17,rfl⟩:=hI.v mm17 rfl
     obtain ⟨va18,q18,rfl⟩:=hI.v mm18 rfl
     obtain ⟨va19,q19,rfl⟩:=hI.v mm19 rfl
     obtain ⟨va20,q20,rfl⟩:=hI.v mm20 rfl
     obtain ⟨va21,q21,rfl⟩:=hI.v mm21 rfl
     obtain ⟨va22,q22,rfl⟩:=hI.v mm22 rfl
     obtain ⟨va23,q23,ha23⟩:=hI.v mm23 rfl
     replace ha23 : IntV w9 va23 (t):=ha23
     obtain ⟨va25,q25,rfl⟩:=hI.v mm24 rfl
     obtain ⟨va26,q26,rfl⟩:=hI.v mm25 rfl
     obtain ⟨ca24,xa24,ya24,r24,ga24,ka24,ia24⟩:=hI.box _ mm0 rfl
     replace ia24 : IntV w9 (.agg #[xa24,ya24]) (t):=ia24 rfl
     have hT:=tmps_set [(40,.slice (some ⟨b0,off,none⟩) sn sc),(41,.int .i64 i),(42,.pointer (some ⟨b0,off + i * 4,none⟩)),(43,.pointer (some ⟨b0,off + i * 4 + 1,none⟩)),(44,.int .u8 q),(45,.int .i64 q),(46,.int .i64 R),(47,.int .i64 x),(48,.slice (some ⟨b0,off,none⟩) sn sc),(49,.int .i64 i),(50,.pointer (some ⟨b0,off + i * 4,none⟩)),(51,.pointer (some ⟨b0,off + i * 4 + 2,none⟩)),(52,.int .u8 r),(53,.int .i64 r),(54,.int .i64 R),(55,.int .i64 y),(56,.slice (some ⟨b0,off,none⟩) sn sc),(57,.int .i64 i),(58,.pointer (some ⟨b0,off + i * 4,none⟩)),(59,.pointer (some ⟨b0,off + i * 4 + 3,none⟩)),(60,.int .i8 z),(61,.int .i64 z),(62,.int .i64 t),(63,va23),(10,.int .i64 x),(11,.int .i64 y),(12,ptr ca24)]
      (fun j hj=>hI.keep j (by simp only [List.forall_mem_cons] at hj ⊢; simp [hj]) (by simp only [List.forall_mem_cons] at hj ⊢; simp [hj]))
      (by simp only [List.forall_mem_cons]; simp [q0,q1,q2,q3,q4,q5,q6,q7,q8,q9,q10,q11,q12,q13,q14,q15,q16,q17,q18,q19,q20,q21,q22,q23,q25,q26,r24]) hI.size
     have hlw9:=hI.lext
     have hbw9:=hI.bel (wr.heap.size) oM nom
     have holdw9:=hI.old
     clear hI
     simp only [List.foldl_cons,List.foldl_nil,List.setIfInBounds_toArray,List.set_cons_zero,List.set_cons_succ,ptr] at hT
     subst hT
     clear q0 q1 q2 q3 q4 q5 q6 q7 q8 q9 q10 q11 q12 q13 q14 q15 q16 q17 q18 q19 q20 q21 q22 q23 q25 q26 r24
     have hb:=nx hb hbw9
     have br:=br.below hbw9
     have T7:=T7.below hbw9
     have ho:=ho.below hbw9
     have hst9:=hbw9.size
     clear d2 d3 d4 f1 f2 f3 f4 f5 f6
     by_cases hxy : x = y
     ·subst hxy
      go_wp2
      go_roundw
      case rel=>exact ⟨i + 1,F,bs,by simp,by omega,hb,br,T7,ho,hbl,hmb,HSM⟩
      case measure=>simp [intOf]; omega
     ·have d1:=(hbw9.cell (p:=⟨b0,off + i * 4,none⟩) hb0r).trans d1
      obtain ⟨f1,f2,f3,f4,f5,f6⟩:=T7.three
      obtain ⟨k1,k2,k3,k4⟩:=ka24.two
      by_cases hop0 : op = 0
      ·subst hop0
       go_wp2_with fail
       refine (combine_any _ _ R C x y W0.heap.size bs F t w9 ho hbl hxs hys hxy ia24 oM oM HSF.out.1 HSF.out.2).mono ?_
       rintro e wa ⟨⟨uu,rfl⟩,hon,ho'⟩
       have hbs:=ho.bases
       have hbN:=Only.below hb hon (fun k hk=>by have:=hbs k hk; omega) hb.size
       have T7':=Only.blk T7 hon (fun hh=>by have:=hmb _ hh; omega)
       have br':=Only.blk br hon (fun hh=>by have:=hbs _ hh; omega)
       clear k1 k2 k3 k4 f1 f2 f3 f4 f5 f6 d1
       go_wp2
       go_roundw
       case rel=>exact ⟨i + 1,_,bs,by simp,by omega,hbN,br',T7',ho',hbl,hmb,⟨hch.out.add hxs hys hxy ht9⟩⟩
       case measure=>simp [intOf]; omega
      ·obtain rfl : op = 1:=by omega
       obtain ⟨g,bi,rfl,hg,hbi,hbi2,o1,ho3⟩:=ho.at_ (i:=x) oM
       obtain ⟨g',bj,eg,-,hbj,hbj2,o2,-⟩:=ho.at_ (i:=y) oM
       obtain rfl : g = g':=by injection eg with eg; injection eg
       obtain ⟨cur,hBr,hcz⟩:=RowsO.gblk ho
       have hion : x < on/\y < on:=by omega
       obtain ⟨hion,hjon⟩:=hion
       have q1:=hBr.frozen x
       have q2:=hBr.frozen y
       have s2 : (w9.setCell ⟨g,x,none⟩ (.slice (some ⟨bj,0,none⟩) C C)).frozen? ⟨g,y,none⟩ = false:=(hBr.set_ x _).frozen y
       obtain ⟨u,s1⟩ : ∃u,(w9.setCell ⟨g,x,none⟩ (.slice (some ⟨bj,0,none⟩) C C)).cell? ⟨g,y,none⟩ = some u:=by
        rw [(hBr.set_ x _).cell y]
        exact ⟨_,Array.getElem?_eq_getElem (by simpa using (by omega : y < cur.size))⟩
       have hsw:=ho.swap hbi hbj (genM_row R C F hxs) (genM_row R C F hys)
       have hgT:=hBr.ne T7 dE
       have hgb:=hBr.ne br dE
       have hbg:=ho.blk.1
       have hmem : ∀b ∈ (bs.set x bj).set y bi,b ∈ bs:=fun b hb=>by
        rcases List.mem_or_eq_of_mem_set hb with h1 | h1
        ·rcases List.mem_or_eq_of_mem_set h1 with h2 | h2
         ·exact h2
         ·rw [h2]; exact List.mem_of_getElem? hbj
        ·rw [h1]; exact List.mem_of_getElem? hbi
       have HSW:=Hk hsw
       have HO3:=Lib.hid ho3
       clear hsw ho3 eg hBr
       go_upto_region 19 with (fail)
       go_region
       clear o1 o2 q1 q2 s1 s2 k1 k2 k3 k4 f1 f2 f3 f4 f5 f6 d1
       go_wp2
       go_roundw
       case rel=>
        have hsw:=HSW.out.1
        have e : ((genM R C F).set x ((List.range C).map (F y))).set y ((List.range C).map (F x)) = genM R C (fun a b=>F (swp x y a) b):=genM_swap hxs hys
        rw [e] at hsw
        exact ⟨i + 1,_,(bs.set x bj).set y bi,by simp,by omega,(bset (bset hb oM _ _) oM _ _).drew,(set2_old _ _ _ _ _ _ _ hgb.symm).trans br,(set2_old _ _ _ _ _ _ _ hgT.symm).trans T7,hsw.below (dr _),by simpa using hbl,fun b hb=>hmb b (hmem b hb),⟨hch.out.swap hxs hys⟩⟩
       case measure=>simp [intOf]; omega
    ·obtain rfl : R = 0:=by omega
     go_wp2
     go_roundw
     case rel=>exact ⟨i + 1,F,bs,by simp,by omega,hb,br,T7,ho,hbl,hmb,HSM⟩
     case measure=>simp [intOf]; omega
   ·by_cases hS0 : 0 < C
    ·skip
     obtain ⟨x,hx⟩ : ∃x : Nat,x = q % C:=⟨_,rfl⟩
     obtain ⟨y,hy⟩ : ∃y : Nat,y = r % C:=⟨_,rfl⟩
     have hxs : x < C:=by rw [hx]; exact Nat.mod_lt _ hS0
     have hys : y < C:=by rw [hy]; exact Nat.mod_lt _ hS0
     have HX : HidS ((q : Int) % (C : Int) = (x : Int)):=⟨by rw [hx]; rfl⟩
     have HY : HidS ((r : Int) % (C : Int) = (y : Int)):=⟨by rw [hy]; rfl⟩
     clear hx hy
     go_upto_region 9 with (fail)
     refine wp_region_each rfl (RI wr (wr.heap.size) _ 45
       [⟨0,40,fun _ v=>v = .slice (some ⟨b0,off,none⟩) sn sc⟩,⟨1,41,fun _ v=>v = .int .i64 i⟩,⟨2,42,fun _ v=>v = .pointer (some ⟨b0,off + i * 4,none⟩)⟩,⟨3,43,fun _ v=>v = .pointer (some ⟨b0,off + i * 4 + 1,none⟩)⟩,⟨4,44,fun _ v=>v = .int .u8 q⟩,⟨5,45,fun _ v=>v = .int .i64 q⟩,⟨6,46,fun _ v=>v = .int .i64 C⟩,⟨7,47,fun _ v=>v = .int .i64 x⟩,⟨8,48,fun _ v=>v = .slice (some ⟨b0,off,none⟩) sn sc⟩,⟨9,49,fun _ v=>v = .int .i64 i⟩,⟨10,50,fun _ v=>v = .pointer (some ⟨b0,off + i * 4,none⟩)⟩,⟨11,51,fun _ v=>v = .pointer (some ⟨b0,off + i * 4 + 2,none⟩)⟩,⟨12,52,fun _ v=>v = .int .u8 r⟩,⟨13,53,fun _ v=>v = .int .i64 r⟩,⟨14,54,fun _ v=>v = .int .i64 C⟩,⟨15,55,fun _ v=>v = .int .i64 y⟩,⟨16,56,fun _ v=>v = .slice (some ⟨b0,off,none⟩) sn sc⟩,⟨17,57,fun _ v=>v = .int .i64 i⟩,⟨18,58,fun _ v=>v = .pointer (some ⟨b0,off + i * 4,none⟩)⟩,⟨19,59,fun _ v=>v = .pointer (some ⟨b0,off + i * 4 + 3,none⟩)⟩,⟨20,60,fun _ v=>v = .int .i8 z⟩,⟨21,61,fun _ v=>v = .int .i64 z⟩,⟨22,62,fun _ v=>v = .int .i64 t⟩,⟨23,63,fun w v=>IntV w v (t)⟩,⟨25,10,fun _ v=>v = .int .i64 x⟩,⟨26,11,fun _ v=>v = .int .i64 y⟩]
       [⟨24,12,27,fun w v=>IntV w v (t)⟩] []) kR RI.start ?fin2 ?steps2
     case steps2=>
      refine ⟨?_,?_,?_,?_,?_,?_,?_,?_,?_,?_,?_,?_,?_,?_,?_,?_,?_,?_,?_,?_,?_,?_,?_,?_,?_,?_,?_,?_,trivial⟩ <;> (intro L T wS hL hd hcl hI K hK; try refine sW rfl ?_)
      ·have zt : T[1]? = some (.slice (some ⟨b0,off,none⟩) sn sc):=hI.keep 1 sI sI
       go_simp
       exact hK _ _ (hI.y mm0 rfl)
      ·have zt : T[8]? = some (.int .i64 i):=hI.keep 8 sI sI
       go_simp
       exact hK _ _ (hI.y mm1 rfl)
      ·obtain ⟨v0,zt0,rfl⟩:=hI.v mm0 (hd 0)
       obtain ⟨v1,zt1,rfl⟩:=hI.v mm1 (hd 1)
       go_simp
       exact hK _ _ (hI.y mm2 rfl)
      ·obtain ⟨v2,zt2,rfl⟩:=hI.v mm2 (hd 2)
       go_simp
       exact hK _ _ (hI.y mm3 rfl)
      ·obtain ⟨v3,zt3,rfl⟩:=hI.v mm3 (hd 3)
       have cc0:=hI.cell d2 oM nom
       go_simp
       exact hK _ _ (hI.y mm4 rfl)
      ·obtain ⟨v4,zt4,rfl⟩:=hI.v mm4 (hd 4)
       go_simp
       exact hK _ _ (hI.y mm5 (congrArg (Value.int .i64) (IntWalk.i64_in _ oM)))
      ·have zt : T[9]? = some (.int .i64 C):=hI.keep 9 sI sI
       go_simp
       exact hK _ _ (hI.y mm6 rfl)
      ·obtain ⟨_,zt5,rfl⟩:=hI.v mm5 (hd 5)
       obtain ⟨_,zt6,rfl⟩:=hI.v mm6 (hd 6)
       go_simp
       rw [if_neg oM]
       go_simp
       exact hK _ _ (hI.y mm7 (congrArg (Value.int .i64) HX.out))
      ·have zt : T[1]? = some (.slice (some ⟨b0,off,none⟩) sn sc):=hI.keep 1 sI sI
       go_simp
       exact hK _ _ (hI.y mm8 rfl)
      ·have zt : T[8]? = some (.int .i64 i):=hI.keep 8 sI sI
       go_simp
       exact hK _ _ (hI.y mm9 rfl)
      ·obtain ⟨v8,zt8,rfl⟩:=hI.v mm8 (hd 8)
       obtain ⟨v9,zt9,rfl⟩:=hI.v mm9 (hd 9)
       go_simp
       exact hK _ _ (hI.y mm10 rfl)
      ·obtain ⟨v10,zt10,rfl⟩:=hI.v mm10 (hd 10)
       go_simp
       exact hK _ _ (hI.y mm11 rfl)
      ·obtain ⟨v11,zt11,rfl⟩:=hI.v mm11 (hd 11)
       have cc0:=hI.cell d3 oM nom
       go_simp
       exact hK _ _ (hI.y mm12 rfl)
      ·obtain ⟨v12,zt12,rfl⟩:=hI.v mm12 (hd 12)
       go_simp
       exact hK _ _ (hI.y mm13 (congrArg (Value.int .i64) (IntWalk.i64_in _ oM)))
      ·have zt : T[9]? = some (.int .i64 C):=hI.keep 9 sI sI
       go_simp
       exact hK _ _ (hI.y mm14 rfl)
      ·obtain ⟨_,zt13,rfl⟩:=hI.v mm13 (hd 13)
       obtain ⟨_,zt14,rfl⟩:=hI.v mm14 (hd 14)
       go_simp
       rw [if_neg oM]
       go_simp
       exact hK _ _ (hI.y mm15 (congrArg (Value.int .i64) HY.out))
      ·have zt : T[1]? = some (.slice (some ⟨b0,off,none⟩) sn sc):=hI.keep 1 sI sI
       go_simp
       exact hK _ _ (hI.y mm16 rfl)
      ·have zt : T[8]? = some (.int .i64 i):=hI.keep 8 sI sI
       go_simp
       exact hK _ _ (hI.y mm17 rfl)
      ·obtain ⟨v16,zt16,rfl⟩:=hI.v mm16 (hd 16)
       obtain ⟨v17,zt17,rfl⟩:=hI.v mm17 (hd 17)
       go_simp
       exact hK _ _ (hI.y mm18 rfl)
      ·obtain ⟨v18,zt18,rfl⟩:=hI.v mm18 (hd 18)
       go_simp
       exact hK _ _ (hI.y mm19 rfl)
      ·obtain ⟨v19,zt19,rfl⟩:=hI.v mm19 (hd 19)
       have cc0:=hI.cell d4 oM nom
       go_simp
       exact hK _ _ (hI.y mm20 rfl)
      ·obtain ⟨v20,zt20,rfl⟩:=hI.v mm20 (hd 20)
       go_simp
       exact hK _ _ (hI.y mm21 (congrArg (Value.int .i64) (IntWalk.i64_in _ oM)))
      ·obtain ⟨v21,zt21,rfl⟩:=hI.v mm21 (hd 21)
       go_simp
       exact hK _ _ (hI.y mm22 (congrArg (Value.int .i64) HT.out))
      ·obtain ⟨v22,zt22,rfl⟩:=hI.v mm22 (hd 22)
       go_simp
       refine (r1of_any t _ oM oM).mono ?_
       rintro e wa ⟨v,rfl,hv,hba⟩
       exact hK _ _ ((hI.world hba).y mm23 hv)
      ·go_simp
       exact hK _ _ (hI.alloc ⟨24,12,27,_⟩ mm0 rfl hL)
      ·obtain ⟨v7,zt7,rfl⟩:=hI.v mm7 (hd 7)
       go_simp
       exact hK _ _ (hI.y mm24 rfl)
      ·obtain ⟨v15,zt15,rfl⟩:=hI.v mm15 (hd 15)
       go_simp
       exact hK _ _ (hI.y mm25 rfl)
      ·obtain ⟨v,t1,hv⟩:=hI.v mm23 (hd 23)
       obtain ⟨b,x,y,t2,hb1,hb2,-⟩:=hI.box _ mm0 (hd 24)
       obtain ⟨vneg,vao,vlen,vcap,vls,rfl,hv'⟩:=id hv
       have HT:=Lib.hid t2
       unfold ptr at t2
       obtain ⟨k1,k2,k3,k4⟩:=hb2.two
       go_simp
       exact hK _ _ (hI.store ⟨24,12,27,_⟩ mm0 rfl (hd 24) HT.out hv)
     intro T w9 hI
     obtain ⟨va0,q0,rfl⟩:=hI.v mm0 rfl
     obtain ⟨va1,q1,rfl⟩:=hI.v mm1 rfl
     obtain ⟨va2,q2,rfl⟩:=hI.v mm2 rfl
     obtain ⟨va3,q3,rfl⟩:=hI.v mm3 rfl
     obtain ⟨va4,q4,rfl⟩:=hI.v mm4 rfl
     obtain ⟨va5,q5,rfl⟩:=hI.v mm5 rfl
     obtain ⟨va6,q6,rfl⟩:=hI.v mm6 rfl
     obtain ⟨va7,q7,rfl⟩:=hI.v mm7 rfl
     obtain ⟨va8,q8,rfl⟩:=hI.v mm8 rfl
     obtain ⟨va9,q9,rfl⟩:=hI.v mm9 rfl
     obtain ⟨va10,q10,rfl⟩:=hI.v mm10 rfl
     obtain ⟨va11,q11,rfl⟩:=hI.v mm11 rfl
     obtain ⟨va12,q12,rfl⟩:=hI.v mm12 rfl
     obtain ⟨va13,q13,rfl⟩:=hI.v mm13 rfl
     obtain ⟨va14,q14,rfl⟩:=hI.v mm14 rfl
     obtain ⟨va15,q15,rfl⟩:=hI.v mm15 rfl
     obtain ⟨va16,q16,rfl⟩:=hI.v mm16 rfl
     obtain ⟨va17,q17,rfl⟩:=hI.v mm17 rfl
     obtain ⟨va18,q18,rfl⟩:=hI.v mm18 rfl
     obtain ⟨va19,q19,rfl⟩:=hI.v mm19 rfl
     obtain ⟨va20,q20,rfl⟩:=hI.v mm20 rfl
     obtain ⟨va21,q21,rfl⟩:=hI.v mm21 rfl
     obtain ⟨va22,q22,rfl⟩:=hI.v mm22 rfl
     obtain ⟨va23,q23,ha23⟩:=hI.v mm23 rfl
     replace ha23 : IntV w9 va23 (t):=ha23
     obtain ⟨va25,q25,rfl⟩:=hI.v mm24 rfl
     obtain ⟨va26,q26,rfl⟩:=hI.v mm25 rfl
     obtain ⟨ca24,xa24,ya24,r24,ga24,ka24,ia24⟩:=hI.box _ mm0 rfl
     replace ia24 : IntV w9 (.agg #[xa24,ya24]) (t):=ia24 rfl
     have hT:=tmps_set [(40,.slice (some ⟨b0,off,none⟩) sn sc),(41,.int .i64 i),(42,.pointer (some ⟨b0,off + i * 4,none⟩)),(43,.pointer (some ⟨b0,off + i * 4 + 1,none⟩)),(44,.int .u8 q),(45,.int .i64 q),(46,.int .i64 C),(47,.int .i64 x),(48,.slice (some ⟨b0,off,none⟩) sn sc),(49,.int .i64 i),(50,.pointer (some ⟨b0,off + i * 4,none⟩)),(51,.pointer (some ⟨b0,off + i * 4 + 2,none⟩)),(52,.int .u8 r),(53,.int .i64 r),(54,.int .i64 C),(55,.int .i64 y),(56,.slice (some ⟨b0,off,none⟩) sn sc),(57,.int .i64 i),(58,.pointer (some ⟨b0,off + i * 4,none⟩)),(59,.pointer (some ⟨b0,off + i * 4 + 3,none⟩)),(60,.int .i8 z),(61,.int .i64 z),(62,.int .i64 t),(63,va23),(10,.int .i64 x),(11,.int .i64 y),(12,ptr ca24)]
      (fun j hj=>hI.keep j (by simp only [List.forall_mem_cons] at hj ⊢; simp [hj]) (by simp only [List.forall_mem_cons] at hj ⊢; simp [hj]))
      (by simp only [List.forall_mem_cons]; simp [q0,q1,q2,q3,q4,q5,q6,q7,q8,q9,q10,q11,q12,q13,q14,q15,q16,q17,q18,q19,q20,q21,q22,q23,q25,q26,r24]) hI.size
     have hlw9:=hI.lext
     have hbw9:=hI.bel (wr.heap.size) oM nom
     have holdw9:=hI.old
     clear hI
     simp only [List.foldl_cons,List.foldl_nil,List.setIfInBounds_toArray,List.set_cons_zero,List.set_cons_succ,ptr] at hT
     subst hT
     clear q0 q1 q2 q3 q4 q5 q6 q7 q8 q9 q10 q11 q12 q13 q14 q15 q16 q17 q18 q19 q20 q21 q22 q23 q25 q26 r24
     have hb:=nx hb hbw9
     have br:=br.below hbw9
     have T7:=T7.below hbw9
     have ho:=ho.below hbw9
     have hst9:=hbw9.size
     clear d2 d3 d4 f1 f2 f3 f4 f5 f6
     by_cases hxy : x = y
     ·subst hxy
      go_wp2
      go_roundw
      case rel=>exact ⟨i + 1,F,bs,by simp,by omega,hb,br,T7,ho,hbl,hmb,HSM⟩
      case measure=>simp [intOf]; omega
     ·have d1:=(hbw9.cell (p:=⟨b0,off + i * 4,none⟩) hb0r).trans d1
      obtain ⟨f1,f2,f3,f4,f5,f6⟩:=T7.three
      obtain ⟨k1,k2,k3,k4⟩:=ka24.two
      by_cases hop3 : op = 2
      ·subst hop3
       go_wp2_with fail
       refine (combineColumns_any _ _ R C x y W0.heap.size bs F t w9 ho hbl hxs hys hxy ia24 oM oM HSF.out.1 HSF.out.2).mono ?_
       rintro e wa ⟨⟨uu,rfl⟩,hon,ho'⟩
       have hbs:=ho.bases
       have hbN:=Only.below hb hon (fun k hk=>by have:=hbs k hk; omega) hb.size
       have T7':=Only.blk T7 hon (fun hh=>by have:=hmb _ hh; omega)
       have br':=Only.blk br hon (fun hh=>by have:=hbs _ hh; omega)
       clear k1 k2 k3 k4 f1 f2 f3 f4 f5 f6 d1
       go_wp2
       go_roundw
       case rel=>exact ⟨i + 1,_,bs,by simp,by omega,hbN,br',T7',ho',hbl,hmb,⟨hch.out.addc hxs hys hxy ht9⟩⟩
       case measure=>simp [intOf]; omega
      ·obtain rfl : op = 3:=by omega
       have hst0 : genM R C F = genM R C (swnU F x y 0):=genM_congr fun a _ b _=>by unfold swnU; rw [if_neg oM]
       rw [hst0] at ho
       clear hst0
       go_upto_region 12 with (fail)
       go_wp2
       clear k1 k2 k3 k4 f1 f2 f3 f4 f5 f6 d1
       go_loopw [13] (fun rv wr=>∃r : Nat,r<=R/\rv = .int .i64 r/\Below w.heap.size w wr/\Blk wr (w.heap.size + 1) 28 #[.int .i64 0,.int .i64 0,.slice none 0 0]/\Blk wr w2.heap.size 28 #[.int .i64 R,.int .i64 C,.slice oo on oc]/\RowsO wr W0.heap.size (.slice oo on oc) C bs (genM R C (swnU F x y r))) (fun rv _=>R - (intOf rv).toNat)
       case atStart=>exact ⟨0,by omega,rfl,hb,br,T7,ho⟩
       case round=>
        rename_i K1 aK1 _ _ _ _
        clear hb br T7 ho
        obtain ⟨r',hr',rfl,hb,br,T7,ho⟩:=hrel
        obtain ⟨f1,f2,f3,f4,f5,f6⟩:=T7.three
        by_cases hlt : r' < R
        ·obtain ⟨g,bi,rfl,hg,hbi,hbi2,o1,ho3⟩:=ho.at_ (i:=r') oM
         have hion : r' < on:=by omega
         obtain ⟨xs,xa,xl,xc,p1,p2,p3,p4,hzx⟩:=ho.cellAt hbi hxs
         obtain ⟨ys,ya,yl,yc,q1,q2,q3,q4,hzy⟩:=ho.cellAt hbi hys
         rw [ent_genM hlt hxs] at hzx
         rw [ent_genM hlt hys] at hzy
         have e1 : swnU F x y r' r' x = F r' x:=by unfold swnU; rw [if_neg oM]
         have e2 : swnU F x y r' r' y = F r' y:=by unfold swnU; rw [if_neg oM]
         rw [e1] at hzx
         rw [e2] at hzy
         obtain ⟨rowb,hrowb,hrow⟩:=ho.rowAt hlt
         obtain rfl : rowb = bi:=Option.some.inj (hrowb.symm.trans hbi)
         obtain ⟨rcs,hrcs,-⟩:=id hrow
         have hBb : Blk wr rowb tI rcs:=hrcs
         have HBB:=Hk hBb
         have HO3:=Lib.hid ho3
         have hyz : rcs.size > y * 2 + 1:=by
          have : wr.cell? ⟨rowb,y * 2 + 1,none⟩ = rcs[y * 2 + 1]?:=hBb.cell _
          rw [this] at q2
          exact (Array.getElem?_eq_some_iff.1 q2).1
         have SY : HidS (Sm (F r' y)):=⟨(HSF.out.1 r' hlt y hys).1⟩
         have hbolt:=hbi2
         have lt7:=T7.lt
         clear hrow hrcs hBb e1 e2 ho3 hrowb q3 q4
         go_upto_region 15 with (fail)
         refine wp_region_each rfl (RIT wr (wr.heap.size) _ 45
           [⟨0,79,fun _ v=>v = .pointer (some ⟨w2.heap.size,2,none⟩)⟩,⟨1,80,fun _ v=>v = .slice (some ⟨g,0,none⟩) on oc⟩,⟨2,81,fun _ v=>v = .int .i64 r'⟩,⟨3,82,fun _ v=>v = .pointer (some ⟨g,r',none⟩)⟩,⟨4,83,fun _ v=>v = .slice (some ⟨rowb,0,none⟩) C C⟩,⟨5,84,fun _ v=>v = .int .i64 x⟩,⟨6,85,fun _ v=>v = .pointer (some ⟨w2.heap.size,2,none⟩)⟩,⟨7,86,fun _ v=>v = .slice (some ⟨g,0,none⟩) on oc⟩,⟨8,87,fun _ v=>v = .int .i64 r'⟩,⟨9,88,fun _ v=>v = .pointer (some ⟨g,r',none⟩)⟩,⟨10,89,fun _ v=>v = .slice (some ⟨rowb,0,none⟩) C C⟩,⟨11,90,fun _ v=>v = .int .i64 y⟩,⟨12,91,fun _ v=>v = .pointer (some ⟨w2.heap.size,2,none⟩)⟩,⟨13,92,fun _ v=>v = .slice (some ⟨g,0,none⟩) on oc⟩,⟨14,93,fun _ v=>v = .int .i64 r'⟩,⟨15,94,fun _ v=>v = .pointer (some ⟨g,r',none⟩)⟩,⟨16,95,fun _ v=>v = .slice (some ⟨rowb,0,none⟩) C C⟩,⟨17,96,fun _ v=>v = .int .i64 y⟩,⟨18,97,fun _ v=>v = .pointer (some ⟨rowb,y * 2,none⟩)⟩,⟨19,98,fun _ v=>v = .agg #[.bool ys,.slice ya yl yc]⟩,⟨20,99,fun w v=>IntV w v (-(F r' y))⟩,⟨21,100,fun _ v=>v = .pointer (some ⟨w2.heap.size,2,none⟩)⟩,⟨22,101,fun _ v=>v = .slice (some ⟨g,0,none⟩) on oc⟩,⟨23,102,fun _ v=>v = .int .i64 r'⟩,⟨24,103,fun _ v=>v = .pointer (some ⟨g,r',none⟩)⟩,⟨25,104,fun _ v=>v = .slice (some ⟨rowb,0,none⟩) C C⟩,⟨26,105,fun _ v=>v = .int .i64 x⟩,⟨27,106,fun _ v=>v = .pointer (some ⟨rowb,x * 2,none⟩)⟩,⟨28,107,fun _ v=>v = .agg #[.bool xs,.slice xa xl xc]⟩,⟨29,108,fun _ v=>v = .pointer (some ⟨rowb,x * 2,none⟩)⟩,⟨31,109,fun _ v=>v = .pointer (some ⟨rowb,y * 2,none⟩)⟩]
           [] [] 30 32 (put2At 99 rowb (x * 2)) (fun _ w=>(w.setCell ⟨rowb,y * 2,none⟩ (.bool xs)).setCell ⟨rowb,y * 2 + 1,none⟩ (.slice xa xl xc))) kR (RIT.start RI.start) ?fin3 ?steps3
         case steps3=>
          refine ⟨?_,?_,?_,?_,?_,?_,?_,?_,?_,?_,?_,?_,?_,?_,?_,?_,?_,?_,?_,?_,?_,?_,?_,?_,?_,?_,?_,?_,?_,?_,?_,?_,?_,trivial⟩
          ·refine StepAt.liftT kR kR dE ?_
           intro L T wS hL hd hcl hI K hK
           try refine sW rfl ?_
           have zt : T[7]? = some (.pointer (some ⟨w2.heap.size,0,none⟩)):=hI.keep 7 sI sI
           go_simp
           exact hK _ _ (hI.y mm0 rfl)
          ·refine StepAt.liftT kR kR dE ?_
           intro L T wS hL hd hcl hI K hK
           try refine sW rfl ?_
           obtain ⟨v0,zt0,rfl⟩:=hI.v mm0 (hd 0)
           have cc0:=hI.cell f3 oM aU
           go_simp
           exact hK _ _ (hI.y mm1 rfl)
          ·refine StepAt.liftT kR kR dE ?_
           intro L T wS hL hd hcl hI K hK
           try refine sW rfl ?_
           have zt : T[13]? = some (.int .i64 r'):=hI.keep 13 sI sI
           go_simp
           exact hK _ _ (hI.y mm2 rfl)
          ·refine StepAt.liftT kR kR dE ?_
           intro L T wS hL hd hcl hI K hK
           try refine sW rfl ?_
           obtain ⟨v1,zt1,rfl⟩:=hI.v mm1 (hd 1)
           obtain ⟨v2,zt2,rfl⟩:=hI.v mm2 (hd 2)
           go_simp
           exact hK _ _ (hI.y mm3 rfl)
          ·refine StepAt.liftT kR kR dE ?_
           intro L T wS hL hd hcl hI K hK
           try refine sW rfl ?_
           obtain ⟨v3,zt3,rfl⟩:=hI.v mm3 (hd 3)
           have cc0:=hI.cell o1 oM aU
           go_simp
           exact hK _ _ (hI.y mm4 rfl)
          ·refine StepAt.liftT kR kR dE ?_
           intro L T wS hL hd hcl hI K hK
           try refine sW rfl ?_
           have zt : T[10]? = some (.int .i64 x):=hI.keep 10 sI sI
           go_simp
           exact hK _ _ (hI.y mm5 rfl)
          ·refine StepAt.liftT kR kR dE ?_
           intro L T wS hL hd hcl hI K hK
           try refine sW rfl ?_
           have zt : T[7]? = some (.pointer (some ⟨w2.heap.size,0,none⟩)):=hI.keep 7 sI sI
           go_simp
           exact hK _ _ (hI.y mm6 rfl)
          ·refine StepAt.liftT kR kR dE ?_
           intro L T wS hL hd hcl hI K hK
           try refine sW rfl ?_
           obtain ⟨v6,zt6,rfl⟩:=hI.v mm6 (hd 6)
           have cc0:=hI.cell f3 oM aU
           go_simp
           exact hK _ _ (hI.y mm7 rfl)
          ·refine StepAt.liftT kR kR dE ?_
           intro L T wS hL hd hcl hI K hK
           try refine sW rfl ?_
           have zt : T[13]? = some (.int .i64 r'):=hI.keep 13 sI sI
           go_simp
           exact hK _ _ (hI.y mm8 rfl)
          ·refine StepAt.liftT kR kR dE ?_
           intro L T wS hL hd hcl hI K hK
           try refine sW rfl ?_
           obtain ⟨v7,zt7,rfl⟩:=hI.v mm7 (hd 7)
           obtain ⟨v8,zt8,rfl⟩:=hI.v mm8 (hd 8)
           go_simp
           exact hK _ _ (hI.y mm9 rfl)
          ·refine StepAt.liftT kR kR dE ?_
           intro L T wS hL hd hcl hI K hK
           try refine sW rfl ?_
           obtain ⟨v9,zt9,rfl⟩:=hI.v mm9 (hd 9)
           have cc0:=hI.cell o1 oM aU
           go_simp
           exact hK _ _ (hI.y mm10 rfl)
          ·intro L T wS hL hd hcl hI K hK
           try refine sW rfl ?_
           have zt : T[11]? = some (.int .i64 y):=hI.keep sI sI
           go_simp
           exact hK _ _ (hI.value hcl kR hL dE ⟨11,90,_⟩ mm11 rfl (fun _=>rfl) (put2_set sI))
          ·refine StepAt.liftT kR kR dE ?_
           intro L T wS hL hd hcl hI K hK
           try refine sW rfl ?_
           have zt : T[7]? = some (.pointer (some ⟨w2.heap.size,0,none⟩)):=hI.keep 7 sI sI
           go_simp
           exact hK _ _ (hI.y mm12 rfl)
          ·refine StepAt.liftT kR kR dE ?_
           intro L T wS hL hd hcl hI K hK
           try refine sW rfl ?_
           obtain ⟨v12,zt12,rfl⟩:=hI.v mm12 (hd 12)
           have cc0:=hI.cell f3 oM aU
           go_simp
           exact hK _ _ (hI.y mm13 rfl)
          ·refine StepAt.liftT kR kR dE ?_
           intro L T wS hL hd hcl hI K hK
           try refine sW rfl ?_
           have zt : T[13]? = some (.int .i64 r'):=hI.keep 13 sI sI
           go_simp
           exact hK _ _ (hI.y mm14 rfl)
          ·refine StepAt.liftT kR kR dE ?_
           intro L T wS hL hd hcl hI K hK
           try refine sW rfl ?_
           obtain ⟨v13,zt13,rfl⟩:=hI.v mm13 (hd 13)
           obtain ⟨v14,zt14,rfl⟩:=hI.v mm14 (hd 14)
           go_simp
           exact hK _ _ (hI.y mm15 rfl)
          ·refine StepAt.liftT kR kR dE ?_
           intro L T wS hL hd hcl hI K hK
           try refine sW rfl ?_
           obtain ⟨v15,zt15,rfl⟩:=hI.v mm15 (hd 15)
           have cc0:=hI.cell o1 oM aU
           go_simp
           exact hK _ _ (hI.y mm16 rfl)
          ·refine StepAt.liftT kR kR dE ?_
           intro L T wS hL hd hcl hI K hK
           try refine sW rfl ?_
           have zt : T[11]? = some (.int .i64 y):=hI.keep 11 sI sI
           go_simp
           exact hK _ _ (hI.y mm17 rfl)
          ·refine StepAt.liftT kR kR dE ?_
           intro L T wS hL hd hcl hI K hK
           try refine sW rfl ?_
           obtain ⟨v16,zt16,rfl⟩:=hI.v mm16 (hd 16)
           obtain ⟨v17,zt17,rfl⟩:=hI.v mm17 (hd 17)
           go_simp
           exact hK _ _ (hI.y mm18 rfl)
          ·refine StepAt.liftT kR kR dE ?_
           intro L T wS hL hd hcl hI K hK
           try refine sW rfl ?_
           obtain ⟨v18,zt18,rfl⟩:=hI.v mm18 (hd 18)
           have cc0:=hI.cell q1 oM aU
           have cc1:=hI.cell q2 oM aU
           go_simp
           exact hK _ _ (hI.y mm19 rfl)
          ·refine StepAt.liftT kR kR dE ?_
           intro L T wS hL hd hcl hI K hK
           try refine sW rfl ?_
           obtain ⟨v19,zt19,rfl⟩:=hI.v mm19 (hd 19)
           go_simp
           refine (r1neg_any _ (F r' y) _ (hzy.ext hI.lext).weak SY.out).mono ?_
           rintro e wa ⟨v,rfl,hv,hba⟩
           exact hK _ _ ((hI.world hba).y mm20 hv)
          ·refine StepAt.liftT kR kR dE ?_
           intro L T wS hL hd hcl hI K hK
           try refine sW rfl ?_
           have zt : T[7]? = some (.pointer (some ⟨w2.heap.size,0,none⟩)):=hI.keep 7 sI sI
           go_simp
           exact hK _ _ (hI.y mm21 rfl)
          ·refine StepAt.liftT kR kR dE ?_
           intro L T wS hL hd hcl hI K hK
           try refine sW rfl ?_
           obtain ⟨v21,zt21,rfl⟩:=hI.v mm21 (hd 21)
           have cc0:=hI.cell f3 oM aU
           go_simp
           exact hK _ _ (hI.y mm22 rfl)
          ·refine StepAt.liftT kR kR dE ?_
           intro L T wS hL hd hcl hI K hK
           try refine sW rfl ?_
           have zt : T[13]? = some (.int .i64 r'):=hI.keep 13 sI sI
           go_simp
           exact hK _ _ (hI.y mm23 rfl)
          ·refine StepAt.liftT kR kR dE ?_
           intro L T wS hL hd hcl hI K hK
           try refine sW rfl ?_
           obtain ⟨v22,zt22,rfl⟩:=hI.v mm22 (hd 22)
           obtain ⟨v23,zt23,rfl⟩:=hI.v mm23 (hd 23)
           go_simp
           exact hK _ _ (hI.y mm24 rfl)
          ·refine StepAt.liftT kR kR dE ?_
           intro L T wS hL hd hcl hI K hK
           try refine sW rfl ?_
           obtain ⟨v24,zt24,rfl⟩:=hI.v mm24 (hd 24)
           have cc0:=hI.cell o1 oM aU
           go_simp
           exact hK _ _ (hI.y mm25 rfl)
          ·refine StepAt.liftT kR kR dE ?_
           intro L T wS hL hd hcl hI K hK
           try refine sW rfl ?_
           have zt : T[10]? = some (.int .i64 x):=hI.keep 10 sI sI
           go_simp
           exact hK _ _ (hI.y mm26 rfl)
          ·refine StepAt.liftT kR kR dE ?_
           intro L T wS hL hd hcl hI K hK
           try refine sW rfl ?_
           obtain ⟨v25,zt25,rfl⟩:=hI.v mm25 (hd 25)
           obtain ⟨v26,zt26,rfl⟩:=hI.v mm26 (hd 26)
           go_simp
           exact hK _ _ (hI.y mm27 rfl)
          ·refine StepAt.liftT kR kR dE ?_
           intro L T wS hL hd hcl hI K hK
           try refine sW rfl ?_
           obtain ⟨v27,zt27,rfl⟩:=hI.v mm27 (hd 27)
           have cc0:=hI.cell p1 oM aU
           have cc1:=hI.cell p2 oM aU
           go_simp
           exact hK _ _ (hI.y mm28 rfl)
          ·refine StepAt.liftT kR kR dE ?_
           intro L T wS hL hd hcl hI K hK
           try refine sW rfl ?_
           obtain ⟨v4,zt4,rfl⟩:=hI.v mm4 (hd 4)
           obtain ⟨v5,zt5,rfl⟩:=hI.v mm5 (hd 5)
           go_simp
           exact hK _ _ (hI.y mm29 rfl)
          ·intro L T wS hL hd hcl hI K hK
           try refine sW rfl ?_
           obtain ⟨hI0,hIS⟩:=hI.first hcl kR hL dE sI sI sI
           obtain ⟨_,zt29,rfl⟩:=hI0.v mm29 (hd 29)
           obtain ⟨v20,zt20,h20⟩:=hI0.v mm20 (hd 20)
           obtain ⟨vneg,vao,vlen,vcap,vls,rfl,hv'⟩:=id h20
           have hh:=hI0.old rowb oM sI
           have cc1:=(cell_same hh).trans p1
           have cc2:=(cell_same hh).trans p2
           have cc3:=(frozen_same hh).trans p3
           have cc4:=(frozen_same hh).trans p4
           clear hh
           obtain ⟨e1,e2⟩:=cellOf_two zt20
           simp only [put2At,e1,e2] at hIS
           go_simp
           exact hK _ _ hIS
          ·intro L T wS hL hd hcl hI K hK
           try refine sW rfl ?_
           obtain ⟨v10,zt10,hz10⟩:=hI.val mm10 (hd 10) (fun _ _ _ h=>h)
           replace hz10 : v10 = .slice (some ⟨rowb,0,none⟩) C C:=hz10 wS
           subst hz10
           obtain ⟨v11,zt11,hz11⟩:=hI.val mm11 (hd 11) (fun _ _ _ h=>h)
           replace hz11 : v11 = .int .i64 y:=hz11 wS
           subst hz11
           go_simp
           exact hK _ _ (hI.value hcl kR hL dE ⟨31,109,_⟩ mm30 rfl (fun _=>rfl) (put2_set sI))
          ·intro L T wS hL hd hcl hI K hK
           try refine sW rfl ?_
           obtain ⟨w0,rfl,hI0,hIS⟩:=hI.second (hd 30) hL sI sI sI
           obtain ⟨_,zt31,rfl⟩:=hI0.v mm30 (hd 31)
           obtain ⟨_,zt28,rfl⟩:=hI0.v mm28 (hd 28)
           obtain ⟨v20,zt20,h20⟩:=hI0.v mm20 (hd 20)
           obtain ⟨vneg,vao,vlen,vcap,vls,rfl,hv'⟩:=id h20
           obtain ⟨e1,e2⟩:=cellOf_two zt20
           simp only [put2At,e1,e2] at hIS ⊢
           have hw0 : Blk w0 rowb tI rcs:=(hI0.old rowb oM sI).trans HBB.out
           have hw1:=(hw0.set_ (x * 2) (.bool vneg)).set_ (x * 2 + 1) (.slice vao vlen vcap)
           obtain ⟨uu1,cc1⟩ : ∃u,((w0.setCell ⟨rowb,x * 2,none⟩ (.bool vneg)).setCell ⟨rowb,x * 2 + 1,none⟩ (.slice vao vlen vcap)).cell? ⟨rowb,y * 2,none⟩ = some u:=⟨_,(hw1.cell _).trans (Array.getElem?_eq_getElem (by simp; omega))⟩
           obtain ⟨uu2,cc2⟩ : ∃u,((w0.setCell ⟨rowb,x * 2,none⟩ (.bool vneg)).setCell ⟨rowb,x * 2 + 1,none⟩ (.slice vao vlen vcap)).cell? ⟨rowb,y * 2 + 1,none⟩ = some u:=⟨_,(hw1.cell _).trans (Array.getElem?_eq_getElem (by simp; omega))⟩
           have cc3:=hw1.frozen (y * 2)
           have cc4:=hw1.frozen (y * 2 + 1)
           clear hw0 hw1
           go_simp
           exact hK _ _ hIS
         intro T wf3 hIS
         obtain ⟨w10,hI,hwfg⟩:=hIS.fin dE
         obtain ⟨vg0,q0,rfl⟩:=hI.v mm0 rfl
         obtain ⟨vg1,q1,rfl⟩:=hI.v mm1 rfl
         obtain ⟨vg2,q2,rfl⟩:=hI.v mm2 rfl
         obtain ⟨vg3,q3,rfl⟩:=hI.v mm3 rfl
         obtain ⟨vg4,q4,rfl⟩:=hI.v mm4 rfl
         obtain ⟨vg5,q5,rfl⟩:=hI.v mm5 rfl
         obtain ⟨vg6,q6,rfl⟩:=hI.v mm6 rfl
         obtain ⟨vg7,q7,rfl⟩:=hI.v mm7 rfl
         obtain ⟨vg8,q8,rfl⟩:=hI.v mm8 rfl
         obtain ⟨vg9,q9,rfl⟩:=hI.v mm9 rfl
         obtain ⟨vg10,q10,rfl⟩:=hI.v mm10 rfl
         obtain ⟨vg11,q11,rfl⟩:=hI.v mm11 rfl
         obtain ⟨vg12,q12,rfl⟩:=hI.v mm12 rfl
         obtain ⟨vg13,q13,rfl⟩:=hI.v mm13 rfl
         obtain ⟨vg14,q14,rfl⟩:=hI.v mm14 rfl
         obtain ⟨vg15,q15,rfl⟩:=hI.v mm15 rfl
         obtain ⟨vg16,q16,rfl⟩:=hI.v mm16 rfl
         obtain ⟨vg17,q17,rfl⟩:=hI.v mm17 rfl
         obtain ⟨vg18,q18,rfl⟩:=hI.v mm18 rfl
         obtain ⟨vg19,q19,rfl⟩:=hI.v mm19 rfl
         obtain ⟨vg20,q20,hg20⟩:=hI.v mm20 rfl
         replace hg20 : IntV w10 vg20 (-(F r' y)):=hg20
         obtain ⟨vg21,q21,rfl⟩:=hI.v mm21 rfl
         obtain ⟨vg22,q22,rfl⟩:=hI.v mm22 rfl
         obtain ⟨vg23,q23,rfl⟩:=hI.v mm23 rfl
         obtain ⟨vg24,q24,rfl⟩:=hI.v mm24 rfl
         obtain ⟨vg25,q25,rfl⟩:=hI.v mm25 rfl
         obtain ⟨vg26,q26,rfl⟩:=hI.v mm26 rfl
         obtain ⟨vg27,q27,rfl⟩:=hI.v mm27 rfl
         obtain ⟨vg28,q28,rfl⟩:=hI.v mm28 rfl
         obtain ⟨vg29,q29,rfl⟩:=hI.v mm29 rfl
         obtain ⟨vg31,q31,rfl⟩:=hI.v mm30 rfl
         have hT:=tmps_set [(79,.pointer (some ⟨w2.heap.size,2,none⟩)),(80,.slice (some ⟨g,0,none⟩) on oc),(81,.int .i64 r'),(82,.pointer (some ⟨g,r',none⟩)),(83,.slice (some ⟨rowb,0,none⟩) C C),(84,.int .i64 x),(85,.pointer (some ⟨w2.heap.size,2,none⟩)),(86,.slice (some ⟨g,0,none⟩) on oc),(87,.int .i64 r'),(88,.pointer (some ⟨g,r',none⟩)),(89,.slice (some ⟨rowb,0,none⟩) C C),(90,.int .i64 y),(91,.pointer (some ⟨w2.heap.size,2,none⟩)),(92,.slice (some ⟨g,0,none⟩) on oc),(93,.int .i64 r'),(94,.pointer (some ⟨g,r',none⟩)),(95,.slice (some ⟨rowb,0,none⟩) C C),(96,.int .i64 y),(97,.pointer (some ⟨rowb,y * 2,none⟩)),(98,.agg #[.bool ys,.slice ya yl yc]),(99,vg20),(100,.pointer (some ⟨w2.heap.size,2,none⟩)),(101,.slice (some ⟨g,0,none⟩) on oc),(102,.int .i64 r'),(103,.pointer (some ⟨g,r',none⟩)),(104,.slice (some ⟨rowb,0,none⟩) C C),(105,.int .i64 x),(106,.pointer (some ⟨rowb,x * 2,none⟩)),(107,.agg #[.bool xs,.slice xa xl xc]),(108,.pointer (some ⟨rowb,x * 2,none⟩)),(109,.pointer (some ⟨rowb,y * 2,none⟩))]
          (fun j hj=>hI.keep j (by simp only [List.forall_mem_cons] at hj ⊢; simp [hj]) (by simp only [List.forall_mem_cons] at hj ⊢; simp [hj]))
          (by simp only [List.forall_mem_cons]; simp [q0,q1,q2,q3,q4,q5,q6,q7,q8,q9,q10,q11,q12,q13,q14,q15,q16,q17,q18,q19,q20,q21,q22,q23,q24,q25,q26,q27,q28,q29,q31]) hI.size
         have hlw10:=hI.lext
         have hbw10:=hI.bel (wr.heap.size) oM aU
         have holdw10:=hI.old
         clear hI
         simp only [List.foldl_cons,List.foldl_nil,List.setIfInBounds_toArray,List.set_cons_zero,List.set_cons_succ,ptr] at hT
         subst hT
         clear q0 q1 q2 q3 q4 q5 q6 q7 q8 q9 q10 q11 q12 q13 q14 q15 q16 q17 q18 q19 q20 q21 q22 q23 q24 q25 q26 q27 q28 q29 q31
         obtain ⟨qn,qa,ql,qc,qx,rfl,hqx⟩:=id hg20
         have HQX:=Lib.hid hqx
         clear hqx
         have hwf : wf3 = (((w10.setCell ⟨rowb,x * 2,none⟩ (.bool qn)).setCell ⟨rowb,x * 2 + 1,none⟩ (.slice qa ql qc)).setCell ⟨rowb,y * 2,none⟩ (.bool xs)).setCell ⟨rowb,y * 2 + 1,none⟩ (.slice xa xl xc):=hwfg
         subst hwf
         clear hwfg
         have hoA:=ho.below hbw10
         have hset1:=hoA.set hbi hxs hg20
         have hset2:=hset1.1.set hbi hys (hzx.ext (hlw10.trans hset1.2.1))
         have hbase:=hset1.2.2
         have hmm:=hmb rowb (List.mem_of_getElem? hbi)
         have HSET:=Hk hset2
         clear hset1 hset2
         go_wp2
         go_roundw
         case rel=>
          have hs:=HSET.out.1
          have hq : setM (setM (genM R C (swnU F x y r')) r' x (-(F r' y))) r' y (F r' x) = genM R C (swnU F x y (r' + 1)):=by
           rw [setM_genM _ hlt hxs,setM_genM _ hlt hys]
           exact genM_congr fun a _ b _=>by
            unfold swnU swnF
            by_cases h1 : a = r'
            ·rw [h1]
             have hlt1 : r' < r' + 1:=by omega
             have hnlt : ¬ r' < r':=by omega
             rw [if_pos hlt1,if_neg hnlt]
             by_cases h2 : b = y
             ·have h3 : ¬ b = x:=fun e=>hxy (e.symm.trans h2)
              rw [if_pos ⟨rfl,h2⟩,if_neg h3,if_pos h2]
             ·rw [if_neg (fun h=>h2 h.2)]
              by_cases h3 : b = x
              ·rw [if_pos ⟨rfl,h3⟩,if_pos h3]
              ·rw [if_neg (fun h=>h3 h.2),if_neg h3,if_neg h2]
            ·rw [if_neg (fun h=>h1 h.1),if_neg (fun h=>h1 h.1)]
             by_cases h4 : a < r'
             ·have h5 : a < r' + 1:=by omega
              rw [if_pos h4,if_pos h5]
             ·have h5 : ¬ a < r' + 1:=by omega
              rw [if_neg h4,if_neg h5]
          rw [hq] at hs
          have hn1 : ∀b,b ≠ rowb->((((w10.setCell ⟨rowb,x * 2,none⟩ (.bool qn)).setCell ⟨rowb,x * 2 + 1,none⟩ (.slice qa ql qc)).setCell ⟨rowb,y * 2,none⟩ (.bool xs)).setCell ⟨rowb,y * 2 + 1,none⟩ (.slice xa xl xc)).heap[b]? = w10.heap[b]?:=fun b h1=>(set2_old _ _ _ _ _ _ _ h1).trans (set2_old _ _ _ _ _ _ _ h1)
          exact ⟨r' + 1,by omega,by simp,bset (bset (bset (bset (nx hb hbw10) oM _ _) oM _ _) oM _ _) oM _ _,(hn1 _ oM).trans (br.below hbw10),(hn1 _ oM).trans (T7.below hbw10),hs⟩
         case measure=>simp [intOf]; omega
        ·obtain rfl : r' = R:=by omega
         have hq : genM r' C (swnU F x y r') = genM r' C (swnF F x y):=genM_congr fun a ha b _=>by unfold swnU; rw [if_pos ha]
         rw [hq] at ho
         go_wp2
         go_roundw
         case rel=>exact ⟨i + 1,_,bs,by simp,by omega,hb,br,T7,ho,hbl,hmb,⟨hch.out.swn hxs hys hxy⟩⟩
         case measure=>simp [intOf]; omega
    ·obtain rfl : C = 0:=by omega
     go_wp2
     go_roundw
     case rel=>exact ⟨i + 1,F,bs,by simp,by omega,hb,br,T7,ho,hbl,hmb,HSM⟩
     case measure=>simp [intOf]; omega
  ·have hfin : HidS (ChI R C M lim F0 F):=⟨⟨hch.out.to_,hch.out.back,hch.out.le.mono (Nat.mul_le_mul_left _ (le_pow2 oM hi))⟩⟩
   have HGO : HidS (∀K : Prop,(i < sn->¬ i < lim->K)->(¬ i < sn->K)->K):=⟨fun K h1 h2=>by
    by_cases hs : i < sn
    ·exact h1 hs (fun hl=>hgo ⟨hs,hl⟩)
    ·exact h2 hs⟩
   clear hgo
   refine HGO.out _ ?_ ?_
   ·intro hl hlm
    obtain ⟨r1,r2,r3,r4,r5,r6⟩:=br.three
    go_wp2
    refine bodyPost_mat rfl rfl rfl (br.put3 _ _ _) ⟨_,bs,F,rfl,⟨hbl,_,rfl,(ho.keep (fun k hk=>set3_old _ _ k _ _ _ oM) (br.lext3 dE _ _ _)).mono q1⟩,bset (bset (bset hb oM 0 _) oM 1 _) oM 2 _,hfin.out⟩
   ·intro hl
    obtain ⟨r1,r2,r3,r4,r5,r6⟩:=br.three
    go_wp2
    refine bodyPost_mat rfl rfl rfl (br.put3 _ _ _) ⟨_,bs,F,rfl,⟨hbl,_,rfl,(ho.keep (fun k hk=>set3_old _ _ k _ _ _ oM) (br.lext3 dE _ _ _)).mono q1⟩,bset (bset (bset hb oM 0 _) oM 1 _) oM 2 _,hfin.out⟩
def U8V (w : World) (v : Value) (ls : List Nat) : Prop:=
 ∃ao n cap,v = .slice ao n cap/\ls.length = n/\n<=cap/\cap<=9223372036854775807/\(∀z ∈ ls,z<=255) ∧
  (ls ≠ []->∃b off,ao = some ⟨b,off,none⟩/\b < w.heap.size/\∀(k : Nat) (z : Nat),ls[k]? = some z->w.cell? ⟨b,off + k,none⟩ = some (.int .u8 z))
theorem U8V.cell {w : World} {ao : Option Addr} {n cap : Nat} {ls : List Nat} (h : U8V w (.slice ao n cap) ls) {k : Nat} (hk : k < ls.length) :
  ∃b off z,ao = some ⟨b,off,none⟩/\b < w.heap.size/\ls[k]? = some z/\w.cell? ⟨b,off + k,none⟩ = some (.int .u8 z)/\z<=255:=by
 obtain ⟨ao',n',cap',h1,h2,h3,h4,h5,h6⟩:=h
 injection h1 with e1 e2 e3
 subst e1
 obtain ⟨b,off,e,hb,hc⟩:=h6 (by rintro rfl; simp at hk)
 have hz:=List.getElem?_eq_getElem hk
 exact ⟨b,off,_,e,hb,hz,hc _ _ hz,h5 _ (List.mem_of_getElem? hz)⟩
def quot (ls : List Nat) (j : Nat) : Int:=match ls[j]? with
 | some z=>(z % 6 : Nat)
 | none=>1
theorem quot_le (ls : List Nat) (j : Nat) : 0<=quot ls j/\(quot ls j).natAbs<=5:=by
 unfold quot
 split <;> omega
theorem RowsO.onlyN {w w' : World} {base : Nat} {A : Value} {C : Nat} {bs : List Nat} {M : List (List Int)} {S : List Nat} (h : RowsO w base A C bs M) (ho : Only S w w') (hS : ∀b ∈ bs,b ∉ S) (hA : ∀g,A.ownBlock = some g->g ∉ S) : RowsO w' base A C bs M:=by
 refine ⟨⟨h.own.1,?_⟩,h.len,fun k b r h1 h2=>by
  obtain ⟨e1,e2,e3⟩:=h.row k b r h1 h2
  exact ⟨e1,e2,e3.only ho (hS b (List.mem_of_getElem? h1))⟩,h.nodup,h.cb⟩
 rcases h.own.2 with h1 | ⟨g,cap,cur,e1,e2,e3,e4⟩
 ·exact .inl h1
 ·refine .inr ⟨g,cap,cur,e1,e2,?_,e4⟩
  exact (ho.old g (Array.getElem?_eq_some_iff.1 e3).1 (hA g (by rw [e1]; rfl))).trans e3
theorem VecO.onlyN {w w' : World} {base : Nat} {v : Value} {zs : List Int} {S : List Nat} (h : VecO w base v zs) (ho : Only S w w') (hA : ∀g,v.ownBlock = some g->g ∉ S) : VecO w' base v zs:=by
 obtain ⟨cells,h1,h2⟩:=h
 refine ⟨cells,⟨h1.1,?_⟩,fun k z hk=>?_⟩
 ·rcases h1.2 with h3 | ⟨g,cap,cur,e1,e2,e3,e4⟩
  ·exact .inl h3
  ·refine .inr ⟨g,cap,cur,e1,e2,?_,e4⟩
   exact (ho.old g (Array.getElem?_eq_some_iff.1 e3).1 (hA g (by rw [e1]; rfl))).trans e3
 ·obtain ⟨s,a,l,c,q1,q2,q3⟩:=h2 k z hk
  exact ⟨s,a,l,c,q1,q2,q3.ext ho.lext⟩
def FormP (w : World) (v : Value) (R C : Nat) (L : List (List Int)) : Prop:=
 ∃s u vv x y,v = .agg #[.int .i64 R,.int .i64 C,s,.int .i64 R,.int .i64 R,u,.int .i64 R,.int .i64 R,vv,.int .i64 C,.int .i64 C,x,.int .i64 C,.int .i64 C,y]/\MatV w (.agg #[.int .i64 R,.int .i64 C,s]) R C L
theorem lastsB_formP (R C : Nat) (L : List (List Int)) : LastsB (fun w v=>FormP w v R C L):=fun _ _ _ e ⟨s,u,v,x,y,h1,h2⟩=>⟨s,u,v,x,y,h1,h2.below e⟩
theorem formF (v : Value) (M : List (List Int)) (R C : Nat) (L : List (List Int)) (w : World) (h : MatV w v R C M) (hF : Fits R C M) (hR : R<=4) (hC : C<=4) (hA : leM 1048576 R C (ent M)) (hL : ∀r F,Inv R C r (ent M) F->genM R C F = L) :
  Calls Tryz.prog 15 #[v] w fun e w'=>∃v,e = .returned v/\FormP w' v R C L/\Below w.heap.size w w':=
 (form_all v M R C w h hF hR hC hA).mono fun e w' ⟨v,y,r,h1,h2,h3,h4,h5,h6⟩=>⟨v,h1,by
  obtain ⟨s,u,vv,x,z,k1,k2,-⟩:=h5.ex
  rw [hL r y.s h3] at k2
  exact ⟨s,u,vv,x,z,k1,⟨_,rfl,k2⟩⟩,h6⟩
theorem RowsO.glt {w : World} {base : Nat} {A : Value} {C : Nat} {bs : List Nat} {M : List (List Int)} (h : RowsO w base A C bs M) : ∀g,A.ownBlock = some g->g < w.heap.size:=fun g hg=>by
 rcases h.own.2 with ⟨rfl,-⟩ | ⟨g',cap,cur,rfl,e2,e3,-⟩
 ·cases hg
 ·injection hg with hg
  subst hg
  exact (Array.getElem?_eq_some_iff.1 e3).1
set_option maxHeartbeats 8000000 in
set_option maxRecDepth 20000 in
theorem smithMade_any (qv lv : Value) (p q : Int) (ls : List Nat) (st : List (Nat × Nat × Nat × Int)) (w : World) (hp : 0<=p/\p<=255) (hq : 0<=q/\q<=255) (hqv : U8V w qv ls) (hst : StV w lv st) :
  Calls Tryz.prog 8 #[.agg #[.int .u8 p,.int .u8 q],qv,lv] w fun e w'=>e = .returned (.bool true)/\Below w.heap.size w w':=by
 obtain ⟨ao,n,cap,rfl,hln,-,-,-,-⟩:=id hqv
 obtain ⟨so,sn,sc,rfl,-,-,-,-,-⟩:=id hst
 obtain ⟨pn,rfl⟩:=Int.eq_ofNat_of_zero_le hp.1
 obtain ⟨qn,rfl⟩:=Int.eq_ofNat_of_zero_le hq.1
 have HLN:=Lib.hid hln
 have hp' : pn<=255:=by omega
 have hq' : qn<=255:=by omega
 obtain ⟨KQ,hK⟩ : ∃KQ,quot ls = KQ:=⟨_,rfl⟩
 have HK : HidS (∀j,0<=KQ j/\(KQ j).natAbs<=5):=⟨fun j=>by rw [<-hK]; exact quot_le ls j⟩
 have HKE : HidS (∀j,KQ j = quot ls j):=⟨fun j=>by rw [<-hK]⟩
 clear hp hq hln hK
 go_enter Tryz.func8,Tryz.ntmps8
 go_upto_region 1 with (fail)
 refine wp_world ?_
 intro W0 hW0
 obtain ⟨hB0,bw,hs0⟩:=world1 hW0
 clear hW0
 go_wp2_with fail
 refine (sanity_any W0).mono ?_
 rintro e w1 ⟨rfl,hb1⟩
 have hB:=nx hB0 hb1
 have bw:=bw.below hb1
 have hsz1:=hb1.size
 obtain ⟨c1,c2,c3,c4⟩:=bw.two
 obtain ⟨R,hR⟩ : ∃R : Nat,R = pn % 5:=⟨_,rfl⟩
 obtain ⟨C,hC⟩ : ∃C : Nat,C = qn % 5:=⟨_,rfl⟩
 have e1 : (pn : Int) % 5 = (R : Int):=by omega
 have e2 : (qn : Int) % 5 = (C : Int):=by omega
 have hR4 : R<=4:=by omega
 have hC4 : C<=4:=by omega
 clear hR hC
 go_wp2_with fail
 refine (r5new_any R C w1 oM oM).mono ?_
 rintro e w2 ⟨u,bs,rfl,⟨hbl,A2,rfl,ho⟩,hb2⟩
 obtain ⟨oo,on,oc,rfl,-,-,-,-⟩:=id ho.rows
 have hlts:=ho.lts
 have hglt:=ho.glt
 rw [zeros_genM] at ho
 go_upto_region 3 with (fail)
 refine wp_world ?_
 intro W3 hW3
 obtain ⟨hB3,T8,hs3⟩:=world1 hW3
 have ho:=ho.below hB3
 have hB:=nx (nx hB hb2) hB3
 have q2:=hb2.size
 clear hW3 c1 c2 c3 c4 bw e1 e2
 go_wp2_with fail
 refine (r1of_any 1 _ oM oM).mono ?_
 rintro e w4 ⟨v4,rfl,hv4,hb4⟩
 obtain ⟨xn,xa,xl,xc,xx,rfl,hxv⟩:=id hv4
 have HXV:=Lib.hid hxv
 clear hxv
 go_upto_region 4 with (fail)
 refine wp_world ?_
 intro W5 hW5
 obtain ⟨hB5,bE,T9,hs5⟩:=world2 hW5
 have hBx:=nx hb4 hB5
 have ho:=ho.below hBx
 have T8:=T8.below hBx
 have hB:=nx hB hBx
 have hv4:=hv4.ext (lx hB5)
 have q4:=hb4.size
 have hvo : VecO W5 w4.heap.size (.slice (some ⟨w4.heap.size,0,none⟩) 0 0) []:=⟨[],⟨rfl,.inr ⟨w4.heap.size,0,#[],rfl,Nat.le_refl _,bE,Nat.le_refl _,by simp [maxLen],rfl,rfl⟩⟩,fun k z h=>by simp at h⟩
 have hst0 : genM R C (fun _ _=>(0 : Int)) = genM R C (madeP KQ 0):=genM_congr fun a _ b _=>by unfold madeP; rw [if_neg oM]
 rw [hst0] at ho
 have hl0 : lastN KQ 0 = 1:=rfl
 rw [<-hl0] at hv4
 have hown : ∀g,(Value.slice (some ⟨w4.heap.size,0,none⟩) 0 0).ownBlock = some g->g ≠ w4.heap.size + 1:=fun g hg=>by
  simp [Value.ownBlock] at hg
  omega
 clear hW5 hst0 hl0 hBx
 go_wp2
 rename_i KP hKP
 go_loopw [10,11] (fun u iv wr=>∃(i : Nat) (ln : Bool) (la : Option Addr) (ll lc : Nat),iv = .int .i64 i/\i<=R/\i<=C/\Below w.heap.size w wr/\Blk wr w2.heap.size 28 #[.int .i64 R,.int .i64 C,.slice oo on oc]/\Blk wr (w4.heap.size + 1) 45 #[.bool ln,.slice la ll lc]/\IntV wr (.agg #[.bool ln,.slice la ll lc]) (lastN KQ i) ∧
  RowsO wr w1.heap.size (.slice oo on oc) C bs (genM R C (madeP KQ i))/\VecO wr w4.heap.size u (nzL (genV i fun j=>lastN KQ (j + 1)))/\∀g,u.ownBlock = some g->g ≠ w4.heap.size + 1) (fun _ iv _=>4 - (intOf iv).toNat)
 case atStart=>exact ⟨0,xn,xa,xl,xc,rfl,by omega,by omega,hB,T8,T9,hv4,ho,hvo,hown⟩
 case round=>
  clear hB T8 T9 hv4 ho hvo hown HXV
  obtain ⟨i,ln,la,ll,lc,rfl,hiR,hiC,hb,T8,T9,hlv,ho,hvo,hown⟩:=hrel
  have hi4 : i<=4:=by omega
  by_cases hgo : i < R/\i < C
  ·obtain ⟨hir,hic⟩:=hgo
   obtain ⟨f1,f2,f3,f4,f5,f6⟩:=T8.three
   go_upto_region 8 with (fail)
   rename_i K1 hK1 K0 hK0
   have body : ∀k : Int,k = KQ i->∀x : Value × Value × Value × Value × Value × Value × Value,K1 { tmps:=#[.agg #[.int .u8 pn,.int .u8 qn],.slice ao n cap,.slice so sn sc,.pointer (some ⟨w.heap.size,0,none⟩),undef,undef,.bool false,.bool true,.pointer (some ⟨w2.heap.size,0,none⟩),.pointer (some ⟨w4.heap.size + 1,0,none⟩),u10,.int .i64 i,.int .i64 k,undef,.bool true,.pointer (some ⟨w.heap.size,0,none⟩),.int .u8 pn,.int .i64 pn,.int .i64 R,.pointer (some ⟨w.heap.size,1,none⟩),.int .u8 qn,.int .i64 qn,.int .i64 C,.agg #[.int .i64 R,.int .i64 C,.slice oo on oc],.agg #[.bool xn,.slice xa xl xc],.slice (some ⟨w4.heap.size,0,none⟩) 0 0,.int .i64 i,.pointer (some ⟨w2.heap.size,0,none⟩),.int .i64 R,.bool true,.bool true,.int .i64 i,.pointer (some ⟨w2.heap.size,1,none⟩),.int .i64 C,.bool true,.bool true,u36,u37,.int .i64 i,.slice ao n cap,.int .i64 n,x.1,x.2.1,x.2.2.1,x.2.2.2.1,x.2.2.2.2.1,x.2.2.2.2.2.1,x.2.2.2.2.2.2,u48,u49,u50,u51,u52,u53,u54,u55,u56,u57,u58,u59,u60,u61,u62,u63,u64,u65,u66,undef,undef,undef,undef,undef,undef,undef,undef,undef,undef,undef,undef,undef,undef,undef,undef,undef],defers:=[] } wr:=by
    rintro k rfl ⟨x41,x42,x43,x44,x45,x46,x47⟩
    dsimp only
    refine hK1 _ _ ?_
    clear hK1 hK0 f1 f2 f3 f4 f5 f6
    obtain ⟨f1,f2,f3,f4,f5,f6⟩:=T8.three
    obtain ⟨k1,k2,k3,k4⟩:=T9.two
    obtain ⟨g,bo,rfl,hg,hbo,hbo2,o1,ho3⟩:=ho.at_ (i:=i) oM
    have hio : i < on:=by omega
    have hbow:=hlts i bo hbo
    have hgT9:=(RowsO.gblk ho).elim fun cur h=>h.1.ne T9 dE
    have hgT8:=(RowsO.gblk ho).elim fun cur h=>h.1.ne T8 dE
    have HO3:=Lib.hid ho3
    have hbl':=hbl
    have SK : HidS (-9223372036854775808<=KQ i/\KQ i<=9223372036854775807):=⟨by have:=HK.out i; omega⟩
    have SL : HidS (Sm (lastN KQ i)/\Sm (KQ i)/\lastN KQ i * (KQ i) = lastN KQ (i + 1)):=⟨(small_smd (Nat.le_trans (lastN_le (fun j=>(HK.out j).2) i) (Nat.le_trans (Nat.pow_le_pow_right oM hi4) dE))).sm,(small_smd (Nat.le_trans (HK.out i).2 dE)).sm,rfl⟩
    have lt8:=T8.lt
    have lt9:=T9.lt
    clear ho3 hbl'
    go_upto_region 10 with (fail)
    refine wp_region_each rfl (RI wr (wr.heap.size) _ 45
      [⟨0,48,fun _ v=>v = .agg #[.bool ln,.slice la ll lc]⟩,⟨1,49,fun _ v=>v = .int .i64 (KQ i)⟩,⟨2,50,fun w v=>IntV w v ((KQ i))⟩,⟨3,51,fun w v=>IntV w v (lastN KQ i * (KQ i))⟩]
      [] [⟨4,w4.heap.size + 1,fun w v=>IntV w v ((lastN KQ i * (KQ i)))⟩]) kR RI.start ?fin1 ?steps1
    case steps1=>
     refine ⟨?_,?_,?_,?_,?_,trivial⟩ <;> (intro L T wS hL hd hcl hI K hK; try refine sW rfl ?_)
     ·have zt : T[9]? = some (.pointer (some ⟨w4.heap.size + 1,0,none⟩)):=hI.keep 9 sI sI
      have zl : L[4]? ≠ some true:=fun hh=>by have:=hcl 4 _ rfl hh 0 kR; rw [hL] at this; cases this
      have cc0:=hI.cellE _ mm0 k1 zl
      have cc1:=hI.cellE _ mm0 k2 zl
      dsimp only at cc0
      dsimp only at cc1
      go_simp
      exact hK _ _ (hI.y mm0 rfl)
     ·have zt : T[12]? = some (.int .i64 (KQ i)):=hI.keep 12 sI sI
      go_simp
      exact hK _ _ (hI.y mm1 rfl)
     ·obtain ⟨v1,zt1,rfl⟩:=hI.v mm1 (hd 1)
      go_simp
      refine (r1of_any (KQ i) _ SK.out.1 SK.out.2).mono ?_
      rintro e wa ⟨v,rfl,hv,hba⟩
      exact hK _ _ ((hI.world hba).y mm2 hv)
     ·obtain ⟨v0,zt0,rfl⟩:=hI.v mm0 (hd 0)
      obtain ⟨v2,zt2,h2⟩:=hI.v mm2 (hd 2)
      go_simp
      refine (r1mul_any _ _ (lastN KQ i) (KQ i) _ (hlv.ext hI.lext) h2 SL.out.1 SL.out.2.1).mono ?_
      rintro e wa ⟨v,rfl,hv,hba⟩
      exact hK _ _ ((hI.world hba).y mm3 hv)
     ·have zt : T[9]? = some (.pointer (some ⟨w4.heap.size + 1,0,none⟩)):=hI.keep 9 sI sI
      obtain ⟨v,zv,hv⟩:=hI.v mm3 (hd 3)
      obtain ⟨vneg,vao,vlen,vcap,vls,rfl,hv'⟩:=id hv
      obtain ⟨⟨xo,yo,zb,-⟩,-⟩:=hI.ex _ mm0
      replace zb : Blk wS (w4.heap.size + 1) 45 #[xo,yo]:=zb
      obtain ⟨zk1,zk2,zk3,zk4⟩:=zb.two
      go_simp
      exact hK _ _ (hI.storeE ⟨4,w4.heap.size + 1,_⟩ mm0 rfl hL rfl hv)
    intro T w6 hI
    obtain ⟨va0,q0,rfl⟩:=hI.v mm0 rfl
    obtain ⟨va1,q1,rfl⟩:=hI.v mm1 rfl
    obtain ⟨va2,q2,ha2⟩:=hI.v mm2 rfl
    replace ha2 : IntV w6 va2 ((KQ i)):=ha2
    obtain ⟨va3,q3,ha3⟩:=hI.v mm3 rfl
    replace ha3 : IntV w6 va3 (lastN KQ i * (KQ i)):=ha3
    obtain ⟨⟨exa4,eya4,eba4,eia4⟩,-⟩:=hI.ex _ mm0
    replace eba4 : Blk w6 (w4.heap.size + 1) 45 #[exa4,eya4]:=eba4
    replace eia4 : IntV w6 (.agg #[exa4,eya4]) ((lastN KQ i * (KQ i))):=eia4 rfl
    have hT:=tmps_set [(48,.agg #[.bool ln,.slice la ll lc]),(49,.int .i64 (KQ i)),(50,va2),(51,va3)]
     (fun j hj=>hI.keep j (by simp only [List.forall_mem_cons] at hj ⊢; simp [hj]) (by simp only [List.forall_mem_cons] at hj ⊢; simp [hj]))
     (by simp only [List.forall_mem_cons]; simp [q0,q1,q2,q3]) hI.size
    have hlw6:=hI.lext
    have hbw6:=hI.bel (w.heap.size) oM aU
    have holdw6:=hI.old
    clear hI
    simp only [List.foldl_cons,List.foldl_nil,List.setIfInBounds_toArray,List.set_cons_zero,List.set_cons_succ,ptr] at hT
    subst hT
    clear q0 q1 q2 q3
    rw [SL.out.2.2] at eia4
    have hO6 : Only [w4.heap.size + 1] wr w6:=⟨hbw6.mono (Nat.zero_le _),hlw6,fun k hk hn=>holdw6 k hk (by simp at hn ⊢; omega)⟩
    have T8:=hO6.blk T8 (by simp; omega)
    have ho:=ho.onlyN hO6 (fun b hb=>by
     obtain ⟨j,hj,e⟩:=List.getElem_of_mem hb
     have:=hlts j b (by rw [List.getElem?_eq_getElem hj,e])
     simp
     omega) (fun g' hg'=>by
     simp [Value.ownBlock] at hg'
     simp
     omega)
    have hvo:=hvo.onlyN hO6 (fun g' hg'=>by simpa using hown g' hg')
    have hb:=hb.trans hbw6
    have q6:=hbw6.size
    obtain ⟨mn,ma,ml,mc,mx,e9,hmv⟩:=id eia4
    injection e9 with e9
    simp only [Array.mk.injEq,List.cons.injEq,and_true] at e9
    obtain ⟨rfl,rfl⟩:=e9
    have HMV:=Lib.hid hmv
    clear k1 k2 k3 k4 f1 f2 f3 f4 f5 f6 o1 hmv holdw6 hO6 T9
    have T9:=eba4
    obtain ⟨f1,f2,f3,f4,f5,f6⟩:=T8.three
    obtain ⟨m1,m2,m3,m4⟩:=T9.two
    obtain ⟨g',bo',eg',hg',hbo',hbo2',o1,-⟩:=ho.at_ (i:=i) oM
    obtain rfl : g = g':=by injection eg' with eg'; injection eg'
    obtain rfl : bo = bo':=Option.some.inj (hbo.symm.trans hbo')
    have lt8:=T8.lt
    have lt9:=T9.lt
    clear eg' hbo'
    go_upto_region 11 with (fail)
    refine wp_region_headed 8 rfl (RI w6 (w6.heap.size) _ 45
      [⟨0,52,fun _ v=>v = .pointer (some ⟨w2.heap.size,2,none⟩)⟩,⟨1,53,fun _ v=>v = .slice (some ⟨g,0,none⟩) on oc⟩,⟨2,54,fun _ v=>v = .int .i64 i⟩,⟨3,55,fun _ v=>v = .pointer (some ⟨g,i,none⟩)⟩,⟨4,56,fun _ v=>v = .slice (some ⟨bo,0,none⟩) C C⟩,⟨5,57,fun _ v=>v = .int .i64 i⟩,⟨6,58,fun _ v=>v = .agg #[.bool mn,.slice ma ml mc]⟩,⟨7,59,fun _ v=>v = .pointer (some ⟨bo,i * 2,none⟩)⟩]
      [] []) kR RI.start ?fin2 ?steps2
    case steps2=>
     refine ⟨?_,?_,?_,?_,?_,?_,?_,?_,trivial⟩ <;> (intro L T wS hL hd hcl hI K hK; try refine sW rfl ?_)
     ·have zt : T[8]? = some (.pointer (some ⟨w2.heap.size,0,none⟩)):=hI.keep 8 sI sI
      go_simp
      exact hK _ _ (hI.y mm0 rfl)
     ·obtain ⟨v0,zt0,rfl⟩:=hI.v mm0 (hd 0)
      have cc0:=hI.cell f3 oM nom
      go_simp
      exact hK _ _ (hI.y mm1 rfl)
     ·have zt : T[11]? = some (.int .i64 i):=hI.keep 11 sI sI
      go_simp
      exact hK _ _ (hI.y mm2 rfl)
     ·obtain ⟨v1,zt1,rfl⟩:=hI.v mm1 (hd 1)
      obtain ⟨v2,zt2,rfl⟩:=hI.v mm2 (hd 2)
      go_simp
      exact hK _ _ (hI.y mm3 rfl)
     ·obtain ⟨v3,zt3,rfl⟩:=hI.v mm3 (hd 3)
      have cc0:=hI.cell o1 oM nom
      go_simp
      exact hK _ _ (hI.y mm4 rfl)
     ·have zt : T[11]? = some (.int .i64 i):=hI.keep 11 sI sI
      go_simp
      exact hK _ _ (hI.y mm5 rfl)
     ·have zt : T[9]? = some (.pointer (some ⟨w4.heap.size + 1,0,none⟩)):=hI.keep 9 sI sI
      have cc0:=hI.cell m1 oM nom
      have cc1:=hI.cell m2 oM nom
      go_simp
      exact hK _ _ (hI.y mm6 rfl)
     ·obtain ⟨v4,zt4,rfl⟩:=hI.v mm4 (hd 4)
      obtain ⟨v5,zt5,rfl⟩:=hI.v mm5 (hd 5)
      go_simp
      exact hK _ _ (hI.y mm7 rfl)
    intro T w7 hI
    obtain ⟨vb0,q0,rfl⟩:=hI.v mm0 rfl
    obtain ⟨vb1,q1,rfl⟩:=hI.v mm1 rfl
    obtain ⟨vb2,q2,rfl⟩:=hI.v mm2 rfl
    obtain ⟨vb3,q3,rfl⟩:=hI.v mm3 rfl
    obtain ⟨vb4,q4,rfl⟩:=hI.v mm4 rfl
    obtain ⟨vb5,q5,rfl⟩:=hI.v mm5 rfl
    obtain ⟨vb6,q6,rfl⟩:=hI.v mm6 rfl
    obtain ⟨vb7,q7,rfl⟩:=hI.v mm7 rfl
    have hT:=tmps_set [(52,.pointer (some ⟨w2.heap.size,2,none⟩)),(53,.slice (some ⟨g,0,none⟩) on oc),(54,.int .i64 i),(55,.pointer (some ⟨g,i,none⟩)),(56,.slice (some ⟨bo,0,none⟩) C C),(57,.int .i64 i),(58,.agg #[.bool mn,.slice ma ml mc]),(59,.pointer (some ⟨bo,i * 2,none⟩))]
     (fun j hj=>hI.keep j (by simp only [List.forall_mem_cons] at hj ⊢; simp [hj]) (by simp only [List.forall_mem_cons] at hj ⊢; simp [hj]))
     (by simp only [List.forall_mem_cons]; simp [q0,q1,q2,q3,q4,q5,q6,q7]) hI.size
    have hlw7:=hI.lext
    have hbw7:=hI.bel (w6.heap.size) oM nom
    have holdw7:=hI.old
    clear hI
    simp only [List.foldl_cons,List.foldl_nil,List.setIfInBounds_toArray,List.set_cons_zero,List.set_cons_succ,ptr] at hT
    subst hT
    clear q0 q1 q2 q3 q4 q5 q6 q7
    simp only [List.drop_succ_cons,List.drop_zero]
    have ho7:=ho.below hbw7
    have hmi:=eia4.ext hlw7
    obtain ⟨sn',sa',sl',sc',z1,z2,z3,z4,-⟩:=ho7.cellAt hbo hic
    have hset:=ho7.set hbo hic hmi
    have hq : setM (genM R C (madeP KQ i)) i i (lastN KQ (i + 1)) = genM R C (madeP KQ (i + 1)):=by
     rw [setM_genM _ hir hic]
     exact genM_congr fun a _ b _=>by
      unfold madeP
      by_cases h1 : a = i/\b = i
      ·obtain ⟨rfl,rfl⟩:=h1
       rw [if_pos ⟨rfl,rfl⟩,if_pos ⟨rfl,by omega⟩]
      ·rw [if_neg h1]
       by_cases h2 : a = b/\a < i
       ·rw [if_pos h2,if_pos ⟨h2.1,by omega⟩]
       ·rw [if_neg h2,if_neg oM]
    rw [hq] at hset
    have hbase:=hset.2.2
    have T8:=T8.below hbw7
    have T9:=T9.below hbw7
    have hvo:=hvo.below hbw7
    have hb:=nx hb hbw7
    have q7:=hbw7.size
    have hO8 : Only [bo] w7 _:=Only.bset2 (List.mem_singleton.2 rfl) hset.2.1
    have hvo8:=hvo.onlyN hO8 (fun g' hg'=>by
     have:=hvo.own g' hg'
     simp
     omega)
    have T88:=hO8.blk T8 (by simp; omega)
    have T98:=hO8.blk T9 (by simp; omega)
    have hb8:=Only.below hb hO8 (fun k hk=>by simp at hk; omega) hb.size
    have hmi8:=hmi.ext hset.2.1
    have HS8:=Hk hset.1
    clear hset hq ho7 ho hO8 hvo T8 T9 f1 f2 f3 f4 f5 f6 m1 m2 m3 m4 o1
    go_upto_region 12 with (fail)
    generalize ((w7.setCell ⟨bo,i * 2,none⟩ (.bool mn)).setCell ⟨bo,i * 2 + 1,none⟩ (.slice ma ml mc)) = w8 at *
    obtain ⟨m1,m2,m3,m4⟩:=T98.two
    go_wp2_with fail
    refine (r1sign_any _ (lastN KQ (i + 1)) w8 hmi8).mono ?_
    rintro e w9 ⟨rfl,hb9⟩
    have hb:=nx hb8 hb9
    have T8:=T88.below hb9
    have T9:=T98.below hb9
    have hmi9:=hmi8.ext (lx hb9)
    have ho:=HS8.out.below hb9
    have hvo:=hvo8.below hb9
    have q9:=hb9.size
    have q8:=hb8.size
    have hsn : nzL (genV (i + 1) fun j=>lastN KQ (j + 1)) = if lastN KQ (i + 1) ≠ 0 then nzL (genV i fun j=>lastN KQ (j + 1)) ++ [lastN KQ (i + 1)] else nzL (genV i fun j=>lastN KQ (j + 1)):=by
     have e : genV (i + 1) (fun j=>lastN KQ (j + 1)) = genV i (fun j=>lastN KQ (j + 1)) ++ [lastN KQ (i + 1)]:=by unfold genV; rw [List.range_succ,List.map_append]; rfl
     rw [e,nzL_snoc]
    have HSN:=Lib.hid hsn
    clear m1 m2 m3 m4 hsn
    by_cases hz0 : lastN KQ (i + 1) = 0
    ·rw [cmpI_zero hz0]
     have HSN2:=HSN.out
     rw [if_neg (by simp [hz0])] at HSN2
     rw [<-HSN2] at hvo
     have HZ0:=Lib.hid hz0
     clear hz0 HSN2
     go_wp2
     go_roundw
     case rel=>exact ⟨i + 1,mn,ma,ml,mc,by simp,by omega,by omega,hb,T8,T9,hmi9,ho,hvo,hown⟩
     case measure=>simp [intOf]; omega
    ·have hc:=cmpI_ne hz0
     obtain ⟨k0,hk0⟩ : ∃k0,cmpI (lastN KQ (i + 1)) 0 = k0:=⟨_,rfl⟩
     rw [hk0] at hc ⊢
     have HSN2:=HSN.out
     rw [if_pos hz0] at HSN2
     have HN2:=Lib.hid HSN2
     have HZ0:=Lib.hid hz0
     have hll : (nzL (genV i fun j=>lastN KQ (j + 1))).length<=4:=by
      refine Nat.le_trans (List.length_filter_le _ _) ?_
      rw [genV_length]
      omega
     have HLL:=Lib.hid hll
     clear hk0 HSN2 hz0 hll
     obtain ⟨m1,m2,m3,m4⟩:=T9.two
     have T9lt:=T9.lt
     go_wp2_with (at_builtin; refine appJ rfl _ _ rfl w4.heap.size u10 (nzL (genV i fun j=>lastN KQ (j + 1))) rfl (hvo.below ((Below.refl _ _).alloc (Nat.le_refl _) _)) w9.heap.size 1 mn ma ml mc (lastN KQ (i + 1)) rfl (Blk.new _ _ _) (hmi9.ext (lx ((Below.refl _ _).alloc (Nat.le_refl _) _))) (by have:=HLL.out; omega) (by simp; omega) ?_; intro v' w' hown' hgr hxg hob)
     have hgr : World.grownBy (w9.alloc (.cells #[.bool mn,.slice ma ml mc] 45)) w' (Value.ownBlock u10):=hgr
     have hxg : LExt (w9.alloc (.cells #[.bool mn,.slice ma ml mc] 45)) w':=hxg
     have hob : v'.ownBlock = u10.ownBlock ∨ ∃g,v'.ownBlock = some g/\(w9.alloc (.cells #[.bool mn,.slice ma ml mc] 45)).heap.size<=g:=hob
     have hB9 : Below w.heap.size w w':=(hb.alloc hb.size _).grown hgr (by simp; omega) (fun g hg=>by have:=hvo.own g hg; omega)
     have hOg : Only u10.ownBlock.toList w9 w':=⟨((Below.refl 0 w9).alloc (Nat.zero_le _) _).grown hgr (Nat.zero_le _) (fun g _=>Nat.zero_le g),(lx ((Below.refl _ _).alloc (Nat.le_refl _) _)).trans hxg,fun k hk hn=>(hgr.block k (by simp; omega) (fun e=>hn (by rw [<-e]; simp))).trans (((Below.refl w9.heap.size w9).alloc (Nat.le_refl _) _).block k hk)⟩
     have hin : ∀k,k < w4.heap.size->k ∉ u10.ownBlock.toList:=fun k hk hm=>by
      have:=hvo.own k (Option.mem_toList.1 hm)
      omega
     have T8:=hOg.blk T8 (hin _ oM)
     have T9:=hOg.blk T9 (fun hm=>hown _ (Option.mem_toList.1 hm) rfl)
     have ho:=ho.onlyN hOg (fun b hb'=>by
      obtain ⟨j,hj,e⟩:=List.getElem_of_mem hb'
      exact hin b (by have:=hlts j b (by rw [List.getElem?_eq_getElem hj,e]); omega)) (fun g' hg'=>hin g' (by have:=hglt g' hg'; omega))
     have hmi9:=hmi9.ext hOg.lext
     have hown2 : ∀g,v'.ownBlock = some g->g ≠ w4.heap.size + 1:=fun g' hg'=>by
      rcases hob with e | ⟨g2,e1,e2⟩
      ·exact hown g' (e ▸ hg')
      ·rw [e1] at hg'
       injection hg' with hg'
       simp at e2
       omega
     clear hOg hgr hxg hob hin hvo hown m1 m2 m3 m4 hb
     go_roundw
     case rel=>exact ⟨i + 1,mn,ma,ml,mc,by simp,by omega,by omega,hB9,T8,T9,hmi9,ho,by rw [HN2.out]; exact hown',hown2⟩
     case measure=>simp [intOf]; omega
   clear hK1
   by_cases hin : i < n
   ·obtain ⟨b0,off,z,rfl,hb0,hz,hcell,hz1⟩:=hqv.cell (k:=i) (by rw [HLN.out]; exact hin)
    have hcell:=(hb.cell (p:=⟨b0,off + i,none⟩) hb0).trans hcell
    have HKI : Hid (KQ i = (z : Int) % 6):=Lib.hid (by rw [HKE.out]; unfold quot; rw [hz]; show ((z % 6 : Nat) : Int) = _; omega)
    clear hz
    go_wp2
    exact body _ HKI.out.symm (_,_,_,_,_,_,_)
   ·have HKI : Hid (KQ i = 1):=Lib.hid (by rw [HKE.out]; unfold quot; rw [List.getElem?_eq_none (by rw [HLN.out]; omega)])
    go_wp2
    exact body _ HKI.out.symm (_,_,_,_,_,_,_)
  ·have tail : ∀x : Value × Value × Value × Value × Value × Value,KP { tmps:=#[.agg #[.int .u8 pn,.int .u8 qn],.slice ao n cap,.slice so sn sc,.pointer (some ⟨w.heap.size,0,none⟩),undef,undef,.bool false,.bool true,.pointer (some ⟨w2.heap.size,0,none⟩),.pointer (some ⟨w4.heap.size + 1,0,none⟩),u10,.int .i64 i,u12,undef,.bool true,.pointer (some ⟨w.heap.size,0,none⟩),.int .u8 pn,.int .i64 pn,.int .i64 R,.pointer (some ⟨w.heap.size,1,none⟩),.int .u8 qn,.int .i64 qn,.int .i64 C,.agg #[.int .i64 R,.int .i64 C,.slice oo on oc],.agg #[.bool xn,.slice xa xl xc],.slice (some ⟨w4.heap.size,0,none⟩) 0 0,.int .i64 i,.pointer (some ⟨w2.heap.size,0,none⟩),.int .i64 R,x.1,x.2.1,x.2.2.1,x.2.2.2.1,x.2.2.2.2.1,x.2.2.2.2.2,.bool false,u36,u37,u38,u39,u40,u41,u42,u43,u44,u45,u46,u47,u48,u49,u50,u51,u52,u53,u54,u55,u56,u57,u58,u59,u60,u61,u62,u63,u64,u65,u66,undef,undef,undef,undef,undef,undef,undef,undef,undef,undef,undef,undef,undef,undef,undef,undef,undef],defers:=[] } wr:=by
    rintro ⟨x29,x30,x31,x32,x33,x34⟩
    dsimp only
    refine hKP _ _ ?_
    have hie : i = min R C:=by omega
    have hE : genM R C (madeP KQ i) = genM R C (madeD KQ):=genM_congr fun a ha b hb=>by
     unfold madeP madeD
     by_cases h1 : a = b
     ·rw [if_pos ⟨h1,by omega⟩,if_pos h1]
     ·rw [if_neg (fun h=>h1 h.1),if_neg h1]
    rw [hE] at ho
    obtain ⟨LL,hLL⟩ : ∃LL,nzL (genV i fun j=>lastN KQ (j + 1)) = LL:=⟨_,rfl⟩
    rw [hLL] at hvo
    have HLL : HidS (nzL (genV (min R C) fun j=>lastN KQ (j + 1)) = LL):=⟨by rw [<-hie]; exact hLL⟩
    obtain ⟨LM,hLM⟩ : ∃LM,genM R C (madeD KQ) = LM:=⟨_,rfl⟩
    rw [hLM] at ho
    have HLM:=Hk hLM
    have HMV : HidS (MatV wr (.agg #[.int .i64 R,.int .i64 C,.slice oo on oc]) R C LM):=⟨⟨_,rfl,ho.rows⟩⟩
    have HFT : HidS (Fits R C LM):=⟨by rw [<-hLM]; exact genM_fits _ _ _⟩
    have HLE : HidS (leM 625 R C (ent LM)):=⟨by
     rw [<-hLM]
     exact ent_leM fun a ha b _=>by
      unfold madeD
      split
      ·exact Nat.le_trans (lastN_le (fun j=>(HK.out j).2) (a + 1)) (Nat.le_trans (Nat.pow_le_pow_right oM (show a + 1<=4 by omega)) dE)
      ·simp⟩
    have HV:=Hk hvo.vec
    obtain ⟨mo,mk,rfl⟩:=hvo.shape
    clear hE hLL hLM ho hvo hlv T9 hown hie
    obtain ⟨f1,f2,f3,f4,f5,f6⟩:=T8.three
    go_wp2_with fail
    refine (changed_any _ _ R C 6 LM st 625 wr HMV.out HFT.out oM oM (hst.below hb) oM dE HLE.out).mono ?_
    rintro e w5 ⟨va,bs5,G,rfl,hmo,hb5,hch⟩
    have hmv:=hmo.mat
    obtain ⟨-,A5,rfl,hro⟩:=hmo
    obtain ⟨o5,n5,c5,rfl,-⟩:=id hro.rows
    have HCH:=Hk hch
    have HMC:=Hk hmv
    clear hmv hro hch f1 f2 f3 f4 f5 f6
    go_upto_region 15 with (fail)
    refine wp_world ?_
    intro W6 hW6
    obtain ⟨hB6,T13,hs6⟩:=world1 hW6
    clear hW6
    have hbb:=nx hb5 hB6
    have HV:=Hk (HV.out.below hbb)
    have HMV:=Hk (HMV.out.below hbb)
    have HMC:=Hk (HMC.out.1.below hB6)
    have HFC : HidS (Fits R C (genM R C G)):=⟨genM_fits _ _ _⟩
    have T8:=T8.below hbb
    have hB:=nx hb hbb
    have HLS : HidS (∀r F,Inv R C r (ent (genM R C G)) F->genV r (fun i=>F i i) = LL):=⟨fun r F hI=>by
     obtain ⟨r0,hD,e⟩:=made_inv (fun j=>(HK.out j).1) R C
     have h1:=HCH.out.to_
     have h2:=HCH.out.back
     rw [<-HLM.out] at h1 h2
     rw [<-HLL.out,<-e]
     exact hD.list_eq hI ((Fac.refl R C (madeD KQ)).toEnt.trans h1).toEnt (h2.trans (Fac.refl R C (madeD KQ)).ofEnt).ofEnt⟩
    have HLF : HidS (∀r F,Inv R C r (ent (genM R C G)) F->genM R C F = LM):=⟨fun r F hI=>by
     have h1:=HCH.out.to_
     have h2:=HCH.out.back
     rw [<-HLM.out] at h1 h2 ⊢
     exact made_form (fun j=>(HK.out j).1) hI ((Fac.refl R C (madeD KQ)).toEnt.trans h1).toEnt (h2.trans (Fac.refl R C (madeD KQ)).ofEnt).ofEnt⟩
    have HLE5 : HidS (leM 1048576 R C (ent (genM R C G))):=⟨ent_leM (HCH.out.le.mono dE)⟩
    have hlF:=lastsB_formP R C LM
    obtain ⟨f1,f2,f3,f4,f5,f6⟩:=T8.three
    obtain ⟨n1,n2,n3,n4,n5',n6⟩:=T13.three
    refine wp_region_each rfl (RV W6 _ [⟨0,70,fun _ v=>v = .agg #[.int .i64 R,.int .i64 C,.slice o5 n5 c5]⟩,⟨1,71,fun w v=>FormP w v R C LM⟩,⟨2,72,fun w v=>MatV w v R C LM⟩,⟨3,73,fun _ v=>v = .agg #[.int .i64 R,.int .i64 C,.slice oo on oc]⟩,⟨4,74,fun _ v=>v = .bool true⟩,⟨5,75,fun _ v=>v = .bool true⟩,⟨6,76,fun _ v=>v = .agg #[.int .i64 R,.int .i64 C,.slice o5 n5 c5]⟩,⟨7,77,fun w v=>VecV w v LL⟩,⟨8,78,fun _ v=>v = .slice mo LL.length mk⟩,⟨9,79,fun _ v=>v = .bool true⟩,⟨10,80,fun _ v=>v = .bool true⟩,⟨11,81,fun _ v=>v = .bool true⟩,⟨12,82,fun _ v=>v = .bool true⟩,⟨13,83,fun _ v=>v = .bool true⟩,⟨14,6,fun _ v=>v = .bool true⟩]) kR RV.start ?fin3 ?steps3
    case steps3=>
     refine ⟨?_,?_,?_,?_,?_,?_,?_,?_,?_,?_,?_,?_,?_,?_,?_,trivial⟩ <;> (intro L T wS hL hd hcl hI K hK; try refine sW rfl ?_)
     ·have zt : T[13]? = some (.pointer (some ⟨w5.heap.size,0,none⟩)):=hI.keep 13 sI
      have cc0:=hI.cell n1
      have cc1:=hI.cell n2
      have cc2:=hI.cell n3
      go_simp
      exact hK _ _ (hI.y mm0 rfl)
     ·obtain ⟨_,zt0,rfl⟩:=hI.v mm0 (hd 0)
      go_simp
      refine (formF _ _ R C LM _ (HMC.out.below hI.bel) HFC.out hR4 hC4 HLE5.out HLF.out).mono ?_
      rintro e wa ⟨v,rfl,hv,hba⟩
      exact hK _ _ ((hI.world hba).y mm1 hv)
     ·obtain ⟨_,zt1,s,u,vv,x,y,rfl,hm⟩:=hI.v mm1 (hd 1)
      go_simp
      exact hK _ _ (hI.y mm2 hm)
     ·have zt : T[8]? = some (.pointer (some ⟨w2.heap.size,0,none⟩)):=hI.keep 8 sI
      have cc0:=hI.cell f1
      have cc1:=hI.cell f2
      have cc2:=hI.cell f3
      go_simp
      exact hK _ _ (hI.y mm3 rfl)
     ·obtain ⟨v2,zt2,h2⟩:=hI.v mm2 (hd 2)
      obtain ⟨_,zt3,rfl⟩:=hI.v mm3 (hd 3)
      go_simp
      refine (sameT _ _ R C LM _ h2 (HMV.out.below hI.bel)).mono ?_
      rintro e wa ⟨v,rfl,hv,hba⟩
      exact hK _ _ ((hI.world hba).y mm4 hv)
     ·obtain ⟨_,zt4,rfl⟩:=hI.v mm4 (hd 4)
      go_simp
      exact hK _ _ (hI.y mm5 rfl)
     ·obtain ⟨_,zg,rfl⟩:=hI.v mm5 (hd 5)
      refine sW (by simp [Region.wanted,yielded,zg]) ?_
      have zt : T[13]? = some (.pointer (some ⟨w5.heap.size,0,none⟩)):=hI.keep 13 sI
      have cc0:=hI.cell n1
      have cc1:=hI.cell n2
      have cc2:=hI.cell n3
      go_simp
      exact hK _ _ (hI.y mm6 rfl)
     ·obtain ⟨_,zg,rfl⟩:=hI.v mm5 (hd 5)
      refine sW (by simp [Region.wanted,yielded,zg]) ?_
      obtain ⟨_,zt6,rfl⟩:=hI.v mm6 (hd 6)
      go_simp
      refine (invL _ _ R C LL _ (HMC.out.below hI.bel) HFC.out hR4 hC4 HLE5.out HLS.out).mono ?_
      rintro e wa ⟨v,rfl,hv,hba⟩
      exact hK _ _ ((hI.world hba).y mm7 hv)
     ·obtain ⟨_,zg,rfl⟩:=hI.v mm5 (hd 5)
      refine sW (by simp [Region.wanted,yielded,zg]) ?_
      have zt : T[10]? = some (.slice mo LL.length mk):=hI.keep 10 sI
      go_simp
      exact hK _ _ (hI.y mm8 rfl)
     ·obtain ⟨_,zg,rfl⟩:=hI.v mm5 (hd 5)
      refine sW (by simp [Region.wanted,yielded,zg]) ?_
      obtain ⟨v7,zt7,h7⟩:=hI.v mm7 (hd 7)
      obtain ⟨_,zt8,rfl⟩:=hI.v mm8 (hd 8)
      go_simp
      refine (r13sameB _ _ LL _ h7 (HV.out.below hI.bel)).mono ?_
      rintro e wa ⟨v,rfl,hv,hba⟩
      exact hK _ _ ((hI.world hba).y mm9 hv)
     ·obtain ⟨_,zt5,rfl⟩:=hI.v mm5 (hd 5)
      obtain ⟨_,zt9,rfl⟩:=hI.v mm9 (hd 9)
      go_simp
      exact hK _ _ (hI.y mm10 rfl)
     ·obtain ⟨_,zt10,rfl⟩:=hI.v mm10 (hd 10)
      go_simp
      exact hK _ _ (hI.y mm11 rfl)
     ·obtain ⟨_,zg,rfl⟩:=hI.v mm11 (hd 11)
      refine sW (by simp [Region.wanted,yielded,zg]) ?_
      have zt : T[7]? = some (.bool true):=hI.keep 7 sI
      go_simp
      exact hK _ _ (hI.y mm12 rfl)
     ·obtain ⟨_,zt11,rfl⟩:=hI.v mm11 (hd 11)
      obtain ⟨_,zt12,rfl⟩:=hI.v mm12 (hd 12)
      go_simp
      exact hK _ _ (hI.y mm13 rfl)
     ·obtain ⟨_,zt13,rfl⟩:=hI.v mm13 (hd 13)
      go_simp
      exact hK _ _ (hI.y mm14 rfl)
    intro T w9 hI
    obtain ⟨vz0,q0,rfl⟩:=hI.v mm0 rfl
    obtain ⟨vz1,q1,hz1⟩:=hI.v mm1 rfl
    obtain ⟨vz2,q2,hz2⟩:=hI.v mm2 rfl
    obtain ⟨vz3,q3,rfl⟩:=hI.v mm3 rfl
    obtain ⟨vz4,q4,rfl⟩:=hI.v mm4 rfl
    obtain ⟨vz5,q5,rfl⟩:=hI.v mm5 rfl
    obtain ⟨vz6,q6,rfl⟩:=hI.v mm6 rfl
    obtain ⟨vz7,q7,hz7⟩:=hI.v mm7 rfl
    obtain ⟨vz8,q8,rfl⟩:=hI.v mm8 rfl
    obtain ⟨vz9,q9,rfl⟩:=hI.v mm9 rfl
    obtain ⟨vz10,q10,rfl⟩:=hI.v mm10 rfl
    obtain ⟨vz11,q11,rfl⟩:=hI.v mm11 rfl
    obtain ⟨vz12,q12,rfl⟩:=hI.v mm12 rfl
    obtain ⟨vz13,q13,rfl⟩:=hI.v mm13 rfl
    obtain ⟨vz14,q14,rfl⟩:=hI.v mm14 rfl
    have hT:=tmps_set [(70,.agg #[.int .i64 R,.int .i64 C,.slice o5 n5 c5]),(71,vz1),(72,vz2),(73,.agg #[.int .i64 R,.int .i64 C,.slice oo on oc]),(74,.bool true),(75,.bool true),(76,.agg #[.int .i64 R,.int .i64 C,.slice o5 n5 c5]),(77,vz7),(78,.slice mo LL.length mk),(79,.bool true),(80,.bool true),(81,.bool true),(82,.bool true),(83,.bool true),(6,.bool true)]
     (fun j hj=>hI.keep j (by simp only [List.forall_mem_cons] at hj ⊢; simp [hj]))
     (by simp only [List.forall_mem_cons]; simp [q0,q1,q2,q3,q4,q5,q6,q7,q8,q9,q10,q11,q12,q13,q14]) hI.size
    have hbw9:=hI.bel
    clear hI
    simp only [List.foldl_cons,List.foldl_nil,List.setIfInBounds_toArray,List.set_cons_zero,List.set_cons_succ,ptr] at hT
    subst hT
    clear q0 q1 q2 q3 q4 q5 q6 q7 q8 q9 q10 q11 q12 q13 q14
    have hBF:=nx hB hbw9
    go_wp2
    go_ret
    exact ⟨rfl,hBF⟩
   clear hKP
   obtain ⟨f1,f2,f3,f4,f5,f6⟩:=T8.three
   by_cases hir : i < R
   ·have hic : ¬ i < C:=fun h=>hgo ⟨hir,h⟩
    go_wp2
    exact tail (_,_,_,_,_,_)
   ·go_wp2
    exact tail (_,_,_,_,_,_)
end Go.Proofs.YtnocgagoaldfnaaGreat

namespace Go.Proofs.YtnocgagoaldfnaaGreat
open Go.ChangeShapes Go.WideShapes Go.ChangeAt Go.RowKit
set_option maxRecDepth 100000 in
theorem open_step {H : Type} {enc : TypeId × Value->H} {w : World} {f : Nat} {cs : List Value} {y : DataW H × List MemPlace} (hf : DataW.trod enc Tryz.prog w 0 (fun _=>true) true f 105 cs = some y) :
  ∃p q r : Nat,∃z : Int,cs = [.int .u8 p,.int .u8 q,.int .u8 r,.int .i8 z]/\p<=255/\q<=255/\r<=255/\-128<=z/\z<=127:=by
 obtain ⟨xs,m,h0,h1,h2,h3,h4⟩:=DataW.trod_struct Tryz.underlying105 hf
 have c105 : Tryz.prog.cellsOf 105 = 4:=by kernel_rfl
 have c41 : Tryz.prog.cellsOf 41 = 1:=by kernel_rfl
 have g0 : DataW.trod enc Tryz.prog w 0 (fun _=>true) true m 5 (List.take (Tryz.prog.cellsOf 5) (List.drop 0 cs)) = xs[0]?:=h4 0 _ rfl
 have g1 : DataW.trod enc Tryz.prog w 0 (fun _=>true) true m 5 (List.take (Tryz.prog.cellsOf 5) (List.drop 1 cs)) = xs[1]?:=h4 1 _ rfl
 have g2 : DataW.trod enc Tryz.prog w 0 (fun _=>true) true m 5 (List.take (Tryz.prog.cellsOf 5) (List.drop 2 cs)) = xs[2]?:=h4 2 _ rfl
 have g3 : DataW.trod enc Tryz.prog w 0 (fun _=>true) true m 41 (List.take (Tryz.prog.cellsOf 41) (List.drop 3 cs)) = xs[3]?:=h4 3 _ rfl
 rw [c105] at h2
 rw [cells5] at g0 g1 g2
 rw [c41] at g3
 match xs,h3 with
 | [y0,y1,y2,y3],_=>
  match cs,h2 with
  | [k0,k1,k2,k3],_=>
   simp at g0 g1 g2 g3
   obtain ⟨a,ha,-,wa⟩:=DataW.trod_int Tryz.underlying5 g0
   obtain ⟨b,hb,-,wb⟩:=DataW.trod_int Tryz.underlying5 g1
   obtain ⟨c,hc,-,wc⟩:=DataW.trod_int Tryz.underlying5 g2
   obtain ⟨d,hd,-,wd⟩:=DataW.trod_int Tryz.underlying41 g3
   simp at ha hb hc hd
   subst ha
   subst hb
   subst hc
   subst hd
   have wa:=bounds_u8 wa
   have wb:=bounds_u8 wb
   have wc:=bounds_u8 wc
   have wd:=bounds_i8 wd
   exact ⟨a.toNat,b.toNat,c.toNat,d,by rw [Int.toNat_of_nonneg wa.1,Int.toNat_of_nonneg wb.1,Int.toNat_of_nonneg wc.1],by omega,by omega,by omega,wd.1,wd.2⟩
set_option maxRecDepth 100000 in
theorem open_steps {H : Type} {enc : TypeId × Value->H} {w : World} {b0 : Nat} {r : Reach} {v : Value} {d : DataW H} {ps : List MemPlace} (hval : Value.okWide Tryz.prog w r b0 55 v)
  (h : DataW.Trod enc Tryz.prog w 0 (fun _=>true) true 55 v d ps) (hlt : ∀x ∈ ps,x.block < w.heap.size) : ∃ls,StV w v ls:=by
 obtain ⟨a0,len,cap,rfl⟩:=okWide_slice Tryz.underlying55 hval
 obtain ⟨fuel,hf⟩:=h
 have c105 : Tryz.prog.cellsOf 105 = 4:=by kernel_rfl
 rcases DataW.trod_slice Tryz.underlying55 hf with ⟨e1,-⟩ | ⟨a,len',cap',elems,rest,n,-,e1,e2,-,hl,hm,hlen,hel,-,-⟩
 ·simp [Value.cells] at e1
  obtain ⟨rfl,rfl,rfl⟩:=e1
  exact ⟨[],none,0,0,rfl,rfl,Nat.le_refl _,by omega,fun z hz=>(by cases hz),fun h=>absurd rfl h⟩
 ·simp [Value.cells] at e1
  obtain ⟨rfl,rfl,rfl⟩:=e1
  unfold maxLen at hm
  rw [c105] at hel e2
  have each : ∀i,i < len->∃s : Nat × Nat × Nat × Int,(s.1<=255/\s.2.1<=255/\s.2.2.1<=255/\-128<=s.2.2.2/\s.2.2.2<=127)/\w.cell? ((a.add (i * 4)).add 0) = some (.int .u8 s.1)/\w.cell? ((a.add (i * 4)).add 1) = some (.int .u8 s.2.1)/\w.cell? ((a.add (i * 4)).add 2) = some (.int .u8 s.2.2.1)/\w.cell? ((a.add (i * 4)).add 3) = some (.int .i8 s.2.2.2):=by
   intro i hi
   have h1:=hel i hi
   rw [List.getElem?_eq_getElem oM,Option.bind_eq_some_iff] at h1
   obtain ⟨cs,hcs,hy⟩:=h1
   obtain ⟨p,q,r,z,rfl,g1,g2,g3,g4,g5⟩:=open_step hy
   unfold World.cells? at hcs
   rw [if_pos (Nat.zero_le _)] at hcs
   refine ⟨(p,q,r,z),⟨g1,g2,g3,g4,g5⟩,?_,?_,?_,?_⟩
   ·simpa using mapM_some_get hcs 0 0 sI
   ·simpa using mapM_some_get hcs 1 1 sI
   ·simpa using mapM_some_get hcs 2 2 sI
   ·simpa using mapM_some_get hcs 3 3 sI
  obtain ⟨f,hf'⟩ : ∃f : Nat->Nat × Nat × Nat × Int,∀i,i < len->((f i).1<=255/\(f i).2.1<=255/\(f i).2.2.1<=255/\-128<=(f i).2.2.2/\(f i).2.2.2<=127)/\w.cell? ((a.add (i * 4)).add 0) = some (.int .u8 (f i).1)/\w.cell? ((a.add (i * 4)).add 1) = some (.int .u8 (f i).2.1)/\w.cell? ((a.add (i * 4)).add 2) = some (.int .u8 (f i).2.2.1)/\w.cell? ((a.add (i * 4)).add 3) = some (.int .i8 (f i).2.2.2):=by
   refine ⟨fun i=>if h : i < len then (each i h).choose else (0,0,0,0),fun i hi=>?_⟩
   simp only [dif_pos hi]
   exact (each i hi).choose_spec
  refine ⟨(List.range len).map f,some a,len,cap,rfl,by simp,hl,by omega,fun s hs=>?_,fun hne=>?_⟩
  ·obtain ⟨i,hi,rfl⟩:=List.mem_map.1 hs
   exact (hf' i (List.mem_range.1 hi)).1
  ·have hpos : 0 < len:=by
    rcases Nat.eq_zero_or_pos len with h0 | h0
    ·rw [h0] at hne; exact absurd rfl hne
    ·exact h0
   obtain ⟨b,off,spot⟩:=a
   have hspot : spot = none:=by simpa [Addr.add] using World.cell?_spot (hf' 0 hpos).2.1
   subst hspot
   refine ⟨b,off,rfl,?_,fun k s hk=>?_⟩
   ·refine hlt (.cell b off) ?_
    simp only [Prod.mk.injEq] at e2
    rw [e2.2]
    exact List.mem_append_left _ (MemPlace.mem_row.2 ⟨0,by omega,rfl⟩)
   ·obtain ⟨h1,h2⟩:=List.getElem?_eq_some_iff.1 hk
    simp at h1 h2
    subst h2
    obtain ⟨-,g1,g2,g3,g4⟩:=hf' k h1
    rw [Go.WideShapes.add_plain,Go.WideShapes.add_plain] at g1 g2 g3 g4
    exact ⟨g1,g2,g3,g4⟩
set_option maxRecDepth 100000 in
theorem open_u8 {H : Type} {enc : TypeId × Value->H} {w : World} {b0 : Nat} {r : Reach} {v : Value} {d : DataW H} {ps : List MemPlace} (hval : Value.okWide Tryz.prog w r b0 58 v)
  (h : DataW.Trod enc Tryz.prog w 0 (fun _=>true) true 58 v d ps) (hlt : ∀x ∈ ps,x.block < w.heap.size) : ∃ls,U8V w v ls:=by
 obtain ⟨a0,len0,cap0,rfl⟩:=okWide_slice Tryz.underlying58 hval
 obtain ⟨fuel,hf⟩:=h
 rcases open_ints Tryz.underlying58 Tryz.underlying5 kR hf with ⟨e1,-⟩ | ⟨a,len,cap,zs,e1,-,hl,hm,hzl,e2,hcell,hwf⟩
 ·simp [Value.cells] at e1
  obtain ⟨rfl,rfl,rfl⟩:=e1
  exact ⟨[],none,0,0,rfl,rfl,Nat.le_refl _,by omega,fun z hz=>(by cases hz),fun h=>absurd rfl h⟩
 ·simp only [if_true] at hzl
  unfold maxLen at hm
  simp [Value.cells] at e1
  obtain ⟨rfl,rfl,rfl⟩:=e1
  refine ⟨(zs.take len0).map Int.toNat,some a,len0,cap0,rfl,by simp; omega,hl,by omega,fun z hz=>?_,fun h=>?_⟩
  ·obtain ⟨x,hx,rfl⟩:=List.mem_map.1 hz
   have:=bounds_u8 (hwf x (List.mem_of_mem_take hx))
   omega
  ·have hpos : 0 < zs.length:=by
    rcases Nat.eq_zero_or_pos zs.length with h0 | h0
    ·exact absurd (by rw [List.eq_nil_of_length_eq_zero h0]; simp) h
    ·exact h0
   obtain ⟨b,off,rfl,hj⟩:=ints_at hcell hpos
   refine ⟨b,off,rfl,?_,fun k z hk=>?_⟩
   ·exact hlt (.cell b off) (by
     have e2' : ps = _:=(Prod.mk.inj e2).2
     rw [e2']; exact MemPlace.mem_row.2 ⟨0,hpos,rfl⟩)
   ·rw [List.getElem?_map] at hk
    obtain ⟨x,hx,rfl⟩:=Option.map_eq_some_iff.1 hk
    obtain ⟨h1,h2⟩:=List.getElem?_eq_some_iff.1 hx
    rw [List.getElem_take] at h2
    have hkz : k < zs.length:=by
     simp at h1
     omega
    have hb:=bounds_u8 (hwf _ (List.getElem_mem hkz))
    rw [hj k hkz,<-h2,Int.toNat_of_nonneg hb.1]
    simp [hkz]
set_option maxRecDepth 100000 in
theorem smithMade_lifted (os : Os) (started : os.Started) (H : Type) (enc : TypeId × Value->H) :
  ReturnsInHanded {} Tryz.checked os 8 .any (Rows.smithMadeSpec.pre6 enc Tryz.prog Tryz.f8 Rows.smithMadeRow.domain false) (Rows.smithMadeSpec.post enc Tryz.prog Tryz.f8 false true false false):=by
 refine returnsInHanded_of_change (C:=Tryz.checked) Tryz.own started kR Tryz.func8
  (ChangeSpec.witness6 (enc:=enc) (C:=Tryz.checked) false ⟨#[],#[.agg #[.int .u8 0,.int .u8 0],.slice none 0 0,.slice none 0 0],[]⟩ 8 kR kR kR kR) ?_
 intro W base args ds gs before hval0 hW hcnd _
 have hval : ∀(j : Nat) t v,Tryz.f8.params[j]? = some t->args[j]? = some v->Value.okWide Tryz.prog W .any base t v:=hval0
 have hW':=hW
 obtain ⟨p,q,hA0,hV,rfl,hfz,hnd⟩:=hW
 have hA : DataW.TrodAll enc Tryz.prog W 0 (fun _=>true) true Tryz.f8.params.toList args.toList ds p:=hA0
 rw [Tryz.params8] at hA hval
 obtain ⟨v0,v1,v2,d0,d1,d2,p0,p1,p2,rfl,rfl,rfl,h0,h1,h2⟩:=trodAll_three hA
 obtain ⟨rfl,rfl⟩:=trodVars_none hV
 clear hA0 hval0
 simp only [List.append_nil] at hW'
 have hlt0 : ∀x ∈ p0,x.block < W.heap.size:=fun x hx=>hW'.lt x (by simp [hx])
 have hlt1 : ∀x ∈ p1,x.block < W.heap.size:=fun x hx=>hW'.lt x (by simp [hx])
 have hlt2 : ∀x ∈ p2,x.block < W.heap.size:=fun x hx=>hW'.lt x (by simp [hx])
 obtain ⟨a,b,rfl,ha,hb⟩:=open_pair (hval 0 40 v0 rfl rfl) h0
 obtain ⟨ls,hq⟩:=open_u8 (hval 1 58 v1 rfl rfl) h1 hlt1
 obtain ⟨st,hS⟩:=open_steps (hval 2 55 v2 rfl rfl) h2 hlt2
 refine (smithMade_any v1 v2 a b ls st W ha hb hq hS).mono fun e W' ⟨he,hB⟩=>?_
 subst he
 refine ⟨_,rfl,_,_,_,[],p0 ++ p1 ++ p2,[],hW',?_,?_,rfl,hB.frame _,fun h=>by cases h⟩
 ·exact trodAll_mk1 (shut_bool Tryz.underlying4 true)
 ·rw [List.append_assoc]
  exact trodAll_mk3 (Below.trod Tryz.laidOut kR (of_decide_eq_true kR) h0 hB hlt0) (Below.trod Tryz.laidOut kR (of_decide_eq_true kR) h1 hB hlt1) (Below.trod Tryz.laidOut kR (of_decide_eq_true kR) h2 hB hlt2)
theorem smithMade_holds : Rows.SmithMadeSaid:=
 OpenClaim.holds_of_wide 8 Tryz.f8 rfl rfl rfl rfl rfl rfl rfl ⟨rfl,rfl,rfl,rfl,rfl⟩ rfl rfl rfl rfl rfl kR Tryz.func8 kR
  (of_decide_eq_true kR) (by unfold Func.isWrapper; first | (rw [if_pos (by decide +kernel)]; kernel_rfl) | (rw [if_neg (by decide +kernel)]; exact ⟨rfl,rfl⟩))
  (fun os started H enc _=>smithMade_lifted os started H enc)
end Go.Proofs.YtnocgagoaldfnaaGreat
