/- matrix.combine to rows; matrix.valid, sizes, slices.Equal. matrix.valid, sizes; slices.Equal. slices.Equal on sizes; matrix.each, matrix.Scale. -/
import Derived.ChangeKeysEq
import Derived.Laws.StructEq
import Derived.Test.YtnocgagoaldfnaaGreatD38
set_option linter.unusedVariables false
set_option linter.unusedSimpArgs false
set_option linter.unusedSectionVars false
namespace Go.Proofs.YtnocgagoaldfnaaGreat
open Go.RowKit
theorem RowsO.ofPart {w : World} {base g n C : Nat} {bs : List Nat} {M : List (List Int)} (hb : Blk w g tR (partRows n C bs)) (hl : bs.length = n) (hnd : bs.Nodup) (hr : ∀(t b : Nat),bs[t]? = some b->base<=b/\∃r : List Int,M[t]? = some r/\r.length = C/\RowAt w b r)
  (hM : M.length = n) (hg : base<=g) (hC : C<=1000000) (hn : n<=1000000) : RowsO w base (.slice (some ⟨g,0,none⟩) n n) C bs M:=by
 have hpr : (partRows n C bs).toList = rowPtrs C bs:=by simp [partRows,hl]
 refine ⟨⟨by simp [rowPtrs],.inr ⟨g,n,partRows n C bs,by rw [hl],hg,hb,by omega,by simp [maxLen]; omega,by rw [partRows_size oM]; omega,?_⟩⟩,by rw [hM,hl],?_,hnd,by omega⟩
 ·rw [hpr,hl,Nat.mul_one,List.take_of_length_le (by simp [rowPtrs,hl])]
 ·intro t b r ht hr'
  obtain ⟨h1,r2,h2,h3,h4⟩:=hr t b ht
  rw [h2] at hr'
  injection hr' with hr'
  subst hr'
  exact ⟨h1,h3,h4⟩
set_option maxHeartbeats 4000000 in
set_option maxRecDepth 20000 in
theorem combR_any (A : Value) (M : List (List Int)) (R C : Nat) (k : Int) (fb kb : Nat) (x y : Value) (w : World) (h : RowsV w A M) (hF : Fits R C M) (hR : R<=1000000) (hC : C<=1000000)
  (hf : Blk w fb tF #[.func (.func 88) #[] #[.pointer (some ⟨kb,0,none⟩)]]) (hk : Blk w kb tI #[x,y]) (hkv : IntV w (.agg #[x,y]) k) (hS : ∀r ∈ M,∀z ∈ r,Sm z) (s2 : Sm k) :
  Calls Tryz.prog 114 #[A,A,.func (.func 115) #[] #[.pointer (some ⟨fb,0,none⟩)]] w fun e w'=>
   e = .returned (.slice (some ⟨w.heap.size,0,none⟩) R R)/\(∃bs,bs.length = R/\RowsO w' w.heap.size (.slice (some ⟨w.heap.size,0,none⟩) R R) C bs (genM R C (fun i j=>k * ent M i j)))/\Below w.heap.size w w':=by
 obtain ⟨ao,n,cap,rfl,e1,e3,e4,-⟩:=id h
 obtain rfl : R = n:=by rw [<-e1,hF.1]
 have hmk:=fun W=>mkR (R : Int) R rfl oM W
 have HF:=HidS.mk hF
 have HS:=HidS.mk hS
 have HK:=HidS.mk s2
 obtain ⟨G,hG⟩ : ∃G : Nat->Nat->Int,(fun i j=>k * ent M i j) = G:=⟨_,rfl⟩
 rw [hG]
 have HG : HidS (∀i j,G i j = k * ent M i j):=⟨fun i j=>by rw [<-hG]⟩
 clear hF hS s2 hG e1
 go_enter Tryz.func114,Tryz.ntmps114
 go_upto_region 2 with (fail)
 refine wp_world ?_
 intro W0 hW0
 obtain ⟨hB0,bA,hs0⟩:=world1 hW0
 rw [partRows_start R C] at bA
 clear hW0 hmk
 go_wp2
 go_loopw [14] (fun iv wr=>∃(i : Nat) (bs : List Nat),i<=R/\iv = .int .i64 i/\bs.length = i/\Below w.heap.size w wr/\Blk wr w.heap.size tR (partRows R C bs)/\HidS (bs.Nodup/\∀t b,bs[t]? = some b->w.heap.size < b/\RowAt wr b (genV C (G t)))) (fun iv _=>R - (intOf iv).toNat)
 case atStart=>exact ⟨0,[],by omega,rfl,rfl,hB0,bA,⟨⟨by simp,fun t b ht=>by simp at ht⟩⟩⟩
 case round=>
  obtain ⟨i,bs,hi,rfl,hbl,hb,bA,hH⟩:=hrel
  by_cases hlt : i < R
  ·obtain ⟨b1,ra,rn,rc,zs,rfl,hbl1,hz,p1,hv⟩:=(h.below hb).row (k:=i) (by rw [HF.out.1]; exact hlt)
   have hzl:=HF.out.2 zs (List.mem_of_getElem? hz)
   have hrow : HidS (genV C (fun j=>k * zs.getD j 0) = genV C (G i)):=⟨genV_congr fun j hj=>by rw [HG.out]; unfold ent; rw [getD_of hz]⟩
   have SZ : HidS (∀z ∈ zs,Sm z):=⟨HS.out _ (List.mem_of_getElem? hz)⟩
   have HZL:=HidS.mk hzl
   have hkr:=hk.below hb
   have hkvr:=hkv.ext (lx hb)
   have hfr:=hf.below hb
   have lA:=bA.lt
   have hlast:=lastsB_row wr.heap.size C (genV C (G i))
   have hsz:=hb.size
   clear hz hzl
   go_upto_region 5 with (fail)
   refine wp_region_headed 13 rfl (RV wr _ [⟨0,17,fun _ v=>v = .slice (some ⟨w.heap.size,0,none⟩) R R⟩,⟨1,18,fun _ v=>v = .int .i64 i⟩,⟨2,19,fun _ v=>v = .func (.func 115) #[] #[.pointer (some ⟨fb,0,none⟩)]⟩,⟨3,20,fun _ v=>v = .slice (some ⟨b1,0,none⟩) R cap⟩,⟨4,21,fun _ v=>v = .int .i64 i⟩,⟨5,22,fun _ v=>v = .pointer (some ⟨b1,i,none⟩)⟩,⟨6,23,fun _ v=>v = .slice ra rn rc⟩,⟨7,24,fun _ v=>v = .slice (some ⟨b1,0,none⟩) R cap⟩,⟨8,25,fun _ v=>v = .int .i64 i⟩,⟨9,26,fun _ v=>v = .pointer (some ⟨b1,i,none⟩)⟩,⟨10,27,fun _ v=>v = .slice ra rn rc⟩,⟨11,28,NewRow wr.heap.size C (genV C (G i))⟩,⟨12,29,fun _ v=>v = .pointer (some ⟨w.heap.size,i,none⟩)⟩]) kR RV.start ?fin1 ?steps1
   case steps1=>
    refine ⟨?_,?_,?_,?_,?_,?_,?_,?_,?_,?_,?_,?_,?_,trivial⟩ <;> (intro L T wS hL hd hcl hI K hK; try refine step_wanted rfl ?_)
    ·have zt : T[7]? = some (.slice (some ⟨w.heap.size,0,none⟩) R R):=hI.keep 7 sI
     go_simp
     exact hK _ _ (hI.y mm0 rfl)
    ·have zt : T[8]? = some (.int .i64 i):=hI.keep 8 sI
     go_simp
     exact hK _ _ (hI.y mm1 rfl)
    ·have zt : T[2]? = some (.func (.func 115) #[] #[.pointer (some ⟨fb,0,none⟩)]):=hI.keep 2 sI
     go_simp
     exact hK _ _ (hI.y mm2 rfl)
    ·have zt : T[0]? = some (.slice (some ⟨b1,0,none⟩) R cap):=hI.keep 0 sI
     go_simp
     exact hK _ _ (hI.y mm3 rfl)
    ·have zt : T[8]? = some (.int .i64 i):=hI.keep 8 sI
     go_simp
     exact hK _ _ (hI.y mm4 rfl)
    ·obtain ⟨_,zt3,rfl⟩:=hI.v mm3 (hd 3)
     obtain ⟨_,zt4,rfl⟩:=hI.v mm4 (hd 4)
     go_simp
     exact hK _ _ (hI.y mm5 rfl)
    ·obtain ⟨_,zt5,rfl⟩:=hI.v mm5 (hd 5)
     have cc0:=hI.cell p1
     go_simp
     exact hK _ _ (hI.y mm6 rfl)
    ·have zt : T[1]? = some (.slice (some ⟨b1,0,none⟩) R cap):=hI.keep 1 sI
     go_simp
     exact hK _ _ (hI.y mm7 rfl)
    ·have zt : T[8]? = some (.int .i64 i):=hI.keep 8 sI
     go_simp
     exact hK _ _ (hI.y mm8 rfl)
    ·obtain ⟨_,zt7,rfl⟩:=hI.v mm7 (hd 7)
     obtain ⟨_,zt8,rfl⟩:=hI.v mm8 (hd 8)
     go_simp
     exact hK _ _ (hI.y mm9 rfl)
    ·obtain ⟨_,zt9,rfl⟩:=hI.v mm9 (hd 9)
     have cc0:=hI.cell p1
     go_simp
     exact hK _ _ (hI.y mm10 rfl)
    ·obtain ⟨_,zt2,rfl⟩:=hI.v mm2 (hd 2)
     obtain ⟨_,zt6,rfl⟩:=hI.v mm6 (hd 6)
     obtain ⟨_,zt10,rfl⟩:=hI.v mm10 (hd 10)
     go_simp
     refine (each1_any _ _ zs zs k fb kb C x y _ (hv.below hI.bel) (hv.below hI.bel) HZL.out HZL.out hC (hfr.below hI.bel) (hkr.below hI.bel) (hkvr.ext (lx hI.bel)) SZ.out HK.out).mono ?_
     (rintro e wa ⟨v,rfl,⟨g,e1,e2,e3⟩,hba⟩; rw [hrow.out] at e3; have hv : NewRow wr.heap.size C (genV C (G i)) wa v:=⟨g,e1,Nat.le_trans hI.bel.size e2,e3⟩)
     exact hK _ _ ((hI.world hba).y mm11 hv)
    ·obtain ⟨_,zt0,rfl⟩:=hI.v mm0 (hd 0)
     obtain ⟨_,zt1,rfl⟩:=hI.v mm1 (hd 1)
     go_simp
     exact hK _ _ (hI.y mm12 rfl)
   intro T w9 hI
   obtain ⟨va0,q0,rfl⟩:=hI.v mm0 rfl
   obtain ⟨va1,q1,rfl⟩:=hI.v mm1 rfl
   obtain ⟨va2,q2,rfl⟩:=hI.v mm2 rfl
   obtain ⟨va3,q3,rfl⟩:=hI.v mm3 rfl
   obtain ⟨va4,q4,rfl⟩:=hI.v mm4 rfl
   obtain ⟨va5,q5,rfl⟩:=hI.v mm5 rfl
   obtain ⟨va6,q6,rfl⟩:=hI.v mm6 rfl
   obtain ⟨va7,q7,rfl⟩:=hI.v mm7 rfl
   obtain ⟨va8,q8,rfl⟩:=hI.v mm8 rfl
   obtain ⟨va9,q9,rfl⟩:=hI.v mm9 rfl
   obtain ⟨va10,q10,rfl⟩:=hI.v mm10 rfl
   obtain ⟨va11,q11,ha11⟩:=hI.v mm11 rfl
   obtain ⟨va12,q12,rfl⟩:=hI.v mm12 rfl
   have hT:=tmps_set [(17,.slice (some ⟨w.heap.size,0,none⟩) R R),(18,.int .i64 i),(19,.func (.func 115) #[] #[.pointer (some ⟨fb,0,none⟩)]),(20,.slice (some ⟨b1,0,none⟩) R cap),(21,.int .i64 i),(22,.pointer (some ⟨b1,i,none⟩)),(23,.slice ra rn rc),(24,.slice (some ⟨b1,0,none⟩) R cap),(25,.int .i64 i),(26,.pointer (some ⟨b1,i,none⟩)),(27,.slice ra rn rc),(28,va11),(29,.pointer (some ⟨w.heap.size,i,none⟩))]
    (fun j hj=>hI.keep j (by simp only [List.forall_mem_cons] at hj ⊢; simp [hj]))
    (by simp only [List.forall_mem_cons]; simp [q0,q1,q2,q3,q4,q5,q6,q7,q8,q9,q10,q11,q12]) hI.size
   have hbw9:=hI.bel
   clear hI
   simp only [List.foldl_cons,List.foldl_nil,List.setIfInBounds_toArray,List.set_cons_zero,List.set_cons_succ,ptr] at hT
   subst hT
   clear q0 q1 q2 q3 q4 q5 q6 q7 q8 q9 q10 q11 q12
   simp only [List.drop_succ_cons,List.drop_zero]
   obtain ⟨g,rfl,hg1,hg2⟩ : NewRow wr.heap.size C (genV C (G i)) w9 va11:=ha11
   have bA:=bA.below hbw9
   have f1:=bA.frozen i
   obtain ⟨u,f2⟩ : ∃u,w9.cell? ⟨w.heap.size,i,none⟩ = some u:=by
    rw [bA.cell i]
    exact ⟨_,Array.getElem?_eq_getElem (by rw [partRows_size oM]; exact hlt)⟩
   have hset:=bA.set_ i (.slice (some ⟨g,0,none⟩) C C)
   rw [<-hbl,partRows_set oM,hbl] at hset
   have hx1:=bA.lext dE i (.slice (some ⟨g,0,none⟩) C C)
   have HG2:=HidS.mk hg2
   have HH:=HidS.mk hH.out
   clear p1 hg2
   go_wp2
   go_roundw
   case rel=>
    refine ⟨i + 1,bs ++ [g],by omega,by simp,by simp [hbl],bset (nx hb hbw9) (Nat.le_refl _) _ _,hset,⟨⟨?_,?_⟩⟩⟩
    ·rw [List.nodup_append]
     refine ⟨HH.out.1,by simp,fun x hx y hy=>?_⟩
     simp at hy
     subst hy
     obtain ⟨t,ht,e⟩:=List.getElem_of_mem hx
     have:=(HH.out.2 t x (by rw [List.getElem?_eq_getElem ht,e])).2.lt
     omega
    ·intro t b ht
     by_cases e : t = i
     ·subst e
      rw [List.getElem?_append_right oM,hbl] at ht
      simp at ht
      subst ht
      exact ⟨by omega,HG2.out.old (setCell_old _ _ _ _ _ oM) hx1⟩
     ·have htl : t < bs.length:=by
       have h5:=(List.getElem?_eq_some_iff.1 ht).1
       simp at h5
       omega
      rw [List.getElem?_append_left htl] at ht
      obtain ⟨h6,h7⟩:=HH.out.2 t b ht
      exact ⟨h6,(h7.below hbw9).old (setCell_old _ _ _ _ _ oM) hx1⟩
   case measure=>simp [intOf]; omega
  ·obtain rfl : i = R:=by omega
   have HH:=HidS.mk hH.out
   go_wp2
   go_ret
   refine ⟨rfl,⟨bs,hbl,?_⟩,hb⟩
   exact RowsO.ofPart bA hbl HH.out.1 (fun t b ht=>by
    obtain ⟨h6,h7⟩:=HH.out.2 t b ht
    have hti : t < i:=by have:=(List.getElem?_eq_some_iff.1 ht).1; omega
    exact ⟨by omega,_,genM_row i C G hti,by simp,h7⟩) (by simp [genM]) (Nat.le_refl _) hC hR
abbrev tM : TypeId:=28
theorem Blk.six {w : World} {g : Nat} {t : TypeId} {c0 c1 c2 c3 c4 c5 : Value} (h : Blk w g t #[c0,c1,c2,c3,c4,c5]) :
  w.cell? ⟨g,0,none⟩ = some c0/\w.cell? ⟨g,1,none⟩ = some c1/\w.cell? ⟨g,2,none⟩ = some c2/\w.cell? ⟨g,3,none⟩ = some c3/\w.cell? ⟨g,4,none⟩ = some c4/\w.cell? ⟨g,5,none⟩ = some c5:=
 ⟨h.cell 0,h.cell 1,h.cell 2,h.cell 3,h.cell 4,h.cell 5⟩
set_option maxHeartbeats 4000000 in
set_option maxRecDepth 20000 in
theorem valid2_any (b : Nat) (c : Nat) (R1 C1 R2 C2 : Int) (A1 A2 : Value) (M1 M2 : List (List Int)) (w : World) (hb0 : Blk w b tM #[.int .i64 R1,.int .i64 C1,A1,.int .i64 R2,.int .i64 C2,A2]) (hc : 2<=c) (hc2 : c<=9223372036854775807)
  (h1 : MatV w (.agg #[.int .i64 R1,.int .i64 C1,A1]) R1 C1 M1) (h2 : MatV w (.agg #[.int .i64 R2,.int .i64 C2,A2]) R2 C2 M2) :
  Calls Tryz.prog 101 #[.slice (some ⟨b,0,none⟩) 2 c] w fun e w'=>e = .returned (.bool (decide (ValidM R1 C1 M1/\ValidM R2 C2 M2)))/\Below w.heap.size w w':=by
 obtain ⟨ans,hans⟩ : ∃ans : Bool,decide (ValidM R1 C1 M1/\ValidM R2 C2 M2) = ans:=⟨_,rfl⟩
 rw [hans]
 have HA:=HidS.mk hans
 obtain ⟨o1,n1,k1,rfl⟩ : ∃o n k,A1 = .slice o n k:=by
  obtain ⟨A,e,ao,n,cap,rfl,-⟩:=h1
  injection e with e
  simp only [Array.mk.injEq,List.cons.injEq] at e
  exact ⟨_,_,_,e.2.2.1⟩
 obtain ⟨o2,n2,k2,rfl⟩ : ∃o n k,A2 = .slice o n k:=by
  obtain ⟨A,e,ao,n,cap,rfl,-⟩:=h2
  injection e with e
  simp only [Array.mk.injEq,List.cons.injEq] at e
  exact ⟨_,_,_,e.2.2.1⟩
 clear hans
 go_enter Tryz.func101,Tryz.ntmps101
 go_wp2
 go_loopw [7] (fun iv wr=>∃k : Nat,k<=2/\iv = .int .i64 k/\Below w.heap.size w wr/\HidS ((0 < k->ValidM R1 C1 M1)/\(1 < k->ValidM R2 C2 M2))) (fun iv _=>2 - (intOf iv).toNat)
 case atStart=>exact ⟨0,by omega,rfl,Below.refl _ _,⟨⟨fun h=>by omega,fun h=>by omega⟩⟩⟩
 case round=>
  obtain ⟨k,hk,rfl,hb,hall⟩:=hrel
  obtain ⟨c1,c2,c3,c4,c5,c6⟩:=(hb0.below hb).six
  by_cases hk0 : k = 0
  ·subst hk0
   go_upto_region 4 with (fail)
   refine wp_world ?_
   intro W6 hW6
   obtain ⟨hB6,T7,hs6⟩:=world1 hW6
   obtain ⟨d1,d2,d3,d4,d5,d6⟩:=T7.three
   clear c1 c2 c3 c4 c5 c6 hW6
   go_wp2_with fail
   refine (mvalid_any _ R1 C1 M1 W6 ((h1.below hb).below hB6)).mono ?_
   rintro e w7 ⟨rfl,hb7⟩
   by_cases hv : ValidM R1 C1 M1
   ·rw [decide_eq_true hv]
    have HV:=HidS.mk hv
    clear hv d1 d2 d3 d4 d5 d6
    go_wp2
    go_roundw
    case rel=>exact ⟨1,by omega,by simp,nx (nx hb hB6) hb7,⟨⟨fun _=>HV.out,fun h=>by omega⟩⟩⟩
    case measure=>simp [intOf]
   ·rw [decide_eq_false hv]
    have HV:=HidS.mk hv
    clear hv d1 d2 d3 d4 d5 d6
    go_wp2
    go_ret
    refine ⟨?_,nx (nx hb hB6) hb7⟩
    have h3 : ans = false:=by rw [<-HA.out]; exact decide_eq_false (fun hh=>HV.out (by first | exact hh.1 | exact hh.2))
    rw [h3]
    rfl
  ·by_cases hk1 : k = 1
   ·subst hk1
    go_upto_region 4 with (fail)
    refine wp_world ?_
    intro W6 hW6
    obtain ⟨hB6,T7,hs6⟩:=world1 hW6
    obtain ⟨d1,d2,d3,d4,d5,d6⟩:=T7.three
    clear c1 c2 c3 c4 c5 c6 hW6
    go_wp2_with fail
    refine (mvalid_any _ R2 C2 M2 W6 ((h2.below hb).below hB6)).mono ?_
    rintro e w7 ⟨rfl,hb7⟩
    by_cases hv : ValidM R2 C2 M2
    ·rw [decide_eq_true hv]
     have HV:=HidS.mk hv
     clear hv d1 d2 d3 d4 d5 d6
     go_wp2
     go_roundw
     case rel=>exact ⟨2,by omega,by simp,nx (nx hb hB6) hb7,⟨⟨fun _=>hall.out.1 oM,fun _=>HV.out⟩⟩⟩
     case measure=>simp [intOf]
    ·rw [decide_eq_false hv]
     have HV:=HidS.mk hv
     clear hv d1 d2 d3 d4 d5 d6
     go_wp2
     go_ret
     refine ⟨?_,nx (nx hb hB6) hb7⟩
     have h3 : ans = false:=by rw [<-HA.out]; exact decide_eq_false (fun hh=>HV.out (by first | exact hh.1 | exact hh.2))
     rw [h3]
     rfl
   ·obtain rfl : k = 2:=by omega
    go_wp2
    go_ret
    refine ⟨?_,hb⟩
    have h3 : ans = true:=by rw [<-HA.out]; exact decide_eq_true ⟨hall.out.1 oM,hall.out.2 oM⟩
    rw [h3]
    rfl
abbrev tP : TypeId:=86
theorem Tryz.infoP : (Tryz.prog.info? tP).map (fun i=>(i.zero,i.size,i.bytes)) = some (some (.agg #[.int .i64 0,.int .i64 0]),2,16):=by kernel_rfl
set_option maxRecDepth 20000 in
theorem appP {w : World} {ops : Array Oper} {rest : List Oper} {o : Oper} {a : Act} {Q : Exit->Act->World->Prop} (hgd : o.guard = none) (s x : Operand)
  (ho : o.op = .call { callee:=.builtin .append,args:=#[s,x],argTypes:=#[121,121] })
  (base : Nat) (v : Value) (n : Nat) (xs : List Value) (hs : a.eval s = v) (hown : w.ownsRow base tP 2 v n xs) (b c : Nat) (z1 z2 : Int) (hx : a.eval x = .slice (some ⟨b,0,none⟩) 1 c)
  (hb : Blk w b tP #[.int .i64 z1,.int .i64 z2]) (hlen : n + 1<=1099511627776) (hbase : base<=w.heap.size)
  (h : ∀v' w',w'.ownsRow base tP 2 v' (n + 1) (xs ++ [.int .i64 z1,.int .i64 z2])->w.grownBy w' v.ownBlock->wpList Tryz.prog ops Q rest (a.put o.dst v') w') : wpList Tryz.prog ops Q (o :: rest) a w:=by
 obtain ⟨i0,hi,hz0,hz1,hz2⟩:=info_parts Tryz.infoP
 obtain ⟨c1,c2,-,-⟩:=hb.two
 refine wpList_append_own w hgd s x 121 ho base tP i0 _ 2 16 Tryz.underlying121 hi hz0 hz1 hz2 rfl oM v n xs hs hown ⟨b,0,none⟩ 1 c [.int .i64 z1,.int .i64 z2] hx rfl ?_ ?_ (by simp [maxLen]; omega) oM hbase ?_
 ·intro j u hj
  rw [Addr.add_lit]
  match j with
  | 0=>simp at hj; subst hj; exact c1
  | 1=>simp at hj; subst hj; exact c2
  | j + 2=>simp at hj
 ·intro u hu
  simp at hu
  rcases hu with rfl | rfl <;> rfl
 ·intro v' w' h1 h2 _
  exact h v' w' h1 h2
def SizesV (z1 z2 : Int) : World->Value->Prop:=fun w v=>∃g cap cs,v = .slice (some ⟨g,0,none⟩) 1 cap/\1<=cap/\cap<=9223372036854775807/\Blk w g tP cs/\cs[0]? = some (.int .i64 z1)/\cs[1]? = some (.int .i64 z2)
theorem lastsB_sizes (z1 z2 : Int) : LastsB (SizesV z1 z2):=fun _ _ _ e ⟨g,cap,cs,h1,h2,h3,h4,h5⟩=>⟨g,cap,cs,h1,h2,h3,h4.below e,h5⟩
set_option maxHeartbeats 4000000 in
set_option maxRecDepth 20000 in
theorem sizes_any (b c : Nat) (R C : Int) (A : Value) (w : World) (hb0 : Blk w b tM #[.int .i64 R,.int .i64 C,A]) (hA : ∃o n k,A = .slice o n k) (hc : 1<=c) (hc2 : c<=9223372036854775807) :
  Calls Tryz.prog 104 #[.slice (some ⟨b,0,none⟩) 1 c] w fun e w'=>∃v,e = .returned v/\SizesV R C w' v/\Below w.heap.size w w':=by
 obtain ⟨o1,n1,k1,rfl⟩:=hA
 go_enter Tryz.func104,Tryz.ntmps104
 go_wp2
 go_loopw [3,8] (fun u iv wr=>∃k : Nat,k<=1/\iv = .int .i64 k/\Below w.heap.size w wr/\wr.ownsRow w.heap.size tP 2 u k (if k = 0 then [] else [.int .i64 R,.int .i64 C])) (fun _ iv _=>1 - (intOf iv).toNat)
 case atStart=>exact ⟨0,by omega,rfl,Below.refl _ _,World.ownsRow_nil _ _ _ _⟩
 case round=>
  obtain ⟨k,hk,rfl,hb,hown⟩:=hrel
  by_cases hk0 : k = 0
  ·subst hk0
   rw [if_pos rfl] at hown
   obtain ⟨c1,c2,c3,c4,c5,c6⟩:=(hb0.below hb).three
   go_upto_region 5 with (fail)
   refine wp_world ?_
   intro W6 hW6
   obtain ⟨hB6,T7,hs6⟩:=world1 hW6
   obtain ⟨d1,d2,d3,d4,d5,d6⟩:=T7.three
   have hown6:=hown.kept (row:=none) ⟨hB6.os,hB6.tape,hB6.output,hB6.size,fun k hk _=>hB6.block k hk⟩ (by cases hv : u3.ownBlock <;> simp)
   have hbs:=(nx hb hB6).size
   clear c1 c2 c3 c4 c5 c6 hW6
   have hown7:=hown6.kept (row:=none) (w':=W6.alloc (.cells #[.int .i64 R,.int .i64 C] tP)) (by
    have hB7 : Below W6.heap.size W6 (W6.alloc (.cells #[.int .i64 R,.int .i64 C] tP)):=(Below.refl _ _).alloc (Nat.le_refl _) _
    exact ⟨hB7.os,hB7.tape,hB7.output,hB7.size,fun k hk _=>hB7.block k hk⟩) (by cases hv : u3.ownBlock <;> simp)
   go_wp2_with (at_builtin; refine appP rfl _ _ rfl w.heap.size u3 0 [] rfl hown7 W6.heap.size 1 R C rfl (Blk.new _ _ _) oM (by simp; omega) ?_; intro v' w' hown8 hgr)
   have hgr : World.grownBy (W6.alloc (.cells #[.int .i64 R,.int .i64 C] tP)) w' (Value.ownBlock u3):=hgr
   have hB9 : Below w.heap.size w w':=((nx hb hB6).alloc oM _).grown hgr (by simp; omega) (fun g hg=>by
    rcases hown.2 with ⟨rfl,-⟩ | ⟨g',cap,cur,rfl,h1,-⟩
    ·cases hg
    ·simp only [Value.ownBlock,Option.some.injEq] at hg
     omega)
   go_roundw
   case rel=>exact ⟨1,by omega,by simp,hB9,by rw [if_neg oM]; simpa using hown8⟩
   case measure=>simp [intOf]
  ·obtain rfl : k = 1:=by omega
   rw [if_neg oM] at hown
   go_wp2
   go_ret
   refine ⟨_,rfl,?_,hb⟩
   rcases hown.2 with ⟨-,h0⟩ | ⟨g,cap,cur,rfl,h1,h2,h3,h4,h5,h6⟩
   ·omega
   ·refine ⟨g,cap,cur,rfl,h3,h4,h2,?_,?_⟩
    ·have : (cur.toList.take 2)[0]? = some (.int .i64 R):=by rw [h6]; rfl
     rw [List.getElem?_take_of_lt oM] at this
     simpa using this
    ·have : (cur.toList.take 2)[1]? = some (.int .i64 C):=by rw [h6]; rfl
     rw [List.getElem?_take_of_lt oM] at this
     simpa using this
theorem Tryz.infoNt : (Tryz.prog.info? 3).map (fun i=>(i.zero,i.size,i.bytes)) = some (some (.int .i64 0),1,8):=by kernel_rfl
theorem Tryz.cellsN : Tryz.prog.cellsOf 3 = 1:=by kernel_rfl
theorem run_eq_pair (W : World) (a b c d : Int) : (Op.equalIn 10000 tP (.agg #[.int .i64 a,.int .i64 b]) (.agg #[.int .i64 c,.int .i64 d])).run Tryz.prog W = .ok (decide (a = c/\b = d)) W:=by
 obtain ⟨i0,hi,-,hz1,-⟩:=info_parts Tryz.infoNt
 have hp : ∀(xs : Array Value) (i : Nat) (v : Value),xs[i]? = some v->(part 3 xs i).run Tryz.prog W = .ok v W:=by
  intro xs i v h
  simp [part,isAgg,run_underlying Tryz.underlying3,h,go_sem]
 rw [run_equalIn_array W 9999 _ _ Tryz.underlying86 hi,Tryz.cellsN]
 have he : ∀x y : Int,(Op.equalIn 9999 3 (.int .i64 x) (.int .i64 y)).run Tryz.prog W = .ok (x == y) W:=fun x y=>run_equalIn_int W 9998 3 .i64 .i64 x y Tryz.underlying3
 have p0:=hp #[.int .i64 a,.int .i64 b] 0 _ rfl
 have p1:=hp #[.int .i64 a,.int .i64 b] 1 _ rfl
 have q0:=hp #[.int .i64 c,.int .i64 d] 0 _ rfl
 have q1:=hp #[.int .i64 c,.int .i64 d] 1 _ rfl
 have hr : List.range 2 = [0,1]:=rfl
 rw [hr]
 simp only [Op.eqItems,Sem.run_bind,Nat.zero_mul,Nat.one_mul,p0,p1,q0,q1,Result.andThen_ok,he]
 by_cases h1 : a = c
 ·by_cases h2 : b = d
  ·simp [h1,h2,go_sem]
  ·simp [h1,h2,go_sem]
 ·simp [h1,go_sem]
set_option maxHeartbeats 4000000 in
set_option maxRecDepth 20000 in
theorem sliceseq_any (v1 v2 : Value) (R1 C1 R2 C2 : Int) (w : World) (h1 : SizesV R1 C1 w v1) (h2 : SizesV R2 C2 w v2) :
  Calls Tryz.prog 103 #[v1,v2] w fun e w'=>e = .returned (.bool (decide (R1 = R2/\C1 = C2)))/\Below w.heap.size w w':=by
 obtain ⟨ans,hans⟩ : ∃ans : Bool,decide (R1 = R2/\C1 = C2) = ans:=⟨_,rfl⟩
 rw [hans]
 have HA:=HidS.mk hans
 obtain ⟨g1,cap1,cs1,rfl,k1,k2,b1,e1,e2⟩:=h1
 obtain ⟨g2,cap2,cs2,rfl,l1,l2,b2,f1,f2⟩:=h2
 have heq:=fun W=>run_eq_pair W R1 C1 R2 C2
 rw [hans] at heq
 clear hans
 go_enter Tryz.func103,Tryz.ntmps103
 go_wp2
 go_loopw [13] (fun iv wr=>∃k : Nat,k<=1/\iv = .int .i64 k/\Below w.heap.size w wr/\HidS (0 < k->R1 = R2/\C1 = C2)) (fun iv _=>1 - (intOf iv).toNat)
 case atStart=>exact ⟨0,by omega,rfl,Below.refl _ _,⟨fun h=>by omega⟩⟩
 case round=>
  obtain ⟨k,hk,rfl,hb,hall⟩:=hrel
  by_cases hk0 : k = 0
  ·subst hk0
   have p1:=((b1.below hb).cell 0).trans e1
   have p2:=((b1.below hb).cell 1).trans e2
   have q1:=((b2.below hb).cell 0).trans f1
   have q2:=((b2.below hb).cell 1).trans f2
   go_upto_region 6 with (fail)
   refine wp_region_each rfl (RV wr _ [⟨0,16,fun _ v=>v = .slice (some ⟨g1,0,none⟩) 1 cap1⟩,⟨1,17,fun _ v=>v = .int .i64 0⟩,⟨2,18,fun _ v=>v = .pointer (some ⟨g1,0,none⟩)⟩,⟨3,19,fun _ v=>v = .agg #[.int .i64 R1,.int .i64 C1]⟩,⟨4,20,fun _ v=>v = .slice (some ⟨g2,0,none⟩) 1 cap2⟩,⟨5,21,fun _ v=>v = .int .i64 0⟩,⟨6,22,fun _ v=>v = .pointer (some ⟨g2,0,none⟩)⟩,⟨7,23,fun _ v=>v = .agg #[.int .i64 R2,.int .i64 C2]⟩,⟨8,24,fun _ v=>v = .bool (!ans)⟩]) kR RV.start ?fin1 ?steps1
   case steps1=>
    refine ⟨?_,?_,?_,?_,?_,?_,?_,?_,?_,trivial⟩ <;> (intro L T wS hL hd hcl hI K hK; try refine step_wanted rfl ?_)
    ·have zt : T[0]? = some (.slice (some ⟨g1,0,none⟩) 1 cap1):=hI.keep 0 sI
     go_simp
     exact hK _ _ (hI.y mm0 rfl)
    ·have zt : T[5]? = some (.int .i64 0):=hI.keep 5 sI
     go_simp
     exact hK _ _ (hI.y mm1 rfl)
    ·obtain ⟨_,zt0,rfl⟩:=hI.v mm0 (hd 0)
     obtain ⟨_,zt1,rfl⟩:=hI.v mm1 (hd 1)
     go_simp
     exact hK _ _ (hI.y mm2 rfl)
    ·obtain ⟨_,zt2,rfl⟩:=hI.v mm2 (hd 2)
     have cc0:=hI.cell p1
     have cc1:=hI.cell p2
     go_simp
     exact hK _ _ (hI.y mm3 rfl)
    ·have zt : T[1]? = some (.slice (some ⟨g2,0,none⟩) 1 cap2):=hI.keep 1 sI
     go_simp
     exact hK _ _ (hI.y mm4 rfl)
    ·have zt : T[5]? = some (.int .i64 0):=hI.keep 5 sI
     go_simp
     exact hK _ _ (hI.y mm5 rfl)
    ·obtain ⟨_,zt4,rfl⟩:=hI.v mm4 (hd 4)
     obtain ⟨_,zt5,rfl⟩:=hI.v mm5 (hd 5)
     go_simp
     exact hK _ _ (hI.y mm6 rfl)
    ·obtain ⟨_,zt6,rfl⟩:=hI.v mm6 (hd 6)
     have cc0:=hI.cell q1
     have cc1:=hI.cell q2
     go_simp
     exact hK _ _ (hI.y mm7 rfl)
    ·obtain ⟨_,zt3,rfl⟩:=hI.v mm3 (hd 3)
     obtain ⟨_,zt7,rfl⟩:=hI.v mm7 (hd 7)
     go_simp
     exact hK _ _ (hI.y mm8 rfl)
   intro T w9 hI
   obtain ⟨va0,q0,rfl⟩:=hI.v mm0 rfl
   obtain ⟨va1,q1,rfl⟩:=hI.v mm1 rfl
   obtain ⟨va2,q2,rfl⟩:=hI.v mm2 rfl
   obtain ⟨va3,q3,rfl⟩:=hI.v mm3 rfl
   obtain ⟨va4,q4,rfl⟩:=hI.v mm4 rfl
   obtain ⟨va5,q5,rfl⟩:=hI.v mm5 rfl
   obtain ⟨va6,q6,rfl⟩:=hI.v mm6 rfl
   obtain ⟨va7,q7,rfl⟩:=hI.v mm7 rfl
   obtain ⟨va8,q8,rfl⟩:=hI.v mm8 rfl
   have hT:=tmps_set [(16,.slice (some ⟨g1,0,none⟩) 1 cap1),(17,.int .i64 0),(18,.pointer (some ⟨g1,0,none⟩)),(19,.agg #[.int .i64 R1,.int .i64 C1]),(20,.slice (some ⟨g2,0,none⟩) 1 cap2),(21,.int .i64 0),(22,.pointer (some ⟨g2,0,none⟩)),(23,.agg #[.int .i64 R2,.int .i64 C2]),(24,.bool (!ans))]
    (fun j hj=>hI.keep j (by simp only [List.forall_mem_cons] at hj ⊢; simp [hj]))
    (by simp only [List.forall_mem_cons]; simp [q0,q1,q2,q3,q4,q5,q6,q7,q8]) hI.size
   have hbw9:=hI.bel
   clear hI
   simp only [List.foldl_cons,List.foldl_nil,List.setIfInBounds_toArray,List.set_cons_zero,List.set_cons_succ,ptr] at hT
   subst hT
   clear q0 q1 q2 q3 q4 q5 q6 q7 q8
   cases ans with
   | true=>
    clear heq
    go_wp2
    go_roundw
    case rel=>exact ⟨1,by omega,by simp,nx hb hbw9,⟨fun _=>of_decide_eq_true HA.out⟩⟩
    case measure=>simp [intOf]
   | false=>
    clear heq
    go_wp2
    go_ret
    exact ⟨rfl,nx hb hbw9⟩
  ·obtain rfl : k = 1:=by omega
   go_wp2
   go_ret
   refine ⟨?_,hb⟩
   have h3 : ans = true:=by rw [<-HA.out]; exact decide_eq_true (hall.out oM)
   rw [h3]
   rfl
end Go.Proofs.YtnocgagoaldfnaaGreat
