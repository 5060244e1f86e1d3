/- smith: band.negate. -/
import Derived.Test.YtnocgagoaldfnaaGreatD22
set_option linter.unusedVariables false
set_option linter.unusedSimpArgs false
set_option linter.unusedSectionVars false
namespace Go.Proofs.YtnocgagoaldfnaaGreat
open Go.RowKit
theorem setRow_neg {R C : Nat} {F : Nat->Nat->Int} {i : Nat} (hi : i < R) : (genM R C F).set i (genV C (fun t=>-F i t)) = genM R C (negF F i):=by
 apply List.ext_getElem
 ·simp [genM]
 ·intro a h1 h2
  by_cases e : a = i
  ·subst e
   rw [List.getElem_set_self]
   simp [genM,genV,negF]
  ·have e3 : i ≠ a:=fun h=>e h.symm
   rw [List.getElem_set_ne e3]
   simp [genM,negF,e]
theorem Wri.negRow {w w' : World} {A : Value} {R C : Nat} {bs : List Nat} {F : Nat->Nat->Int} (h : Wri w A R C bs F) {i b : Nat} (hi : i < R) (hb : bs[i]? = some b) (ho : Only [b] w w') (hr : RowAt w' b (genV C (fun t=>-F i t))) : Wri w' A R C bs (negF F i):=by
 unfold Wri
 rw [<-setRow_neg hi]
 exact RowsO.setRow h hb ho hr (genV_length _ _)
theorem Wri.rowAt {w : World} {A : Value} {R C : Nat} {bs : List Nat} {F : Nat->Nat->Int} (h : Wri w A R C bs F) {i b : Nat} (hi : i < R) (hb : bs[i]? = some b) : RowAt w b (genV C (F i)):=by
 obtain ⟨b',e1,e2⟩:=RowsO.rowAt h hi
 obtain rfl : b' = b:=Option.some.inj (e1.symm.trans hb)
 exact e2
set_option maxHeartbeats 4000000 in
set_option maxRecDepth 20000 in
theorem negate_any (As At Ai : Value) (n Cs Ct i : Nat) (bss bst bsi : List Nat) (FS FT FI : Nat->Nat->Int) (w : World) (h : BandV w As At Ai n Cs Ct bss bst bsi FS FT FI) (hi : i < n) (hn : n<=1000000) (hCs : Cs<=1000000) (hCt : Ct<=1000000)
  (hS : ∀a,a < n->∀b,b < Cs->Sm (FS a b)) (hT : ∀a,a < n->∀b,b < Ct->Sm (FT a b)) (hI : ∀a,a < n->∀b,b < Ct->Sm (FI a b)) :
  Calls Tryz.prog 136 #[.agg #[As,At,Ai],.int .i64 i] w fun e w'=>(∃u,e = .returned u)/\OnlyZ (fun b=>b ∈ bss ∨ b ∈ bst ∨ b ∈ bsi) w w' ∧
   BandV w' As At Ai n Cs Ct bss bst bsi (negF FS i) (negF FT i) (negF FI i):=by
 obtain ⟨so,sn,sc,rfl,s1,s2,s3,-⟩:=id (RowsO.rows h.s)
 obtain ⟨uo,tn,tc,rfl,t1,t2,t3,-⟩:=id (RowsO.rows h.t)
 obtain ⟨io,in_,ic,rfl,i1,i2,i3,-⟩:=id (RowsO.rows h.i)
 have H0:=HidS.mk h
 have HS:=HidS.mk hS
 have HT:=HidS.mk hT
 have HI:=HidS.mk hI
 clear hS hT hI
 obtain ⟨hs,ht,hi_,fst_,fsi,fti,-,-,-⟩:=h
 have e1 : n = sn:=by rw [<-s1]; simp [genM]
 have e2 : n = tn:=by rw [<-t1]; simp [genM]
 have e3 : n = in_:=by rw [<-i1]; simp [genM]
 subst e1
 subst e2
 subst e3
 clear s1 t1 i1
 go_enter Tryz.func136,Tryz.ntmps136
 go_upto_region 1 with (fail)
 refine wp_world ?_
 intro W0 hW0
 obtain ⟨hB0,bx,hs0⟩:=world1 hW0
 obtain ⟨c1,c2,c3,c4,c5,c6⟩:=bx.three
 have hs:=hs.below hB0
 have ht:=ht.below hB0
 have hi_:=hi_.below hB0
 clear hW0
 go_wp2
 clear c1 c2 c3 c4 c5 c6
 go_loopw [15] (fun mv wr=>∃m : Nat,m<=3/\mv = .int .i64 m/\Below 0 w wr/\LExt w wr/\(∀b,b < w.heap.size->b ∉ bss->b ∉ bst->b ∉ bsi->wr.heap[b]? = w.heap[b]?) ∧
  Wri wr (.slice so n sc) n Cs bss (if m = 0 then FS else negF FS i)/\Wri wr (.slice uo n tc) n Ct bst (if m<=1 then FT else negF FT i)/\Wri wr (.slice io n ic) n Ct bsi (if m<=2 then FI else negF FI i)) (fun mv _=>3 - (intOf mv).toNat)
 case atStart=>exact ⟨0,by omega,rfl,hB0.mono (Nat.zero_le _),lx hB0,fun b hb _ _ _=>hB0.block b hb,hs,ht,hi_⟩
 case round=>
  obtain ⟨m,hm,rfl,hb0,hx0,hold,hs,ht,hi_⟩:=hrel
  have hsz:=hb0.size
  have HOLD:=HidS.mk hold
  clear hold
  by_cases hm0 : m = 0
  ·subst hm0
   rw [if_pos rfl] at hs
   rw [if_pos oM] at ht hi_
   obtain ⟨g,bi,rfl,hg,hbi,hbi2,o1,-⟩:=RowsO.at_ hs (i:=i) (by rw [hs.len]; exact hi)
   have hmi:=List.mem_of_getElem? hbi
   have hri:=hs.rowAt hi hbi
   have hix:=fun W=>run_index_rr 158 3 #[.slice (some ⟨g,0,none⟩) n sc,.slice uo n tc,.slice io n ic] 0 0 _ W Tryz.underlying158 rfl oM rfl
   have hst : ∀F : Nat->Int,genV Cs F = genV Cs (uptoV (fun t=>-F t) F 0):=fun F=>genV_congr fun t _=>by unfold uptoV; rw [if_neg oM]
   rw [hst] at hri
   clear hst
   go_wp2
   go_loopw [23] (fun jv wt=>∃j : Nat,j<=Cs/\jv = .int .i64 j/\Only [bi] wr wt/\(∃G,G = (fun t=>-FS i t)/\RowAt wt bi (genV Cs (uptoV G (FS i) j)))) (fun jv _=>Cs - (intOf jv).toNat)
   case atStart=>exact ⟨0,by omega,rfl,Only.refl _ _,_,rfl,hri⟩
   case round=>
    rename World=>wt
    obtain ⟨j,hj,rfl,hO,G,hG,hv⟩:=hrel
    have HG:=HidS.mk (congrFun hG)
    clear hG
    have hgb : g ≠ bi:=by
     rintro rfl
     obtain ⟨cur,q1,-⟩:=RowsO.gblk hs
     obtain ⟨cs,q2,-⟩:=hs.rowAt hi hbi
     have q1' : wr.heap[g]? = some (.cells cur tR (0,0)):=q1
     rw [q1'] at q2
     injection q2 with q2
     injection q2 with _ ht
     exact absurd ht dE
    have p1 : wt.cell? ⟨g,i,none⟩ = some (.slice (some ⟨bi,0,none⟩) Cs Cs):=by
     obtain ⟨cur,q1,-⟩:=RowsO.gblk hs
     have q2 : Blk wt g tR cur:=(hO.old g hg (by simpa using hgb)).trans q1
     rw [q2.cell,<-q1.cell]
     exact o1
    have hOs:=hO.bel.size
    by_cases hlt : j < Cs
    ·obtain ⟨xs,xa,xl,xc,v1,v2,-,-,hx⟩:=hv.cell (genV_get hlt)
     have hyf : uptoV G (FS i) j j = FS i j:=by unfold uptoV; rw [if_neg oM]
     rw [hyf] at hx
     have hlv:=hv.lt
     go_upto_region 7 with (fail)
     refine wp_world ?_
     intro W6 hW6
     obtain ⟨hB6,T7,hs6⟩:=world1 hW6
     obtain ⟨d1,d2,d3,d4⟩:=T7.two
     have hO:=hO.trans (Only.of [bi] hB6)
     have hv:=hv.below hB6
     have hx:=hx.ext (lx hB6)
     have p1:=kc_below p1 hB6
     have l7:=T7.lt
     clear v1 v2 hW6 o1
     have HSJ:=HidS.mk (HS.out i hi j hlt)
     refine wp_region_headed 8 rfl (RI W6 (W6.heap.size) _ 45
       [⟨0,28,fun _ v=>v = .slice (some ⟨g,0,none⟩) n sc⟩,⟨1,29,fun _ v=>v = .int .i64 i⟩,⟨2,30,fun _ v=>v = .pointer (some ⟨g,i,none⟩)⟩,⟨3,31,fun _ v=>v = .slice (some ⟨bi,0,none⟩) Cs Cs⟩,⟨4,32,fun _ v=>v = .int .i64 j⟩,⟨5,33,fun _ v=>v = .agg #[.bool xs,.slice xa xl xc]⟩,⟨6,34,fun w v=>IntV w v (-(FS i j))⟩,⟨7,35,fun _ v=>v = .pointer (some ⟨bi,j * 2,none⟩)⟩]
       [] []) kR RI.start ?fin1 ?steps1
     case steps1=>
      refine ⟨?_,?_,?_,?_,?_,?_,?_,?_,trivial⟩ <;> (intro L T wS hL hd hcl hI K hK; try refine step_wanted rfl ?_)
      ·have zt : T[5]? = some (.slice (some ⟨g,0,none⟩) n sc):=hI.keep 5 sI sI
       go_simp
       exact hK _ _ (hI.y mm0 rfl)
      ·have zt : T[1]? = some (.int .i64 i):=hI.keep 1 sI sI
       go_simp
       exact hK _ _ (hI.y mm1 rfl)
      ·obtain ⟨v0,zt0,rfl⟩:=hI.v mm0 (hd 0)
       obtain ⟨v1,zt1,rfl⟩:=hI.v mm1 (hd 1)
       go_simp
       exact hK _ _ (hI.y mm2 rfl)
      ·obtain ⟨v2,zt2,rfl⟩:=hI.v mm2 (hd 2)
       have cc0:=hI.cell p1 oM nom
       go_simp
       exact hK _ _ (hI.y mm3 rfl)
      ·have zt : T[6]? = some (.int .i64 j):=hI.keep 6 sI sI
       go_simp
       exact hK _ _ (hI.y mm4 rfl)
      ·have zt : T[7]? = some (.pointer (some ⟨wt.heap.size,0,none⟩)):=hI.keep 7 sI sI
       have cc0:=hI.cell d1 oM nom
       have cc1:=hI.cell d2 oM nom
       go_simp
       exact hK _ _ (hI.y mm5 rfl)
      ·obtain ⟨v5,zt5,rfl⟩:=hI.v mm5 (hd 5)
       go_simp
       refine (neg_any _ (FS i j) _ (hx.ext hI.lext).weak HSJ.out).mono ?_
       rintro e wa ⟨v,rfl,hv,hba⟩
       exact hK _ _ ((hI.world hba).y mm6 hv)
      ·obtain ⟨v3,zt3,rfl⟩:=hI.v mm3 (hd 3)
       obtain ⟨v4,zt4,rfl⟩:=hI.v mm4 (hd 4)
       go_simp
       exact hK _ _ (hI.y mm7 rfl)
     intro T w9 hI
     obtain ⟨va0,q0,rfl⟩:=hI.v mm0 rfl
     obtain ⟨va1,q1,rfl⟩:=hI.v mm1 rfl
     obtain ⟨va2,q2,rfl⟩:=hI.v mm2 rfl
     obtain ⟨va3,q3,rfl⟩:=hI.v mm3 rfl
     obtain ⟨va4,q4,rfl⟩:=hI.v mm4 rfl
     obtain ⟨va5,q5,rfl⟩:=hI.v mm5 rfl
     obtain ⟨va6,q6,ha6⟩:=hI.v mm6 rfl
     replace ha6 : IntV w9 va6 (-(FS i j)):=ha6
     obtain ⟨va7,q7,rfl⟩:=hI.v mm7 rfl
     have hT:=tmps_set [(28,.slice (some ⟨g,0,none⟩) n sc),(29,.int .i64 i),(30,.pointer (some ⟨g,i,none⟩)),(31,.slice (some ⟨bi,0,none⟩) Cs Cs),(32,.int .i64 j),(33,.agg #[.bool xs,.slice xa xl xc]),(34,va6),(35,.pointer (some ⟨bi,j * 2,none⟩))]
      (fun j hj=>hI.keep j (by simp only [List.forall_mem_cons] at hj ⊢; simp [hj]) (by simp only [List.forall_mem_cons] at hj ⊢; simp [hj]))
      (by simp only [List.forall_mem_cons]; simp [q0,q1,q2,q3,q4,q5,q6,q7]) hI.size
     have hlw9:=hI.lext
     have hbw9:=hI.bel (W6.heap.size) oM nom
     have holdw9:=hI.old
     clear hI
     simp only [List.foldl_cons,List.foldl_nil,List.setIfInBounds_toArray,List.set_cons_zero,List.set_cons_succ,ptr] at hT
     subst hT
     clear q0 q1 q2 q3 q4 q5 q6 q7
     simp only [List.drop_succ_cons,List.drop_zero]
     obtain ⟨pn,pa,pl,pc,px,rfl,hpx⟩:=id ha6
     have HPX:=Lib.hid hpx
     clear hpx
     have hv9:=hv.below hbw9
     obtain ⟨zs,za,zl,zc,z1,z2,z3,z4,-⟩:=hv9.cell (genV_get hlt)
     have hset:=hv9.set (k:=j) (by rw [genV_length]; exact hlt) ha6
     have hO:=hO.trans (Only.of [bi] hbw9)
     go_wp2
     go_roundw
     case rel=>
      have hq : (genV Cs (uptoV G (FS i) j)).set j (-(FS i j)) = genV Cs (uptoV G (FS i) (j + 1)):=by
       rw [genV_set]
       exact genV_congr fun t _=>by
        unfold uptoV
        by_cases h2 : t = j
        ·subst h2
         rw [if_pos rfl,if_pos oM,HG.out]
        ·rw [if_neg h2]
         by_cases h1 : t < j
         ·rw [if_pos h1,if_pos oM]
         ·rw [if_neg h1,if_neg oM]
      rw [hq] at hset
      exact ⟨j + 1,by omega,by simp,hO.trans ⟨bset (bset (Below.refl _ _) (Nat.zero_le _) _ _) (Nat.zero_le _) _ _,hset.2,fun i _ hi=>set2_old _ _ _ _ _ _ _ (by simpa using hi)⟩,_,funext HG.out,hset.1⟩
     case measure=>simp [intOf]; omega
    ·obtain rfl : j = Cs:=by omega
     have hq : genV j (uptoV G (FS i) j) = genV j (fun t=>-FS i t):=genV_congr fun t ht=>by unfold uptoV; rw [if_pos ht]; exact HG.out t
     rw [hq] at hv
     go_wp2
     go_roundw
     case measure=>simp [intOf]
     have hri0:=hs.rowAt hi hbi
     exact ⟨1,by omega,by simp,hb0.trans hO.bel,hx0.trans hO.lext,fun b hb n1 n2 n3=>(hO.old b oM (by simp; rintro rfl; exact n1 hmi)).trans (HOLD.out b hb n1 n2 n3),by simpa using hs.negRow hi hbi hO hv,by simpa using ht.only hO (fun hh=>fst_ _ hmi hh) hri0,by simpa using hi_.only hO (fun hh=>fsi _ hmi hh) hri0⟩
  ·by_cases hm1 : m = 1
   ·subst hm1
    rw [if_neg oM] at hs
    rw [if_pos oM] at ht hi_
    obtain ⟨g,bi,rfl,hg,hbi,hbi2,o1,-⟩:=RowsO.at_ ht (i:=i) (by rw [ht.len]; exact hi)
    have hmi:=List.mem_of_getElem? hbi
    have hri:=ht.rowAt hi hbi
    have hix:=fun W=>run_index_rr 158 3 #[.slice so n sc,.slice (some ⟨g,0,none⟩) n tc,.slice io n ic] 1 1 _ W Tryz.underlying158 rfl oM rfl
    have hst : ∀F : Nat->Int,genV Ct F = genV Ct (uptoV (fun t=>-F t) F 0):=fun F=>genV_congr fun t _=>by unfold uptoV; rw [if_neg oM]
    rw [hst] at hri
    clear hst
    go_wp2
    go_loopw [23] (fun jv wt=>∃j : Nat,j<=Ct/\jv = .int .i64 j/\Only [bi] wr wt/\(∃G,G = (fun t=>-FT i t)/\RowAt wt bi (genV Ct (uptoV G (FT i) j)))) (fun jv _=>Ct - (intOf jv).toNat)
    case atStart=>exact ⟨0,by omega,rfl,Only.refl _ _,_,rfl,hri⟩
    case round=>
     rename World=>wt
     obtain ⟨j,hj,rfl,hO,G,hG,hv⟩:=hrel
     have HG:=HidS.mk (congrFun hG)
     clear hG
     have hgb : g ≠ bi:=by
      rintro rfl
      obtain ⟨cur,q1,-⟩:=RowsO.gblk ht
      obtain ⟨cs,q2,-⟩:=ht.rowAt hi hbi
      have q1' : wr.heap[g]? = some (.cells cur tR (0,0)):=q1
      rw [q1'] at q2
      injection q2 with q2
      injection q2 with _ ht
      exact absurd ht dE
     have p1 : wt.cell? ⟨g,i,none⟩ = some (.slice (some ⟨bi,0,none⟩) Ct Ct):=by
      obtain ⟨cur,q1,-⟩:=RowsO.gblk ht
      have q2 : Blk wt g tR cur:=(hO.old g hg (by simpa using hgb)).trans q1
      rw [q2.cell,<-q1.cell]
      exact o1
     have hOs:=hO.bel.size
     by_cases hlt : j < Ct
     ·obtain ⟨xs,xa,xl,xc,v1,v2,-,-,hx⟩:=hv.cell (genV_get hlt)
      have hyf : uptoV G (FT i) j j = FT i j:=by unfold uptoV; rw [if_neg oM]
      rw [hyf] at hx
      have hlv:=hv.lt
      go_upto_region 7 with (fail)
      refine wp_world ?_
      intro W6 hW6
      obtain ⟨hB6,T7,hs6⟩:=world1 hW6
      obtain ⟨d1,d2,d3,d4⟩:=T7.two
      have hO:=hO.trans (Only.of [bi] hB6)
      have hv:=hv.below hB6
      have hx:=hx.ext (lx hB6)
      have p1:=kc_below p1 hB6
      have l7:=T7.lt
      clear v1 v2 hW6 o1
      have HSJ:=HidS.mk (HT.out i hi j hlt)
      refine wp_region_headed 8 rfl (RI W6 (W6.heap.size) _ 45
        [⟨0,28,fun _ v=>v = .slice (some ⟨g,0,none⟩) n tc⟩,⟨1,29,fun _ v=>v = .int .i64 i⟩,⟨2,30,fun _ v=>v = .pointer (some ⟨g,i,none⟩)⟩,⟨3,31,fun _ v=>v = .slice (some ⟨bi,0,none⟩) Ct Ct⟩,⟨4,32,fun _ v=>v = .int .i64 j⟩,⟨5,33,fun _ v=>v = .agg #[.bool xs,.slice xa xl xc]⟩,⟨6,34,fun w v=>IntV w v (-(FT i j))⟩,⟨7,35,fun _ v=>v = .pointer (some ⟨bi,j * 2,none⟩)⟩]
        [] []) kR RI.start ?fin2 ?steps2
      case steps2=>
       refine ⟨?_,?_,?_,?_,?_,?_,?_,?_,trivial⟩ <;> (intro L T wS hL hd hcl hI K hK; try refine step_wanted rfl ?_)
       ·have zt : T[5]? = some (.slice (some ⟨g,0,none⟩) n tc):=hI.keep 5 sI sI
        go_simp
        exact hK _ _ (hI.y mm0 rfl)
       ·have zt : T[1]? = some (.int .i64 i):=hI.keep 1 sI sI
        go_simp
        exact hK _ _ (hI.y mm1 rfl)
       ·obtain ⟨v0,zt0,rfl⟩:=hI.v mm0 (hd 0)
        obtain ⟨v1,zt1,rfl⟩:=hI.v mm1 (hd 1)
        go_simp
        exact hK _ _ (hI.y mm2 rfl)
       ·obtain ⟨v2,zt2,rfl⟩:=hI.v mm2 (hd 2)
        have cc0:=hI.cell p1 oM nom
        go_simp
        exact hK _ _ (hI.y mm3 rfl)
       ·have zt : T[6]? = some (.int .i64 j):=hI.keep 6 sI sI
        go_simp
        exact hK _ _ (hI.y mm4 rfl)
       ·have zt : T[7]? = some (.pointer (some ⟨wt.heap.size,0,none⟩)):=hI.keep 7 sI sI
        have cc0:=hI.cell d1 oM nom
        have cc1:=hI.cell d2 oM nom
        go_simp
        exact hK _ _ (hI.y mm5 rfl)
       ·obtain ⟨v5,zt5,rfl⟩:=hI.v mm5 (hd 5)
        go_simp
        refine (neg_any _ (FT i j) _ (hx.ext hI.lext).weak HSJ.out).mono ?_
        rintro e wa ⟨v,rfl,hv,hba⟩
        exact hK _ _ ((hI.world hba).y mm6 hv)
       ·obtain ⟨v3,zt3,rfl⟩:=hI.v mm3 (hd 3)
        obtain ⟨v4,zt4,rfl⟩:=hI.v mm4 (hd 4)
        go_simp
        exact hK _ _ (hI.y mm7 rfl)
      intro T w9 hI
      obtain ⟨va0,q0,rfl⟩:=hI.v mm0 rfl
      obtain ⟨va1,q1,rfl⟩:=hI.v mm1 rfl
      obtain ⟨va2,q2,rfl⟩:=hI.v mm2 rfl
      obtain ⟨va3,q3,rfl⟩:=hI.v mm3 rfl
      obtain ⟨va4,q4,rfl⟩:=hI.v mm4 rfl
      obtain ⟨va5,q5,rfl⟩:=hI.v mm5 rfl
      obtain ⟨va6,q6,ha6⟩:=hI.v mm6 rfl
      replace ha6 : IntV w9 va6 (-(FT i j)):=ha6
      obtain ⟨va7,q7,rfl⟩:=hI.v mm7 rfl
      have hT:=tmps_set [(28,.slice (some ⟨g,0,none⟩) n tc),(29,.int .i64 i),(30,.pointer (some ⟨g,i,none⟩)),(31,.slice (some ⟨bi,0,none⟩) Ct Ct),(32,.int .i64 j),(33,.agg #[.bool xs,.slice xa xl xc]),(34,va6),(35,.pointer (some ⟨bi,j * 2,none⟩))]
       (fun j hj=>hI.keep j (by simp only [List.forall_mem_cons] at hj ⊢; simp [hj]) (by simp only [List.forall_mem_cons] at hj ⊢; simp [hj]))
       (by simp only [List.forall_mem_cons]; simp [q0,q1,q2,q3,q4,q5,q6,q7]) hI.size
      have hlw9:=hI.lext
      have hbw9:=hI.bel (W6.heap.size) oM nom
      have holdw9:=hI.old
      clear hI
      simp only [List.foldl_cons,List.foldl_nil,List.setIfInBounds_toArray,List.set_cons_zero,List.set_cons_succ,ptr] at hT
      subst hT
      clear q0 q1 q2 q3 q4 q5 q6 q7
      simp only [List.drop_succ_cons,List.drop_zero]
      obtain ⟨pn,pa,pl,pc,px,rfl,hpx⟩:=id ha6
      have HPX:=Lib.hid hpx
      clear hpx
      have hv9:=hv.below hbw9
      obtain ⟨zs,za,zl,zc,z1,z2,z3,z4,-⟩:=hv9.cell (genV_get hlt)
      have hset:=hv9.set (k:=j) (by rw [genV_length]; exact hlt) ha6
      have hO:=hO.trans (Only.of [bi] hbw9)
      go_wp2
      go_roundw
      case rel=>
       have hq : (genV Ct (uptoV G (FT i) j)).set j (-(FT i j)) = genV Ct (uptoV G (FT i) (j + 1)):=by
        rw [genV_set]
        exact genV_congr fun t _=>by
         unfold uptoV
         by_cases h2 : t = j
         ·subst h2
          rw [if_pos rfl,if_pos oM,HG.out]
         ·rw [if_neg h2]
          by_cases h1 : t < j
          ·rw [if_pos h1,if_pos oM]
          ·rw [if_neg h1,if_neg oM]
       rw [hq] at hset
       exact ⟨j + 1,by omega,by simp,hO.trans ⟨bset (bset (Below.refl _ _) (Nat.zero_le _) _ _) (Nat.zero_le _) _ _,hset.2,fun i _ hi=>set2_old _ _ _ _ _ _ _ (by simpa using hi)⟩,_,funext HG.out,hset.1⟩
      case measure=>simp [intOf]; omega
     ·obtain rfl : j = Ct:=by omega
      have hq : genV j (uptoV G (FT i) j) = genV j (fun t=>-FT i t):=genV_congr fun t ht=>by unfold uptoV; rw [if_pos ht]; exact HG.out t
      rw [hq] at hv
      go_wp2
      go_roundw
      case measure=>simp [intOf]
      have hri0:=ht.rowAt hi hbi
      exact ⟨2,by omega,by simp,hb0.trans hO.bel,hx0.trans hO.lext,fun b hb n1 n2 n3=>(hO.old b oM (by simp; rintro rfl; exact n2 hmi)).trans (HOLD.out b hb n1 n2 n3),by simpa using hs.only hO (fun hh=>fst_ _ hh hmi) hri0,by simpa using ht.negRow hi hbi hO hv,by simpa using hi_.only hO (fun hh=>fti _ hmi hh) hri0⟩
   ·by_cases hm2 : m = 2
    ·subst hm2
     rw [if_neg oM] at hs ht
     rw [if_pos oM] at hi_
     obtain ⟨g,bi,rfl,hg,hbi,hbi2,o1,-⟩:=RowsO.at_ hi_ (i:=i) (by rw [hi_.len]; exact hi)
     have hmi:=List.mem_of_getElem? hbi
     have hri:=hi_.rowAt hi hbi
     have hix:=fun W=>run_index_rr 158 3 #[.slice so n sc,.slice uo n tc,.slice (some ⟨g,0,none⟩) n ic] 2 2 _ W Tryz.underlying158 rfl oM rfl
     have hst : ∀F : Nat->Int,genV Ct F = genV Ct (uptoV (fun t=>-F t) F 0):=fun F=>genV_congr fun t _=>by unfold uptoV; rw [if_neg oM]
     rw [hst] at hri
     clear hst
     go_wp2
     go_loopw [23] (fun jv wt=>∃j : Nat,j<=Ct/\jv = .int .i64 j/\Only [bi] wr wt/\(∃G,G = (fun t=>-FI i t)/\RowAt wt bi (genV Ct (uptoV G (FI i) j)))) (fun jv _=>Ct - (intOf jv).toNat)
     case atStart=>exact ⟨0,by omega,rfl,Only.refl _ _,_,rfl,hri⟩
     case round=>
      rename World=>wt
      obtain ⟨j,hj,rfl,hO,G,hG,hv⟩:=hrel
      have HG:=HidS.mk (congrFun hG)
      clear hG
      have hgb : g ≠ bi:=by
       rintro rfl
       obtain ⟨cur,q1,-⟩:=RowsO.gblk hi_
       obtain ⟨cs,q2,-⟩:=hi_.rowAt hi hbi
       have q1' : wr.heap[g]? = some (.cells cur tR (0,0)):=q1
       rw [q1'] at q2
       injection q2 with q2
       injection q2 with _ ht
       exact absurd ht dE
      have p1 : wt.cell? ⟨g,i,none⟩ = some (.slice (some ⟨bi,0,none⟩) Ct Ct):=by
       obtain ⟨cur,q1,-⟩:=RowsO.gblk hi_
       have q2 : Blk wt g tR cur:=(hO.old g hg (by simpa using hgb)).trans q1
       rw [q2.cell,<-q1.cell]
       exact o1
      have hOs:=hO.bel.size
      by_cases hlt : j < Ct
      ·obtain ⟨xs,xa,xl,xc,v1,v2,-,-,hx⟩:=hv.cell (genV_get hlt)
       have hyf : uptoV G (FI i) j j = FI i j:=by unfold uptoV; rw [if_neg oM]
       rw [hyf] at hx
       have hlv:=hv.lt
       go_upto_region 7 with (fail)
       refine wp_world ?_
       intro W6 hW6
       obtain ⟨hB6,T7,hs6⟩:=world1 hW6
       obtain ⟨d1,d2,d3,d4⟩:=T7.two
       have hO:=hO.trans (Only.of [bi] hB6)
       have hv:=hv.below hB6
       have hx:=hx.ext (lx hB6)
       have p1:=kc_below p1 hB6
       have l7:=T7.lt
       clear v1 v2 hW6 o1
       have HSJ:=HidS.mk (HI.out i hi j hlt)
       refine wp_region_headed 8 rfl (RI W6 (W6.heap.size) _ 45
         [⟨0,28,fun _ v=>v = .slice (some ⟨g,0,none⟩) n ic⟩,⟨1,29,fun _ v=>v = .int .i64 i⟩,⟨2,30,fun _ v=>v = .pointer (some ⟨g,i,none⟩)⟩,⟨3,31,fun _ v=>v = .slice (some ⟨bi,0,none⟩) Ct Ct⟩,⟨4,32,fun _ v=>v = .int .i64 j⟩,⟨5,33,fun _ v=>v = .agg #[.bool xs,.slice xa xl xc]⟩,⟨6,34,fun w v=>IntV w v (-(FI i j))⟩,⟨7,35,fun _ v=>v = .pointer (some ⟨bi,j * 2,none⟩)⟩]
         [] []) kR RI.start ?fin3 ?steps3
       case steps3=>
        refine ⟨?_,?_,?_,?_,?_,?_,?_,?_,trivial⟩ <;> (intro L T wS hL hd hcl hI K hK; try refine step_wanted rfl ?_)
        ·have zt : T[5]? = some (.slice (some ⟨g,0,none⟩) n ic):=hI.keep 5 sI sI
         go_simp
         exact hK _ _ (hI.y mm0 rfl)
        ·have zt : T[1]? = some (.int .i64 i):=hI.keep 1 sI sI
         go_simp
         exact hK _ _ (hI.y mm1 rfl)
        ·obtain ⟨v0,zt0,rfl⟩:=hI.v mm0 (hd 0)
         obtain ⟨v1,zt1,rfl⟩:=hI.v mm1 (hd 1)
         go_simp
         exact hK _ _ (hI.y mm2 rfl)
        ·obtain ⟨v2,zt2,rfl⟩:=hI.v mm2 (hd 2)
         have cc0:=hI.cell p1 oM nom
         go_simp
         exact hK _ _ (hI.y mm3 rfl)
        ·have zt : T[6]? = some (.int .i64 j):=hI.keep 6 sI sI
         go_simp
         exact hK _ _ (hI.y mm4 rfl)
        ·have zt : T[7]? = some (.pointer (some ⟨wt.heap.size,0,none⟩)):=hI.keep 7 sI sI
         have cc0:=hI.cell d1 oM nom
         have cc1:=hI.cell d2 oM nom
         go_simp
         exact hK _ _ (hI.y mm5 rfl)
        ·obtain ⟨v5,zt5,rfl⟩:=hI.v mm5 (hd 5)
         go_simp
         refine (neg_any _ (FI i j) _ (hx.ext hI.lext).weak HSJ.out).mono ?_
         rintro e wa ⟨v,rfl,hv,hba⟩
         exact hK _ _ ((hI.world hba).y mm6 hv)
        ·obtain ⟨v3,zt3,rfl⟩:=hI.v mm3 (hd 3)
         obtain ⟨v4,zt4,rfl⟩:=hI.v mm4 (hd 4)
         go_simp
         exact hK _ _ (hI.y mm7 rfl)
       intro T w9 hI
       obtain ⟨va0,q0,rfl⟩:=hI.v mm0 rfl
       obtain ⟨va1,q1,rfl⟩:=hI.v mm1 rfl
       obtain ⟨va2,q2,rfl⟩:=hI.v mm2 rfl
       obtain ⟨va3,q3,rfl⟩:=hI.v mm3 rfl
       obtain ⟨va4,q4,rfl⟩:=hI.v mm4 rfl
       obtain ⟨va5,q5,rfl⟩:=hI.v mm5 rfl
       obtain ⟨va6,q6,ha6⟩:=hI.v mm6 rfl
       replace ha6 : IntV w9 va6 (-(FI i j)):=ha6
       obtain ⟨va7,q7,rfl⟩:=hI.v mm7 rfl
       have hT:=tmps_set [(28,.slice (some ⟨g,0,none⟩) n ic),(29,.int .i64 i),(30,.pointer (some ⟨g,i,none⟩)),(31,.slice (some ⟨bi,0,none⟩) Ct Ct),(32,.int .i64 j),(33,.agg #[.bool xs,.slice xa xl xc]),(34,va6),(35,.pointer (some ⟨bi,j * 2,none⟩))]
        (fun j hj=>hI.keep j (by simp only [List.forall_mem_cons] at hj ⊢; simp [hj]) (by simp only [List.forall_mem_cons] at hj ⊢; simp [hj]))
        (by simp only [List.forall_mem_cons]; simp [q0,q1,q2,q3,q4,q5,q6,q7]) hI.size
       have hlw9:=hI.lext
       have hbw9:=hI.bel (W6.heap.size) oM nom
       have holdw9:=hI.old
       clear hI
       simp only [List.foldl_cons,List.foldl_nil,List.setIfInBounds_toArray,List.set_cons_zero,List.set_cons_succ,ptr] at hT
       subst hT
       clear q0 q1 q2 q3 q4 q5 q6 q7
       simp only [List.drop_succ_cons,List.drop_zero]
       obtain ⟨pn,pa,pl,pc,px,rfl,hpx⟩:=id ha6
       have HPX:=Lib.hid hpx
       clear hpx
       have hv9:=hv.below hbw9
       obtain ⟨zs,za,zl,zc,z1,z2,z3,z4,-⟩:=hv9.cell (genV_get hlt)
       have hset:=hv9.set (k:=j) (by rw [genV_length]; exact hlt) ha6
       have hO:=hO.trans (Only.of [bi] hbw9)
       go_wp2
       go_roundw
       case rel=>
        have hq : (genV Ct (uptoV G (FI i) j)).set j (-(FI i j)) = genV Ct (uptoV G (FI i) (j + 1)):=by
         rw [genV_set]
         exact genV_congr fun t _=>by
          unfold uptoV
          by_cases h2 : t = j
          ·subst h2
           rw [if_pos rfl,if_pos oM,HG.out]
          ·rw [if_neg h2]
           by_cases h1 : t < j
           ·rw [if_pos h1,if_pos oM]
           ·rw [if_neg h1,if_neg oM]
        rw [hq] at hset
        exact ⟨j + 1,by omega,by simp,hO.trans ⟨bset (bset (Below.refl _ _) (Nat.zero_le _) _ _) (Nat.zero_le _) _ _,hset.2,fun i _ hi=>set2_old _ _ _ _ _ _ _ (by simpa using hi)⟩,_,funext HG.out,hset.1⟩
       case measure=>simp [intOf]; omega
      ·obtain rfl : j = Ct:=by omega
       have hq : genV j (uptoV G (FI i) j) = genV j (fun t=>-FI i t):=genV_congr fun t ht=>by unfold uptoV; rw [if_pos ht]; exact HG.out t
       rw [hq] at hv
       go_wp2
       go_roundw
       case measure=>simp [intOf]
       have hri0:=hi_.rowAt hi hbi
       exact ⟨3,by omega,by simp,hb0.trans hO.bel,hx0.trans hO.lext,fun b hb n1 n2 n3=>(hO.old b oM (by simp; rintro rfl; exact n3 hmi)).trans (HOLD.out b hb n1 n2 n3),by simpa using hs.only hO (fun hh=>fsi _ hh hmi) hri0,by simpa using ht.only hO (fun hh=>fti _ hh hmi) hri0,by simpa using hi_.negRow hi hbi hO hv⟩
    ·obtain rfl : m = 3:=by omega
     rw [if_neg oM] at hs ht hi_
     go_wp2
     obtain ⟨gs1,gt1,gi1,f1,f2,f3,f4,f5,f6⟩:=H0.out
     exact bodyPost_end (results_none rfl _ _ _) rfl ⟨⟨_,rfl⟩,⟨hb0,hx0,fun b hb hn=>HOLD.out b hb (fun hh=>hn (.inl hh)) (fun hh=>hn (.inr (.inl hh))) (fun hh=>hn (.inr (.inr hh)))⟩,hs,ht,hi_,f1,f2,f3,f4,f5,f6⟩
end Go.Proofs.YtnocgagoaldfnaaGreat
