/- smith: band.add. smith: rows are exchanged. What the echelon form, the reduction and the Smith form of package smith compute, in plain Lean. -/
import Derived.Test.YtnocgagoaldfnaaGreatD20
set_option linter.unusedVariables false
set_option linter.unusedSimpArgs false
set_option linter.unusedSectionVars false
namespace Go.Proofs.YtnocgagoaldfnaaGreat
open Go.RowKit
def Wri (w : World) (A : Value) (R C : Nat) (bs : List Nat) (F : Nat->Nat->Int) : Prop:=RowsO w 0 A C bs (genM R C F)
theorem Wri.below {w w' : World} {A : Value} {R C : Nat} {bs : List Nat} {F : Nat->Nat->Int} (h : Wri w A R C bs F) (hb : Below w.heap.size w w') : Wri w' A R C bs F:=RowsO.below h hb
theorem Wri.len {w : World} {A : Value} {R C : Nat} {bs : List Nat} {F : Nat->Nat->Int} (h : Wri w A R C bs F) : bs.length = R:=by rw [<-RowsO.len h]; simp [genM]
theorem Wri.blk {w : World} {A : Value} {R C : Nat} {bs : List Nat} {F : Nat->Nat->Int} (h : Wri w A R C bs F) {b : Nat} (hb : b ∈ bs) : ∃r,RowAt w b r:=by
 obtain ⟨k,hk,e⟩:=List.getElem_of_mem hb
 have hl:=h.len
 obtain ⟨b',e1,e2⟩:=RowsO.rowAt h (i:=k) oM
 rw [List.getElem?_eq_getElem hk,e] at e1
 injection e1 with e1
 subst e1
 exact ⟨_,e2⟩
theorem Wri.only {w w' : World} {A : Value} {R C : Nat} {bs : List Nat} {F : Nat->Nat->Int} {b : Nat} {r : List Int} (h : Wri w A R C bs F) (ho : Only [b] w w') (hn : b ∉ bs) (hr : RowAt w b r) : Wri w' A R C bs F:=
 RowsO.only h ho (fun x hx=>by
  intro hh
  simp at hh
  subst hh
  exact hn hx) (fun g hg=>by
  simp at hg
  subst hg
  exact ⟨_,hr⟩)
def Far (xs ys : List Nat) : Prop:=∀b,b ∈ xs->b ∉ ys
structure BandV (w : World) (As At Ai : Value) (n Cs Ct : Nat) (bss bst bsi : List Nat) (S T I : Nat->Nat->Int) : Prop where
 s : Wri w As n Cs bss S
 t : Wri w At n Ct bst T
 i : Wri w Ai n Ct bsi I
 st : Far bss bst
 si : Far bss bsi
 ti : Far bst bsi
 ast : ∀g,As.ownBlock = some g->At.ownBlock ≠ some g
 asi : ∀g,As.ownBlock = some g->Ai.ownBlock ≠ some g
 ati : ∀g,At.ownBlock = some g->Ai.ownBlock ≠ some g
abbrev tRR : TypeId:=26
theorem Tryz.infoRR : (Tryz.prog.info? tRR).map (fun i=>(i.zero,i.size,i.bytes)) = some (some (.slice none 0 0),1,24):=by kernel_rfl
theorem run_index_rr (t : TypeId) (n : Nat) (cs : Array Value) (k : Int) (j : Nat) (v : Value) (W : World) (h : Tryz.prog.underlying t = some (.array n tRR)) (hk : k = (j : Int)) (hj : j < n) (hv : cs[j]? = some v) :
  (Instr.index t (.agg cs) (.int .i64 k)).run Tryz.prog W = .ok v W:=by
 subst hk
 obtain ⟨i0,hi,hz0,hz1,hz2⟩:=info_parts Tryz.infoRR
 have hc : (0 : Int)<=(j : Int)/\(j : Int) < (n : Int):=by omega
 have hu:=Tryz.underlying26
 simp [Instr.index,run_underlying h,asIntOf,hc,part,isAgg,run_underlying hu,sizeOf,typeInfo,hi,hz1,hv,go_sem]
 intro h0
 omega
def AddSm (C : Nat) (F : Nat->Nat->Int) (i j : Nat) (k : Int) : Prop:=∀t,t < C->Sm (F i t)/\Sm (F j t)/\Sm (k * F j t)
set_option maxHeartbeats 4000000 in
set_option maxRecDepth 20000 in
theorem band_add_any (As At Ai : Value) (n Cs Ct i j : Nat) (bss bst bsi : List Nat) (S T I : Nat->Nat->Int) (kv : Value) (k : Int) (w : World) (h : BandV w As At Ai n Cs Ct bss bst bsi S T I) (hi : i < n) (hj : j < n) (hij : i ≠ j) (hk : IntV w kv k)
  (hn : n<=1000000) (hCs : Cs<=1000000) (hCt : Ct<=1000000) (hS : AddSm Cs S i j k) (hT : AddSm Ct T i j k) (hI : AddSm Ct I j i (-k)) (hks : Sm k) :
  Calls Tryz.prog 134 #[.agg #[As,At,Ai],.int .i64 i,.int .i64 j,kv] w fun e w'=>(∃u,e = .returned u)/\Below 0 w w'/\LExt w w'/\(∀b,b < w.heap.size->b ∉ bss->b ∉ bst->b ∉ bsi->w'.heap[b]? = w.heap[b]?) ∧
   BandV w' As At Ai n Cs Ct bss bst bsi (addF S i j k) (addF T i j k) (addF I j i (-k)):=by
 obtain ⟨so,sn,sc,rfl,s1,s2,s3,-⟩:=id (RowsO.rows h.s)
 obtain ⟨uo,tn,tc,rfl,t1,t2,t3,-⟩:=id (RowsO.rows h.t)
 obtain ⟨io,in_,ic,rfl,i1,i2,i3,-⟩:=id (RowsO.rows h.i)
 obtain ⟨kn,ka,kl,kc,kx,rfl,hkx⟩:=id hk
 have HKX:=Lib.hid hkx
 have HS:=HidS.mk hS
 have HT:=HidS.mk hT
 have HI:=HidS.mk hI
 have HK:=HidS.mk hks
 clear hkx hS hT hI hks
 obtain ⟨hs,ht,hi_,fst_,fsi,fti,gst,gsi,gti⟩:=h
 have GST:=HidS.mk gst
 have GSI:=HidS.mk gsi
 have GTI:=HidS.mk gti
 clear gst gsi gti
 have e1 : n = sn:=by rw [<-s1]; simp [genM]
 have e2 : n = tn:=by rw [<-t1]; simp [genM]
 have e3 : n = in_:=by rw [<-i1]; simp [genM]
 subst e1
 subst e2
 subst e3
 clear s1 t1 i1
 have hltbss : ∀b ∈ bss,b < w.heap.size:=fun b hb=>(hs.blk hb).elim fun r hr=>hr.lt
 have hltbst : ∀b ∈ bst,b < w.heap.size:=fun b hb=>(ht.blk hb).elim fun r hr=>hr.lt
 have hltbsi : ∀b ∈ bsi,b < w.heap.size:=fun b hb=>(hi_.blk hb).elim fun r hr=>hr.lt
 go_enter Tryz.func134,Tryz.ntmps134
 go_upto_region 1 with (fail)
 refine wp_world ?_
 intro W0 hW0
 obtain ⟨hB0,bx,bk,hs0⟩:=world2 hW0
 obtain ⟨c1,c2,c3,c4,c5,c6⟩:=bx.three
 have hs:=hs.below hB0
 have ht:=ht.below hB0
 have hi_:=hi_.below hB0
 have hk:=hk.ext (lx hB0)
 clear hW0
 go_wp2
 clear c1 c2 c3 c4 c5 c6
 go_loopw [15] (fun mv wr=>∃m : Nat,m<=2/\mv = .int .i64 m/\Below 0 w wr/\LExt w wr/\(∀b,b < w.heap.size->b ∉ bss->b ∉ bst->b ∉ bsi->wr.heap[b]? = w.heap[b]?)/\Blk wr w.heap.size 114 #[.slice so n sc,.slice uo n tc,.slice io n ic] ∧
  Blk wr (w.heap.size + 1) 45 #[.bool kn,.slice ka kl kc]/\IntV wr (.agg #[.bool kn,.slice ka kl kc]) k/\Wri wr (.slice so n sc) n Cs bss (if m = 0 then S else addF S i j k)/\Wri wr (.slice uo n tc) n Ct bst (if m = 2 then addF T i j k else T)/\Wri wr (.slice io n ic) n Ct bsi I) (fun mv _=>2 - (intOf mv).toNat)
 case atStart=>exact ⟨0,by omega,rfl,hB0.mono (Nat.zero_le _),lx hB0,fun b hb _ _ _=>hB0.block b hb,bx,bk,hk,hs,ht,hi_⟩
 case round=>
  obtain ⟨m,hm,rfl,hb0,hx0,hold,bx,bk,hk,hs,ht,hi_⟩:=hrel
  have lk:=bk.lt
  obtain ⟨d1,d2,d3,d4⟩:=bk.two
  by_cases hm0 : m = 0
  ·subst hm0
   rw [if_pos rfl] at hs
   rw [if_neg oM] at ht
   obtain ⟨g,bi,rfl,hg,hbi,hbi2,o1,-⟩:=RowsO.at_ hs (i:=i) (by rw [hs.len]; exact hi)
   obtain ⟨g',bj,eg,hg',hbj,hbj2,o2,-⟩:=RowsO.at_ hs (i:=j) (by rw [hs.len]; exact hj)
   obtain rfl : g = g':=by injection eg with eg; injection eg
   have hmi:=List.mem_of_getElem? hbi
   obtain ⟨ri,hri⟩:=hs.blk hmi
   have hix:=fun W=>run_index_rr 156 2 #[.slice (some ⟨g,0,none⟩) n sc,.slice uo n tc] 0 0 _ W Tryz.underlying156 rfl oM rfl
   go_upto_region 4 with (fail)
   refine wp_region_headed 9 rfl (RI wr (wr.heap.size) _ 45
     [⟨0,18,fun _ v=>v = .slice (some ⟨g,0,none⟩) n sc⟩,⟨1,19,fun _ v=>v = .int .i64 i⟩,⟨2,20,fun _ v=>v = .pointer (some ⟨g,i,none⟩)⟩,⟨3,21,fun _ v=>v = .slice (some ⟨bi,0,none⟩) Cs Cs⟩,⟨4,22,fun _ v=>v = .slice (some ⟨g,0,none⟩) n sc⟩,⟨5,23,fun _ v=>v = .int .i64 j⟩,⟨6,24,fun _ v=>v = .pointer (some ⟨g,j,none⟩)⟩,⟨7,25,fun _ v=>v = .slice (some ⟨bj,0,none⟩) Cs Cs⟩,⟨8,26,fun _ v=>v = .agg #[.bool kn,.slice ka kl kc]⟩]
     [] []) kR RI.start ?fin1 ?steps1
   case steps1=>
    refine ⟨?_,?_,?_,?_,?_,?_,?_,?_,?_,trivial⟩ <;> (intro L T wS hL hd hcl hI K hK; try refine step_wanted rfl ?_)
    ·have zt : T[9]? = some (.slice (some ⟨g,0,none⟩) n sc):=hI.keep 9 sI sI
     go_simp
     exact hK _ _ (hI.y mm0 rfl)
    ·have zt : T[1]? = some (.int .i64 i):=hI.keep 1 sI sI
     go_simp
     exact hK _ _ (hI.y mm1 rfl)
    ·obtain ⟨v0,zt0,rfl⟩:=hI.v mm0 (hd 0)
     obtain ⟨v1,zt1,rfl⟩:=hI.v mm1 (hd 1)
     go_simp
     exact hK _ _ (hI.y mm2 rfl)
    ·obtain ⟨v2,zt2,rfl⟩:=hI.v mm2 (hd 2)
     have cc0:=hI.cell o1 oM nom
     go_simp
     exact hK _ _ (hI.y mm3 rfl)
    ·have zt : T[9]? = some (.slice (some ⟨g,0,none⟩) n sc):=hI.keep 9 sI sI
     go_simp
     exact hK _ _ (hI.y mm4 rfl)
    ·have zt : T[2]? = some (.int .i64 j):=hI.keep 2 sI sI
     go_simp
     exact hK _ _ (hI.y mm5 rfl)
    ·obtain ⟨v4,zt4,rfl⟩:=hI.v mm4 (hd 4)
     obtain ⟨v5,zt5,rfl⟩:=hI.v mm5 (hd 5)
     go_simp
     exact hK _ _ (hI.y mm6 rfl)
    ·obtain ⟨v6,zt6,rfl⟩:=hI.v mm6 (hd 6)
     have cc0:=hI.cell o2 oM nom
     go_simp
     exact hK _ _ (hI.y mm7 rfl)
    ·have zt : T[7]? = some (.pointer (some ⟨w.heap.size + 1,0,none⟩)):=hI.keep 7 sI sI
     have cc0:=hI.cell d1 oM nom
     have cc1:=hI.cell d2 oM nom
     go_simp
     exact hK _ _ (hI.y mm8 rfl)
   intro T w8 hI
   obtain ⟨va0,q0,rfl⟩:=hI.v mm0 rfl
   obtain ⟨va1,q1,rfl⟩:=hI.v mm1 rfl
   obtain ⟨va2,q2,rfl⟩:=hI.v mm2 rfl
   obtain ⟨va3,q3,rfl⟩:=hI.v mm3 rfl
   obtain ⟨va4,q4,rfl⟩:=hI.v mm4 rfl
   obtain ⟨va5,q5,rfl⟩:=hI.v mm5 rfl
   obtain ⟨va6,q6,rfl⟩:=hI.v mm6 rfl
   obtain ⟨va7,q7,rfl⟩:=hI.v mm7 rfl
   obtain ⟨va8,q8,rfl⟩:=hI.v mm8 rfl
   have hT:=tmps_set [(18,.slice (some ⟨g,0,none⟩) n sc),(19,.int .i64 i),(20,.pointer (some ⟨g,i,none⟩)),(21,.slice (some ⟨bi,0,none⟩) Cs Cs),(22,.slice (some ⟨g,0,none⟩) n sc),(23,.int .i64 j),(24,.pointer (some ⟨g,j,none⟩)),(25,.slice (some ⟨bj,0,none⟩) Cs Cs),(26,.agg #[.bool kn,.slice ka kl kc])]
    (fun j hj=>hI.keep j (by simp only [List.forall_mem_cons] at hj ⊢; simp [hj]) (by simp only [List.forall_mem_cons] at hj ⊢; simp [hj]))
    (by simp only [List.forall_mem_cons]; simp [q0,q1,q2,q3,q4,q5,q6,q7,q8]) hI.size
   have hlw8:=hI.lext
   have hbw8:=hI.bel (wr.heap.size) oM nom
   have holdw8:=hI.old
   clear hI
   simp only [List.foldl_cons,List.foldl_nil,List.setIfInBounds_toArray,List.set_cons_zero,List.set_cons_succ,ptr] at hT
   subst hT
   clear q0 q1 q2 q3 q4 q5 q6 q7 q8
   simp only [List.drop_succ_cons,List.drop_zero]
   have hs8:=hs.below hbw8
   go_wp2_with fail
   refine (addRows hs8 hi hj hij hbi hbj _ k (hk.ext (lx hbw8)) hCs HS.out HK.out).mono ?_
   rintro e w9 ⟨⟨u,rfl⟩,ho,hs9⟩
   go_wp2
   go_roundw
   case measure=>simp [intOf]
   have hsz:=hb0.size
   have hbs2 : w.heap.size ≠ bi:=by have:=hltbss bi hmi; omega
   have hbs3 : w.heap.size + 1 ≠ bi:=by have:=hltbss bi hmi; omega
   have hri8:=hri.below hbw8
   have hoo:=(Only.of [bi] hbw8).trans ho
   refine ⟨1,by omega,by simp,hb0.trans hoo.bel,hx0.trans hoo.lext,fun b hb n1 n2 n3=>(hoo.old b oM (by simp; rintro rfl; exact n1 hmi)).trans (hold b hb n1 n2 n3),(hoo.old _ bx.lt (by simpa using hbs2)).trans bx,(hoo.old _ bk.lt (by simpa using hbs3)).trans bk,hk.ext hoo.lext,?_,?_,?_⟩
   ·rw [if_neg oM]; exact hs9
   ·rw [if_neg oM]; exact (ht.below hbw8).only ho (fun hh=>fst_ _ hmi hh) hri8
   ·exact (hi_.below hbw8).only ho (fun hh=>fsi _ hmi hh) hri8
  ·by_cases hm1 : m = 1
   ·subst hm1
    rw [if_neg oM] at hs ht
    obtain ⟨g,bi,rfl,hg,hbi,hbi2,o1,-⟩:=RowsO.at_ ht (i:=i) (by rw [ht.len]; exact hi)
    obtain ⟨g',bj,eg,hg',hbj,hbj2,o2,-⟩:=RowsO.at_ ht (i:=j) (by rw [ht.len]; exact hj)
    obtain rfl : g = g':=by injection eg with eg; injection eg
    have hmi:=List.mem_of_getElem? hbi
    obtain ⟨ri,hri⟩:=ht.blk hmi
    have hix:=fun W=>run_index_rr 156 2 #[.slice so n sc,.slice (some ⟨g,0,none⟩) n tc] 1 1 _ W Tryz.underlying156 rfl oM rfl
    go_upto_region 4 with (fail)
    refine wp_region_headed 9 rfl (RI wr (wr.heap.size) _ 45
      [⟨0,18,fun _ v=>v = .slice (some ⟨g,0,none⟩) n tc⟩,⟨1,19,fun _ v=>v = .int .i64 i⟩,⟨2,20,fun _ v=>v = .pointer (some ⟨g,i,none⟩)⟩,⟨3,21,fun _ v=>v = .slice (some ⟨bi,0,none⟩) Ct Ct⟩,⟨4,22,fun _ v=>v = .slice (some ⟨g,0,none⟩) n tc⟩,⟨5,23,fun _ v=>v = .int .i64 j⟩,⟨6,24,fun _ v=>v = .pointer (some ⟨g,j,none⟩)⟩,⟨7,25,fun _ v=>v = .slice (some ⟨bj,0,none⟩) Ct Ct⟩,⟨8,26,fun _ v=>v = .agg #[.bool kn,.slice ka kl kc]⟩]
      [] []) kR RI.start ?fin2 ?steps2
    case steps2=>
     refine ⟨?_,?_,?_,?_,?_,?_,?_,?_,?_,trivial⟩ <;> (intro L T wS hL hd hcl hI K hK; try refine step_wanted rfl ?_)
     ·have zt : T[9]? = some (.slice (some ⟨g,0,none⟩) n tc):=hI.keep 9 sI sI
      go_simp
      exact hK _ _ (hI.y mm0 rfl)
     ·have zt : T[1]? = some (.int .i64 i):=hI.keep 1 sI sI
      go_simp
      exact hK _ _ (hI.y mm1 rfl)
     ·obtain ⟨v0,zt0,rfl⟩:=hI.v mm0 (hd 0)
      obtain ⟨v1,zt1,rfl⟩:=hI.v mm1 (hd 1)
      go_simp
      exact hK _ _ (hI.y mm2 rfl)
     ·obtain ⟨v2,zt2,rfl⟩:=hI.v mm2 (hd 2)
      have cc0:=hI.cell o1 oM nom
      go_simp
      exact hK _ _ (hI.y mm3 rfl)
     ·have zt : T[9]? = some (.slice (some ⟨g,0,none⟩) n tc):=hI.keep 9 sI sI
      go_simp
      exact hK _ _ (hI.y mm4 rfl)
     ·have zt : T[2]? = some (.int .i64 j):=hI.keep 2 sI sI
      go_simp
      exact hK _ _ (hI.y mm5 rfl)
     ·obtain ⟨v4,zt4,rfl⟩:=hI.v mm4 (hd 4)
      obtain ⟨v5,zt5,rfl⟩:=hI.v mm5 (hd 5)
      go_simp
      exact hK _ _ (hI.y mm6 rfl)
     ·obtain ⟨v6,zt6,rfl⟩:=hI.v mm6 (hd 6)
      have cc0:=hI.cell o2 oM nom
      go_simp
      exact hK _ _ (hI.y mm7 rfl)
     ·have zt : T[7]? = some (.pointer (some ⟨w.heap.size + 1,0,none⟩)):=hI.keep 7 sI sI
      have cc0:=hI.cell d1 oM nom
      have cc1:=hI.cell d2 oM nom
      go_simp
      exact hK _ _ (hI.y mm8 rfl)
    intro T w8 hI
    obtain ⟨vb0,q0,rfl⟩:=hI.v mm0 rfl
    obtain ⟨vb1,q1,rfl⟩:=hI.v mm1 rfl
    obtain ⟨vb2,q2,rfl⟩:=hI.v mm2 rfl
    obtain ⟨vb3,q3,rfl⟩:=hI.v mm3 rfl
    obtain ⟨vb4,q4,rfl⟩:=hI.v mm4 rfl
    obtain ⟨vb5,q5,rfl⟩:=hI.v mm5 rfl
    obtain ⟨vb6,q6,rfl⟩:=hI.v mm6 rfl
    obtain ⟨vb7,q7,rfl⟩:=hI.v mm7 rfl
    obtain ⟨vb8,q8,rfl⟩:=hI.v mm8 rfl
    have hT:=tmps_set [(18,.slice (some ⟨g,0,none⟩) n tc),(19,.int .i64 i),(20,.pointer (some ⟨g,i,none⟩)),(21,.slice (some ⟨bi,0,none⟩) Ct Ct),(22,.slice (some ⟨g,0,none⟩) n tc),(23,.int .i64 j),(24,.pointer (some ⟨g,j,none⟩)),(25,.slice (some ⟨bj,0,none⟩) Ct Ct),(26,.agg #[.bool kn,.slice ka kl kc])]
     (fun j hj=>hI.keep j (by simp only [List.forall_mem_cons] at hj ⊢; simp [hj]) (by simp only [List.forall_mem_cons] at hj ⊢; simp [hj]))
     (by simp only [List.forall_mem_cons]; simp [q0,q1,q2,q3,q4,q5,q6,q7,q8]) hI.size
    have hlw8:=hI.lext
    have hbw8:=hI.bel (wr.heap.size) oM nom
    have holdw8:=hI.old
    clear hI
    simp only [List.foldl_cons,List.foldl_nil,List.setIfInBounds_toArray,List.set_cons_zero,List.set_cons_succ,ptr] at hT
    subst hT
    clear q0 q1 q2 q3 q4 q5 q6 q7 q8
    simp only [List.drop_succ_cons,List.drop_zero]
    have hs8:=ht.below hbw8
    go_wp2_with fail
    refine (addRows hs8 hi hj hij hbi hbj _ k (hk.ext (lx hbw8)) hCt HT.out HK.out).mono ?_
    rintro e w9 ⟨⟨u,rfl⟩,ho,hs9⟩
    go_wp2
    go_roundw
    case measure=>simp [intOf]
    have hsz:=hb0.size
    have hbs2 : w.heap.size ≠ bi:=by have:=hltbst bi hmi; omega
    have hbs3 : w.heap.size + 1 ≠ bi:=by have:=hltbst bi hmi; omega
    have hri8:=hri.below hbw8
    have hoo:=(Only.of [bi] hbw8).trans ho
    refine ⟨2,by omega,by simp,hb0.trans hoo.bel,hx0.trans hoo.lext,fun b hb n1 n2 n3=>(hoo.old b oM (by simp; rintro rfl; exact n2 hmi)).trans (hold b hb n1 n2 n3),(hoo.old _ bx.lt (by simpa using hbs2)).trans bx,(hoo.old _ bk.lt (by simpa using hbs3)).trans bk,hk.ext hoo.lext,?_,?_,?_⟩
    ·rw [if_neg oM]; exact (hs.below hbw8).only ho (fun hh=>fst_ _ hh hmi) hri8
    ·rw [if_pos rfl]; exact hs9
    ·exact (hi_.below hbw8).only ho (fun hh=>fti _ hmi hh) hri8
   ·obtain rfl : m = 2:=by omega
    rw [if_neg oM] at hs
    rw [if_pos rfl] at ht
    obtain ⟨g,bi,rfl,hg,hbi,hbi2,o1,-⟩:=RowsO.at_ hi_ (i:=i) (by rw [hi_.len]; exact hi)
    obtain ⟨g',bj,eg,hg',hbj,hbj2,o2,-⟩:=RowsO.at_ hi_ (i:=j) (by rw [hi_.len]; exact hj)
    obtain rfl : g = g':=by injection eg with eg; injection eg
    have hmj:=List.mem_of_getElem? hbj
    obtain ⟨rj,hrj⟩:=hi_.blk hmj
    obtain ⟨c1,c2,c3,c4,c5,c6⟩:=bx.three
    have lx0:=bx.lt
    have hKn : HidS (Sm (-k)):=⟨HK.out.mono (by rw [Int.natAbs_neg]; exact Nat.le_refl _)⟩
    go_upto_region 6 with (fail)
    refine wp_region_headed 12 rfl (RI wr (wr.heap.size) _ 45
      [⟨0,29,fun _ v=>v = .pointer (some ⟨w.heap.size,2,none⟩)⟩,⟨1,30,fun _ v=>v = .slice (some ⟨g,0,none⟩) n ic⟩,⟨2,31,fun _ v=>v = .int .i64 j⟩,⟨3,32,fun _ v=>v = .pointer (some ⟨g,j,none⟩)⟩,⟨4,33,fun _ v=>v = .slice (some ⟨bj,0,none⟩) Ct Ct⟩,⟨5,34,fun _ v=>v = .pointer (some ⟨w.heap.size,2,none⟩)⟩,⟨6,35,fun _ v=>v = .slice (some ⟨g,0,none⟩) n ic⟩,⟨7,36,fun _ v=>v = .int .i64 i⟩,⟨8,37,fun _ v=>v = .pointer (some ⟨g,i,none⟩)⟩,⟨9,38,fun _ v=>v = .slice (some ⟨bi,0,none⟩) Ct Ct⟩,⟨10,39,fun _ v=>v = .agg #[.bool kn,.slice ka kl kc]⟩,⟨11,40,fun w v=>IntV w v (-k)⟩]
      [] []) kR RI.start ?fin3 ?steps3
    case steps3=>
     refine ⟨?_,?_,?_,?_,?_,?_,?_,?_,?_,?_,?_,?_,trivial⟩ <;> (intro L T wS hL hd hcl hI K hK; try refine step_wanted rfl ?_)
     ·have zt : T[4]? = some (.pointer (some ⟨w.heap.size,0,none⟩)):=hI.keep 4 sI sI
      go_simp
      exact hK _ _ (hI.y mm0 rfl)
     ·obtain ⟨v0,zt0,rfl⟩:=hI.v mm0 (hd 0)
      have cc0:=hI.cell c3 oM nom
      go_simp
      exact hK _ _ (hI.y mm1 rfl)
     ·have zt : T[2]? = some (.int .i64 j):=hI.keep 2 sI sI
      go_simp
      exact hK _ _ (hI.y mm2 rfl)
     ·obtain ⟨v1,zt1,rfl⟩:=hI.v mm1 (hd 1)
      obtain ⟨v2,zt2,rfl⟩:=hI.v mm2 (hd 2)
      go_simp
      exact hK _ _ (hI.y mm3 rfl)
     ·obtain ⟨v3,zt3,rfl⟩:=hI.v mm3 (hd 3)
      have cc0:=hI.cell o2 oM nom
      go_simp
      exact hK _ _ (hI.y mm4 rfl)
     ·have zt : T[4]? = some (.pointer (some ⟨w.heap.size,0,none⟩)):=hI.keep 4 sI sI
      go_simp
      exact hK _ _ (hI.y mm5 rfl)
     ·obtain ⟨v5,zt5,rfl⟩:=hI.v mm5 (hd 5)
      have cc0:=hI.cell c3 oM nom
      go_simp
      exact hK _ _ (hI.y mm6 rfl)
     ·have zt : T[1]? = some (.int .i64 i):=hI.keep 1 sI sI
      go_simp
      exact hK _ _ (hI.y mm7 rfl)
     ·obtain ⟨v6,zt6,rfl⟩:=hI.v mm6 (hd 6)
      obtain ⟨v7,zt7,rfl⟩:=hI.v mm7 (hd 7)
      go_simp
      exact hK _ _ (hI.y mm8 rfl)
     ·obtain ⟨v8,zt8,rfl⟩:=hI.v mm8 (hd 8)
      have cc0:=hI.cell o1 oM nom
      go_simp
      exact hK _ _ (hI.y mm9 rfl)
     ·have zt : T[7]? = some (.pointer (some ⟨w.heap.size + 1,0,none⟩)):=hI.keep 7 sI sI
      have cc0:=hI.cell d1 oM nom
      have cc1:=hI.cell d2 oM nom
      go_simp
      exact hK _ _ (hI.y mm10 rfl)
     ·obtain ⟨v10,zt10,rfl⟩:=hI.v mm10 (hd 10)
      go_simp
      refine (neg_any _ k _ (hk.ext hI.lext).weak HK.out).mono ?_
      rintro e wa ⟨v,rfl,hv,hba⟩
      exact hK _ _ ((hI.world hba).y mm11 hv)
    intro T w8 hI
    obtain ⟨vc0,q0,rfl⟩:=hI.v mm0 rfl
    obtain ⟨vc1,q1,rfl⟩:=hI.v mm1 rfl
    obtain ⟨vc2,q2,rfl⟩:=hI.v mm2 rfl
    obtain ⟨vc3,q3,rfl⟩:=hI.v mm3 rfl
    obtain ⟨vc4,q4,rfl⟩:=hI.v mm4 rfl
    obtain ⟨vc5,q5,rfl⟩:=hI.v mm5 rfl
    obtain ⟨vc6,q6,rfl⟩:=hI.v mm6 rfl
    obtain ⟨vc7,q7,rfl⟩:=hI.v mm7 rfl
    obtain ⟨vc8,q8,rfl⟩:=hI.v mm8 rfl
    obtain ⟨vc9,q9,rfl⟩:=hI.v mm9 rfl
    obtain ⟨vc10,q10,rfl⟩:=hI.v mm10 rfl
    obtain ⟨vc11,q11,hc11⟩:=hI.v mm11 rfl
    replace hc11 : IntV w8 vc11 (-k):=hc11
    have hT:=tmps_set [(29,.pointer (some ⟨w.heap.size,2,none⟩)),(30,.slice (some ⟨g,0,none⟩) n ic),(31,.int .i64 j),(32,.pointer (some ⟨g,j,none⟩)),(33,.slice (some ⟨bj,0,none⟩) Ct Ct),(34,.pointer (some ⟨w.heap.size,2,none⟩)),(35,.slice (some ⟨g,0,none⟩) n ic),(36,.int .i64 i),(37,.pointer (some ⟨g,i,none⟩)),(38,.slice (some ⟨bi,0,none⟩) Ct Ct),(39,.agg #[.bool kn,.slice ka kl kc]),(40,vc11)]
     (fun j hj=>hI.keep j (by simp only [List.forall_mem_cons] at hj ⊢; simp [hj]) (by simp only [List.forall_mem_cons] at hj ⊢; simp [hj]))
     (by simp only [List.forall_mem_cons]; simp [q0,q1,q2,q3,q4,q5,q6,q7,q8,q9,q10,q11]) hI.size
    have hlw8:=hI.lext
    have hbw8:=hI.bel (wr.heap.size) oM nom
    have holdw8:=hI.old
    clear hI
    simp only [List.foldl_cons,List.foldl_nil,List.setIfInBounds_toArray,List.set_cons_zero,List.set_cons_succ,ptr] at hT
    subst hT
    clear q0 q1 q2 q3 q4 q5 q6 q7 q8 q9 q10 q11
    simp only [List.drop_succ_cons,List.drop_zero]
    have hs8:=hi_.below hbw8
    go_wp2_with fail
    refine (addRows hs8 hj hi (Ne.symm hij) hbj hbi _ (-k) hc11 hCt HI.out hKn.out).mono ?_
    rintro e w9 ⟨⟨u,rfl⟩,ho,hs9⟩
    have hsz:=hb0.size
    have hrj8:=hrj.below hbw8
    have hoo:=(Only.of [bj] hbw8).trans ho
    go_wp2
    refine bodyPost_end (results_none rfl _ _ _) rfl ⟨⟨_,rfl⟩,hb0.trans hoo.bel,hx0.trans hoo.lext,fun b hb n1 n2 n3=>(hoo.old b oM (by simp; rintro rfl; exact n3 hmj)).trans (hold b hb n1 n2 n3),?_,?_,hs9,fst_,fsi,fti,GST.out,GSI.out,GTI.out⟩
    ·exact (hs.below hbw8).only ho (fun hh=>fsi _ hh hmj) hrj8
    ·exact (ht.below hbw8).only ho (fun hh=>fti _ hh hmj) hrj8
def swp (i j : Nat) (k : Nat) : Nat:=if k = i then j else if k = j then i else k
theorem swp_swp (i j k : Nat) : swp i j (swp i j k) = k:=by
 unfold swp
 by_cases h1 : k = i
 ·rw [if_pos h1]
  by_cases h2 : j = i
  ·rw [if_pos h2]; omega
  ·rw [if_neg h2,if_pos rfl]; omega
 ·rw [if_neg h1]
  by_cases h2 : k = j
  ·rw [if_pos h2,if_pos rfl]; omega
  ·rw [if_neg h2,if_neg h1,if_neg h2]
theorem get_swap {α : Type} {l : List α} {i j : Nat} {x y : α} (hx : l[i]? = some x) (hy : l[j]? = some y) (k : Nat) : ((l.set i y).set j x)[k]? = l[swp i j k]?:=by
 have hi:=(List.getElem?_eq_some_iff.1 hx).1
 have hj:=(List.getElem?_eq_some_iff.1 hy).1
 unfold swp
 by_cases h2 : k = j
 ·subst h2
  rw [List.getElem?_set_self (by simpa using hj)]
  by_cases h1 : k = i
  ·subst h1
   rw [if_pos rfl]
   exact hx.symm
  ·rw [if_neg h1,if_pos rfl]; exact hx.symm
 ·rw [List.getElem?_set_ne (Ne.symm h2)]
  by_cases h1 : k = i
  ·subst h1
   rw [List.getElem?_set_self hi,if_pos rfl]
   exact hy.symm
  ·rw [List.getElem?_set_ne (Ne.symm h1),if_neg h1,if_neg h2]
theorem nodup_swap {α : Type} {l : List α} {i j : Nat} {x y : α} (hn : l.Nodup) (hx : l[i]? = some x) (hy : l[j]? = some y) : ((l.set i y).set j x).Nodup:=by
 show List.Pairwise _ _
 rw [List.pairwise_iff_getElem]
 intro a b ha hb hab he0
 have he : ((l.set i y).set j x)[a]? = ((l.set i y).set j x)[b]?:=by rw [List.getElem?_eq_getElem ha,List.getElem?_eq_getElem hb,he0]
 rw [get_swap hx hy,get_swap hx hy] at he
 have hi:=(List.getElem?_eq_some_iff.1 hx).1
 have hj:=(List.getElem?_eq_some_iff.1 hy).1
 have hlen : ((l.set i y).set j x).length = l.length:=by simp
 rw [hlen] at hb ha
 have hbnd : ∀k,k < l.length->swp i j k < l.length:=by
  intro k hk
  unfold swp
  split
  ·exact hj
  ·split
   ·exact hi
   ·exact hk
 have h1:=hbnd a oM
 have h2:=hbnd b hb
 rw [List.getElem?_eq_getElem h1,List.getElem?_eq_getElem h2] at he
 injection he with he
 have h3:=(List.getElem_inj hn).1 he
 have h4:=congrArg (swp i j) h3
 rw [swp_swp,swp_swp] at h4
 omega
theorem RowsO.swap {w : World} {base g n cap C : Nat} {bs : List Nat} {M : List (List Int)} (h : RowsO w base (.slice (some ⟨g,0,none⟩) n cap) C bs M) {i j bi bj : Nat} {ri rj : List Int} (hi : bs[i]? = some bi) (hj : bs[j]? = some bj) (hri : M[i]? = some ri) (hrj : M[j]? = some rj) :
  RowsO ((w.setCell ⟨g,i,none⟩ (.slice (some ⟨bj,0,none⟩) C C)).setCell ⟨g,j,none⟩ (.slice (some ⟨bi,0,none⟩) C C)) base (.slice (some ⟨g,0,none⟩) n cap) C ((bs.set i bj).set j bi) ((M.set i rj).set j ri) ∧
   LExt w ((w.setCell ⟨g,i,none⟩ (.slice (some ⟨bj,0,none⟩) C C)).setCell ⟨g,j,none⟩ (.slice (some ⟨bi,0,none⟩) C C)):=by
 have hib:=(List.getElem?_eq_some_iff.1 hi).1
 have hjb:=(List.getElem?_eq_some_iff.1 hj).1
 rcases h.own.2 with ⟨e,h0⟩ | ⟨g',cap',cur,e,e2,e3,e4,e5,e6,e7⟩
 ·omega
 ·injection e with e8 e9 e10
  injection e8 with e8
  injection e8 with e8
  subst e8
  subst e9
  subst e10
  have hB : Blk w g tR cur:=e3
  have hx : LExt w ((w.setCell ⟨g,i,none⟩ (.slice (some ⟨bj,0,none⟩) C C)).setCell ⟨g,j,none⟩ (.slice (some ⟨bi,0,none⟩) C C)):=(hB.lext dE _ _).trans ((hB.set_ _ _).lext dE _ _)
  refine ⟨⟨⟨by simp [rowPtrs],.inr ⟨g,cap,_,by simp,e2,(hB.set_ _ _).set_ _ _,by simpa using e4,e5,by simpa using e6,?_⟩⟩,by simp [h.len],?_,nodup_swap h.nodup hi hj,h.cb⟩,hx⟩
  ·rw [Array.toList_setIfInBounds,Array.toList_setIfInBounds]
   simp only [List.length_set]
   rw [List.take_set,List.take_set,e7]
   simp [rowPtrs,List.map_set]
  ·intro k b r hk hr
   rw [get_swap hi hj] at hk
   rw [get_swap hri hrj] at hr
   obtain ⟨f1,f2,f3⟩:=h.row _ b r hk hr
   refine ⟨f1,f2,f3.old (set2_old w g _ _ b _ _ ?_) hx⟩
   intro hh
   have:=own_ne h.own f3
   exact this (by rw [hh]; rfl)
theorem genM_swap {R C : Nat} {F : Nat->Nat->Int} {i j : Nat} (hi : i < R) (hj : j < R) :
  ((genM R C F).set i (genV C (F j))).set j (genV C (F i)) = genM R C (fun a b=>F (swp i j a) b):=by
 apply List.ext_getElem?
 intro k
 have e1 : (genM R C F)[i]? = some (genV C (F i)):=genM_row R C F hi
 have e2 : (genM R C F)[j]? = some (genV C (F j)):=genM_row R C F hj
 rw [get_swap e1 e2]
 rcases Nat.lt_or_ge k R with h | h
 ·have h2 : swp i j k < R:=by
   unfold swp
   split
   ·exact hj
   ·split
    ·exact hi
    ·exact h
  rw [genM_row R C F h2,genM_row R C _ h]
 ·have h2 : swp i j k = k:=by
   unfold swp
   rw [if_neg oM,if_neg oM]
  rw [h2,List.getElem?_eq_none (by simp [genM]; exact h),List.getElem?_eq_none (by simp [genM]; exact h)]
def swpL (bs : List Nat) (i j : Nat) : List Nat:=(bs.set i (bs.getD j 0)).set j (bs.getD i 0)
theorem mem_swpL {bs : List Nat} {i j : Nat} (hi : i < bs.length) (hj : j < bs.length) {b : Nat} (h : b ∈ swpL bs i j) : b ∈ bs:=by
 have e1 : bs[i]? = some bs[i]:=List.getElem?_eq_getElem hi
 have e2 : bs[j]? = some bs[j]:=List.getElem?_eq_getElem hj
 unfold swpL at h
 rw [getD_of e1,getD_of e2] at h
 obtain ⟨k,hk,e⟩:=List.getElem_of_mem h
 have h3 : ((bs.set i bs[j]).set j bs[i])[k]? = some b:=by rw [List.getElem?_eq_getElem hk,e]
 rw [get_swap e1 e2] at h3
 exact List.mem_of_getElem? h3
theorem Wri.swap {w : World} {g n cap R C : Nat} {bs : List Nat} {F : Nat->Nat->Int} (h : Wri w (.slice (some ⟨g,0,none⟩) n cap) R C bs F) {i j bi bj : Nat} (hi : i < R) (hj : j < R) (hbi : bs[i]? = some bi) (hbj : bs[j]? = some bj) :
  Wri ((w.setCell ⟨g,i,none⟩ (.slice (some ⟨bj,0,none⟩) C C)).setCell ⟨g,j,none⟩ (.slice (some ⟨bi,0,none⟩) C C)) (.slice (some ⟨g,0,none⟩) n cap) R C (swpL bs i j) (fun a b=>F (swp i j a) b) ∧
   LExt w ((w.setCell ⟨g,i,none⟩ (.slice (some ⟨bj,0,none⟩) C C)).setCell ⟨g,j,none⟩ (.slice (some ⟨bi,0,none⟩) C C)):=by
 have hs:=RowsO.swap h hbi hbj (genM_row R C F hi) (genM_row R C F hj)
 refine ⟨?_,hs.2⟩
 unfold Wri swpL
 rw [getD_of hbi,getD_of hbj,<-genM_swap hi hj]
 exact hs.1
def swpF (F : Nat->Nat->Int) (i j : Nat) : Nat->Nat->Int:=fun a b=>F (swp i j a) b
def negF (F : Nat->Nat->Int) (i : Nat) : Nat->Nat->Int:=fun a b=>if a = i then -(F a b) else F a b
def trF (F : Nat->Nat->Int) : Nat->Nat->Int:=fun a b=>F b a
def blendF (F : Nat->Nat->Int) (i j : Nat) (m0 m1 m2 m3 : Int) : Nat->Nat->Int:=fun a b=>if a = i then m0 * F i b + m1 * F j b else if a = j then m2 * F i b + m3 * F j b else F a b
structure Bst where
 s : Nat->Nat->Int
 t : Nat->Nat->Int
 i : Nat->Nat->Int
def Bst.add (x : Bst) (i j : Nat) (k : Int) : Bst:=⟨addF x.s i j k,addF x.t i j k,addF x.i j i (-k)⟩
def Bst.swap (x : Bst) (i j : Nat) : Bst:=⟨swpF x.s i j,swpF x.t i j,swpF x.i i j⟩
def Bst.neg (x : Bst) (i : Nat) : Bst:=⟨negF x.s i,negF x.t i,negF x.i i⟩
def okF (B R C : Nat) (F : Nat->Nat->Int) : Prop:=∀a,a < R->∀b,b < C->(F a b).natAbs < B
instance (B R C : Nat) (F : Nat->Nat->Int) : Decidable (okF B R C F):=by unfold okF; infer_instance
def okB (B n Cs Ct : Nat) (x : Bst) : Prop:=okF B n Cs x.s/\okF B n Ct x.t/\okF B n Ct x.i
instance (B n Cs Ct : Nat) (x : Bst) : Decidable (okB B n Cs Ct x):=by unfold okB; infer_instance
def okAdd (B n Cs Ct : Nat) (x : Bst) (i j : Nat) (k : Int) : Prop:=
 k.natAbs < B/\(∀t,t < Cs->(k * x.s j t).natAbs < B)/\(∀t,t < Ct->(k * x.t j t).natAbs < B/\(k * x.i i t).natAbs < B)/\okB B n Cs Ct (x.add i j k)
instance (B n Cs Ct : Nat) (x : Bst) (i j : Nat) (k : Int) : Decidable (okAdd B n Cs Ct x i j k):=by unfold okAdd; infer_instance
def lead (C : Nat) (F : Nat->Nat->Int) (i : Nat) : Int:=leadGo 0 (genV C (F i))
def adv (L : Nat->Int) (c : Int) : Nat->Nat->Nat
 | 0,k=>k
 | m + 1,k=>if L k < c then adv L c m (k + 1) else k
def rotB (k : Nat) : Nat->Bst->Bst
 | 0,x=>x
 | m + 1,x=>rotB k m (x.swap (k + m + 1) (k + m))
def takeGo (B n Cs Ct m rank : Nat) : Nat->Nat->Bst->Option (Bst × Bool)
 | 0,_,_=>none
 | f + 1,k,x=>
  if lead Cs x.s m < 0 then some (x,false)
  else if adv (lead Cs x.s) (lead Cs x.s m) (rank - k) k < rank/\lead Cs x.s (adv (lead Cs x.s) (lead Cs x.s m) (rank - k) k) = lead Cs x.s m then
   if okAdd B n Cs Ct x m (adv (lead Cs x.s) (lead Cs x.s m) (rank - k) k) (-(x.s m (lead Cs x.s m).toNat / x.s (adv (lead Cs x.s) (lead Cs x.s m) (rank - k) k) (lead Cs x.s m).toNat)) then
    takeGo B n Cs Ct m rank f (adv (lead Cs x.s) (lead Cs x.s m) (rank - k) k)
     (if x.s m (lead Cs x.s m).toNat % x.s (adv (lead Cs x.s) (lead Cs x.s m) (rank - k) k) (lead Cs x.s m).toNat = 0 then x.add m (adv (lead Cs x.s) (lead Cs x.s m) (rank - k) k) (-(x.s m (lead Cs x.s m).toNat / x.s (adv (lead Cs x.s) (lead Cs x.s m) (rank - k) k) (lead Cs x.s m).toNat))
      else (x.add m (adv (lead Cs x.s) (lead Cs x.s m) (rank - k) k) (-(x.s m (lead Cs x.s m).toNat / x.s (adv (lead Cs x.s) (lead Cs x.s m) (rank - k) k) (lead Cs x.s m).toNat))).swap m (adv (lead Cs x.s) (lead Cs x.s m) (rank - k) k))
   else none
  else some (rotB (adv (lead Cs x.s) (lead Cs x.s m) (rank - k) k) (rank - adv (lead Cs x.s) (lead Cs x.s m) (rank - k) k) ((if x.s m (lead Cs x.s m).toNat < 0 then x.neg m else x).swap m rank),true)
def redJ (B n Cs Ct : Nat) (cols : Nat->Int) (i : Nat) : Nat->Nat->Bst->Option Bst
 | 0,_,x=>some x
 | m + 1,j,x=>
  if cols j < 0 then none
  else if x.s i (cols j).toNat = 0 then redJ B n Cs Ct cols i m (j + 1) x
  else if x.s j (cols j).toNat = 0 then none
  else if x.s i (cols j).toNat / x.s j (cols j).toNat = 0 then redJ B n Cs Ct cols i m (j + 1) x
  else if okAdd B n Cs Ct x i j (-(x.s i (cols j).toNat / x.s j (cols j).toNat)) then redJ B n Cs Ct cols i m (j + 1) (x.add i j (-(x.s i (cols j).toNat / x.s j (cols j).toNat)))
  else none
def redI (B n Cs Ct : Nat) (cols : Nat->Int) (rank : Nat) : Nat->Bst->Option Bst
 | 0,x=>some x
 | i + 1,x=>(redJ B n Cs Ct cols i (rank - (i + 1)) (i + 1) x).bind (redI B n Cs Ct cols rank i)
def reduceB (B n Cs Ct rank : Nat) (x : Bst) : Option Bst:=redI B n Cs Ct (lead Cs x.s) rank rank x
def echGo (B n Cs Ct f : Nat) : Nat->Nat->Nat->Bst->Option Bst
 | 0,_,_,x=>some x
 | l + 1,m,rank,x=>
  (takeGo B n Cs Ct m rank f 0 x).bind fun r=>(reduceB B n Cs Ct (if r.2 then rank + 1 else rank) r.1).bind fun y=>echGo B n Cs Ct f l (m + 1) (if r.2 then rank + 1 else rank) y
def echB (B n Cs Ct f : Nat) (x : Bst) : Option Bst:=echGo B n Cs Ct f n 0 0 x
structure W5 where
 s : Nat->Nat->Int
 u : Nat->Nat->Int
 v : Nat->Nat->Int
 w : Nat->Nat->Int
 x : Nat->Nat->Int
def roundW (B R C Cu Cw f : Nat) (z : W5) : Option W5:=
 (echB B R C Cu f ⟨z.s,z.u,z.v⟩).bind fun a=>(echB B C R Cw f ⟨trF a.s,z.w,z.x⟩).bind fun b=>some ⟨trF b.s,a.t,a.i,b.t,b.i⟩
def diagF (R C : Nat) (F : Nat->Nat->Int) : Prop:=∀a,a < R->∀b,b < C->a ≠ b->F a b = 0
instance (R C : Nat) (F : Nat->Nat->Int) : Decidable (diagF R C F):=by unfold diagF; infer_instance
def runGo (B R C Cu Cw f : Nat) : Nat->W5->Option W5
 | 0,_=>none
 | r + 1,z=>(roundW B R C Cu Cw f z).bind fun y=>if diagF R C y.s then some y else runGo B R C Cu Cw f r y
def divS (F : Nat->Nat->Int) (i j : Nat) : Nat->Nat->Int:=fun a b=>if a = j/\b = j then F i i * (F j j / ((Int.gcd (F i i) (F j j) : Nat) : Int)) else if a = i/\b = i then ((Int.gcd (F i i) (F j j) : Nat) : Int) else F a b
def divW (z : W5) (i j : Nat) (s t : Int) : W5:=
 ⟨divS z.s i j,blendF z.u i j s t (-(z.s j j / ((Int.gcd (z.s i i) (z.s j j) : Nat) : Int))) (z.s i i / ((Int.gcd (z.s i i) (z.s j j) : Nat) : Int)),
  blendF z.v i j (z.s i i / ((Int.gcd (z.s i i) (z.s j j) : Nat) : Int)) (z.s j j / ((Int.gcd (z.s i i) (z.s j j) : Nat) : Int)) (-t) s,
  blendF z.w i j 1 1 (-(t * (z.s j j / ((Int.gcd (z.s i i) (z.s j j) : Nat) : Int)))) (1 - t * (z.s j j / ((Int.gcd (z.s i i) (z.s j j) : Nat) : Int))),
  blendF z.x i j (1 - t * (z.s j j / ((Int.gcd (z.s i i) (z.s j j) : Nat) : Int))) (t * (z.s j j / ((Int.gcd (z.s i i) (z.s j j) : Nat) : Int))) (-1) 1⟩
def Bez (x y s t : Int) : Prop:=s * x + t * y = ((Int.gcd x y : Nat) : Int)/\s.natAbs<=max 1 y.natAbs/\t.natAbs<=max 1 x.natAbs
inductive DivR (n : Nat) : W5->W5->Prop
 | refl (z : W5) : DivR n z z
 | step (z y : W5) (i j : Nat) (s t : Int) : DivR n z y->i < j->j < n->¬ y.s i i ∣ y.s j j->Bez (y.s i i) (y.s j j) s t->DivR n z (divW y i j s t)
def divJ (i : Nat) : Nat->Nat->(Nat->Nat->Int)->(Nat->Nat->Int)
 | 0,_,F=>F
 | m + 1,j,F=>divJ i m (j + 1) (if F i i ∣ F j j then F else divS F i j)
def divI : Nat->Nat->(Nat->Nat->Int)->(Nat->Nat->Int)
 | 0,_,F=>F
 | m + 1,i,F=>divI m (i + 1) (divJ i m (i + 1) F)
example : (runGo 1000000 2 1 2 1 20 5 ⟨fun a _=>if a = 0 then 4 else 6,fun a b=>if a = b then 1 else 0,fun a b=>if a = b then 1 else 0,fun _ _=>1,fun _ _=>1⟩).map (fun z=>(z.s 0 0,z.s 1 0,z.u 0 0,z.u 0 1,z.u 1 0,z.u 1 1)) = some (2,0,-1,1,3,-2):=by decide
end Go.Proofs.YtnocgagoaldfnaaGreat
