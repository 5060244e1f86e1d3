/- matrix.Mul. matrix.Equal, for matrices of the same sizes. -/
import Derived.Test.YtnocgagoaldfnaaGreatD40
set_option linter.unusedVariables false
set_option linter.unusedSimpArgs false
set_option linter.unusedSectionVars false
namespace Go.Proofs.YtnocgagoaldfnaaGreat
open Go.RowKit
theorem mulD_idle (w : World) :
  CallsD Tryz.prog 100 #[] .returning w fun e u' w'=>e = .returned (.tuple #[])/\u' = .returning/\w' = w:=by
 refine callsD_of_wpS Tryz.func100 rfl fun c₀ cs hu=>?_
 apply wpS_region
 simp [wpOpsS,go_sem,recoverD,hu,Tryz.ntmps100,bodyPostS,results,Tryz.results100]
 cases c₀
 simp_all
def RowsNew (R C : Nat) : World->Value->Prop:=fun w v=>∃g,v = .slice (some ⟨g,0,none⟩) R R/\Blk w g tR (partRows R C [])
def MatNew : World->Value->Prop:=fun w v=>∃g,v = .pointer (some ⟨g,0,none⟩)/\Blk w g tM #[.int .i64 0,.int .i64 0,.slice none 0 0]
def AtLeast (n : Nat) (P : World->Value->Prop) : World->Value->Prop:=fun w v=>P w v/\∀b o,(v = .pointer (some ⟨b,o,none⟩) ∨ ∃l c,v = .slice (some ⟨b,o,none⟩) l c)->n<=b
theorem lastsB_rowsNew (n R C : Nat) : LastsB (AtLeast n (RowsNew R C)):=fun _ _ _ x ⟨⟨g,h1,h2⟩,h3⟩=>⟨⟨g,h1,h2.below x⟩,h3⟩
theorem lastsB_matNew (n : Nat) : LastsB (AtLeast n MatNew):=fun _ _ _ x ⟨⟨g,h1,h2⟩,h3⟩=>⟨⟨g,h1,h2.below x⟩,h3⟩
def MatHead (n R C : Nat) : World->Value->Prop:=fun w v=>∃s,v = .agg #[.int .i64 R,.int .i64 C,s]/\AtLeast n (RowsNew R C) w s
theorem lastsB_matHead (n R C : Nat) : LastsB (MatHead n R C):=fun w w' _ x ⟨s,h1,h2⟩=>⟨s,h1,lastsB_rowsNew n R C w w' s x h2⟩
theorem MulSm.times {A B : List (List Int)} {R m C : Nat} (h : MulSm A B R m C) {i : Nat} (hi : i < R) {zs : List Int} (hz : A[i]? = some zs) : TimesSm zs B m C:=by
 intro j hj t ht
 have h1:=h i hi j hj t ht
 have he : ∀s,ent A i s = zs.getD s 0:=fun s=>by unfold ent; rw [getD_of hz]
 unfold mulf at h1
 simp only [he] at h1
 exact h1
set_option maxHeartbeats 4000000 in
set_option maxRecDepth 20000 in
theorem mmul_any (v1 v2 : Value) (R m C : Nat) (M1 M2 : List (List Int)) (w : World) (h1 : MatV w v1 R m M1) (h2 : MatV w v2 m C M2) (hF1 : Fits R m M1) (hF2 : Fits m C M2) (hR : R<=1000000) (hm : m<=1000000) (hC : C<=1000000) (hS : MulSm M1 M2 R m C) :
  Calls Tryz.prog 68 #[v1,v2] w (RetMT w R C (genM R C (mulf M1 M2 m))):=by
 have hmf : ∀(fn : Fn) (first cap : Array Value) (w : World),(Instr.makeFunc fn first cap).run Tryz.prog w = .ok (.func fn first cap) w:=fun _ _ _ _=>rfl
 have H1:=HidS.mk h1
 have H2:=HidS.mk h2
 obtain ⟨A1,rfl,h1⟩:=h1
 obtain ⟨A2,rfl,h2⟩:=h2
 obtain ⟨ao,n,cap,rfl,e2,e3,e4,-⟩:=id h1
 obtain ⟨bo,q,bcap,rfl,g2,g3,g4,-⟩:=id h2
 obtain rfl : R = n:=by rw [<-e2,hF1.1]
 obtain rfl : m = q:=by rw [<-g2,hF2.1]
 have hdv : decide (ValidM R m M1/\ValidM m C M2) = true:=decide_eq_true ⟨hF1.valid,hF2.valid⟩
 have HS:=HidS.mk hS
 have HF1:=HidS.mk hF1
 have HF2:=HidS.mk hF2
 obtain ⟨G,hG⟩ : ∃G : Nat->Nat->Int,mulf M1 M2 m = G:=⟨_,rfl⟩
 rw [hG]
 have HG:=HidS.mk hG
 have hmk:=fun W=>mkR (R : Int) R rfl oM W
 clear hF1 hF2 hS e2 g2 hG
 have DV:=HidS.mk hdv
 clear hdv
 go_enter_defers Tryz.func68,Tryz.ntmps68
 go_upto_region 2 with (fail)
 refine wp_world ?_
 intro W0 hW0
 obtain ⟨hB0,bx1,bx2,br,hs0⟩:=world3 hW0
 obtain ⟨c1,c2,c3,c4,c5,c6⟩:=bx1.three
 obtain ⟨d1,d2,d3,d4,d5,d6⟩:=bx2.three
 clear hW0
 go_wp2_with fail
 refine (valid2_any _ 2 R m m C _ _ M1 M2 _ (Blk.new _ _ _) (Nat.le_refl _) oM ((H1.out.below hB0).below ((Below.refl _ _).alloc (Nat.le_refl _) _)) ((H2.out.below hB0).below ((Below.refl _ _).alloc (Nat.le_refl _) _))).mono ?_
 rintro e w1 ⟨rfl,hb1⟩
 rw [DV.out]
 have hb01 : Below W0.heap.size W0 w1:=nx ((Below.refl _ _).alloc (Nat.le_refl _) _) hb1
 have hB:=nx hB0 hb01
 have bx1:=bx1.below hb01
 have bx2:=bx2.below hb01
 have br:=br.below hb01
 have hsz1:=hb01.size
 clear c1 c2 c3 c4 c5 c6 d1 d2 d3 d4 d5 d6
 obtain ⟨c1,c2,c3,c4,c5,c6⟩:=bx1.three
 obtain ⟨d1,d2,d3,d4,d5,d6⟩:=bx2.three
 have hl1:=lastsB_rowsNew w1.heap.size R C
 have hl2:=lastsB_matNew w1.heap.size
 have hl3:=lastsB_matHead w1.heap.size R C
 go_upto_region 4 with (fail)
 refine wp_region_headed 9 rfl (RV w1 _ [⟨0,22,fun _ v=>v = .pointer (some ⟨w.heap.size,0,none⟩)⟩,⟨1,23,fun _ v=>v = .int .i64 R⟩,⟨2,24,fun _ v=>v = .pointer (some ⟨w.heap.size + 1,1,none⟩)⟩,⟨3,25,fun _ v=>v = .int .i64 C⟩,⟨4,26,fun _ v=>v = .pointer (some ⟨w.heap.size,0,none⟩)⟩,⟨5,27,fun _ v=>v = .int .i64 R⟩,⟨6,28,AtLeast w1.heap.size (RowsNew R C)⟩,⟨7,29,MatHead w1.heap.size R C⟩,⟨8,6,AtLeast w1.heap.size MatNew⟩]) kR RV.start ?fin1 ?steps1
 case steps1=>
  refine ⟨?_,?_,?_,?_,?_,?_,?_,?_,?_,trivial⟩ <;> (intro L T wS hL hd hcl hI K hK; try refine step_wanted rfl ?_)
  ·have zt : T[2]? = some (.pointer (some ⟨w.heap.size,0,none⟩)):=hI.keep 2 sI
   go_simp
   exact hK _ _ (hI.y mm0 rfl)
  ·obtain ⟨_,zt0,rfl⟩:=hI.v mm0 (hd 0)
   have cc0:=hI.cell c1
   go_simp
   exact hK _ _ (hI.y mm1 rfl)
  ·have zt : T[3]? = some (.pointer (some ⟨w.heap.size + 1,0,none⟩)):=hI.keep 3 sI
   go_simp
   exact hK _ _ (hI.y mm2 rfl)
  ·obtain ⟨_,zt2,rfl⟩:=hI.v mm2 (hd 2)
   have cc0:=hI.cell d2
   go_simp
   exact hK _ _ (hI.y mm3 rfl)
  ·have zt : T[2]? = some (.pointer (some ⟨w.heap.size,0,none⟩)):=hI.keep 2 sI
   go_simp
   exact hK _ _ (hI.y mm4 rfl)
  ·obtain ⟨_,zt4,rfl⟩:=hI.v mm4 (hd 4)
   have cc0:=hI.cell c1
   go_simp
   exact hK _ _ (hI.y mm5 rfl)
  ·obtain ⟨_,zt5,rfl⟩:=hI.v mm5 (hd 5)
   have hmkS:=hmk wS
   go_simp
   exact hK _ _ ((hI.world ((Below.refl _ _).alloc (Nat.le_refl _) _)).y mm6 ⟨⟨_,rfl,by rw [<-partRows_start]; exact Blk.new _ _ _⟩,fun b o hh=>by have:=hI.bel.size; rcases hh with hh | ⟨l,c,hh⟩; cases hh; cases hh; exact this⟩)
  ·obtain ⟨_,zt1,rfl⟩:=hI.v mm1 (hd 1)
   obtain ⟨_,zt3,rfl⟩:=hI.v mm3 (hd 3)
   obtain ⟨v6,zt6,h6⟩:=hI.v mm6 (hd 6)
   have h6' : AtLeast w1.heap.size (RowsNew R C) wS v6:=h6
   obtain ⟨⟨g6,rfl,gb6⟩,gl6⟩:=id h6'
   go_simp
   exact hK _ _ (hI.y mm7 ⟨_,rfl,h6'⟩)
  ·go_simp
   exact hK _ _ ((hI.world ((Below.refl _ _).alloc (Nat.le_refl _) _)).y mm8 ⟨⟨_,rfl,Blk.new _ _ _⟩,fun b o hh=>by have:=hI.bel.size; rcases hh with hh | ⟨l,c,hh⟩; cases hh; exact this; cases hh⟩)
 intro T w2 hI
 obtain ⟨va0,q0,rfl⟩:=hI.v mm0 rfl
 obtain ⟨va1,q1,rfl⟩:=hI.v mm1 rfl
 obtain ⟨va2,q2,rfl⟩:=hI.v mm2 rfl
 obtain ⟨va3,q3,rfl⟩:=hI.v mm3 rfl
 obtain ⟨va4,q4,rfl⟩:=hI.v mm4 rfl
 obtain ⟨va5,q5,rfl⟩:=hI.v mm5 rfl
 obtain ⟨va6,q6,ha6⟩:=hI.v mm6 rfl
 obtain ⟨va7,q7,ha7⟩:=hI.v mm7 rfl
 obtain ⟨va8,q8,ha8⟩:=hI.v mm8 rfl
 have hT:=tmps_set [(22,.pointer (some ⟨w.heap.size,0,none⟩)),(23,.int .i64 R),(24,.pointer (some ⟨w.heap.size + 1,1,none⟩)),(25,.int .i64 C),(26,.pointer (some ⟨w.heap.size,0,none⟩)),(27,.int .i64 R),(28,va6),(29,va7),(6,va8)]
  (fun j hj=>hI.keep j (by simp only [List.forall_mem_cons] at hj ⊢; simp [hj]))
  (by simp only [List.forall_mem_cons]; simp [q0,q1,q2,q3,q4,q5,q6,q7,q8]) hI.size
 have hbw2:=hI.bel
 clear hI
 simp only [List.foldl_cons,List.foldl_nil,List.setIfInBounds_toArray,List.set_cons_zero,List.set_cons_succ,ptr] at hT
 subst hT
 clear q0 q1 q2 q3 q4 q5 q6 q7 q8
 simp only [List.drop_succ_cons,List.drop_zero]
 obtain ⟨sv,rfl,⟨g7,rfl,gb7⟩,gl7⟩ : MatHead w1.heap.size R C w2 va7:=ha7
 obtain ⟨⟨g8,rfl,gb8⟩,gl8⟩ : AtLeast w1.heap.size MatNew w2 va8:=ha8
 have gl7:=gl7 g7 0 (.inr ⟨_,_,rfl⟩)
 have gl8:=gl8 g8 0 (.inl rfl)
 have hB:=nx hB hbw2
 have bx1:=bx1.below hbw2
 have bx2:=bx2.below hbw2
 have br:=br.below hbw2
 have hne : g7 ≠ g8:=by
  rintro rfl
  have q1 : w2.heap[g7]? = some (.cells _ tR (0,0)):=gb7
  have q2 : w2.heap[g7]? = some (.cells _ tM (0,0)):=gb8
  rw [q1] at q2
  injection q2 with q2
  injection q2 with _ ht
  exact absurd ht dE
 obtain ⟨f1,f2,f3,f4,f5,f6⟩:=gb8.three
 clear c1 c2 c3 c4 c5 c6 d1 d2 d3 d4 d5 d6 ha6 hmk
 go_upto_region 5 with (fail)
 refine wp_world ?_
 intro W3 hW3
 have hx3 : LExt w2 W3:=by rw [hW3.out]; exact gb8.lext3 dE _ _ _
 have T6 : Blk W3 g8 tM #[.int .i64 R,.int .i64 C,.slice (some ⟨g7,0,none⟩) R R]:=by rw [hW3.out]; exact gb8.put3 _ _ _
 have hold : ∀b,b ≠ g8->W3.heap[b]? = w2.heap[b]?:=fun b hb=>by rw [hW3.out]; exact set3_old _ _ _ _ _ _ hb
 have bx1:=(hold _ oM).trans bx1
 have bx2:=(hold _ oM).trans bx2
 have br:=(hold _ oM).trans br
 have bR:=(hold _ hne).trans gb7
 have hB3 : Below w.heap.size w W3:=by rw [hW3.out]; exact bset (bset (bset hB oM 0 _) oM 1 _) oM 2 _
 replace bx1 : Blk W3 w.heap.size tM #[.int .i64 R,.int .i64 m,.slice ao R cap]:=bx1
 replace bx2 : Blk W3 (w.heap.size + 1) tM #[.int .i64 m,.int .i64 C,.slice bo m bcap]:=bx2
 replace br : Blk W3 (w.heap.size + 1 + 1) tM #[.int .i64 0,.int .i64 0,.slice none 0 0]:=br
 replace bR : Blk W3 g7 tR (partRows R C []):=bR
 obtain ⟨c1,c2,c3,c4,c5,c6⟩:=bx1.three
 clear hW3 hold hx3 f1 f2 f3 f4 f5 f6 gb7 gb8 hB
 go_wp2
 clear c1 c2 c3 c4 c5 c6
 go_loopw [33] (fun iv wr=>∃(i : Nat) (bs : List Nat),i<=R/\iv = .int .i64 i/\bs.length = i/\Below w.heap.size w wr/\Blk wr (w.heap.size + 1) tM #[.int .i64 m,.int .i64 C,.slice bo m bcap]/\Blk wr (w.heap.size + 1 + 1) tM #[.int .i64 0,.int .i64 0,.slice none 0 0]/\Blk wr g8 tM #[.int .i64 R,.int .i64 C,.slice (some ⟨g7,0,none⟩) R R]/\Blk wr g7 tR (partRows R C bs) ∧
  HidS (bs.Nodup/\∀t b,bs[t]? = some b->w1.heap.size<=b/\RowAt wr b (genV C (G t)))) (fun iv _=>R - (intOf iv).toNat)
 case atStart=>exact ⟨0,[],by omega,rfl,rfl,hB3,bx2,br,T6,bR,⟨⟨by simp,fun t b ht=>by simp at ht⟩⟩⟩
 case round=>
  obtain ⟨i,bs,hi,rfl,hbl,hb,bx2,br,T6,bR,hH⟩:=hrel
  obtain ⟨d1,d2,d3,d4,d5,d6⟩:=bx2.three
  obtain ⟨f1,f2,f3,f4,f5,f6⟩:=T6.three
  by_cases hlt : i < R
  ·obtain ⟨b1,ra,rn,rc,zs,rfl,hbl1,hz,p1,hv⟩:=h1.row (k:=i) (by rw [HF1.out.1]; exact hlt)
   have hzl:=HF1.out.2 zs (List.mem_of_getElem? hz)
   have p1:=kc_below p1 hb
   have hv:=hv.below hb
   have TS:=HidS.mk (HS.out.times hlt hz)
   have hgi : HidS (genV C (rowf zs M2 m) = genV C (G i)):=⟨genV_congr fun j _=>by rw [<-HG.out]; unfold rowf mulf ent; rw [getD_of hz]⟩
   have HZL:=HidS.mk hzl
   have l2:=bx2.lt
   have l6:=T6.lt
   have lR:=bR.lt
   have hszr:=hb.size
   have hB1s:=hb1.size
   have hlast:=lastsB_row wr.heap.size C (genV C (G i))
   clear hz hzl
   go_upto_region 8 with (fail)
   refine wp_region_headed 7 rfl (RV wr _ [⟨0,38,fun _ v=>v = .pointer (some ⟨g8,2,none⟩)⟩,⟨1,39,fun _ v=>v = .slice (some ⟨g7,0,none⟩) R R⟩,⟨2,40,fun _ v=>v = .int .i64 i⟩,⟨3,41,fun _ v=>v = .slice ra rn rc⟩,⟨4,42,fun _ v=>v = .agg #[.int .i64 m,.int .i64 C,.slice bo m bcap]⟩,⟨5,43,NewRow wr.heap.size C (genV C (G i))⟩,⟨6,44,fun _ v=>v = .pointer (some ⟨g7,i,none⟩)⟩]) kR RV.start ?fin2 ?steps2
   case steps2=>
    refine ⟨?_,?_,?_,?_,?_,?_,?_,trivial⟩ <;> (intro L T wS hL hd hcl hI K hK; try refine step_wanted rfl ?_)
    ·have zt : T[6]? = some (.pointer (some ⟨g8,0,none⟩)):=hI.keep 6 sI
     go_simp
     exact hK _ _ (hI.y mm0 rfl)
    ·obtain ⟨_,zt0,rfl⟩:=hI.v mm0 (hd 0)
     have cc0:=hI.cell f3
     go_simp
     exact hK _ _ (hI.y mm1 rfl)
    ·have zt : T[7]? = some (.int .i64 i):=hI.keep 7 sI
     go_simp
     exact hK _ _ (hI.y mm2 rfl)
    ·have zt : T[8]? = some (.slice ra rn rc):=hI.keep 8 sI
     go_simp
     exact hK _ _ (hI.y mm3 rfl)
    ·have zt : T[3]? = some (.pointer (some ⟨w.heap.size + 1,0,none⟩)):=hI.keep 3 sI
     have cc0:=hI.cell d1
     have cc1:=hI.cell d2
     have cc2:=hI.cell d3
     go_simp
     exact hK _ _ (hI.y mm4 rfl)
    ·obtain ⟨_,zt3,rfl⟩:=hI.v mm3 (hd 3)
     obtain ⟨_,zt4,rfl⟩:=hI.v mm4 (hd 4)
     go_simp
     refine (mtimes_any _ _ zs M2 m C _ (hv.below hI.bel) ((H2.out.below hb).below hI.bel) HZL.out HF2.out hm hC TS.out).mono ?_
     (rintro e wa ⟨v,rfl,⟨g,e1,e2,e3⟩,hba⟩; rw [hgi.out] at e3; have hv : NewRow wr.heap.size C (genV C (G i)) wa v:=⟨g,e1,Nat.le_trans hI.bel.size e2,e3⟩)
     exact hK _ _ ((hI.world hba).y mm5 hv)
    ·obtain ⟨_,zt1,rfl⟩:=hI.v mm1 (hd 1)
     obtain ⟨_,zt2,rfl⟩:=hI.v mm2 (hd 2)
     go_simp
     exact hK _ _ (hI.y mm6 rfl)
   intro T w9 hI
   obtain ⟨vb0,q0,rfl⟩:=hI.v mm0 rfl
   obtain ⟨vb1,q1,rfl⟩:=hI.v mm1 rfl
   obtain ⟨vb2,q2,rfl⟩:=hI.v mm2 rfl
   obtain ⟨vb3,q3,rfl⟩:=hI.v mm3 rfl
   obtain ⟨vb4,q4,rfl⟩:=hI.v mm4 rfl
   obtain ⟨vb5,q5,hb5⟩:=hI.v mm5 rfl
   obtain ⟨vb6,q6,rfl⟩:=hI.v mm6 rfl
   have hT:=tmps_set [(38,.pointer (some ⟨g8,2,none⟩)),(39,.slice (some ⟨g7,0,none⟩) R R),(40,.int .i64 i),(41,.slice ra rn rc),(42,.agg #[.int .i64 m,.int .i64 C,.slice bo m bcap]),(43,vb5),(44,.pointer (some ⟨g7,i,none⟩))]
    (fun j hj=>hI.keep j (by simp only [List.forall_mem_cons] at hj ⊢; simp [hj]))
    (by simp only [List.forall_mem_cons]; simp [q0,q1,q2,q3,q4,q5,q6]) hI.size
   have hbw9:=hI.bel
   clear hI
   simp only [List.foldl_cons,List.foldl_nil,List.setIfInBounds_toArray,List.set_cons_zero,List.set_cons_succ,ptr] at hT
   subst hT
   clear q0 q1 q2 q3 q4 q5 q6
   simp only [List.drop_succ_cons,List.drop_zero]
   obtain ⟨g,rfl,hg1,hg2⟩ : NewRow wr.heap.size C (genV C (G i)) w9 vb5:=hb5
   have bR:=bR.below hbw9
   have bx2:=bx2.below hbw9
   have br:=br.below hbw9
   have T6:=T6.below hbw9
   have z1:=bR.frozen i
   obtain ⟨u,z2⟩ : ∃u,w9.cell? ⟨g7,i,none⟩ = some u:=by
    rw [bR.cell i]
    exact ⟨_,Array.getElem?_eq_getElem (by rw [partRows_size oM]; exact hlt)⟩
   have hset:=bR.set_ i (.slice (some ⟨g,0,none⟩) C C)
   rw [<-hbl,partRows_set oM,hbl] at hset
   have hx1:=bR.lext dE i (.slice (some ⟨g,0,none⟩) C C)
   have HG2:=HidS.mk hg2
   have HH:=HidS.mk hH.out
   have hbrl:=br.lt
   have hrow7 : ∀(t b : Nat),bs[t]? = some b->b ≠ g7:=fun t b ht=>by
    rintro rfl
    obtain ⟨cs,q1,-⟩:=((HH.out.2 t b ht).2.below hbw9)
    have q2 : w9.heap[b]? = some (.cells _ tR (0,0)):=bR
    rw [q2] at q1
    injection q1 with q1
    injection q1 with _ ht
    exact absurd ht dE
   have HR7:=HidS.mk hrow7
   clear hg2 p1 d1 d2 d3 d4 d5 d6 f1 f2 f3 f4 f5 f6 hrow7
   go_wp2
   go_roundw
   case rel=>
    refine ⟨i + 1,bs ++ [g],by omega,by simp,by simp [hbl],bset (nx hb hbw9) oM _ _,(setCell_old _ _ _ _ _ oM).trans bx2,(setCell_old _ _ _ _ _ oM).trans br,(setCell_old _ _ _ _ _ oM).trans T6,hset,⟨⟨?_,?_⟩⟩⟩
    ·rw [List.nodup_append]
     refine ⟨HH.out.1,by simp,fun x hx y hy=>?_⟩
     simp at hy
     subst hy
     obtain ⟨t,ht,e⟩:=List.getElem_of_mem hx
     have:=(HH.out.2 t x (by rw [List.getElem?_eq_getElem ht,e])).2.lt
     omega
    ·intro t b ht
     by_cases e : t = i
     ·subst e
      rw [List.getElem?_append_right oM,hbl] at ht
      simp at ht
      subst ht
      exact ⟨by omega,HG2.out.old (setCell_old _ _ _ _ _ oM) hx1⟩
     ·have htl : t < bs.length:=by
       have h5:=(List.getElem?_eq_some_iff.1 ht).1
       simp at h5
       omega
      rw [List.getElem?_append_left htl] at ht
      obtain ⟨h6,h7⟩:=HH.out.2 t b ht
      exact ⟨h6,(h7.below hbw9).old (setCell_old _ _ _ _ _ (HR7.out t b ht)) hx1⟩
   case measure=>simp [intOf]; omega
  ·obtain rfl : i = R:=by omega
   have HH:=HidS.mk hH.out
   obtain ⟨r1,r2,r3,r4,r5,r6⟩:=br.three
   have lr:=br.lt
   have l6:=T6.lt
   go_wp2
   refine leaves_cons (f:=100) (args:=#[]) sI (by simp [go_sem]) ?_
   refine (mulD_idle _).mono ?_
   rintro e u' w'' ⟨rfl,rfl,rfl⟩
   have hx:=br.lext3 dE (.int .i64 i) (.int .i64 C) (.slice (some ⟨g7,0,none⟩) i i)
   refine ⟨_,results_mt rfl _ rfl (br.put3 _ _ _) rfl,_,bs,rfl,⟨hbl,_,rfl,?_⟩,bset (bset (bset hb oM 0 _) oM 1 _) oM 2 _⟩
   refine RowsO.ofPart ((set3_old _ _ _ _ _ _ oM).trans bR) hbl HH.out.1 (fun t b ht=>?_) (by simp [genM]) oM hC hR
   obtain ⟨h6,h7⟩:=HH.out.2 t b ht
   have hti : t < i:=by have:=(List.getElem?_eq_some_iff.1 ht).1; omega
   exact ⟨by omega,_,genM_row i C G hti,by simp,h7.old (set3_old _ _ _ _ _ _ oM) hx⟩
theorem row_ext {zs ys : List Int} {C : Nat} (h1 : zs.length = C) (h2 : ys.length = C) : (∀j,j < C->decide (zs.getD j 0 = ys.getD j 0) = true) ↔ zs = ys:=by
 refine ⟨fun h=>?_,fun h j _=>by rw [h]; simp⟩
 apply List.ext_getElem
 ·omega
 ·intro j a b
  have:=of_decide_eq_true (h j oM)
  simpa [List.getD_eq_getElem?_getD,a,b] using this
set_option maxHeartbeats 4000000 in
set_option maxRecDepth 20000 in
theorem mequal_any (v1 v2 : Value) (R C : Nat) (M1 M2 : List (List Int)) (w : World) (h1 : MatV w v1 R C M1) (h2 : MatV w v2 R C M2) (hF1 : Fits R C M1) (hF2 : Fits R C M2) (hC : C<=1000000) :
  Calls Tryz.prog 69 #[v1,v2] w fun e w'=>e = .returned (.bool (decide (M1 = M2)))/\Below w.heap.size w w':=by
 have H1:=HidS.mk h1
 have H2:=HidS.mk h2
 obtain ⟨A1,rfl,h1⟩:=h1
 obtain ⟨A2,rfl,h2⟩:=h2
 obtain ⟨ao,n,cap,rfl,e2,e3,e4,-⟩:=id h1
 obtain ⟨bo,q,bcap,rfl,g2,g3,g4,-⟩:=id h2
 obtain rfl : R = n:=by rw [<-e2,hF1.1]
 obtain rfl : R = q:=by rw [<-g2,hF2.1]
 obtain ⟨ans,hans⟩ : ∃ans : Bool,decide (M1 = M2) = ans:=⟨_,rfl⟩
 rw [hans]
 have HA:=HidS.mk hans
 have HF1:=HidS.mk hF1
 have HF2:=HidS.mk hF2
 have HV1:=HidS.mk hF1.valid
 have HV2:=HidS.mk hF2.valid
 clear hans hF1 hF2 e2 g2
 have hl1:=lastsB_slm2 (.int .i64 R) (.int .i64 C) (.slice ao R cap) (.int .i64 R) (.int .i64 C) (.slice bo R bcap)
 have hl2:=lastsB_slm1 (.int .i64 R) (.int .i64 C) (.slice ao R cap)
 have hl4:=lastsB_slm1 (.int .i64 R) (.int .i64 C) (.slice bo R bcap)
 have hl3:=lastsB_sizes R C
 go_enter Tryz.func69,Tryz.ntmps69
 go_upto_region 1 with (fail)
 refine wp_world ?_
 intro W0 hW0
 obtain ⟨hB0,bx1,bx2,hs0⟩:=world2 hW0
 obtain ⟨c1,c2,c3,c4,c5,c6⟩:=bx1.three
 obtain ⟨d1,d2,d3,d4,d5,d6⟩:=bx2.three
 clear hW0
 refine wp_region_each rfl (RV W0 _ [⟨0,8,fun _ v=>v = .agg #[.int .i64 R,.int .i64 C,.slice ao R cap]⟩,⟨1,9,fun _ v=>v = .agg #[.int .i64 R,.int .i64 C,.slice bo R bcap]⟩,⟨2,10,SlM2 (.int .i64 R) (.int .i64 C) (.slice ao R cap) (.int .i64 R) (.int .i64 C) (.slice bo R bcap)⟩,⟨3,11,fun _ v=>v = .bool true⟩,⟨4,12,fun _ v=>v = .bool false⟩,⟨5,13,fun _ v=>v = .bool false⟩,⟨6,14,fun _ v=>v = .agg #[.int .i64 R,.int .i64 C,.slice ao R cap]⟩,⟨7,15,SlM1 (.int .i64 R) (.int .i64 C) (.slice ao R cap)⟩,⟨8,16,SizesV R C⟩,⟨9,17,fun _ v=>v = .agg #[.int .i64 R,.int .i64 C,.slice bo R bcap]⟩,⟨10,18,SlM1 (.int .i64 R) (.int .i64 C) (.slice bo R bcap)⟩,⟨11,19,SizesV R C⟩,⟨12,20,fun _ v=>v = .bool true⟩,⟨13,21,fun _ v=>v = .bool false⟩,⟨14,22,fun _ v=>v = .bool false⟩]) kR RV.start ?fin1 ?steps1
 case steps1=>
  refine ⟨?_,?_,?_,?_,?_,?_,?_,?_,?_,?_,?_,?_,?_,?_,?_,trivial⟩ <;> (intro L T wS hL hd hcl hI K hK; try refine step_wanted rfl ?_)
  ·have zt : T[2]? = some (.pointer (some ⟨w.heap.size,0,none⟩)):=hI.keep 2 sI
   have cc0:=hI.cell c1
   have cc1:=hI.cell c2
   have cc2:=hI.cell c3
   go_simp
   exact hK _ _ (hI.y mm0 rfl)
  ·have zt : T[3]? = some (.pointer (some ⟨w.heap.size + 1,0,none⟩)):=hI.keep 3 sI
   have cc0:=hI.cell d1
   have cc1:=hI.cell d2
   have cc2:=hI.cell d3
   go_simp
   exact hK _ _ (hI.y mm1 rfl)
  ·obtain ⟨_,zt0,rfl⟩:=hI.v mm0 (hd 0)
   obtain ⟨_,zt1,rfl⟩:=hI.v mm1 (hd 1)
   go_simp
   exact hK _ _ ((hI.world ((Below.refl _ _).alloc (Nat.le_refl _) _)).y mm2 ⟨_,rfl,Blk.new _ _ _⟩)
  ·obtain ⟨v2,zt2,h2⟩:=hI.v mm2 (hd 2)
   obtain ⟨g2,rfl,gb2⟩:=h2
   go_simp
   refine (valid2T g2 2 R C R C _ _ M1 M2 _ gb2 (Nat.le_refl _) oM ((H1.out.below hB0).below hI.bel) ((H2.out.below hB0).below hI.bel) HV1.out HV2.out).mono ?_
   rintro e wa ⟨v,rfl,hv,hba⟩
   exact hK _ _ ((hI.world hba).y mm3 hv)
  ·obtain ⟨_,zt3,rfl⟩:=hI.v mm3 (hd 3)
   go_simp
   exact hK _ _ (hI.y mm4 rfl)
  ·obtain ⟨_,zt4,rfl⟩:=hI.v mm4 (hd 4)
   go_simp
   exact hK _ _ (hI.y mm5 rfl)
  ·obtain ⟨_,zg,rfl⟩:=hI.v mm5 (hd 5)
   refine step_wanted (by simp [Region.wanted,yielded,zg]) ?_
   have zt : T[2]? = some (.pointer (some ⟨w.heap.size,0,none⟩)):=hI.keep 2 sI
   have cc0:=hI.cell c1
   have cc1:=hI.cell c2
   have cc2:=hI.cell c3
   go_simp
   exact hK _ _ (hI.y mm6 rfl)
  ·obtain ⟨_,zg,rfl⟩:=hI.v mm5 (hd 5)
   refine step_wanted (by simp [Region.wanted,yielded,zg]) ?_
   obtain ⟨_,zt6,rfl⟩:=hI.v mm6 (hd 6)
   go_simp
   exact hK _ _ ((hI.world ((Below.refl _ _).alloc (Nat.le_refl _) _)).y mm7 ⟨_,rfl,Blk.new _ _ _⟩)
  ·obtain ⟨_,zg,rfl⟩:=hI.v mm5 (hd 5)
   refine step_wanted (by simp [Region.wanted,yielded,zg]) ?_
   obtain ⟨v7,zt7,h7⟩:=hI.v mm7 (hd 7)
   obtain ⟨g7,rfl,gb7⟩:=h7
   go_simp
   refine (sizes_any g7 1 R C _ _ gb7 ⟨_,_,_,rfl⟩ (Nat.le_refl _) oM).mono ?_
   rintro e wa ⟨v,rfl,hv,hba⟩
   exact hK _ _ ((hI.world hba).y mm8 hv)
  ·obtain ⟨_,zg,rfl⟩:=hI.v mm5 (hd 5)
   refine step_wanted (by simp [Region.wanted,yielded,zg]) ?_
   have zt : T[3]? = some (.pointer (some ⟨w.heap.size + 1,0,none⟩)):=hI.keep 3 sI
   have cc0:=hI.cell d1
   have cc1:=hI.cell d2
   have cc2:=hI.cell d3
   go_simp
   exact hK _ _ (hI.y mm9 rfl)
  ·obtain ⟨_,zg,rfl⟩:=hI.v mm5 (hd 5)
   refine step_wanted (by simp [Region.wanted,yielded,zg]) ?_
   obtain ⟨_,zt9,rfl⟩:=hI.v mm9 (hd 9)
   go_simp
   exact hK _ _ ((hI.world ((Below.refl _ _).alloc (Nat.le_refl _) _)).y mm10 ⟨_,rfl,Blk.new _ _ _⟩)
  ·obtain ⟨_,zg,rfl⟩:=hI.v mm5 (hd 5)
   refine step_wanted (by simp [Region.wanted,yielded,zg]) ?_
   obtain ⟨v10,zt10,h10⟩:=hI.v mm10 (hd 10)
   obtain ⟨g10,rfl,gb10⟩:=h10
   go_simp
   refine (sizes_any g10 1 R C _ _ gb10 ⟨_,_,_,rfl⟩ (Nat.le_refl _) oM).mono ?_
   rintro e wa ⟨v,rfl,hv,hba⟩
   exact hK _ _ ((hI.world hba).y mm11 hv)
  ·obtain ⟨_,zg,rfl⟩:=hI.v mm5 (hd 5)
   refine step_wanted (by simp [Region.wanted,yielded,zg]) ?_
   obtain ⟨v8,zt8,h8⟩:=hI.v mm8 (hd 8)
   obtain ⟨v11,zt11,h11⟩:=hI.v mm11 (hd 11)
   go_simp
   refine (sliceseqTT _ _ R C _ h8 h11).mono ?_
   rintro e wa ⟨v,rfl,hv,hba⟩
   exact hK _ _ ((hI.world hba).y mm12 hv)
  ·obtain ⟨_,zg,rfl⟩:=hI.v mm5 (hd 5)
   refine step_wanted (by simp [Region.wanted,yielded,zg]) ?_
   obtain ⟨_,zt12,rfl⟩:=hI.v mm12 (hd 12)
   go_simp
   exact hK _ _ (hI.y mm13 rfl)
  ·obtain ⟨_,zt5,rfl⟩:=hI.v mm5 (hd 5)
   obtain ⟨_,zt13,rfl⟩:=hI.v mm13 (hd 13)
   go_simp
   exact hK _ _ (hI.y mm14 rfl)
 intro T w1 hI
 obtain ⟨va0,q0,rfl⟩:=hI.v mm0 rfl
 obtain ⟨va1,q1,rfl⟩:=hI.v mm1 rfl
 obtain ⟨va2,q2,ha2⟩:=hI.v mm2 rfl
 obtain ⟨va3,q3,rfl⟩:=hI.v mm3 rfl
 obtain ⟨va4,q4,rfl⟩:=hI.v mm4 rfl
 obtain ⟨va5,q5,rfl⟩:=hI.v mm5 rfl
 obtain ⟨va6,q6,rfl⟩:=hI.v mm6 rfl
 obtain ⟨va7,q7,ha7⟩:=hI.v mm7 rfl
 obtain ⟨va8,q8,ha8⟩:=hI.v mm8 rfl
 obtain ⟨va9,q9,rfl⟩:=hI.v mm9 rfl
 obtain ⟨va10,q10,ha10⟩:=hI.v mm10 rfl
 obtain ⟨va11,q11,ha11⟩:=hI.v mm11 rfl
 obtain ⟨va12,q12,rfl⟩:=hI.v mm12 rfl
 obtain ⟨va13,q13,rfl⟩:=hI.v mm13 rfl
 obtain ⟨va14,q14,rfl⟩:=hI.v mm14 rfl
 have hT:=tmps_set [(8,.agg #[.int .i64 R,.int .i64 C,.slice ao R cap]),(9,.agg #[.int .i64 R,.int .i64 C,.slice bo R bcap]),(10,va2),(11,.bool true),(12,.bool false),(13,.bool false),(14,.agg #[.int .i64 R,.int .i64 C,.slice ao R cap]),(15,va7),(16,va8),(17,.agg #[.int .i64 R,.int .i64 C,.slice bo R bcap]),(18,va10),(19,va11),(20,.bool true),(21,.bool false),(22,.bool false)]
  (fun j hj=>hI.keep j (by simp only [List.forall_mem_cons] at hj ⊢; simp [hj]))
  (by simp only [List.forall_mem_cons]; simp [q0,q1,q2,q3,q4,q5,q6,q7,q8,q9,q10,q11,q12,q13,q14]) hI.size
 have hbw1:=hI.bel
 clear hI
 simp only [List.foldl_cons,List.foldl_nil,List.setIfInBounds_toArray,List.set_cons_zero,List.set_cons_succ,ptr] at hT
 subst hT
 clear q0 q1 q2 q3 q4 q5 q6 q7 q8 q9 q10 q11 q12 q13 q14
 have hBt:=nx hB0 hbw1
 have bx1:=bx1.below hbw1
 have bx2:=bx2.below hbw1
 clear c1 c2 c3 c4 c5 c6 d1 d2 d3 d4 d5 d6 ha2 ha7 ha8 ha10 ha11
 obtain ⟨c1,c2,c3,c4,c5,c6⟩:=bx1.three
 go_wp2
 clear c1 c2 c3 c4 c5 c6
 go_loopw [26] (fun iv wr=>∃i : Nat,i<=R/\iv = .int .i64 i/\Below w.heap.size w wr/\Blk wr (w.heap.size + 1) tM #[.int .i64 R,.int .i64 C,.slice bo R bcap]/\HidS (M1.take i = M2.take i)) (fun iv _=>R - (intOf iv).toNat)
 case atStart=>exact ⟨0,by omega,rfl,hBt,bx2,⟨by rw [List.take_zero,List.take_zero]⟩⟩
 case round=>
  obtain ⟨i,hi,rfl,hb,bx2,hsame⟩:=hrel
  obtain ⟨d1,d2,d3,d4,d5,d6⟩:=bx2.three
  by_cases hlt : i < R
  ·obtain ⟨b1,ra,rn,rc,zs,rfl,hbl1,hz,p1,hv⟩:=h1.row (k:=i) (by rw [HF1.out.1]; exact hlt)
   obtain ⟨b2,sa,sn,sc,ys,rfl,hbl2,hy,q1,hu⟩:=h2.row (k:=i) (by rw [HF2.out.1]; exact hlt)
   have hzl:=HF1.out.2 zs (List.mem_of_getElem? hz)
   have hyl:=HF2.out.2 ys (List.mem_of_getElem? hy)
   have HZ:=HidS.mk hz
   have HY:=HidS.mk hy
   have HZL:=HidS.mk hzl
   have HYL:=HidS.mk hyl
   have p1:=kc_below p1 hb
   have q1:=kc_below q1 hb
   clear hz hy hzl hyl
   go_wp2_with fail
   refine (combB_any _ _ zs ys C wr (hv.below hb) (hu.below hb) HZL.out HYL.out hC).mono ?_
   rintro e w5 ⟨rfl,hbl5,hb5⟩
   go_wp2_with fail
   refine (contains_any wr.heap.size C C _ w5 hbl5 hC (Nat.le_refl _) oM).mono ?_
   rintro e w6 ⟨rfl,hb6⟩
   have hb:=nx (nx hb hb5) hb6
   have bx2:=(bx2.below hb5).below hb6
   by_cases he : zs = ys
   ·have hd : decide (¬ ∀j,j < C->decide (zs.getD j 0 = ys.getD j 0) = true) = false:=decide_eq_false (fun hh=>hh ((row_ext HZL.out HYL.out).2 he))
    have HE:=HidS.mk he
    rw [hd]
    clear hd he p1 q1 d1 d2 d3 d4 d5 d6
    go_wp2
    go_roundw
    case rel=>exact ⟨i + 1,by omega,by simp,hb,bx2,⟨take_same hsame.out HZ.out HY.out HE.out⟩⟩
    case measure=>simp [intOf]; omega
   ·have hd : decide (¬ ∀j,j < C->decide (zs.getD j 0 = ys.getD j 0) = true) = true:=decide_eq_true (fun hh=>he ((row_ext HZL.out HYL.out).1 hh))
    have HE:=HidS.mk he
    rw [hd]
    clear hd he p1 q1 d1 d2 d3 d4 d5 d6
    go_wp2
    go_ret
    refine ⟨?_,hb⟩
    have h3 : ans = false:=by rw [<-HA.out]; exact decide_eq_false (take_differ HZ.out HY.out HE.out)
    rw [h3]
    rfl
  ·obtain rfl : i = R:=by omega
   go_wp2
   go_ret
   refine ⟨?_,hb⟩
   have h4:=hsame.out
   rw [List.take_of_length_le (by rw [HF1.out.1]; omega),List.take_of_length_le (by rw [HF2.out.1]; omega)] at h4
   have h3 : ans = true:=by rw [<-HA.out]; exact decide_eq_true h4
   rw [h3]
   rfl
end Go.Proofs.YtnocgagoaldfnaaGreat
