/- smith.Form. smith.Invariants. -/
import Derived.Test.YtnocgagoaldfnaaGreatD42
import Derived.Test.YtnocgagoaldfnaaGreatD43
set_option linter.unusedVariables false
set_option linter.unusedSimpArgs false
set_option linter.unusedSectionVars false
namespace Go.Proofs.YtnocgagoaldfnaaGreat
open Go.RowKit
theorem mscaleW {B : Nat} (hB : BSm B) (v kv : Value) (M : List (List Int)) (R C : Nat) (w : World) (h : MatV w v R C M) (hF : Fits R C M) (hk : IntV w kv 1) (hR : R<=1000000) (hC : C<=1000000) (hok : okF B R C (ent M)) (s1 : Sm 1) :
  Calls Tryz.prog 47 #[v,kv] w fun e w'=>∃v,e = .returned v/\Within R C (ent M) w.heap.size w'.heap.size w' v/\Below w.heap.size w w':=by
 refine (mscale_any v kv M R C 1 w h hF hk hR hC ?_ s1).mono fun e w' hr=>?_
 ·intro r hr z hz
  obtain ⟨i,hi,ei⟩:=List.getElem_of_mem hr
  obtain ⟨j,hj,ej⟩:=List.getElem_of_mem hz
  have e1 : M[i]? = some r:=by rw [List.getElem?_eq_getElem hi,ei]
  have e2 : r[j]? = some z:=by rw [List.getElem?_eq_getElem hj,ej]
  have e3:=hF.2 r hr
  have:=hok i (by rw [<-hF.1]; exact hi) j oM
  rw [ent_of e1 e2] at this
  exact hB.sm _ this
 ·have hq : genM R C (fun i j=>1 * ent M i j) = genM R C (ent M):=genM_congr fun i _ j _=>Int.one_mul _
  rw [hq] at hr
  exact hr.within
theorem midentityW (n : Nat) (w : World) (hn : n<=1000000) : Calls Tryz.prog 49 #[.int .i64 n] w fun e w'=>∃v,e = .returned v/\Within n n idf w.heap.size w'.heap.size w' v/\Below w.heap.size w w':=
 (midentity_any n w hn).mono fun _ _ hr=>hr.within
def MatR (R C : Nat) (F : Nat->Nat->Int) : World->Value->Prop:=fun w v=>∃o c,v = .agg #[.int .i64 R,.int .i64 C,.slice o R c]/\RowsV w (.slice o R c) (genM R C F)
theorem lastsB_matR (R C : Nat) (F : Nat->Nat->Int) : LastsB (MatR R C F):=fun _ _ _ x ⟨o,c,h1,h2⟩=>⟨o,c,h1,h2.below x⟩
theorem transposeR {w : World} {A : Value} {R C B : Nat} {bs : List Nat} {F : Nat->Nat->Int} (hB : BSm B) (h : Wri w A R C bs F) (hok : okF B R C F) (hR : R<=1000000) (hC : C<=1000000) :
  Calls Tryz.prog 51 #[.agg #[.int .i64 R,.int .i64 C,A]] w fun e w'=>∃v,e = .returned v/\MatR C R (trF F) w' v/\Below w.heap.size w w':=by
 refine (transposeW hB h hok hR hC).mono ?_
 rintro e w' ⟨o,c,bs',rfl,h1,-,h3⟩
 exact ⟨_,rfl,⟨o,c,rfl,RowsO.rows h1⟩,h3⟩
theorem below_only {B base : Nat} {w a b : World} (h : Below B w a) (ho : OnlyZ (fun k=>base<=k) a b) (hB : B<=base) (hsz : B<=a.heap.size) : Below B w b:=
 ⟨ho.bel.os.trans h.os,ho.bel.tape.trans h.tape,ho.bel.output.trans h.output,Nat.le_trans h.size ho.bel.size,fun k hk=>(ho.old k oM oM).trans (h.block k hk)⟩
theorem RowsV.off {w w' : World} {v : Value} {M : List (List Int)} {g : Nat} {T : TypeId} {cs : Array Value} (h : RowsV w v M) (hg : Blk w g T cs) (h1 : T ≠ tR) (h2 : T ≠ tI) (ho : ∀b,b ≠ g->w'.heap[b]? = w.heap[b]?) (hx : LExt w w') : RowsV w' v M:=by
 obtain ⟨ao,n,cap,e1,e2,e3,e4,e5⟩:=h
 refine ⟨ao,n,cap,e1,e2,e3,e4,fun hn=>?_⟩
 obtain ⟨b,cs',q1,q2,q3⟩:=e5 hn
 have hne : ∀{c : Nat} {U : TypeId} {ds : Array Value},w.heap[c]? = some (.cells ds U (0,0))->T ≠ U->c ≠ g:=by
  intro c U ds hc hT hh
  subst hh
  have hg' : w.heap[c]? = some (.cells cs T (0,0)):=hg
  rw [hg'] at hc
  injection hc with hc
  injection hc with _ ht
  exact hT ht
 refine ⟨b,cs',q1,(ho b (hne q2 h1)).trans q2,fun k zs hk=>?_⟩
 obtain ⟨rv,r1,ao',n',cap',r2,r3,r4,r5,r6⟩:=q3 k zs hk
 refine ⟨rv,r1,ao',n',cap',r2,r3,r4,r5,fun hz=>?_⟩
 obtain ⟨b',s1,cs2,s2,s3⟩:=r6 hz
 exact ⟨b',s1,cs2,(ho b' (hne s2 h2)).trans s2,fun k z hk=>by
  obtain ⟨a1,a2,a3,a4,a5,a6,a7⟩:=s3 k z hk
  exact ⟨a1,a2,a3,a4,a5,a6,a7.ext hx⟩⟩
theorem Tryz.sizeS : (Tryz.prog.info? tS).map (·.size) = some 15:=by kernel_rfl
set_option maxHeartbeats 8000000 in
set_option maxRecDepth 20000 in
theorem form_any {B : Nat} (hB : BSd B) (v : Value) (M : List (List Int)) (R C : Nat) (w : World) (h : MatV w v R C M) (hF : Fits R C M) (hR : R<=1000000) (hC : C<=1000000) {f rr : Nat} {y : W5} (hok : okW B R C R C ⟨ent M,idf,idf,idf,idf⟩)
  (hrun : runGo B R C R C f rr ⟨ent M,idf,idf,idf,idf⟩ = some y) (hdiv : ∀y',DivR (min R C) y y'->∀i j,i < j->j < min R C->¬ y'.s i i ∣ y'.s j j->DivOk B C R C y' i j) (hokd : ∀y',DivR (min R C) y y'->okW B R C R C y') :
  Calls Tryz.prog 15 #[v] w fun e w'=>∃v y',e = .returned v/\DivR (min R C) y y'/\y'.s = divI (min R C) 0 y.s/\SmithV w' v R C (genM R C y'.s) (genM R R y'.u) (genM R R (trF y'.v)) (genM C C (trF y'.w)) (genM C C y'.x)/\Below w.heap.size w w':=by
 have hBm:=hB.bsm
 have hel : ∀y',DivR (min R C) y y'->∀i,i < min R C->(y'.s i i).natAbs < B:=fun y' hy i hi=>(hokd y' hy).1 i oM i oM
 have S1 : HidS (Sm 1):=⟨(Smd.one (z:=1) dE).sm⟩
 have h0:=h
 obtain ⟨A,rfl,h⟩:=h
 obtain ⟨ao,n,cap,rfl,e2,e3,e4,-⟩:=id h
 obtain rfl : R = n:=by rw [<-e2,hF.1]
 have hdv : decide (ValidM R C M) = true:=decide_eq_true hF.valid
 have HF:=HidS.mk hF
 have HOK:=HidS.mk hok
 have HRUN:=HidS.mk hrun
 have HDIV:=HidS.mk hdiv
 have HEL:=HidS.mk hel
 have HOKD:=HidS.mk hokd
 have H0:=HidS.mk h0
 clear hok hrun hdiv hel hokd h0 hF e2
 go_enter Tryz.func15,Tryz.ntmps15
 go_upto_region 1 with (fail)
 refine wp_world ?_
 intro W0 hW0
 obtain ⟨hB0,bx1,br,hs0⟩:=world2 hW0
 obtain ⟨c1,c2,c3,c4,c5,c6⟩:=bx1.three
 clear hW0
 go_wp2_with fail
 refine (mvalid_any _ R C M W0 (H0.out.below hB0)).mono ?_
 rintro e w1 ⟨rfl,hb1⟩
 rw [hdv]
 have bx1:=bx1.below hb1
 have br:=br.below hb1
 have hB1:=nx hB0 hb1
 have hs1:=hb1.size
 clear c1 c2 c3 c4 c5 c6 hdv
 obtain ⟨c1,c2,c3,c4,c5,c6⟩:=bx1.three
 have hl1:=lastsB_five w1.heap.size R C R C ⟨ent M,idf,idf,idf,idf⟩
 have hl2:=lastsB_workNew w1.heap.size
 go_upto_region 3 with (fail)
 refine wp_region_headed 18 rfl (RG w1 _ [⟨0,8,fun _ v=>v = .agg #[.int .i64 R,.int .i64 C,.slice ao R cap]⟩,⟨1,9,fun w v=>IntV w v (1)⟩,⟨3,11,fun _ v=>v = .pointer (some ⟨w.heap.size,0,none⟩)⟩,⟨4,12,fun _ v=>v = .int .i64 R⟩,⟨6,14,fun _ v=>v = .pointer (some ⟨w.heap.size,0,none⟩)⟩,⟨7,15,fun _ v=>v = .int .i64 R⟩,⟨9,17,fun _ v=>v = .pointer (some ⟨w.heap.size,1,none⟩)⟩,⟨10,18,fun _ v=>v = .int .i64 C⟩,⟨12,20,fun _ v=>v = .pointer (some ⟨w.heap.size,1,none⟩)⟩,⟨13,21,fun _ v=>v = .int .i64 C⟩,⟨15,23,FiveV w1.heap.size R C R C ⟨ent M,idf,idf,idf,idf⟩⟩,⟨16,24,FiveV w1.heap.size R C R C ⟨ent M,idf,idf,idf,idf⟩⟩,⟨17,3,WorkNew w1.heap.size⟩] [⟨2,10,R,C,ent M⟩,⟨5,13,R,R,idf⟩,⟨8,16,R,R,idf⟩,⟨11,19,C,C,idf⟩,⟨14,22,C,C,idf⟩]) kR RG.start ?fin1 ?steps1
 case steps1=>
  refine ⟨?_,?_,?_,?_,?_,?_,?_,?_,?_,?_,?_,?_,?_,?_,?_,?_,?_,?_,trivial⟩ <;> (intro L T wS hL hd hcl hI K hK; try refine step_wanted rfl ?_)
  ·have zt : T[1]? = some (.pointer (some ⟨w.heap.size,0,none⟩)):=hI.keep 1 sI sI
   have cc0:=hI.cell c1
   have cc1:=hI.cell c2
   have cc2:=hI.cell c3
   go_simp
   exact hK _ _ (hI.y mm0 rfl)
  ·go_simp
   refine (of_any 1 _ oM oM).mono ?_
   rintro e wa ⟨v,rfl,hv,hba⟩
   exact hK _ _ ((hI.world hba).y mm1 hv)
  ·obtain ⟨_,zt0,rfl⟩:=hI.v mm0 (hd 0)
   obtain ⟨v1,zt1,h1⟩:=hI.v mm1 (hd 1)
   go_simp
   refine (mscaleW hBm _ _ M R C _ ((H0.out.below hB1).below hI.bel) HF.out h1 hR hC HOK.out.1 S1.out).mono ?_
   rintro e wa ⟨v,rfl,hv,hba⟩
   exact hK _ _ (hI.mat hcl hL ⟨2,10,_,_,_⟩ mm0 rfl hba hv kR)
  ·have zt : T[1]? = some (.pointer (some ⟨w.heap.size,0,none⟩)):=hI.keep 1 sI sI
   go_simp
   exact hK _ _ (hI.y mm2 rfl)
  ·obtain ⟨_,zt3,rfl⟩:=hI.v mm2 (hd 3)
   have cc0:=hI.cell c1
   go_simp
   exact hK _ _ (hI.y mm3 rfl)
  ·obtain ⟨_,zt4,rfl⟩:=hI.v mm3 (hd 4)
   go_simp
   refine (midentityW R _ hR).mono ?_
   rintro e wa ⟨v,rfl,hv,hba⟩
   exact hK _ _ (hI.mat hcl hL ⟨5,13,_,_,_⟩ mm1 rfl hba hv kR)
  ·have zt : T[1]? = some (.pointer (some ⟨w.heap.size,0,none⟩)):=hI.keep 1 sI sI
   go_simp
   exact hK _ _ (hI.y mm4 rfl)
  ·obtain ⟨_,zt6,rfl⟩:=hI.v mm4 (hd 6)
   have cc0:=hI.cell c1
   go_simp
   exact hK _ _ (hI.y mm5 rfl)
  ·obtain ⟨_,zt7,rfl⟩:=hI.v mm5 (hd 7)
   go_simp
   refine (midentityW R _ hR).mono ?_
   rintro e wa ⟨v,rfl,hv,hba⟩
   exact hK _ _ (hI.mat hcl hL ⟨8,16,_,_,_⟩ mm2 rfl hba hv kR)
  ·have zt : T[1]? = some (.pointer (some ⟨w.heap.size,0,none⟩)):=hI.keep 1 sI sI
   go_simp
   exact hK _ _ (hI.y mm6 rfl)
  ·obtain ⟨_,zt9,rfl⟩:=hI.v mm6 (hd 9)
   have cc0:=hI.cell c2
   go_simp
   exact hK _ _ (hI.y mm7 rfl)
  ·obtain ⟨_,zt10,rfl⟩:=hI.v mm7 (hd 10)
   go_simp
   refine (midentityW C _ hC).mono ?_
   rintro e wa ⟨v,rfl,hv,hba⟩
   exact hK _ _ (hI.mat hcl hL ⟨11,19,_,_,_⟩ mm3 rfl hba hv kR)
  ·have zt : T[1]? = some (.pointer (some ⟨w.heap.size,0,none⟩)):=hI.keep 1 sI sI
   go_simp
   exact hK _ _ (hI.y mm8 rfl)
  ·obtain ⟨_,zt12,rfl⟩:=hI.v mm8 (hd 12)
   have cc0:=hI.cell c2
   go_simp
   exact hK _ _ (hI.y mm9 rfl)
  ·obtain ⟨_,zt13,rfl⟩:=hI.v mm9 (hd 13)
   go_simp
   refine (midentityW C _ hC).mono ?_
   rintro e wa ⟨v,rfl,hv,hba⟩
   exact hK _ _ (hI.mat hcl hL ⟨14,22,_,_,_⟩ mm4 rfl hba hv kR)
  ·obtain ⟨so,sc,uo,uc,vo,vc,wo,wc,xo,xc,t1,t2,t3,t4,t5,hfive⟩:=hI.five oM oM oM oM (hd 2) (hd 5) (hd 8) (hd 11) (hd 14)
   go_simp
   exact hK _ _ (hI.y mm10 hfive)
  ·obtain ⟨v15,zt15,h15⟩:=hI.v mm10 (hd 15)
   have h15' : FiveV w1.heap.size R C R C ⟨ent M,idf,idf,idf,idf⟩ wS v15:=h15
   obtain ⟨so,sc,uo,uc,vo,vc,wo,wc,xo,xc,bS,bU,bV,bW,bX,rfl,-⟩:=h15'.ex
   go_simp
   exact hK _ _ (hI.y mm11 h15)
  ·go_simp
   exact hK _ _ ((hI.world ((Below.refl _ _).alloc (Nat.le_refl _) _)).y mm12 ⟨_,rfl,Blk.new _ _ _,hI.bel.size⟩)
 intro T w2 hI
 obtain ⟨va0,q0,rfl⟩:=hI.v mm0 rfl
 obtain ⟨va1,q1,ha1⟩:=hI.v mm1 rfl
 replace ha1 : IntV w2 va1 (1):=ha1
 obtain ⟨va3,q3,rfl⟩:=hI.v mm2 rfl
 obtain ⟨va4,q4,rfl⟩:=hI.v mm3 rfl
 obtain ⟨va6,q6,rfl⟩:=hI.v mm4 rfl
 obtain ⟨va7,q7,rfl⟩:=hI.v mm5 rfl
 obtain ⟨va9,q9,rfl⟩:=hI.v mm6 rfl
 obtain ⟨va10,q10,rfl⟩:=hI.v mm7 rfl
 obtain ⟨va12,q12,rfl⟩:=hI.v mm8 rfl
 obtain ⟨va13,q13,rfl⟩:=hI.v mm9 rfl
 obtain ⟨va15,q15,ha15⟩:=hI.v mm10 rfl
 obtain ⟨va16,q16,ha16⟩:=hI.v mm11 rfl
 obtain ⟨va17,q17,ha17⟩:=hI.v mm12 rfl
 obtain ⟨va2,q2,moa2,mca2,mea2⟩:=hI.matv _ mm0 rfl
 obtain ⟨va5,q5,moa5,mca5,mea5⟩:=hI.matv _ mm1 rfl
 obtain ⟨va8,q8,moa8,mca8,mea8⟩:=hI.matv _ mm2 rfl
 obtain ⟨va11,q11,moa11,mca11,mea11⟩:=hI.matv _ mm3 rfl
 obtain ⟨va14,q14,moa14,mca14,mea14⟩:=hI.matv _ mm4 rfl
 have hT:=tmps_set [(8,.agg #[.int .i64 R,.int .i64 C,.slice ao R cap]),(9,va1),(11,.pointer (some ⟨w.heap.size,0,none⟩)),(12,.int .i64 R),(14,.pointer (some ⟨w.heap.size,0,none⟩)),(15,.int .i64 R),(17,.pointer (some ⟨w.heap.size,1,none⟩)),(18,.int .i64 C),(20,.pointer (some ⟨w.heap.size,1,none⟩)),(21,.int .i64 C),(23,va15),(24,va16),(3,va17),(10,va2),(13,va5),(16,va8),(19,va11),(22,va14)]
  (fun j hj=>hI.keep j (by simp only [List.forall_mem_cons] at hj ⊢; simp [hj]) (by simp only [List.forall_mem_cons] at hj ⊢; simp [hj]))
  (by simp only [List.forall_mem_cons]; simp [q0,q1,q3,q4,q6,q7,q9,q10,q12,q13,q15,q16,q17,q2,q5,q8,q11,q14]) hI.size
 have hbw2:=hI.bel
 clear hI
 simp only [List.foldl_cons,List.foldl_nil,List.setIfInBounds_toArray,List.set_cons_zero,List.set_cons_succ,ptr] at hT
 subst hT
 clear q0 q1 q3 q4 q6 q7 q9 q10 q12 q13 q15 q16 q17 q2 q5 q8 q11 q14
 simp only [List.drop_succ_cons,List.drop_zero]
 have ha16' : FiveV w1.heap.size R C R C ⟨ent M,idf,idf,idf,idf⟩ w2 va16:=ha16
 obtain ⟨g,rfl,gb,hgg⟩ : WorkNew w1.heap.size w2 va17:=ha17
 obtain ⟨so,sc,uo,uc,vo,vc,wo,wc,xo,xc,-,-,-,-,-,rfl,-⟩:=ha16'.ex
 have H5:=HidS.mk ha16'
 obtain ⟨⟨q0,q1,q2,q3,q4,q5,q6,q7,q8,q9,q10,q11,q12,q13,q14⟩,⟨f0,f1,f2,f3,f4,f5,f6,f7,f8,f9,f10,f11,f12,f13,f14⟩⟩:=gb.all15
 have hB2:=nx hB1 hbw2
 have bx1:=bx1.below hbw2
 have br:=br.below hbw2
 have lg:=gb.lt
 clear c1 c2 c3 c4 c5 c6 ha1 ha15 ha16 ha16'
 clear mea2 mea5 mea8 mea11 mea14
 go_upto_region 4 with (fail)
 refine wp_world ?_
 intro W3 hW3
 have hgW : Blk W3 g tW #[.int .i64 R,.int .i64 C,.slice so R sc,.int .i64 R,.int .i64 R,.slice uo R uc,.int .i64 R,.int .i64 R,.slice vo R vc,.int .i64 C,.int .i64 C,.slice wo C wc,.int .i64 C,.int .i64 C,.slice xo C xc]:=by rw [hW3.out]; exact gb.put15 _ _ _ _ _ _ _ _ _ _ _ _ _ _ _
 have hold : ∀b,b ≠ g->W3.heap[b]? = w2.heap[b]?:=fun b hb=>by rw [hW3.out]; exact set15_old _ _ _ _ _ _ _ _ _ _ _ _ _ _ _ _ _ _ hb
 have hx3 : LExt w2 W3:=by rw [hW3.out]; exact gb.lext15 dE _ _ _ _ _ _ _ _ _ _ _ _ _ _ _
 have hbl3 : Below 0 w2 W3:=by rw [hW3.out]; exact below15 (Below.refl _ _) (Nat.zero_le _) _ _ _ _ _ _ _ _ _ _ _ _ _ _ _
 have hB3 : Below w.heap.size w W3:=by rw [hW3.out]; exact below15 hB2 (by have:=hB0.size; omega) _ _ _ _ _ _ _ _ _ _ _ _ _ _ _
 have hO3 : OnlyZ (fun b=>b = g) w2 W3:=⟨hbl3,hx3,fun b _ hb=>hold b hb⟩
 obtain ⟨bS,bU,bV,bW,bX,hwork⟩:=H5.out.work gb hgg hgW hO3
 have br : Blk W3 (w.heap.size + 1) tS #[.int .i64 0,.int .i64 0,.slice none 0 0,.int .i64 0,.int .i64 0,.slice none 0 0,.int .i64 0,.int .i64 0,.slice none 0 0,.int .i64 0,.int .i64 0,.slice none 0 0,.int .i64 0,.int .i64 0,.slice none 0 0]:=(hold _ oM).trans br
 have hsz3:=hbl3.size
 have hsz2:=hbw2.size
 have HWK:=HidS.mk hwork
 clear q0 q1 q2 q3 q4 q5 q6 q7 q8 q9 q10 q11 q12 q13 q14 f0 f1 f2 f3 f4 f5 f6 f7 f8 f9 f10 f11 f12 f13 f14 hW3 hold hx3 hbl3 hO3 hwork gb hgW H5
 go_wp2_with fail
 refine (wrun_any hB HWK.out oM HOK.out hR hC hR hC HRUN.out HDIV.out HEL.out).mono ?_
 rintro e w4 ⟨⟨uu,rfl⟩,hO4,AS',bS',bU',bV',bW',bX',y',hdr,hys,hw4⟩
 obtain ⟨so',sc',rfl⟩:=hw4.mS.shape
 have HW:=HidS.mk hw4
 have HYS:=HidS.mk (And.intro hdr hys)
 have hB4 : Below w.heap.size w w4:=below_only hB3 hO4 (by have:=hB1.size; omega) hB3.size
 have br:=hO4.blk br (by have:=hB0.size; omega)
 have hsz4:=hO4.bel.size
 obtain ⟨⟨q0,q1,q2,q3,q4,q5,q6,q7,q8,q9,q10,q11,q12,q13,q14⟩,⟨f0,f1,f2,f3,f4,f5,f6,f7,f8,f9,f10,f11,f12,f13,f14⟩⟩:=hw4.blk.all15
 have lg:=hw4.blk.lt
 have hok4:=HOKD.out y' hdr
 have HOK4:=HidS.mk hok4
 have hl3:=lastsB_matR R R (trF y'.v)
 have hl4:=lastsB_matR C C (trF y'.w)
 clear hdr hys hw4 hok4 HWK
 go_upto_region 5 with (fail)
 refine wp_region_headed 8 rfl (RV w4 _ [⟨0,26,fun _ v=>v = .pointer (some ⟨g,0,none⟩)⟩,⟨1,27,fun _ v=>v = .pointer (some ⟨g,6,none⟩)⟩,⟨2,28,fun _ v=>v = .agg #[.int .i64 R,.int .i64 R,.slice vo R vc]⟩,⟨3,29,MatR R R (trF y'.v)⟩,⟨4,30,fun _ v=>v = .pointer (some ⟨g,0,none⟩)⟩,⟨5,31,fun _ v=>v = .pointer (some ⟨g,9,none⟩)⟩,⟨6,32,fun _ v=>v = .agg #[.int .i64 C,.int .i64 C,.slice wo C wc]⟩,⟨7,33,MatR C C (trF y'.w)⟩]) kR RV.start ?fin2 ?steps2
 case steps2=>
  refine ⟨?_,?_,?_,?_,?_,?_,?_,?_,trivial⟩ <;> (intro L T wS hL hd hcl hI K hK; try refine step_wanted rfl ?_)
  ·have zt : T[3]? = some (.pointer (some ⟨g,0,none⟩)):=hI.keep 3 sI
   go_simp
   exact hK _ _ (hI.y mm0 rfl)
  ·obtain ⟨_,zt0,rfl⟩:=hI.v mm0 (hd 0)
   go_simp
   exact hK _ _ (hI.y mm1 rfl)
  ·obtain ⟨_,zt1,rfl⟩:=hI.v mm1 (hd 1)
   have cc0:=hI.cell q6
   have cc1:=hI.cell q7
   have cc2:=hI.cell q8
   go_simp
   exact hK _ _ (hI.y mm2 rfl)
  ·obtain ⟨_,zt2,rfl⟩:=hI.v mm2 (hd 2)
   go_simp
   refine (transposeR hBm (HW.out.mV.below hI.bel) HOK4.out.2.2.1 hR hR).mono ?_
   rintro e wa ⟨v,rfl,hv,hba⟩
   exact hK _ _ ((hI.world hba).y mm3 hv)
  ·have zt : T[3]? = some (.pointer (some ⟨g,0,none⟩)):=hI.keep 3 sI
   go_simp
   exact hK _ _ (hI.y mm4 rfl)
  ·obtain ⟨_,zt4,rfl⟩:=hI.v mm4 (hd 4)
   go_simp
   exact hK _ _ (hI.y mm5 rfl)
  ·obtain ⟨_,zt5,rfl⟩:=hI.v mm5 (hd 5)
   have cc0:=hI.cell q9
   have cc1:=hI.cell q10
   have cc2:=hI.cell q11
   go_simp
   exact hK _ _ (hI.y mm6 rfl)
  ·obtain ⟨_,zt6,rfl⟩:=hI.v mm6 (hd 6)
   go_simp
   refine (transposeR hBm (HW.out.mW.below hI.bel) HOK4.out.2.2.2.1 hC hC).mono ?_
   rintro e wa ⟨v,rfl,hv,hba⟩
   exact hK _ _ ((hI.world hba).y mm7 hv)
 intro T w5 hI
 obtain ⟨vb0,q0,rfl⟩:=hI.v mm0 rfl
 obtain ⟨vb1,q1,rfl⟩:=hI.v mm1 rfl
 obtain ⟨vb2,q2,rfl⟩:=hI.v mm2 rfl
 obtain ⟨vb3,q3,hb3⟩:=hI.v mm3 rfl
 obtain ⟨vb4,q4,rfl⟩:=hI.v mm4 rfl
 obtain ⟨vb5,q5,rfl⟩:=hI.v mm5 rfl
 obtain ⟨vb6,q6,rfl⟩:=hI.v mm6 rfl
 obtain ⟨vb7,q7,hb7⟩:=hI.v mm7 rfl
 have hT:=tmps_set [(26,.pointer (some ⟨g,0,none⟩)),(27,.pointer (some ⟨g,6,none⟩)),(28,.agg #[.int .i64 R,.int .i64 R,.slice vo R vc]),(29,vb3),(30,.pointer (some ⟨g,0,none⟩)),(31,.pointer (some ⟨g,9,none⟩)),(32,.agg #[.int .i64 C,.int .i64 C,.slice wo C wc]),(33,vb7)]
  (fun j hj=>hI.keep j (by simp only [List.forall_mem_cons] at hj ⊢; simp [hj]))
  (by simp only [List.forall_mem_cons]; simp [q0,q1,q2,q3,q4,q5,q6,q7]) hI.size
 have hbw5:=hI.bel
 clear hI
 simp only [List.foldl_cons,List.foldl_nil,List.setIfInBounds_toArray,List.set_cons_zero,List.set_cons_succ,ptr] at hT
 subst hT
 clear q0 q1 q2 q3 q4 q5 q6 q7
 simp only [List.drop_succ_cons,List.drop_zero]
 obtain ⟨o1,c1,rfl,hV⟩ : MatR R R (trF y'.v) w5 vb3:=hb3
 obtain ⟨o2,c2,rfl,hWt⟩ : MatR C C (trF y'.w) w5 vb7:=hb7
 have hB5:=nx hB4 hbw5
 have br:=br.below hbw5
 have HW5:=HidS.mk (HW.out.below hbw5)
 have hg5:=HW5.out.blk
 have RS:=HidS.mk (RowsO.rows HW5.out.mS)
 have RU:=HidS.mk (RowsO.rows HW5.out.mU)
 have RX:=HidS.mk (RowsO.rows HW5.out.mX)
 have RV5:=HidS.mk hV
 have RW5:=HidS.mk hWt
 clear q0 q1 q2 q3 q4 q5 q6 q7 q8 q9 q10 q11 q12 q13 q14 f0 f1 f2 f3 f4 f5 f6 f7 f8 f9 f10 f11 f12 f13 f14 hV hWt
 obtain ⟨⟨q0,q1,q2,q3,q4,q5,q6,q7,q8,q9,q10,q11,q12,q13,q14⟩,⟨f0,f1,f2,f3,f4,f5,f6,f7,f8,f9,f10,f11,f12,f13,f14⟩⟩:=hg5.all15
 have hsz5:=hbw5.size
 go_upto_region 6 with (fail)
 refine wp_world ?_
 intro W6 hW6
 have hg6 : Blk W6 g tW #[.int .i64 R,.int .i64 C,.slice so' R sc',.int .i64 R,.int .i64 R,.slice uo R uc,.int .i64 R,.int .i64 R,.slice o1 R c1,.int .i64 C,.int .i64 C,.slice o2 C c2,.int .i64 C,.int .i64 C,.slice xo C xc]:=by
  rw [hW6.out]
  simpa using (((((hg5.set_ 6 (.int .i64 R)).set_ 7 (.int .i64 R)).set_ 8 (.slice o1 R c1)).set_ 9 (.int .i64 C)).set_ 10 (.int .i64 C)).set_ 11 (.slice o2 C c2)
 have hold6 : ∀b,b ≠ g->W6.heap[b]? = w5.heap[b]?:=fun b hb=>by
  rw [hW6.out]
  exact (setCell_old _ _ _ _ _ hb).trans ((setCell_old _ _ _ _ _ hb).trans ((setCell_old _ _ _ _ _ hb).trans ((setCell_old _ _ _ _ _ hb).trans ((setCell_old _ _ _ _ _ hb).trans (setCell_old _ _ _ _ _ hb)))))
 have hx6 : LExt w5 W6:=by
  rw [hW6.out]
  exact (hg5.lext dE 6 _).trans (((hg5.set_ 6 _).lext dE 7 _).trans ((((hg5.set_ 6 _).set_ 7 _).lext dE 8 _).trans (((((hg5.set_ 6 _).set_ 7 _).set_ 8 _).lext dE 9 _).trans ((((((hg5.set_ 6 _).set_ 7 _).set_ 8 _).set_ 9 _).lext dE 10 _).trans ((((((hg5.set_ 6 _).set_ 7 _).set_ 8 _).set_ 9 _).set_ 10 _).lext dE 11 _)))))
 have hB6 : Below w.heap.size w W6:=by
  rw [hW6.out]
  have hgw : w.heap.size<=g:=by have:=hB1.size; omega
  exact bset (bset (bset (bset (bset (bset hB5 hgw 6 _) hgw 7 _) hgw 8 _) hgw 9 _) hgw 10 _) hgw 11 _
 have off6 : ∀{v : Value} {M : List (List Int)},RowsV w5 v M->RowsV W6 v M:=fun h=>h.off hg5 dE dE hold6 hx6
 have RS:=HidS.mk (off6 RS.out)
 have RU:=HidS.mk (off6 RU.out)
 have RX:=HidS.mk (off6 RX.out)
 have RV5:=HidS.mk (off6 RV5.out)
 have RW5:=HidS.mk (off6 RW5.out)
 have br : Blk W6 (w.heap.size + 1) tS _:=(hold6 _ (by have:=hB0.size; omega)).trans br
 clear q0 q1 q2 q3 q4 q5 q6 q7 q8 q9 q10 q11 q12 q13 q14 f0 f1 f2 f3 f4 f5 f6 f7 f8 f9 f10 f11 f12 f13 f14 hW6 hold6 hx6 off6 HW5 HW hg5
 obtain ⟨⟨q0,q1,q2,q3,q4,q5,q6,q7,q8,q9,q10,q11,q12,q13,q14⟩,-⟩:=hg6.all15
 obtain ⟨⟨r0,r1,r2,r3,r4,r5,r6,r7,r8,r9,r10,r11,r12,r13,r14⟩,⟨f0,f1,f2,f3,f4,f5,f6,f7,f8,f9,f10,f11,f12,f13,f14⟩⟩:=br.all15
 go_wp2
 have hxr:=br.lext15 dE (.int .i64 R) (.int .i64 C) (.slice so' R sc') (.int .i64 R) (.int .i64 R) (.slice uo R uc) (.int .i64 R) (.int .i64 R) (.slice o1 R c1) (.int .i64 C) (.int .i64 C) (.slice o2 C c2) (.int .i64 C) (.int .i64 C) (.slice xo C xc)
 have offr : ∀{v : Value} {M : List (List Int)},RowsV W6 v M->RowsV _ v M:=fun h=>h.off br dE dE (fun b hb=>set15_old W6 (w.heap.size + 1) b _ _ _ _ _ _ _ _ _ _ _ _ _ _ _ hb) hxr
 refine bodyPost_ret (results_cell_row rfl _ _ (w.heap.size + 1) _ _ _ _ rfl (br.put15 _ _ _ _ _ _ _ _ _ _ _ _ _ _ _) Tryz.underlying32 rfl (by rw [Tryz.sizeS]; rfl)) rfl ⟨_,y',rfl,HYS.out.1,HYS.out.2,⟨_,_,_,_,_,rfl,offr RS.out,offr RU.out,offr RV5.out,offr RW5.out,offr RX.out⟩,below15 hB6 oM _ _ _ _ _ _ _ _ _ _ _ _ _ _ _⟩
def zf : Nat->Nat->Int:=fun _ _=>0
theorem mnewW (R C : Nat) (w : World) (hR : R<=1000000) (hC : C<=1000000) : Calls Tryz.prog 60 #[.int .i64 R,.int .i64 C] w fun e w'=>∃v,e = .returned v/\Within R C zf w.heap.size w'.heap.size w' v/\Below w.heap.size w w':=
 (mnew_any R C w hR hC).mono fun e w' hr=>by
  rw [zeros_genM] at hr
  exact hr.within
def nzL (l : List Int) : List Int:=l.filter (fun z=>decide (z ≠ 0))
set_option maxHeartbeats 4000000 in
set_option maxRecDepth 20000 in
theorem invariants_none (v : Value) (C : Nat) (M : List (List Int)) (w : World) (h : MatV w v (0 : Nat) C M) (hF : Fits 0 C M) :
  Calls Tryz.prog 18 #[v] w fun e w'=>∃v,e = .returned v/\VecO w' w.heap.size v []/\Below w.heap.size w w':=by
 have H0:=HidS.mk h
 obtain ⟨R,hR0⟩ : ∃R : Nat,R = 0:=⟨0,rfl⟩
 rw [<-hR0] at H0
 obtain ⟨A,rfl,h⟩:=h
 obtain ⟨ao,n,cap,rfl,e2,e3,e4,-⟩:=id h
 have hdv : decide (ValidM R C M) = true:=decide_eq_true (by rw [hR0]; exact hF.valid)
 rw [<-hR0]
 clear e2 hF
 go_enter Tryz.func18,Tryz.ntmps18
 go_upto_region 1 with (fail)
 refine wp_world ?_
 intro W0 hW0
 obtain ⟨hB0,bx1,hs0⟩:=world1 hW0
 obtain ⟨c1,c2,c3,c4,c5,c6⟩:=bx1.three
 clear hW0
 go_wp2_with fail
 refine (mvalid_any _ R C M W0 (H0.out.below hB0)).mono ?_
 rintro e w1 ⟨rfl,hb1⟩
 rw [hdv]
 have bx1:=bx1.below hb1
 have hB1:=nx hB0 hb1
 have hs1:=hb1.size
 clear c1 c2 c3 c4 c5 c6 hdv
 obtain ⟨c1,c2,c3,c4,c5,c6⟩:=bx1.three
 subst hR0
 go_wp2
 go_ret
 exact ⟨_,rfl,VecO.nil _ _,hB1⟩
theorem diagL_genM {R C n : Nat} {F : Nat->Nat->Int} (h : n<=R) (h2 : n<=C) : diagL (genM R C F) n = genV n (fun i=>F i i):=by
 unfold diagL genV
 refine List.map_congr_left fun k hk=>?_
 have hk':=List.mem_range.1 hk
 exact ent_genM oM oM
theorem nzL_snoc (l : List Int) (z : Int) : nzL (l ++ [z]) = if z ≠ 0 then nzL l ++ [z] else nzL l:=by
 unfold nzL
 by_cases h : z = 0
 ·simp [h]
 ·simp [h]
set_option maxHeartbeats 8000000 in
set_option maxRecDepth 20000 in
theorem invariants_any {B : Nat} (hB : BSd B) (v : Value) (M : List (List Int)) (R C : Nat) (w : World) (h : MatV w v R C M) (hF : Fits R C M) (hR0 : 0 < R) (hR : R<=1000000) (hC : C<=1000000) {f rr : Nat} {y : W5} (hok : okW B R C 0 0 ⟨ent M,zf,zf,zf,zf⟩)
  (hrun : runGo B R C 0 0 f rr ⟨ent M,zf,zf,zf,zf⟩ = some y) (hdiv : ∀y',DivR (min R C) y y'->∀i j,i < j->j < min R C->¬ y'.s i i ∣ y'.s j j->DivOk B C 0 0 y' i j) (hel : ∀y',DivR (min R C) y y'->∀i,i < min R C->(y'.s i i).natAbs < B) :
  Calls Tryz.prog 18 #[v] w fun e w'=>∃v,e = .returned v/\VecO w' w.heap.size v (nzL (genV (min R C) (fun i=>divI (min R C) 0 y.s i i)))/\Below w.heap.size w w':=by
 have hBm:=hB.bsm
 have S1 : HidS (Sm 1):=⟨(Smd.one (z:=1) dE).sm⟩
 have H0:=HidS.mk h
 obtain ⟨A,rfl,h⟩:=h
 obtain ⟨ao,n,cap,rfl,e2,e3,e4,-⟩:=id h
 obtain rfl : R = n:=by rw [<-e2,hF.1]
 have hdv : decide (ValidM R C M) = true:=decide_eq_true hF.valid
 have HF:=HidS.mk hF
 have HOK:=HidS.mk hok
 have HRUN:=HidS.mk hrun
 have HDIV:=HidS.mk hdiv
 have HEL:=HidS.mk hel
 obtain ⟨LL,hLL⟩ : ∃LL : List Int,genV (min R C) (fun i=>divI (min R C) 0 y.s i i) = LL:=⟨_,rfl⟩
 rw [hLL]
 have HLL:=HidS.mk hLL
 clear hok hrun hdiv hel hF e2 hLL
 go_enter Tryz.func18,Tryz.ntmps18
 go_upto_region 1 with (fail)
 refine wp_world ?_
 intro W0 hW0
 obtain ⟨hB0,bx1,hs0⟩:=world1 hW0
 obtain ⟨c1,c2,c3,c4,c5,c6⟩:=bx1.three
 clear hW0
 go_wp2_with fail
 refine (mvalid_any _ R C M W0 (H0.out.below hB0)).mono ?_
 rintro e w1 ⟨rfl,hb1⟩
 rw [hdv]
 have bx1:=bx1.below hb1
 have hB1:=nx hB0 hb1
 have hs1:=hb1.size
 clear c1 c2 c3 c4 c5 c6 hdv
 obtain ⟨c1,c2,c3,c4,c5,c6⟩:=bx1.three
 have hl1:=lastsB_five w1.heap.size R C 0 0 ⟨ent M,zf,zf,zf,zf⟩
 have hl2:=lastsB_workNew w1.heap.size
 have hRne : ¬ (R : Int) = 0:=by omega
 go_upto_region 3 with (fail)
 refine wp_region_headed 18 rfl (RG w1 _ [⟨0,15,fun _ v=>v = .agg #[.int .i64 R,.int .i64 C,.slice ao R cap]⟩,⟨1,16,fun w v=>IntV w v (1)⟩,⟨3,18,fun _ v=>v = .pointer (some ⟨w.heap.size,0,none⟩)⟩,⟨4,19,fun _ v=>v = .int .i64 R⟩,⟨6,21,fun _ v=>v = .pointer (some ⟨w.heap.size,0,none⟩)⟩,⟨7,22,fun _ v=>v = .int .i64 R⟩,⟨9,24,fun _ v=>v = .pointer (some ⟨w.heap.size,1,none⟩)⟩,⟨10,25,fun _ v=>v = .int .i64 C⟩,⟨12,27,fun _ v=>v = .pointer (some ⟨w.heap.size,1,none⟩)⟩,⟨13,28,fun _ v=>v = .int .i64 C⟩,⟨15,30,FiveV w1.heap.size R C 0 0 ⟨ent M,zf,zf,zf,zf⟩⟩,⟨16,31,FiveV w1.heap.size R C 0 0 ⟨ent M,zf,zf,zf,zf⟩⟩,⟨17,3,WorkNew w1.heap.size⟩] [⟨2,17,R,C,ent M⟩,⟨5,20,R,0,zf⟩,⟨8,23,R,0,zf⟩,⟨11,26,C,0,zf⟩,⟨14,29,C,0,zf⟩]) kR RG.start ?fin1 ?steps1
 case steps1=>
  refine ⟨?_,?_,?_,?_,?_,?_,?_,?_,?_,?_,?_,?_,?_,?_,?_,?_,?_,?_,trivial⟩ <;> (intro L T wS hL hd hcl hI K hK; try refine step_wanted rfl ?_)
  ·have zt : T[1]? = some (.pointer (some ⟨w.heap.size,0,none⟩)):=hI.keep 1 sI sI
   have cc0:=hI.cell c1
   have cc1:=hI.cell c2
   have cc2:=hI.cell c3
   go_simp
   exact hK _ _ (hI.y mm0 rfl)
  ·go_simp
   refine (of_any 1 _ oM oM).mono ?_
   rintro e wa ⟨v,rfl,hv,hba⟩
   exact hK _ _ ((hI.world hba).y mm1 hv)
  ·obtain ⟨_,zt0,rfl⟩:=hI.v mm0 (hd 0)
   obtain ⟨v1,zt1,h1⟩:=hI.v mm1 (hd 1)
   go_simp
   refine (mscaleW hBm _ _ M R C _ ((H0.out.below hB1).below hI.bel) HF.out h1 hR hC HOK.out.1 S1.out).mono ?_
   rintro e wa ⟨v,rfl,hv,hba⟩
   exact hK _ _ (hI.mat hcl hL ⟨2,17,_,_,_⟩ mm0 rfl hba hv kR)
  ·have zt : T[1]? = some (.pointer (some ⟨w.heap.size,0,none⟩)):=hI.keep 1 sI sI
   go_simp
   exact hK _ _ (hI.y mm2 rfl)
  ·obtain ⟨_,zt3,rfl⟩:=hI.v mm2 (hd 3)
   have cc0:=hI.cell c1
   go_simp
   exact hK _ _ (hI.y mm3 rfl)
  ·obtain ⟨_,zt4,rfl⟩:=hI.v mm3 (hd 4)
   go_simp
   refine (mnewW R 0 _ hR (Nat.zero_le _)).mono ?_
   rintro e wa ⟨v,rfl,hv,hba⟩
   exact hK _ _ (hI.mat hcl hL ⟨5,20,_,_,_⟩ mm1 rfl hba hv kR)
  ·have zt : T[1]? = some (.pointer (some ⟨w.heap.size,0,none⟩)):=hI.keep 1 sI sI
   go_simp
   exact hK _ _ (hI.y mm4 rfl)
  ·obtain ⟨_,zt6,rfl⟩:=hI.v mm4 (hd 6)
   have cc0:=hI.cell c1
   go_simp
   exact hK _ _ (hI.y mm5 rfl)
  ·obtain ⟨_,zt7,rfl⟩:=hI.v mm5 (hd 7)
   go_simp
   refine (mnewW R 0 _ hR (Nat.zero_le _)).mono ?_
   rintro e wa ⟨v,rfl,hv,hba⟩
   exact hK _ _ (hI.mat hcl hL ⟨8,23,_,_,_⟩ mm2 rfl hba hv kR)
  ·have zt : T[1]? = some (.pointer (some ⟨w.heap.size,0,none⟩)):=hI.keep 1 sI sI
   go_simp
   exact hK _ _ (hI.y mm6 rfl)
  ·obtain ⟨_,zt9,rfl⟩:=hI.v mm6 (hd 9)
   have cc0:=hI.cell c2
   go_simp
   exact hK _ _ (hI.y mm7 rfl)
  ·obtain ⟨_,zt10,rfl⟩:=hI.v mm7 (hd 10)
   go_simp
   refine (mnewW C 0 _ hC (Nat.zero_le _)).mono ?_
   rintro e wa ⟨v,rfl,hv,hba⟩
   exact hK _ _ (hI.mat hcl hL ⟨11,26,_,_,_⟩ mm3 rfl hba hv kR)
  ·have zt : T[1]? = some (.pointer (some ⟨w.heap.size,0,none⟩)):=hI.keep 1 sI sI
   go_simp
   exact hK _ _ (hI.y mm8 rfl)
  ·obtain ⟨_,zt12,rfl⟩:=hI.v mm8 (hd 12)
   have cc0:=hI.cell c2
   go_simp
   exact hK _ _ (hI.y mm9 rfl)
  ·obtain ⟨_,zt13,rfl⟩:=hI.v mm9 (hd 13)
   go_simp
   refine (mnewW C 0 _ hC (Nat.zero_le _)).mono ?_
   rintro e wa ⟨v,rfl,hv,hba⟩
   exact hK _ _ (hI.mat hcl hL ⟨14,29,_,_,_⟩ mm4 rfl hba hv kR)
  ·obtain ⟨so,sc,uo,uc,vo,vc,wo,wc,xo,xc,t1,t2,t3,t4,t5,hfive⟩:=hI.five oM oM oM oM (hd 2) (hd 5) (hd 8) (hd 11) (hd 14)
   go_simp
   exact hK _ _ (hI.y mm10 hfive)
  ·obtain ⟨v15,zt15,h15⟩:=hI.v mm10 (hd 15)
   have h15' : FiveV w1.heap.size R C 0 0 ⟨ent M,zf,zf,zf,zf⟩ wS v15:=h15
   obtain ⟨so,sc,uo,uc,vo,vc,wo,wc,xo,xc,bS,bU,bV,bW,bX,rfl,-⟩:=h15'.ex
   go_simp
   exact hK _ _ (hI.y mm11 h15)
  ·go_simp
   exact hK _ _ ((hI.world ((Below.refl _ _).alloc (Nat.le_refl _) _)).y mm12 ⟨_,rfl,Blk.new _ _ _,hI.bel.size⟩)
 intro T w2 hI
 obtain ⟨va0,q0,rfl⟩:=hI.v mm0 rfl
 obtain ⟨va1,q1,ha1⟩:=hI.v mm1 rfl
 replace ha1 : IntV w2 va1 (1):=ha1
 obtain ⟨va3,q3,rfl⟩:=hI.v mm2 rfl
 obtain ⟨va4,q4,rfl⟩:=hI.v mm3 rfl
 obtain ⟨va6,q6,rfl⟩:=hI.v mm4 rfl
 obtain ⟨va7,q7,rfl⟩:=hI.v mm5 rfl
 obtain ⟨va9,q9,rfl⟩:=hI.v mm6 rfl
 obtain ⟨va10,q10,rfl⟩:=hI.v mm7 rfl
 obtain ⟨va12,q12,rfl⟩:=hI.v mm8 rfl
 obtain ⟨va13,q13,rfl⟩:=hI.v mm9 rfl
 obtain ⟨va15,q15,ha15⟩:=hI.v mm10 rfl
 obtain ⟨va16,q16,ha16⟩:=hI.v mm11 rfl
 obtain ⟨va17,q17,ha17⟩:=hI.v mm12 rfl
 obtain ⟨va2,q2,moa2,mca2,mea2⟩:=hI.matv _ mm0 rfl
 obtain ⟨va5,q5,moa5,mca5,mea5⟩:=hI.matv _ mm1 rfl
 obtain ⟨va8,q8,moa8,mca8,mea8⟩:=hI.matv _ mm2 rfl
 obtain ⟨va11,q11,moa11,mca11,mea11⟩:=hI.matv _ mm3 rfl
 obtain ⟨va14,q14,moa14,mca14,mea14⟩:=hI.matv _ mm4 rfl
 have hT:=tmps_set [(15,.agg #[.int .i64 R,.int .i64 C,.slice ao R cap]),(16,va1),(18,.pointer (some ⟨w.heap.size,0,none⟩)),(19,.int .i64 R),(21,.pointer (some ⟨w.heap.size,0,none⟩)),(22,.int .i64 R),(24,.pointer (some ⟨w.heap.size,1,none⟩)),(25,.int .i64 C),(27,.pointer (some ⟨w.heap.size,1,none⟩)),(28,.int .i64 C),(30,va15),(31,va16),(3,va17),(17,va2),(20,va5),(23,va8),(26,va11),(29,va14)]
  (fun j hj=>hI.keep j (by simp only [List.forall_mem_cons] at hj ⊢; simp [hj]) (by simp only [List.forall_mem_cons] at hj ⊢; simp [hj]))
  (by simp only [List.forall_mem_cons]; simp [q0,q1,q3,q4,q6,q7,q9,q10,q12,q13,q15,q16,q17,q2,q5,q8,q11,q14]) hI.size
 have hbw2:=hI.bel
 clear hI
 simp only [List.foldl_cons,List.foldl_nil,List.setIfInBounds_toArray,List.set_cons_zero,List.set_cons_succ,ptr] at hT
 subst hT
 clear q0 q1 q3 q4 q6 q7 q9 q10 q12 q13 q15 q16 q17 q2 q5 q8 q11 q14
 simp only [List.drop_succ_cons,List.drop_zero]
 have ha16' : FiveV w1.heap.size R C 0 0 ⟨ent M,zf,zf,zf,zf⟩ w2 va16:=ha16
 obtain ⟨g,rfl,gb,hgg⟩ : WorkNew w1.heap.size w2 va17:=ha17
 obtain ⟨so,sc,uo,uc,vo,vc,wo,wc,xo,xc,-,-,-,-,-,rfl,-⟩:=ha16'.ex
 have H5:=HidS.mk ha16'
 obtain ⟨⟨q0,q1,q2,q3,q4,q5,q6,q7,q8,q9,q10,q11,q12,q13,q14⟩,⟨f0,f1,f2,f3,f4,f5,f6,f7,f8,f9,f10,f11,f12,f13,f14⟩⟩:=gb.all15
 have hB2:=nx hB1 hbw2
 have bx1:=bx1.below hbw2
 have lg:=gb.lt
 clear c1 c2 c3 c4 c5 c6 ha1 ha15 ha16 ha16'
 clear mea2 mea5 mea8 mea11 mea14
 go_upto_region 4 with (fail)
 refine wp_world ?_
 intro W3 hW3
 have hgW : Blk W3 g tW #[.int .i64 R,.int .i64 C,.slice so R sc,.int .i64 R,.int .i64 (0 : Nat),.slice uo R uc,.int .i64 R,.int .i64 (0 : Nat),.slice vo R vc,.int .i64 C,.int .i64 (0 : Nat),.slice wo C wc,.int .i64 C,.int .i64 (0 : Nat),.slice xo C xc]:=by rw [hW3.out]; exact gb.put15 _ _ _ _ _ _ _ _ _ _ _ _ _ _ _
 have hold : ∀b,b ≠ g->W3.heap[b]? = w2.heap[b]?:=fun b hb=>by rw [hW3.out]; exact set15_old _ _ _ _ _ _ _ _ _ _ _ _ _ _ _ _ _ _ hb
 have hx3 : LExt w2 W3:=by rw [hW3.out]; exact gb.lext15 dE _ _ _ _ _ _ _ _ _ _ _ _ _ _ _
 have hbl3 : Below 0 w2 W3:=by rw [hW3.out]; exact below15 (Below.refl _ _) (Nat.zero_le _) _ _ _ _ _ _ _ _ _ _ _ _ _ _ _
 have hB3 : Below w.heap.size w W3:=by rw [hW3.out]; exact below15 hB2 (by have:=hB0.size; omega) _ _ _ _ _ _ _ _ _ _ _ _ _ _ _
 have hO3 : OnlyZ (fun b=>b = g) w2 W3:=⟨hbl3,hx3,fun b _ hb=>hold b hb⟩
 obtain ⟨bS,bU,bV,bW,bX,hwork⟩:=H5.out.work gb hgg hgW hO3
 have hsz3:=hbl3.size
 have hsz2:=hbw2.size
 have HWK:=HidS.mk hwork
 clear q0 q1 q2 q3 q4 q5 q6 q7 q8 q9 q10 q11 q12 q13 q14 f0 f1 f2 f3 f4 f5 f6 f7 f8 f9 f10 f11 f12 f13 f14 hW3 hold hx3 hbl3 hO3 hwork gb hgW H5
 go_wp2_with fail
 refine (wrun_any hB HWK.out oM HOK.out hR hC (Nat.zero_le _) (Nat.zero_le _) HRUN.out HDIV.out HEL.out).mono ?_
 rintro e w4 ⟨⟨uu,rfl⟩,hO4,AS',bS',bU',bV',bW',bX',y',hdr,hys,hw4⟩
 obtain ⟨so',sc',rfl⟩:=hw4.mS.shape
 have hB4 : Below w.heap.size w w4:=below_only hB3 hO4 (by have:=hB1.size; omega) hB3.size
 have HW:=HidS.mk hw4
 have hLe : diagL (genM R C y'.s) (min R C) = LL:=by rw [diagL_genM oM oM,hys]; exact HLL.out
 have HLE:=HidS.mk hLe
 obtain ⟨k0,k1,k2,-,-,-,-,-,-,-⟩:=hw4.blk.fifteen
 clear hdr hys hw4 HWK hLe
 go_wp2_with fail
 refine (elements_any _ R C (genM R C y'.s) w4 HW.out.mS.mat (genM_fits _ _ _) hR hC).mono ?_
 rintro e w5 ⟨u5,rfl,hvo,hb5⟩
 rw [HLE.out] at hvo
 have hlen : LL.length<=1000000:=by rw [<-HLE.out,diagL_length]; omega
 obtain ⟨eo,ec,rfl,hec1,hec2⟩:=hvo.len
 have hB5:=nx hB4 hb5
 have HV5:=HidS.mk hvo.vec
 clear k0 k1 k2 hvo
 go_wp2
 go_loopw [4,38] (fun u iv wr=>∃k : Nat,k<=LL.length/\iv = .int .i64 k/\VecO wr w5.heap.size u (nzL (LL.take k))/\Below w.heap.size w wr/\Below w5.heap.size w5 wr) (fun _ iv _=>LL.length - (intOf iv).toNat)
 case atStart=>exact ⟨0,by omega,rfl,by rw [List.take_zero]; exact VecO.nil _ _,hB5,Below.refl _ _⟩
 case round=>
  obtain ⟨k,hk,rfl,ho,hb,hb'⟩:=hrel
  by_cases hlt : k < LL.length
  ·obtain ⟨b1,z,s,a,l,c,rfl,hbl1,hz,p1,p2,hzv⟩:=(HV5.out.below hb').cell (k:=k) hlt
   have hd : HidS (nzL (LL.take (k + 1)) = if z ≠ 0 then nzL (LL.take k) ++ [z] else nzL (LL.take k)):=⟨by rw [List.take_add_one,hz]; exact nzL_snoc _ _⟩
   clear hz
   go_upto_region 9 with (fail)
   refine wp_world ?_
   intro W6 hW6
   obtain ⟨hB6,T7,hs6⟩:=world1 hW6
   obtain ⟨d1,d2,d3,d4⟩:=T7.two
   have hzv:=hzv.ext (lx hB6)
   have ho:=ho.below hB6
   have hb:=nx hb hB6
   have hb':=nx hb' hB6
   clear p1 p2 hW6
   go_wp2_with fail
   refine (sign_any _ z W6 hzv.weak).mono ?_
   rintro e w7 ⟨rfl,hb7⟩
   have hzv:=hzv.ext (lx hb7)
   have ho:=ho.below hb7
   have hb:=nx hb hb7
   have hb':=nx hb' hb7
   have T7:=T7.below hb7
   clear d1 d2 d3 d4
   by_cases hz0 : z = 0
   ·rw [cmpI_zero hz0]
    have hq : HidS (nzL (LL.take (k + 1)) = nzL (LL.take k)):=⟨by rw [hd.out,if_neg (by simpa using hz0)]⟩
    clear hz0
    go_wp2
    go_roundw
    case rel=>exact ⟨k + 1,by omega,by simp,by rw [hq.out]; exact ho,hb,hb'⟩
    case measure=>simp [intOf]; omega
   ·have hc:=cmpI_ne hz0
    obtain ⟨k0,hk0⟩ : ∃k0,cmpI z 0 = k0:=⟨_,rfl⟩
    rw [hk0] at hc ⊢
    have hq : HidS (nzL (LL.take (k + 1)) = nzL (LL.take k) ++ [z]):=⟨by rw [hd.out,if_pos hz0]⟩
    clear hk0 hz0
    obtain ⟨d1,d2,d3,d4⟩:=T7.two
    have hsz5b:=hb'.size
    have hnl : (nzL (LL.take k)).length<=k:=Nat.le_trans (List.length_filter_le _ _) (by rw [List.length_take]; omega)
    have hszb:=hb.size
    go_wp2_with (at_builtin; refine appI rfl _ _ rfl w5.heap.size u4 (nzL (LL.take k)) rfl (ho.below ((Below.refl _ _).alloc (Nat.le_refl _) _)) w7.heap.size 1 s a l c z rfl (Blk.new _ _ _) (hzv.ext (lx ((Below.refl _ _).alloc (Nat.le_refl _) _))) oM (by simp; omega) ?_; intro v' w' hown hgr hxg)
    have hsz50:=hB5.size
    have hgr : World.grownBy (w7.alloc (.cells #[.bool s,.slice a l c] tI)) w' (Value.ownBlock u4):=hgr
    have hB9 : Below w.heap.size w w':=(hb.alloc hb.size _).grown hgr (by simp; omega) (fun g hg=>by have:=ho.own g hg; omega)
    have hB9' : Below w5.heap.size w5 w':=(hb'.alloc hb'.size _).grown hgr (by simp; omega) (fun g hg=>ho.own g hg)
    go_roundw
    case rel=>exact ⟨k + 1,by omega,by simp,by rw [hq.out]; exact hown,hB9,hB9'⟩
    case measure=>simp [intOf]; omega
  ·obtain rfl : k = LL.length:=by omega
   rw [List.take_length] at ho
   go_wp2
   go_ret
   exact ⟨_,rfl,ho.mono hB5.size,hb⟩
end Go.Proofs.YtnocgagoaldfnaaGreat
