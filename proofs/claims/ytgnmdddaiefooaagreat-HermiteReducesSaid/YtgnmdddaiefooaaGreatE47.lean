/- torsionref12: Start, Floor. torsionref12: operations on the work; Moved. -/
import Derived.Test.YtgnmdddaiefooaaGreatE12
import Derived.Test.YtgnmdddaiefooaaGreatE15
import Derived.Test.YtgnmdddaiefooaaGreatE31
import Derived.Test.YtgnmdddaiefooaaGreatE35
import Derived.Test.YtgnmdddaiefooaaGreatE42
import Derived.Test.YtgnmdddaiefooaaGreatE44
import Derived.Test.YtgnmdddaiefooaaGreatE45
import Derived.Test.YtgnmdddaiefooaaGreatE46
set_option linter.unusedVariables false
set_option linter.unusedSimpArgs false
set_option linter.unusedSectionVars false
set_option maxHeartbeats 16000000
set_option maxRecDepth 100000
namespace Go.Proofs.YtgnmdddaiefooaaGreat
open Go.RowKit
structure ThreeV (n0 R C : Nat) (S T V : Nat->Nat->Int) (w : World) (v : Value) : Prop where
 ex : ∃so sc uo uc vo vc bs bu bv,v = .agg #[.int .i64 R,.int .i64 C,.slice so R sc,.int .i64 R,.int .i64 R,.slice uo R uc,.int .i64 R,.int .i64 R,.slice vo R vc] ∧
  Wri w (.slice so R sc) R C bs S/\Wri w (.slice uo R uc) R R bu T/\Wri w (.slice vo R vc) R R bv V/\(∀b,Z3 (.slice so R sc) (.slice uo R uc) (.slice vo R vc) bs bu bv b->n0<=b) ∧
  Ap (.slice so R sc) bs (.slice uo R uc) bu/\Ap (.slice so R sc) bs (.slice vo R vc) bv/\Ap (.slice uo R uc) bu (.slice vo R vc) bv
theorem lastsB_three (n0 R C : Nat) (S T V : Nat->Nat->Int) : LastsB (ThreeV n0 R C S T V):=by
 intro w w' v hb ⟨so,sc,uo,uc,vo,vc,bs,bu,bv,h1,h2,h3,h4,h5⟩;exact ⟨so,sc,uo,uc,vo,vc,bs,bu,bv,h1,h2.below hb,h3.below hb,h4.below hb,h5⟩
theorem RG.three {W : World} {T0 : Array Value} {vs : List VS} {L : Array Bool} {T : Array Value} {w : World} {k1 k2 k3 s1 s2 s3 R C : Nat} {F1 F2 F3 : Nat->Nat->Int}
  (h : RG W T0 vs [⟨k1,s1,R,C,F1⟩,⟨k2,s2,R,R,F2⟩,⟨k3,s3,R,R,F3⟩] L T w) (o1 : k1 < k2) (o2 : k2 < k3) (l1 : L[k1]? = some true) (l2 : L[k2]? = some true) (l3 : L[k3]? = some true) :
  ∃so sc uo uc vo vc,T[s1]? = some (.agg #[.int .i64 R,.int .i64 C,.slice so R sc])/\T[s2]? = some (.agg #[.int .i64 R,.int .i64 R,.slice uo R uc])/\T[s3]? = some (.agg #[.int .i64 R,.int .i64 R,.slice vo R vc]) ∧
   ThreeV W.heap.size R C F1 F2 F3 w (.agg #[.int .i64 R,.int .i64 C,.slice so R sc,.int .i64 R,.int .i64 R,.slice uo R uc,.int .i64 R,.int .i64 R,.slice vo R vc]):=by
 obtain ⟨bot,top,g1,g2⟩:=h.gh;have M1 : (⟨k1,s1,R,C,F1⟩ : MS) ∈ [(⟨k1,s1,R,C,F1⟩ : MS),⟨k2,s2,R,R,F2⟩,⟨k3,s3,R,R,F3⟩]:=by simp
 have M2 : (⟨k2,s2,R,R,F2⟩ : MS) ∈ [(⟨k1,s1,R,C,F1⟩ : MS),⟨k2,s2,R,R,F2⟩,⟨k3,s3,R,R,F3⟩]:=by simp
 have M3 : (⟨k3,s3,R,R,F3⟩ : MS) ∈ [(⟨k1,s1,R,C,F1⟩ : MS),⟨k2,s2,R,R,F2⟩,⟨k3,s3,R,R,F3⟩]:=by simp
 obtain ⟨a1,a2,_,a3,so,sc,bS,rfl,a5,a6⟩:=g1 _ M1 l1;obtain ⟨b1,b2,_,b3,uo,uc,bU,rfl,b5,b6⟩:=g1 _ M2 l2;obtain ⟨c1,c2,_,c3,vo,vc,bV,rfl,c5,c6⟩:=g1 _ M3 l3;have r12:=g2 _ M1 _ M2 o1 l1 l2;have r13:=g2 _ M1 _ M3 (by dsimp only; omega) l1 l3;have r23:=g2 _ M2 _ M3 (by dsimp only; omega) l2 l3;refine ⟨so,sc,uo,uc,vo,vc,a3,b3,c3,⟨so,sc,uo,uc,vo,vc,bS,bU,bV,rfl,a5,b5,c5,?_,ap_range a6 b6 r12,ap_range a6 c6 r13,ap_range b6 c6 r23⟩⟩;rintro b (hb | hb | hb)
 ·exact Nat.le_trans a1 (a6 b hb).1
 ·exact Nat.le_trans b1 (b6 b hb).1
 ·exact Nat.le_trans c1 (c6 b hb).1
structure KNew (n0 R C : Nat) (S T V : Nat->Nat->Int) (w : World) (v : Value) : Prop where
 ex : ∃bw AM AU AV bm bu bv,v = .pointer (some ⟨bw,0,none⟩)/\n0<=bw/\K9 w bw AM AU AV R C bm bu bv S T V/\∀b,Z3 AM AU AV bm bu bv b->n0<=b
theorem lastsB_knew (n0 R C : Nat) (S T V : Nat->Nat->Int) : LastsB (KNew n0 R C S T V):=by
 intro w w' v hb ⟨a,b,c,d,e,f,g,h1,h2,h3,h4⟩;exact ⟨a,b,c,d,e,f,g,h1,h2,h3.below hb,h4⟩
theorem ThreeV.new {n0 R C : Nat} {S T V : Nat->Nat->Int} {w : World} {cs : Array Value} (h : ThreeV n0 R C S T V w (.agg cs)) (hn : n0<=w.heap.size) : KNew n0 R C S T V (w.alloc (.cells cs tWk)) (.pointer (some ⟨w.heap.size,0,none⟩)):=by
 obtain ⟨so,sc,uo,uc,vo,vc,bs,bu,bv,e,h2,h3,h4,h5,h6,h7,h8⟩:=h.ex;injection e with e
 subst e;have hb : Below w.heap.size w (w.alloc (.cells #[.int .i64 R,.int .i64 C,.slice so R sc,.int .i64 R,.int .i64 R,.slice uo R uc,.int .i64 R,.int .i64 R,.slice vo R vc] tWk)):=(Below.refl _ _).alloc (xgf _) _;exact ⟨_,_,_,_,_,_,_,rfl,hn,⟨Blk.new _ _ _,h2.below hb,h3.below hb,h4.below hb,h6,h7,h8⟩,h5⟩
theorem r5identityW (n : Nat) (w : World) (hn : n<=1000000) : Calls Tryz.prog 38 #[.int .i64 n] w fun e w'=>∃v,e = .returned v/\Within n n idf w.heap.size w'.heap.size w' v/\Below w.heap.size w w':=
 (r5identity_any n w hn).mono fun _ _ h=>h.within
theorem r5copiedW (v : Value) (R C : Nat) (M : List (List Int)) (w : World) (h : MatV w v R C M) (hF : Fits R C M) (hR : R<=1000000) (hC : C<=1000000) (hS : ∀r ∈ M,∀z ∈ r,Sm z) :
  Calls Tryz.prog 52 #[v] w fun e w'=>∃v,e = .returned v/\Within R C (ent M) w.heap.size w'.heap.size w' v/\Below w.heap.size w w':=
 (r5copied_any v R C M w h hF hR hC hS).mono fun _ _ h=>RetMat.within (by rwa [<-fits_genM hF])
theorem r12start_any (v : Value) (M : List (List Int)) (R C : Nat) (w : World) (h : MatV w v R C M) (hF : Fits R C M) (hR : R<=1000000) (hC : C<=1000000) (hS : ∀r ∈ M,∀z ∈ r,Sm z) :
  Calls Tryz.prog 79 #[v] w fun e w'=>∃v,e = .returned v/\KNew w.heap.size R C (ent M) idf idf w' v/\Below w.heap.size w w':=by
 have h0:=h;obtain ⟨A,rfl,h⟩:=h;obtain ⟨ao,n,cap,rfl,e2,e3,e4,-⟩:=id h;have HS:=xgv hS;have HF:=xgv hF;have H0:=xgv h0;clear h0 hF e2 hS h;go_enter Tryz.func79,Tryz.ntmps79;go_upto_region 1 with (fail)
 refine wp_world ?_;intro W0 hW0;obtain ⟨hB0,bx,hs0⟩:=world1 hW0;obtain ⟨c1,c2,c3,c4,c5,c6⟩:=bx.three;have hl1:=lastsB_three W0.heap.size R C (ent M) idf idf;have hl2:=lastsB_knew W0.heap.size R C (ent M) idf idf;have lbx:=bx.lt;clear hW0;refine wp_region_headed 10 rfl (RG W0 _ [⟨0,3,fun _ v=>v = .agg #[.int .i64 R,.int .i64 C,.slice ao n cap]⟩,⟨2,5,fun _ v=>v = .pointer (some ⟨w.heap.size,0,none⟩)⟩,⟨3,6,fun _ v=>v = .int .i64 R⟩,⟨5,8,fun _ v=>v = .pointer (some ⟨w.heap.size,0,none⟩)⟩,⟨6,9,fun _ v=>v = .int .i64 R⟩,⟨8,11,ThreeV W0.heap.size R C (ent M) idf idf⟩,⟨9,12,KNew W0.heap.size R C (ent M) idf idf⟩] [⟨1,4,R,C,ent M⟩,⟨4,7,R,R,idf⟩,⟨7,10,R,R,idf⟩]) kR RG.start ?fin1 ?steps1
 case steps1=>
  refine ⟨?_,?_,?_,?_,?_,?_,?_,?_,?_,?_,trivial⟩ <;> (intro L T wS hL hd hcl hI K hK; try refine step_wanted rfl ?_)
  ·have zt : T[1]? = some (.pointer (some ⟨w.heap.size,0,none⟩)):=hI.keep 1 sI sI
   have cc0:=hI.cell c1;have cc1:=hI.cell c2;have cc2:=hI.cell c3;go_simp;exact hK _ _ (hI.y mm0 rfl)
  ·obtain ⟨_,zt0,rfl⟩:=hI.v mm0 (hd 0)
   go_simp;refine (r5copiedW _ R C M _ ((H0.out.below hB0).below hI.bel) HF.out hR hC HS.out).mono ?_;rintro e wa ⟨v,rfl,hv,hba⟩;exact hK _ _ (hI.mat hcl hL ⟨1,4,_,_,_⟩ mm0 rfl hba hv kR)
  ·have zt : T[1]? = some (.pointer (some ⟨w.heap.size,0,none⟩)):=hI.keep 1 sI sI
   go_simp;exact hK _ _ (hI.y mm1 rfl)
  ·obtain ⟨_,zt2,rfl⟩:=hI.v mm1 (hd 2)
   have cc0:=hI.cell c1;go_simp;exact hK _ _ (hI.y mm2 rfl)
  ·obtain ⟨_,zt3,rfl⟩:=hI.v mm2 (hd 3)
   go_simp;refine (r5identityW R _ hR).mono ?_;rintro e wa ⟨v,rfl,hv,hba⟩;exact hK _ _ (hI.mat hcl hL ⟨4,7,_,_,_⟩ mm1 rfl hba hv kR)
  ·have zt : T[1]? = some (.pointer (some ⟨w.heap.size,0,none⟩)):=hI.keep 1 sI sI
   go_simp;exact hK _ _ (hI.y mm3 rfl)
  ·obtain ⟨_,zt5,rfl⟩:=hI.v mm3 (hd 5)
   have cc0:=hI.cell c1;go_simp;exact hK _ _ (hI.y mm4 rfl)
  ·obtain ⟨_,zt6,rfl⟩:=hI.v mm4 (hd 6)
   go_simp;refine (r5identityW R _ hR).mono ?_;rintro e wa ⟨v,rfl,hv,hba⟩;exact hK _ _ (hI.mat hcl hL ⟨7,10,_,_,_⟩ mm2 rfl hba hv kR)
  ·obtain ⟨so,sc,uo,uc,vo,vc,t1,t2,t3,hthree⟩:=hI.three oM oM (hd 1) (hd 4) (hd 7)
   go_simp;exact hK _ _ (hI.y mm5 hthree)
  ·obtain ⟨v8,zt8,h8⟩:=hI.v mm5 (hd 8)
   have h8' : ThreeV W0.heap.size R C (ent M) idf idf wS v8:=h8;obtain ⟨so,sc,uo,uc,vo,vc,bs,bu,bv,rfl,-⟩:=h8'.ex;go_simp;exact hK _ _ ((hI.world ((Below.refl _ _).alloc (xgf _) _)).y mm6 (h8'.new hI.bel.size))
 intro T w2 hI;obtain ⟨va0,q0,rfl⟩:=hI.v mm0 rfl;obtain ⟨va2,q2,rfl⟩:=hI.v mm1 rfl;obtain ⟨va3,q3,rfl⟩:=hI.v mm2 rfl;obtain ⟨va5,q5,rfl⟩:=hI.v mm3 rfl;obtain ⟨va6,q6,rfl⟩:=hI.v mm4 rfl;obtain ⟨va8,q8,ha8⟩:=hI.v mm5 rfl;obtain ⟨va9,q9,ha9⟩:=hI.v mm6 rfl;obtain ⟨va1,q1,moa1,mca1,mea1⟩:=hI.matv _ mm0 rfl;obtain ⟨va4,q4,moa4,mca4,mea4⟩:=hI.matv _ mm1 rfl;obtain ⟨va7,q7,moa7,mca7,mea7⟩:=hI.matv _ mm2 rfl;have hT:=tmps_set [(3,.agg #[.int .i64 R,.int .i64 C,.slice ao n cap]),(5,.pointer (some ⟨w.heap.size,0,none⟩)),(6,.int .i64 R),(8,.pointer (some ⟨w.heap.size,0,none⟩)),(9,.int .i64 R),(11,va8),(12,va9),(4,va1),(7,va4),(10,va7)]
  (fun j hj=>hI.keep j (by simp only [xgm] at hj ⊢; simp [hj]) (by simp only [xgm] at hj ⊢; simp [hj]))
  (by simp only [xgm]; simp [q0,q2,q3,q5,q6,q8,q9,q1,q4,q7]) hI.size
 have hbw2:=hI.bel;clear hI;simp only [List.foldl_cons,List.foldl_nil,xgh,xgi,xgj,ptr] at hT;subst hT;clear q0 q2 q3 q5 q6 q8 q9 q1 q4 q7;simp only [xgl,xgk];have ha9' : KNew W0.heap.size R C (ent M) idf idf w2 va9:=ha9;obtain ⟨bw,AM,AU,AV,bm,bu,bv,rfl,k1,k2,k3⟩:=ha9'.ex;have hsz:=hB0.size;clear c1 c2 c3 c4 c5 c6 ha8 ha9 ha9';go_wp2;go_ret;exact ⟨_,rfl,⟨_,_,_,_,_,_,_,rfl,by omega,k2,fun b hb=>Nat.le_trans hsz (k3 b hb)⟩,nx hB0 hbw2⟩
theorem r12floor_any (v1 v2 : Value) (a b : Int) (w : World) (h1 : IntV w v1 a) (h2 : IntV w v2 b) (s1 : Smd a) (s2 : Smd b) (hb : b ≠ 0) :
  Calls Tryz.prog 90 #[v1,v2] w (RetInt w (a / b)):=by
 obtain ⟨n1,a1,l1,k1,x1,rfl,hx1⟩:=id h1;obtain ⟨n2,a2,l2,k2,x2,rfl,hx2⟩:=id h2;have HX1:=xgw hx1;have HX2:=xgw hx2;have HS1:=xgv s1;have HS2:=xgv s2;have HB:=xgw hb;clear hx1 hx2 s1 s2 hb;go_enter Tryz.func90,Tryz.ntmps90;go_upto_region 1 with (fail)
 refine wp_world ?_;intro W0 hW0;obtain ⟨hB0,bx1,bx2,br,hs0⟩:=world3 hW0;obtain ⟨c1,c2,c3,c4⟩:=bx1.two;obtain ⟨d1,d2,d3,d4⟩:=bx2.two;have h1:=h1.ext (lx hB0);have h2:=h2.ext (lx hB0);clear hW0;go_wp2_with fail
 refine (r1divmod_any _ _ a b W0 h1 h2 HS1.out HS2.out HB.out).mono ?_;rintro e w2 ⟨q0,r0,rfl,hq,hr,hb2⟩;obtain ⟨qn,qa,ql,qc,qx,rfl,hq'⟩:=id hq;obtain ⟨rn,ra,rl,rc,rx,rfl,hr'⟩:=id hr;have HQ':=xgw hq';have HR':=xgw hr';have br:=br.below hb2;have lbr:=br.lt;have hB2:=nx hB0 hb2;clear hq' hr' c1 c2 c3 c4 d1 d2 d3 d4;go_upto_region 2 with (fail)
 refine wp_world ?_;intro W3 hW3;obtain ⟨hB3,T5,T6,hs3⟩:=world2 hW3;have hq:=hq.ext (lx hB3);have br:=br.below hB3;have hB3:=nx hB2 hB3;obtain ⟨d1,d2,d3,d4⟩:=T5.two;obtain ⟨e1,e2,e3,e4⟩:=br.two;clear hW3;go_wp2;refine bodyPost_int (r:=w.heap.size + 1 + 1) rfl rfl rfl (br.put2 _ _) (hq.ext (br.lext2 dE _ _)) (bset (bset hB3 oM _ _) oM _ _)
theorem OnlyZ.to {Z Z' : Nat->Prop} {w w' : World} (h : OnlyZ Z w w') (hz : ∀b,Z b->Z' b) : OnlyZ Z' w w':=h.mono fun b _ hb=>hz b hb
section
variable {Z : Nat->Prop} {w : World} {bw R C : Nat} {x : Bst}
theorem kw_add (h : KW Z w bw R C x) {i j : Nat} (hi : i < R) (hj : j < R) (hij : i ≠ j) {kv : Value} {k : Int} (hk : IntV w kv k) (hob : okB BD R C R x) (hok : okAdd BD R C R x i j k) (hR : R<=1000000) (hC : C<=1000000) :
  Calls Tryz.prog 82 #[.pointer (some ⟨bw,0,none⟩),.int .i64 i,.int .i64 j,kv] w fun e w'=>(∃u,e = .returned u)/\OnlyZ Z w w'/\KW Z w' bw R C (x.add i j k):=by
 obtain ⟨AM,AU,AV,bm,bu,bv,h1,h2⟩:=h;obtain ⟨o1,o2,o3⟩:=hob;obtain ⟨k1,k2,k3,k4⟩:=hok;refine (r12add_any bw AM AU AV R C i j bm bu bv x kv k w h1 hi hj hij hk (BD_sm k1) hR hC (fun t ht=>⟨BD_sm (o1 i hi t ht),BD_sm (o1 j hj t ht),BD_sm (k2 t ht)⟩) (fun t ht=>⟨BD_sm (o2 i hi t ht),BD_sm (o2 j hj t ht),BD_sm (k3 t ht).1⟩)
  (fun t ht=>⟨BD_sm (o3 j hj t ht),BD_sm (o3 i hi t ht),BD_sm (k3 t ht).2⟩)).mono ?_
 rintro e w' ⟨hu,ho,hk'⟩;exact ⟨hu,ho.to h2,AM,AU,AV,bm,bu,bv,hk',h2⟩
theorem kw_neg (h : KW Z w bw R C x) {i : Nat} (hi : i < R) (hob : okB BD R C R x) (hR : R<=1000000) (hC : C<=1000000) :
  Calls Tryz.prog 81 #[.pointer (some ⟨bw,0,none⟩),.int .i64 i] w fun e w'=>(∃u,e = .returned u)/\OnlyZ Z w w'/\KW Z w' bw R C (x.neg i):=by
 obtain ⟨AM,AU,AV,bm,bu,bv,h1,h2⟩:=h;obtain ⟨o1,o2,o3⟩:=hob;refine (r12neg_any bw AM AU AV R C i bm bu bv x w h1 hi hR hC (fun t ht=>BD_sm (o1 i hi t ht)) (fun t ht=>BD_sm (o2 i hi t ht)) (fun t ht=>BD_sm (o3 i hi t ht))).mono ?_;rintro e w' ⟨hu,ho,hk'⟩;exact ⟨hu,ho.to h2,AM,AU,AV,bm,bu,bv,hk',h2⟩
theorem kw_swap (h : KW Z w bw R C x) {i j : Nat} (hi : i < R) (hj : j < R) (hR : R<=1000000) (hC : C<=1000000) :
  Calls Tryz.prog 80 #[.pointer (some ⟨bw,0,none⟩),.int .i64 i,.int .i64 j] w fun e w'=>(∃u,e = .returned u)/\OnlyZ Z w w'/\KW Z w' bw R C (x.swap i j):=by
 obtain ⟨AM,AU,AV,bm,bu,bv,h1,h2⟩:=h;refine (r12swap_any bw AM AU AV R C i j bm bu bv x w h1 hi hj hR hC).mono ?_;rintro e w' ⟨hu,ho,hk'⟩;have l1:=h1.m.len;have l2:=h1.u.len;exact ⟨hu,ho.to h2,AM,AU,AV,swpL bm i j,swpL bu i j,bv,hk',fun b hb=>h2 b (hb.imp (zn_swpL oM oM) (Or.imp (zn_swpL oM oM) id))⟩
theorem KW.blk (h : KW Z w bw R C x) : ∃m1 m2 m3 cs,Blk w bw tWk cs/\w.cell? ⟨bw,0,none⟩ = some (.int .i64 R)/\w.cell? ⟨bw,1,none⟩ = some (.int .i64 C)/\w.cell? ⟨bw,2,none⟩ = some m1/\cs = #[.int .i64 R,.int .i64 C,m1,.int .i64 R,.int .i64 R,m2,.int .i64 R,.int .i64 R,m3]:=by
 obtain ⟨AM,AU,AV,bm,bu,bv,h1,h2⟩:=h;obtain ⟨q0,q1,q2,-⟩:=h1.blk.nine;exact ⟨AM,AU,AV,_,h1.blk,q0,q1,q2,rfl⟩
end
structure MvI (R C M0 i : Nat) (x0 x : Bst) : Prop where
 ops : ∃l,okOps R l/\x = opsB l x0
 bd : leB (M0 * 4 ^ i) R C R x
section
variable {R C M0 i : Nat} {x0 x : Bst}
theorem MvI.op (h : MvI R C M0 i x0 x) {o : Op} (ho : o.ok R) (hg : o.g<=4) : MvI R C M0 (i + 1) x0 (o.b x):=by
 obtain ⟨l,l1,l2⟩:=h.ops;refine ⟨opsB_ex l1 l2 (okOps.cons ho okOps.nil) rfl,(leB_b h.bd ho).mono ?_⟩;rw [Nat.pow_succ,<-Nat.mul_assoc];exact Nat.mul_le_mul_left _ hg
theorem MvI.same (h : MvI R C M0 i x0 x) : MvI R C M0 (i + 1) x0 x:=⟨h.ops,h.bd.mono (Nat.mul_le_mul_left _ (le_pow2 oM oM))⟩
theorem MvI.last (h : MvI R C M0 i x0 x) (hi : i<=12) : leB (M0 * 4 ^ 12) R C R x:=h.bd.mono (Nat.mul_le_mul_left _ (le_pow2 oM hi))
end
end Go.Proofs.YtgnmdddaiefooaaGreat
