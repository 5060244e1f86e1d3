/- The rest that Reduce leaves: plain Lean. torsionref05: Vector, Row, Times, Act, Zero; hermite.Reduce of a row of another length. Appending a whole slice of integers. -/
import Derived.Test.YtgnmdddaiefooaaGreatE35
import Derived.Test.YtgnmdddaiefooaaGreatE39
import Derived.Test.YtgnmdddaiefooaaGreatE40
import Derived.Test.YtgnmdddaiefooaaGreatE42
set_option linter.unusedVariables false
set_option linter.unusedSimpArgs false
set_option linter.unusedSectionVars false
set_option maxHeartbeats 16000000
set_option maxRecDepth 100000
namespace Go.Proofs.YtgnmdddaiefooaaGreat
open Go.RowKit
def rest (R C : Nat) (H : Nat->Nat->Int) (x : Nat->Int) : Nat->Int:=redR C H x R
def RstV (r : Nat) (c : Nat->Nat) (H : Nat->Nat->Int) (y : Nat->Int) : Prop:=∀s,s < r->0<=y (c s)/\y (c s) < H s (c s)
section
variable {n C r : Nat} {c : Nat->Nat} {H : Nat->Nat->Int}
theorem quo_at (hH : Hnf C n r c H) {i : Nat} (hi : i < r) (y : Nat->Int) : quo C H y i = y (c i) / H i (c i):=by
 unfold quo;rw [hH.ech.lead hi,if_neg oM];rfl
theorem quo_out (hH : Hnf C n r c H) {i : Nat} (h1 : r<=i) (h2 : i < n) (y : Nat->Int) : quo C H y i = 0:=by
 unfold quo;rw [lead_neg (hH.zero i h1 h2),if_pos oM]
theorem redR_comb (C : Nat) (H : Nat->Nat->Int) (x : Nat->Int) (i b : Nat) : redR C H x i b = x b + sumN i fun s=>-(redQ C H x s) * H s b:=by
 induction i with
 | zero=>simp [redR,sumN]
 | succ i ih=>
  show redR C H x i b + -(redQ C H x i) * H i b = _;rw [ih];exact Int.add_assoc _ _ _
theorem redR_red (hH : Hnf C n r c H) (x : Nat->Int) : ∀i,i<=r->RstV i c H (redR C H x i):=by
 intro i;induction i with
 | zero=>intro _ s hs; omega
 | succ i ih=>
  intro hi s hs;have hq : redQ C H x i = redR C H x i (c i) / H i (c i):=quo_at hH oM _;have he : redR C H x (i + 1) (c s) = redR C H x i (c s) + -(redQ C H x i) * H i (c s):=rfl;rw [he];by_cases e : s = i
  ·subst e
   have hp:=hH.ech.pos s oM;have h1:=Int.emod_nonneg (redR C H x s (c s)) (show H s (c s) ≠ 0 by omega);have h2:=Int.emod_lt_of_pos (redR C H x s (c s)) hp;have h3:=Int.emod_def (redR C H x s (c s)) (H s (c s));rw [hq,Int.neg_mul,Int.mul_comm (redR C H x s (c s) / H s (c s))];omega
  ·have h1:=ih oM s oM
   rw [hH.ech.zero i oM (c s) (hH.ech.inc s i oM oM),Int.mul_zero,Int.add_zero];exact h1
theorem redR_stay (hH : Hnf C n r c H) (x : Nat->Int) : ∀d b,r + d<=n->redR C H x (r + d) b = redR C H x r b:=by
 intro d b;induction d with
 | zero=>intro _; rfl
 | succ d ih=>
  intro hd;have hq : redQ C H x (r + d) = 0:=quo_out hH oM oM _;show redR C H x (r + d) b + -(redQ C H x (r + d)) * H (r + d) b = _;rw [hq,ih oM];simp
theorem rest_red (hH : Hnf C n r c H) (x : Nat->Int) : RstV r c H (rest n C H x):=by
 intro s hs;have h:=redR_red hH x r (xgf _) s hs;have e : rest n C H x (c s) = redR C H x r (c s):=by
  have:=redR_stay hH x (n - r) (c s) (by have:=hH.le; omega);rwa [show r + (n - r) = n by have:=hH.le; omega] at this
 rw [e];exact h
theorem redV_unique (hH : Hnf C n r c H) {y y' z : Nat->Int} (h1 : RstV r c H y) (h2 : RstV r c H y') (h : ∀b,b < C->y b - y' b = sumN n fun t=>z t * H t b) : ∀b,b < C->y b = y' b:=by
 have h' : ∀b,b < C->y b - y' b = sumN r fun t=>z t * H t b:=fun b hb=>by
  rw [h b hb];exact sumN_ext hH.le fun t a1 a2=>by rw [hH.zero t a1 a2 b hb,Int.mul_zero]
 have hz : ∀t,t < r->z t = 0:=fun t ht=>Classical.byContradiction fun hne=>by
  obtain ⟨t,ht,h0,hb⟩:=first_nz ⟨t,ht,hne⟩;have e:=h' (c t) (hH.ech.lt t ht);rw [comb_at hH.ech ht hb] at e;have a1:=h1 t ht;have a2:=h2 t ht;have hp:=hH.ech.pos t ht;have hle : (H t (c t)).natAbs<=(z t * H t (c t)).natAbs:=by
   rw [Int.natAbs_mul];exact Nat.le_mul_of_pos_left _ (Int.natAbs_pos.2 h0)
  rw [<-e] at hle;omega
 intro b hb;have e:=h' b hb;rw [sumN_zero fun t ht=>by rw [hz t ht,Int.zero_mul]] at e;omega
theorem rest_unique (hH : Hnf C n r c H) {x x' z : Nat->Int} (h : ∀b,b < C->x b - x' b = sumN n fun t=>z t * H t b) : ∀b,b < C->rest n C H x b = rest n C H x' b:=by
 refine redV_unique hH (rest_red hH x) (rest_red hH x') (z:=fun t=>z t + -(redQ C H x t) + redQ C H x' t) fun b hb=>?_
 have e1 : rest n C H x b = _:=redR_comb C H x n b;have e2 : rest n C H x' b = _:=redR_comb C H x' n b;rw [e1,e2];have e3 : (sumN n fun t=>(z t + -(redQ C H x t) + redQ C H x' t) * H t b) = (sumN n fun t=>z t * H t b) + (sumN n fun s=>-(redQ C H x s) * H s b) - sumN n fun s=>-(redQ C H x' s) * H s b:=by
  rw [Int.sub_eq_add_neg,<-Int.neg_one_mul,<-sumN_mul,<-sumN_add,<-sumN_add];refine sumN_congr fun t _=>?_
  simp only [Int.add_mul,Int.neg_mul,Int.one_mul,Int.neg_neg]
 rw [e3,<-h b hb];omega
theorem rest_zero (hH : Hnf C n r c H) {x z : Nat->Int} (h : ∀b,b < C->x b = sumN n fun t=>z t * H t b) : ∀b,b < C->rest n C H x b = 0:=
 redV_unique hH (rest_red hH x) (y':=fun _=>0) (fun s hs=>⟨Int.le_refl _,hH.ech.pos s hs⟩) (z:=fun t=>z t + -(redQ C H x t)) fun b hb=>by
  have e1 : rest n C H x b = _:=redR_comb C H x n b;rw [e1,h b hb,Int.sub_zero,<-sumN_add];exact sumN_congr fun t _=>by rw [Int.add_mul]
end
theorem abs_ediv_le (a b : Int) : (a / b).natAbs<=a.natAbs:=Int.natAbs_ediv_le_natAbs a b
theorem Hnf.congr {C n r : Nat} {c : Nat->Nat} {F G : Nat->Nat->Int} (h : Hnf C n r c F) (e : ∀a,a < n->∀b,b < C->F a b = G a b) : Hnf C n r c G:=by
 have hl:=h.le;refine ⟨h.le,⟨h.ech.lt,fun k hk=>?_,fun k hk t ht=>?_,h.ech.inc⟩,fun i j hij hj _=>?_,fun a h1 h2 t ht=>?_⟩
 ·rw [<-e k oM _ (h.ech.lt k hk)]; exact h.ech.pos k hk
 ·rw [<-e k oM t (by have:=h.ech.lt k hk; omega)]; exact h.ech.zero k hk t ht
 ·rw [<-e i oM _ (h.ech.lt j hj),<-e j oM _ (h.ech.lt j hj)]; exact h.red i j hij hj trivial
 ·rw [<-e a h2 t ht]; exact h.zero a h1 h2 t ht
theorem redR_le {n C r h m : Nat} {c : Nat->Nat} {H : Nat->Nat->Int} (hH : Hnf C n r c H) (hh : leM h n C H) {x : Nat->Int} (hx : ∀b,b < C->(x b).natAbs<=m) :
  ∀i,i<=n->∀b,b < C->(redR C H x i b).natAbs<=m * (1 + h) ^ i:=by
 intro i;induction i with
 | zero=>intro _ b hb; simpa [redR] using hx b hb
 | succ i ih=>
  intro hi b hb;have h1:=ih oM b hb;have hq : (redQ C H x i).natAbs<=m * (1 + h) ^ i:=by
   by_cases hr : i < r
   ·show (quo C H (redR C H x i) i).natAbs<=_
    rw [quo_at hH hr];exact Nat.le_trans (abs_ediv_le _ _) (ih oM _ (hH.ech.lt i hr))
   ·show (quo C H (redR C H x i) i).natAbs<=_
    rw [quo_out hH oM oM];simp
  show (redR C H x i b + -(redQ C H x i) * H i b).natAbs<=_;have h2 : (-(redQ C H x i) * H i b).natAbs<=m * (1 + h) ^ i * h:=by
   rw [Int.natAbs_mul,Int.natAbs_neg];exact Nat.mul_le_mul hq (hh i oM b hb)
  refine Nat.le_trans (Int.natAbs_add_le _ _) (Nat.le_trans (Nat.add_le_add h1 h2) ?_);rw [Nat.pow_succ,<-Nat.mul_assoc,Nat.mul_add,Nat.mul_one];exact xgf _
theorem redQ_le {n C r h m : Nat} {c : Nat->Nat} {H : Nat->Nat->Int} (hH : Hnf C n r c H) (hh : leM h n C H) {x : Nat->Int} (hx : ∀b,b < C->(x b).natAbs<=m) {i : Nat} (hi : i < n) : (redQ C H x i).natAbs<=m * (1 + h) ^ i:=by
 by_cases hr : i < r
 ·show (quo C H (redR C H x i) i).natAbs<=_
  rw [quo_at hH hr];exact Nat.le_trans (abs_ediv_le _ _) (redR_le hH hh hx i oM _ (hH.ech.lt i hr))
 ·show (quo C H (redR C H x i) i).natAbs<=_
  rw [quo_out hH oM hi];simp
theorem pow_BD {a : Nat} (h : a<=2 ^ 199) : a < BD:=by
 have h1 : 2 ^ 200<=B32 ^ DLIM:=pow_le_B32 (by rw [DLIM_eq]; omega);rw [BD_eq];exact Nat.lt_of_le_of_lt h (Nat.lt_of_lt_of_le dE h1)
theorem okRd_small {n C r : Nat} {c : Nat->Nat} {H : Nat->Nat->Int} (hH : Hnf C n r c H) (hn : n<=4) (hh : leM 644972544 n C H) {x : Nat->Int} (hx : ∀b,b < C->(x b).natAbs<=1000000) : okRd BD n C H x:=by
 have hg : ∀i,i<=5->1000000 * (1 + 644972544) ^ i < BD:=fun i hi=>pow_BD (Nat.le_trans (Nat.mul_le_mul_left _ (Nat.pow_le_pow_right oM hi)) dE)
 refine ⟨fun a ha b hb=>Nat.lt_of_le_of_lt (hh a ha b hb) (pow_BD dE),fun i hi b hb=>Nat.lt_of_le_of_lt (redR_le hH hh hx i hi b hb) (hg i oM),fun i hi=>⟨Nat.lt_of_le_of_lt (redQ_le hH hh hx hi) (hg i oM),fun b hb=>Nat.lt_of_le_of_lt ?_ (hg (i + 1) oM)⟩⟩;rw [Int.natAbs_mul,Int.natAbs_neg];refine Nat.le_trans (Nat.mul_le_mul (redQ_le hH hh hx hi) (hh i hi b hb)) ?_;rw [Nat.pow_succ,<-Nat.mul_assoc];exact Nat.mul_le_mul_left _ oM
theorem field_mat2 (a b c : Value) (W : World) : (Instr.field 28 (.agg #[a,b,c]) 2).run Tryz.prog W = .ok c W:=by
 kernel_rfl
theorem vector_any (v : Value) (n : Nat) (ls : List Int) (w : World) (h : I8V w v ls) (hn : n<=16) :
  Calls Tryz.prog 24 #[v,.int .i64 n] w fun e w'=>∃u,e = .returned u/\VecV w' u (genV n (digF n ls 0))/\Below w.heap.size w w':=by
 obtain ⟨ao,m,cap,rfl,-⟩:=id h;go_enter Tryz.func24,Tryz.ntmps24;go_wp2_with fail
 refine (filled_any _ 1 n ls w h oM hn).mono ?_;rintro e w1 ⟨u,bs,rfl,⟨hbl,A2,rfl,ho⟩,hb1⟩;have hr:=ho.rows;obtain ⟨oo,on,oc,rfl,o2,o3,o4,-⟩:=id hr;obtain ⟨b,ra,rn,rc,zs,rfl,hbl2,hz,p1,hrv⟩:=hr.row (k:=0) (by simp [genM]);have hF : Fits 1 n (genM 1 n (digF n ls)):=genM_fits _ _ _;obtain rfl:=hF.row_eq hz;have hon : on = 1:=by rw [<-o2]; simp [genM]
 subst hon;have he : genV n (ent (genM 1 n (digF n ls)) 0) = genV n (digF n ls 0):=genV_congr fun t ht=>ent_genM oM ht
 rw [he] at hrv;clear ho hr hz hF o2 he;have hfl:=field_mat2;go_wp2;go_ret;exact ⟨_,rfl,hrv,hb1⟩
theorem row_any (v : Value) (C : Nat) (x : Nat->Int) (w : World) (h : VecV w v (genV C x)) :
  Calls Tryz.prog 27 #[v] w fun e w'=>∃u,e = .returned u/\MatV w' u 1 C [genV C x]/\Below w.heap.size w w':=by
 obtain ⟨ao,m,cap,rfl,h2,h3,h4,-⟩:=id h;rw [genV_length] at h2;subst h2;have HX:=xgv h;clear h;go_enter Tryz.func27,Tryz.ntmps27;go_upto_region 1 with (fail)
 refine wp_world ?_;intro W0 hW0;obtain ⟨hb0,br,hs0⟩:=world1 hW0;clear hW0;obtain ⟨r1,r2,r3,r4,r5,r6⟩:=br.three;go_wp2;refine bodyPost_mat rfl rfl rfl ((br.put3 _ _ _).alloc _) ⟨_,rfl,?_,?_⟩
 ·have hV : VecV ((((W0.setCell ⟨w.heap.size,0,none⟩ (.int .i64 1)).setCell ⟨w.heap.size,1,none⟩ (.int .i64 C)).setCell ⟨w.heap.size,2,none⟩ (.slice (some ⟨W0.heap.size,0,none⟩) 1 1)).alloc (.cells #[.slice ao C cap] 37)) (.slice ao C cap) (genV C x):=
   HX.out.below ((bset (bset (bset hb0 (xgf _) 0 _) (xgf _) 1 _) (xgf _) 2 _).alloc (by simp; omega) _)
  have hblk:=Blk.new (((W0.setCell ⟨w.heap.size,0,none⟩ (.int .i64 1)).setCell ⟨w.heap.size,1,none⟩ (.int .i64 C)).setCell ⟨w.heap.size,2,none⟩ (.slice (some ⟨W0.heap.size,0,none⟩) 1 1)) 37 #[.slice ao C cap];rw [show ((((W0.setCell ⟨w.heap.size,0,none⟩ (.int .i64 1)).setCell ⟨w.heap.size,1,none⟩ (.int .i64 C)).setCell ⟨w.heap.size,2,none⟩ (.slice (some ⟨W0.heap.size,0,none⟩) 1 1))).heap.size = W0.heap.size by simp] at hblk;refine ⟨_,rfl,_,1,1,rfl,rfl,xgf _,by omega,fun _=>⟨W0.heap.size,#[.slice ao C cap],rfl,hblk,fun k zs hk=>?_⟩⟩;have hk0 : k = 0:=by
   have:=(xge.1 hk).1;simp at this;omega
  subst hk0;simp at hk;subst hk;exact ⟨_,rfl,hV⟩
 ·exact (bset (bset (bset hb0 (xgf _) 0 _) (xgf _) 1 _) (xgf _) 2 _).alloc (by simp; omega) _
theorem results_tt2 {fn : Func} {a b : Tmp} (h : fn.results = #[.tmp a,.tmp b]) (tmps : Array Value) (P : Program) (W : World) : (results fn tmps).run P W = .ok (.tuple #[tmps.getD a undef,tmps.getD b undef]) W:=by
 simp [results,h]
theorem r5times_any (vv hv : Value) (R C : Nat) (M : List (List Int)) (x : Nat->Int) (w : World) (hx : VecV w vv (genV R x)) (h : MatV w hv R C M) (hF : Fits R C M) (hR : R<=1000000) (hC : C<=1000000) (hS : MulSm [genV R x] M 1 R C) :
  Calls Tryz.prog 74 #[vv,hv] w fun e w'=>∃u,e = .returned (.tuple #[u,.int .i64 0])/\VecV w' u (genV C (mulf [genV R x] M R 0))/\Below w.heap.size w w':=by
 have h0:=h;obtain ⟨A,rfl,h⟩:=h;obtain ⟨mo,mn,mc,rfl,-⟩:=id h;obtain ⟨ao,m,cap,rfl,h2,h3,h4,-⟩:=id hx;rw [genV_length] at h2;subst h2;have HF:=xgv hF;have HS:=xgv hS;have H0:=xgv h0;have HX:=xgv hx;clear hF hS h0 hx h;go_enter Tryz.func74,Tryz.ntmps74;go_upto_region 1 with (fail)
 refine wp_world ?_;intro W0 hW0;obtain ⟨hb0,br,hs0⟩:=world1 hW0;obtain ⟨r1,r2,r3,r4,r5,r6⟩:=br.three;have hM:=H0.out.below hb0;have hX:=HX.out.below hb0;have hl1 : LastsB (fun w v=>MatV w v 1 R [genV R x]):=fun _ _ _ e h=>h.below e
 have hl2 : LastsB (fun w v=>MatV w v 1 C (genM 1 C (mulf [genV R x] M R))):=fun _ _ _ e h=>h.below e
 have hFr : HidS (Fits 1 R [genV R x]):=⟨rfl,fun r hr=>by simp at hr; subst hr; exact genV_length _ _⟩;have hlt:=br.lt;clear hW0;go_upto_region 3 with (fail)
 refine wp_region_headed 4 rfl (RV W0 _ [E 0 11 (.slice ao R cap),⟨1,12,fun w v=>MatV w v 1 R [genV R x]⟩,E 2 13 (.agg #[.int .i64 R,.int .i64 C,.slice mo mn mc]),⟨3,14,fun w v=>MatV w v 1 C (genM 1 C (mulf [genV R x] M R))⟩]) kR RV.start (RV.fin kR ?fin1) ?steps1
 case steps1=>
  refine ⟨?_,?_,?_,?_,trivial⟩ <;> (intro L T wS hL hd hcl hI K hK; try refine step_wanted rfl ?_)
  ·exact xgs (hI.k 0 rfl kR)
  ·have zt0:=hI.e mm0 (hd 0)
   go_simp;refine (row_any _ R x _ (hX.below hI.bel)).mono ?_;rintro e wa ⟨v,rfl,hv,hba⟩;exact hK _ _ ((hI.world hba).y mm1 hv)
  ·have zt:=hI.k 3 rfl kR
   have cc0:=hI.cell r1;have cc1:=hI.cell r2;have cc2:=hI.cell r3; exact xgu
  ·obtain ⟨v1,zt1,h1⟩:=hI.v mm1 (hd 1)
   have zt2:=hI.e mm2 (hd 2);go_simp;refine (r5productQ _ _ 1 R C [genV R x] M _ h1 (hM.below hI.bel) hFr.out HF.out oM hR hC HS.out).mono ?_;rintro e wa ⟨v,rfl,hv,hba⟩;exact hK _ _ ((hI.world hba).y mm3 hv)
 intro w3 hbw3 T hT;simp only [Fin,E,EI,VP,VSl,VN,xgg,xgh,xgi,xgj] at hT;obtain ⟨va1,ha1,va3,ha3,rfl⟩:=hT;simp only [xgl,xgk];obtain ⟨A2,rfl,hr2⟩ : MatV w3 va3 1 C (genM 1 C (mulf [genV R x] M R)):=ha3;obtain ⟨oo,on,oc,rfl,o2,o3,o4,-⟩:=id hr2;obtain ⟨b,ra,rn,rc,zs,rfl,hbl2,hz,p1,hrv⟩:=hr2.row (k:=0) (by simp [genM]);have hF2 : Fits 1 C (genM 1 C (mulf [genV R x] M R)):=genM_fits _ _ _;obtain rfl:=hF2.row_eq hz;have hon : on = 1:=by rw [<-o2]; simp [genM]
 subst hon;have he : genV C (ent (genM 1 C (mulf [genV R x] M R)) 0) = genV C (mulf [genV R x] M R 0):=genV_congr fun t ht=>ent_genM oM ht
 rw [he] at hrv;have hfl:=field_mat2;have hB:=nx hb0 hbw3;clear hr2 hz hF2 o2 he ha1 r1 r2 r3 r4 r5 r6 hl1 hl2;go_wp2;refine bodyPost_ret (results_tt2 rfl _ _ _) rfl ?_;exact ⟨_,rfl,hrv,hB⟩
theorem act_any (vv hv : Value) (R C : Nat) (M : List (List Int)) (x : Nat->Int) (w : World) (hx : VecV w vv (genV R x)) (h : MatV w hv R C M) (hF : Fits R C M) (hR : R<=1000000) (hC : C<=1000000) (hS : MulSm [genV R x] M 1 R C) :
  Calls Tryz.prog 25 #[vv,hv] w fun e w'=>∃u,e = .returned u/\VecV w' u (genV C (mulf [genV R x] M R 0))/\Below w.heap.size w w':=by
 have h0:=h;obtain ⟨A,rfl,h⟩:=h;obtain ⟨mo,mn,mc,rfl,-⟩:=id h;obtain ⟨ao,m,cap,rfl,-,-,-,-⟩:=id hx;have HF:=xgv hF;have HS:=xgv hS;have H0:=xgv h0;have HX:=xgv hx;clear hF hS h0 hx h;go_enter Tryz.func25,Tryz.ntmps25;go_upto_region 1 with (fail)
 refine wp_world ?_;intro W0 hW0;obtain ⟨hb0,br,hs0⟩:=world1 hW0;obtain ⟨r1,r2,r3,r4,r5,r6⟩:=br.three;clear hW0;go_wp2_with fail
 refine (r5times_any _ _ R C M x W0 (HX.out.below hb0) (H0.out.below hb0) HF.out hR hC HS.out).mono ?_;rintro e w1 ⟨u,rfl,hu,hb1⟩;have hB:=nx hb0 hb1;go_wp2;go_ret;exact ⟨_,rfl,hu,hB⟩
theorem zero_true (v : Value) (zs : List Int) (w : World) (h : VecV w v zs) (h0 : ∀z ∈ zs,z = 0) :
  Calls Tryz.prog 51 #[v] w fun e w'=>e = .returned (.bool true)/\Below w.heap.size w w':=by
 obtain ⟨ao,n,cap,rfl,h2,h3,h4,h5⟩:=id h;have HL:=xgw h2;have HZ0:=xgv h0;clear h2 h5 h0;go_enter Tryz.func51,Tryz.ntmps51;go_wp2;go_loopw [3] (fun i wr=>∃k : Nat,k<=n/\i = .int .i64 k/\Below w.heap.size w wr) (fun i _=>n - (intOf i).toNat)
 case atStart=>exact ⟨0,by omega,rfl,Below.refl _ _⟩
 case round=>
  obtain ⟨k,hk,rfl,hb⟩:=hrel;by_cases hlt : k < n
  ·obtain ⟨b,z,s,a,l,c,rfl,hbl,hz,c1,c2,hv⟩:=(h.below hb).cell (k:=k) (by rw [HL.out]; exact hlt)
   have hz0 : z = 0:=HZ0.out z (xgd hz);clear hz;go_wp2_with fail
   refine (r1sign_any _ z wr hv).mono ?_;rintro e w7 ⟨rfl,hb7⟩;have hb9:=nx hb hb7;rw [cmpI_zero hz0];clear hz0 c1 c2;go_wp2;go_roundw
   case rel=>exact ⟨k + 1,by omega,by simp,hb9⟩
   case measure=>simp [intOf]; omega
  ·go_wp2
   go_ret;exact ⟨rfl,hb⟩
def ZsV (w : World) (v : Value) (ys : List Int) : Prop:=
 ∃ao n c,v = .slice ao n c/\ys.length = n/\(ys ≠ []->∃b off cells,ao = some ⟨b,off,none⟩/\cells.length = n * 2/\CellsI w cells ys/\∀j u,cells[j]? = some u->w.cell? ⟨b,off + j,none⟩ = some u)
theorem VecV.zs {w : World} {v : Value} {ys : List Int} (h : VecV w v ys) : ZsV w v ys:=by
 obtain ⟨ao,n,c,rfl,h2,-,-,h5⟩:=h;refine ⟨ao,n,c,rfl,h2,fun hne=>?_⟩;obtain ⟨b,rfl,cs,e1,e2⟩:=h5 hne;have hlen : n * 2<=cs.size:=by
  have h0 : 0 < ys.length:=List.length_pos_iff.2 hne;obtain ⟨_,_,_,_,-,q,-⟩:=e2 (ys.length - 1) _ (xga oM);have:=(Array.getElem?_eq_some_iff.1 q).1;omega
 refine ⟨b,0,cs.toList.take (n * 2),rfl,by simp; omega,fun k z hk=>?_,fun j u hj=>?_⟩
 ·obtain ⟨s,a,l,c',q1,q2,q3⟩:=e2 k z hk
  have hk':=(xge.1 hk).1;exact ⟨s,a,l,c',by rw [List.getElem?_take_of_lt oM]; simpa using q1,by rw [List.getElem?_take_of_lt oM]; simpa using q2,q3⟩
 ·rw [List.getElem?_take] at hj
  split at hj
  ·rw [Nat.zero_add,cell_of_row w b j cs tI _ e1]
   simpa using hj
  ·cases hj
theorem ZsV.below {w w' : World} {v : Value} {ys : List Int} (h : ZsV w v ys) (hb : Below w.heap.size w w') : ZsV w' v ys:=by
 obtain ⟨ao,n,c,rfl,h2,h5⟩:=h;refine ⟨ao,n,c,rfl,h2,fun hne=>?_⟩;obtain ⟨b,off,cells,e1,e2,e3,e4⟩:=h5 hne;refine ⟨b,off,cells,e1,e2,fun k z hk=>?_,fun j u hj=>?_⟩
 ·obtain ⟨s,a,l,c',q1,q2,q3⟩:=e3 k z hk
  exact ⟨s,a,l,c',q1,q2,q3.ext (lx hb)⟩
 ·have:=e4 j u hj
  exact (hb.cell (p:=⟨b,off + j,none⟩) (World.block_lt_of_cell? w _ this)).trans this
theorem CellsI.one {w : World} {cells : List Value} {ys : List Int} (h : CellsI w cells ys) (hl : cells.length = ys.length * 2) : ∀u ∈ cells,u.oneCell' = true:=by
 intro u hu;obtain ⟨j,hj⟩:=List.getElem?_of_mem hu;have hlt:=(xge.1 hj).1;obtain ⟨s,a,l,c,q1,q2,-⟩:=h (j / 2) _ (xga oM);rcases Nat.mod_two_eq_zero_or_one j with e | e
 ·rw [show j / 2 * 2 = j by omega,hj] at q1
  injection q1 with q1
  subst q1;rfl
 ·rw [show j / 2 * 2 + 1 = j by omega,hj] at q2
  injection q2 with q2
  subst q2;rfl
theorem CellsI.append {w : World} {c1 c2 : List Value} {zs ys : List Int} (h1 : CellsI w c1 zs) (h2 : CellsI w c2 ys) (hl : c1.length = zs.length * 2) : CellsI w (c1 ++ c2) (zs ++ ys):=by
 intro k z hk;rcases Nat.lt_or_ge k zs.length with hlt | hge
 ·rw [List.getElem?_append_left hlt] at hk
  obtain ⟨s,a,l,c,q1,q2,q3⟩:=h1 k z hk;exact ⟨s,a,l,c,by rw [List.getElem?_append_left oM]; exact q1,by rw [List.getElem?_append_left oM]; exact q2,q3⟩
 ·rw [List.getElem?_append_right hge] at hk
  obtain ⟨s,a,l,c,q1,q2,q3⟩:=h2 _ z hk;refine ⟨s,a,l,c,?_,?_,q3⟩
  ·rw [List.getElem?_append_right oM,hl,show k * 2 - zs.length * 2 = (k - zs.length) * 2 by omega]; exact q1
  ·rw [List.getElem?_append_right oM,hl,show k * 2 + 1 - zs.length * 2 = (k - zs.length) * 2 + 1 by omega]; exact q2
theorem CellsI.ext {w w' : World} {c : List Value} {zs : List Int} (h : CellsI w c zs) (x : LExt w w') : CellsI w' c zs:=fun k z hk=>by
 obtain ⟨s,a,l,c,q1,q2,q3⟩:=h k z hk;exact ⟨s,a,l,c,q1,q2,q3.ext x⟩
theorem run_append_none (P : Program) (w : World) (t ty e : TypeId) (i : TypeInfo) (ht : P.underlying t = some (.slice e)) (hi : P.info? e = some i)
  (g : Option Addr) (n cap : Nat) (hg : g = none->n = 0/\cap = 0) (hn : n<=cap) (ao : Option Addr) (c : Nat) :
  (Builtin.append_ #[t,t] ty #[.slice g n cap,.slice ao 0 c]).run P w = .ok (.slice g n cap) w:=by
 cases g with
 | none=>
  obtain ⟨rfl,rfl⟩:=hg rfl;cases ao <;> simp [Builtin.append_,run_underlying ht,sizeOf,typeInfo,hi,Builtin.lenOf,Builtin.firstCells,loadCells,loadCellsFrom]
 | some g=>
  cases ao <;> simp [Builtin.append_,run_underlying ht,sizeOf,typeInfo,hi,Builtin.lenOf,Builtin.firstCells,loadCells,loadCellsFrom,storeCells,hn]
theorem wpZ {w : World} {o : Oper} {a : Act} {K : Act->World->Prop} {Q : Exit->Act->World->Prop} (t : TypeId) (ht : Tryz.prog.underlying t = some (.slice tI)) (s x : Operand)
  (ho : o.op = .call { callee:=.builtin .append,args:=#[s,x],argTypes:=#[t,t] })
  (base : Nat) (v : Value) (zs : List Int) (hs : a.eval s = v) (hown : VecO w base v zs) (xv : Value) (ys : List Int) (hx : a.eval x = xv) (hy : ZsV w xv ys)
  (hlen : zs.length + ys.length<=1099511627776) (hbase : base<=w.heap.size)
  (hK : ∀v' w',VecO w' base v' (zs ++ ys)->w.grownBy w' v.ownBlock->LExt w w'->(v'.ownBlock = v.ownBlock ∨ ∃g,v'.ownBlock = some g/\w.heap.size<=g)->K (a.put o.dst v') w') : Oper.wp Tryz.prog o a w K Q:=by
 obtain ⟨i0,hi,hz0,hz1,hz2⟩:=info_parts Tryz.infoI;obtain ⟨ao,n,c,rfl,hn,hc⟩:=hy;by_cases h0 : ys = []
 ·subst h0
  obtain rfl : 0 = n:=by simpa using hn
  have hr : (Builtin.append_ #[t,t] o.type #[v,.slice ao 0 c]).run Tryz.prog w = .ok v w:=by
   obtain ⟨cells,h1,-⟩:=hown;rcases h1.2 with ⟨rfl,h0⟩ | ⟨g,cap,cur,rfl,e2,e3,e4,-⟩
   ·exact run_append_none Tryz.prog w t o.type tI i0 ht hi none 0 0 (fun _=>⟨rfl,rfl⟩) (xgf _) ao c
   ·exact run_append_none Tryz.prog w t o.type tI i0 ht hi _ _ cap (fun e=>by cases e) e4 ao c
  have h:=hK v w (by rwa [List.append_nil]) ⟨rfl,rfl,rfl,xgf _,fun _ _ _=>rfl⟩ (lx (Below.refl _ _)) (.inl rfl);unfold Oper.wp execOp;simp only [ho,resolve,invoke,builtin,Sem.run_bind,Sem.run_pure,Result.andThen_ok,List.map_toArray,List.map_cons,List.map_nil,hs,hx,hr];exact h
 ·obtain ⟨b,off,news,rfl,hnl,hci,hcell⟩:=hc h0
  have hpos : 0 < ys.length:=List.length_pos_iff.2 h0;obtain ⟨cells,h1,h2⟩:=hown;have hcl : cells.length = zs.length * 2:=h1.1;have hnews : ∀(j : Nat) (u : Value),news[j]? = some u->w.cell? ((⟨b,off,none⟩ : Addr).add j) = some u:=fun j u hj=>by
   rw [Addr.add_lit];exact hcell j u hj
  have hone:=hci.one (by rw [hnl,hn]);have h63 : zs.length + n<=maxLen:=by simp [maxLen]; omega
  obtain ⟨v',w',hr,k1,k2,-⟩:=run_append_own (P:=Tryz.prog) w base t o.type tI i0 _ 2 32 ht hi hz0 hz1 hz2 rfl oM v zs.length cells h1 ⟨b,off,none⟩ n c news hnl hnews hone h63 oM hbase;have h3 : v'.ownBlock = v.ownBlock ∨ ∃g,v'.ownBlock = some g/\w.heap.size<=g:=by
   rcases h1.2 with ⟨rfl,h0⟩ | ⟨g,cap,cur,rfl,e2,e3,e4,e5,e6,e7⟩
   ·have hr2:=run_append_nil (P:=Tryz.prog) w t o.type tI i0 _ ht hi hz0 ⟨b,off,none⟩ n c news (by rw [hz1]; exact hnl) hnews oM oM (by rw [hz2]; omega)
    rw [hr2] at hr;injection hr with hv _
    exact .inr ⟨_,by rw [<-hv]; rfl,xgf _⟩
   ·by_cases hroom : zs.length + n<=cap
    ·have hr2:=run_append_room (P:=Tryz.prog) w t o.type tI i0 ht hi g zs.length cap cur e3 ⟨b,off,none⟩ n c news (by rw [hz1]; exact hnl) hnews hone hroom (by rw [hz1,e6,hnl]; omega)
     rw [hr2] at hr;injection hr with hv _
     exact .inl (by rw [<-hv]; rfl)
    ·have hr2:=run_append_grow (P:=Tryz.prog) w t o.type tI i0 _ ht hi hz0 ⟨g,0,none⟩ zs.length cap cells (by rw [hz1]; exact hcl) (h1.cells (g:=g) rfl) ⟨b,off,none⟩ n c news (by rw [hz1]; exact hnl) hnews oM oM (growslice_fits oM (by rw [hz2]; omega))
     rw [hr2] at hr;injection hr with hv _
     exact .inr ⟨_,by rw [<-hv]; rfl,xgf _⟩
  have hxg:=lext_grown h1 dE k2;have hvo : VecO w' base v' (zs ++ ys):=⟨cells ++ news,by rw [List.length_append,hn]; exact k1,(show CellsI w cells zs from h2).ext hxg |>.append (hci.ext hxg) hcl⟩;have h:=hK v' w' hvo k2 hxg h3;unfold Oper.wp execOp;simp only [ho,resolve,invoke,builtin,Sem.run_bind,Sem.run_pure,Result.andThen_ok,List.map_toArray,List.map_cons,List.map_nil,hs,hx,hr];exact h
theorem appZ {w : World} {ops : Array Oper} {rest : List Oper} {o : Oper} {a : Act} {Q : Exit->Act->World->Prop} (t : TypeId) (ht : Tryz.prog.underlying t = some (.slice tI)) (hgd : o.guard = none) (s x : Operand)
  (ho : o.op = .call { callee:=.builtin .append,args:=#[s,x],argTypes:=#[t,t] })
  (base : Nat) (v : Value) (zs : List Int) (hs : a.eval s = v) (hown : VecO w base v zs) (xv : Value) (ys : List Int) (hx : a.eval x = xv) (hy : ZsV w xv ys)
  (hlen : zs.length + ys.length<=1099511627776) (hbase : base<=w.heap.size)
  (h : ∀v' w',VecO w' base v' (zs ++ ys)->w.grownBy w' v.ownBlock->LExt w w'->(v'.ownBlock = v.ownBlock ∨ ∃g,v'.ownBlock = some g/\w.heap.size<=g)->wpList Tryz.prog ops Q rest (a.put o.dst v') w') : wpList Tryz.prog ops Q (o :: rest) a w:=
 wpList_plain hgd fun _ hK=>wpZ t ht s x ho base v zs hs hown xv ys hx hy hlen hbase fun v' w' h1 h2 h3 h4=>hK _ _ (h v' w' h1 h2 h3 h4)
end Go.Proofs.YtgnmdddaiefooaaGreat
