/- Joined. -/
import Derived.ChangeArms
import Derived.ProofKit
import Derived.OpenShut
import Derived.Test.YtnocgagoaldfnaaGreatD36
import Derived.Test.YtnocgagoaldfnaaGreatD45
set_option linter.unusedVariables false
set_option linter.unusedSimpArgs false
set_option linter.unusedSectionVars false
namespace Go.Proofs.YtnocgagoaldfnaaGreat
open Go.RowKit
abbrev sW:=@step_wanted
abbrev Hk:=@HidS.mk
theorem million : BSd 1000000:=⟨fun z hz=>⟨Nat.lt_of_lt_of_le (Nat.lt_trans hz (by
 have h1:=B32_pow_lt 0 1 oM
 show 1000000 < B32 ^ 1
 decide)) (pow_mono (by rw [DLIM_eq]; omega))⟩⟩
instance (B R C Cu Cw : Nat) (z : W5) : Decidable (okW B R C Cu Cw z):=by unfold okW; infer_instance
theorem DivR.same {n : Nat} {z y : W5} (h : DivR n z y) (hd : ∀i j,i < j->j < n->z.s i i ∣ z.s j j) : y = z:=by
 induction h with
 | refl=>rfl
 | step y i j s t h1 h2 h3 h4 h5 ih=>
  have e:=ih
  subst e
  exact absurd (hd i j h2 h3) h4
def lessL (B : Nat) (M : List (List Int)) : Bool:=M.all fun r=>r.all fun z=>decide (z.natAbs < B)
theorem lessL_smd {B : Nat} (hB : BSd B) {M : List (List Int)} (h : lessL B M = true) : ∀r ∈ M,∀z ∈ r,Smd z:=fun r hr z hz=>
 hB.smd z (of_decide_eq_true (List.all_eq_true.1 (List.all_eq_true.1 h r hr) z hz))
def MulB (B : Nat) (X Y : List (List Int)) (R m C : Nat) : Prop:=∀i,i < R->∀j,j < C->∀k,k < m->(ent X i k).natAbs < B/\(ent Y k j).natAbs < B/\(ent X i k * ent Y k j).natAbs < B/\(mulf X Y k i j).natAbs < B
instance (B : Nat) (X Y : List (List Int)) (R m C : Nat) : Decidable (MulB B X Y R m C):=by unfold MulB; infer_instance
theorem MulB.sm {B : Nat} (hB : BSm B) {X Y : List (List Int)} {R m C : Nat} (h : MulB B X Y R m C) : MulSm X Y R m C:=fun i hi j hj k hk=>
 ⟨hB.sm _ (h i hi j hj k hk).1,hB.sm _ (h i hi j hj k hk).2.1,hB.sm _ (h i hi j hj k hk).2.2.1,hB.sm _ (h i hi j hj k hk).2.2.2⟩
theorem form_column (v : Value) (w : World) (h : MatV w v (2 : Nat) (1 : Nat) [[4],[6]]) :
  Calls Tryz.prog 15 #[v] w fun e w'=>∃f,e = .returned f/\SmithV w' f 2 1 [[2],[0]] [[-1,1],[3,-2]] [[2,1],[3,1]] [[1]] [[1]]/\Below w.heap.size w w':=by
 have hr : (runGo 1000000 2 1 2 1 20 5 ⟨ent [[4],[6]],idf,idf,idf,idf⟩).map (fun y=>(genM 2 1 y.s,genM 2 2 y.u,genM 2 2 (trF y.v),genM 1 1 (trF y.w),genM 1 1 y.x,decide (okW 1000000 2 1 2 1 y))) = some ([[2],[0]],[[-1,1],[3,-2]],[[2,1],[3,1]],[[1]],[[1]],true):=by kernel_rfl
 obtain ⟨y,hy,he⟩:=Option.map_eq_some_iff.1 hr
 simp only [Prod.mk.injEq] at he
 obtain ⟨e1,e2,e3,e4,e5,e6⟩:=he
 have hs : ∀y',DivR (min 2 1) y y'->y' = y:=fun y' hd=>hd.same (fun i j h1 h2=>by omega)
 refine (form_any million v [[4],[6]] 2 1 w h ⟨rfl,by decide⟩ oM oM dE hy (fun y' _ i j h1 h2=>by omega) (fun y' hd=>by rw [hs y' hd]; exact of_decide_eq_true e6)).mono ?_
 rintro e w' ⟨f,y',rfl,hd,-,hf,hb⟩
 obtain rfl:=hs y' hd
 rw [e1,e2,e3,e4,e5] at hf
 exact ⟨f,rfl,hf,hb⟩
theorem inv_plain (v : Value) (R C : Nat) (M : List (List Int)) (l : List Int) (w : World) (h : MatV w v R C M) (hF : Fits R C M) (hR0 : 0 < R) (hR : R<=1000000) (hC : C<=1000000)
  (hr : (runGo 1000000 R C 0 0 20 5 ⟨ent M,zf,zf,zf,zf⟩).map (fun y=>(decide (∀j,j < min R C->∀i,i < j->y.s i i ∣ y.s j j),decide (∀i,i < min R C->(y.s i i).natAbs < 1000000),nzL (genV (min R C) (fun i=>divI (min R C) 0 y.s i i)))) = some (true,true,l)) (hok : okW 1000000 R C 0 0 ⟨ent M,zf,zf,zf,zf⟩) :
  Calls Tryz.prog 18 #[v] w fun e w'=>∃v,e = .returned v/\VecO w' w.heap.size v l/\Below w.heap.size w w':=by
 obtain ⟨y,hy,he⟩:=Option.map_eq_some_iff.1 hr
 simp only [Prod.mk.injEq] at he
 obtain ⟨e1,e2,e3⟩:=he
 have hdd:=of_decide_eq_true e1
 have hs : ∀y',DivR (min R C) y y'->y' = y:=fun y' hd=>hd.same (fun i j h1 h2=>hdd j h2 i h1)
 rw [<-e3]
 exact invariants_any million v M R C w h hF hR0 hR hC hok hy (fun y' hd i j h1 h2 hn=>absurd (by rw [hs y' hd]; exact hdd j h2 i h1) hn) (fun y' hd i hi=>by rw [hs y' hd]; exact of_decide_eq_true e2 i hi)
theorem inv_23 (v : Value) (w : World) (h : MatV w v (2 : Nat) (2 : Nat) [[2,0],[0,3]]) :
  Calls Tryz.prog 18 #[v] w fun e w'=>∃v,e = .returned v/\VecO w' w.heap.size v [1,6]/\Below w.heap.size w w':=by
 have hr : (runGo 1000000 2 2 0 0 20 5 ⟨ent [[2,0],[0,3]],zf,zf,zf,zf⟩).map (fun y=>(y.s 0 0,y.s 1 1,nzL (genV 2 (fun i=>divI 2 0 y.s i i)))) = some (2,3,[1,6]):=by kernel_rfl
 obtain ⟨y,hy,he⟩:=Option.map_eq_some_iff.1 hr
 simp only [Prod.mk.injEq] at he
 obtain ⟨e1,e2,e3⟩:=he
 have hs : ∀y',DivR 2 y y'->(y'.s 0 0 = 2/\y'.s 1 1 = 3) ∨ (y'.s 0 0 = 1/\y'.s 1 1 = 6):=by
  intro y' hd0
  obtain ⟨n,hn,hd⟩ : ∃n,n = 2/\DivR n y y':=⟨2,rfl,hd0⟩
  clear hr e3 hy hd0
  induction hd with
  | refl=>exact .inl ⟨e1,e2⟩
  | step y i j s t h1 h2 h3 h4 h5 ih=>
   obtain rfl : i = 0:=by omega
   obtain rfl : j = 1:=by omega
   rcases ih with ⟨a,b⟩ | ⟨a,b⟩
   ·refine .inr ⟨?_,?_⟩
    ·show divS y.s 0 1 0 0 = 1
     unfold divS
     rw [a,b]
     decide
    ·show divS y.s 0 1 1 1 = 6
     unfold divS
     rw [a,b]
     decide
   ·rw [a,b] at h4
    exact absurd ⟨6,rfl⟩ h4
 have hmin : min 2 2 = 2:=rfl
 refine (invariants_any million v [[2,0],[0,3]] 2 2 w h ⟨rfl,by decide⟩ oM oM oM dE hy ?_ ?_).mono fun e w' hv=>?_
 ·intro y' hd i j h1 h2 h3
  obtain rfl : i = 0:=by omega
  obtain rfl : j = 1:=by omega
  rcases hs y' hd with ⟨a,b⟩ | ⟨a,b⟩
  ·refine ⟨by rw [a,b]; decide,by rw [a,b]; decide,?_⟩
   intro g u v s t hg hu hv ⟨hb1,hb2,hb3⟩
   rw [a,b] at hg
   rw [a] at hu hb3
   rw [b] at hv hb2
   have hg1 : g = 1:=hg
   subst hg1
   have hu2 : u = 2:=hu
   have hv3 : v = 3:=hv
   subst hu2
   subst hv3
   have hs3 : s.natAbs<=3:=hb2
   have ht2 : t.natAbs<=2:=hb3
   rw [a]
   refine ⟨by omega,by omega,⟨by omega,by omega,by omega,by omega,fun t ht=>by omega⟩,⟨by omega,by omega,by omega,by omega,fun t ht=>by omega⟩,⟨by omega,by omega,by omega,by omega,fun t ht=>by omega⟩,⟨by omega,by omega,by omega,by omega,fun t ht=>by omega⟩⟩
  ·rw [a,b] at h3
   exact absurd ⟨6,rfl⟩ h3
 ·intro y' hd i hi
  rcases hs y' hd with ⟨a,b⟩ | ⟨a,b⟩
  ·match i,hi with
   | 0,_=>rw [a]; decide
   | 1,_=>rw [b]; decide
  ·match i,hi with
   | 0,_=>rw [a]; decide
   | 1,_=>rw [b]; decide
 ·rw [hmin,e3] at hv
  exact hv
theorem BB_pow : BB ^ 3 * 16<=B32 ^ DLIM:=by
 have e : (B32 : Nat) = 2 ^ 32:=by decide
 have h1 : BB ^ 3 * 16 = 2 ^ (EB * 3 + 4):=by unfold BB; rw [<-Nat.pow_mul,Nat.pow_add]
 have h2 : 2 ^ (EB * 3 + 4)<=(2 ^ 32) ^ EB:=by
  rw [<-Nat.pow_mul]
  exact le_pow2 oM (by rw [EB_eq]; omega)
 rw [h1]
 refine Nat.le_trans h2 ?_
 rw [<-e]
 exact pow_mono (by rw [EB_eq,DLIM_eq]; omega)
theorem BB_pos : 1<=BB:=Nat.pow_pos oM
theorem BB_97 : 2 ^ 100<=BB:=le_pow2 oM (by rw [EB_eq]; omega)
theorem BB3_smd {z : Int} (h : z.natAbs < BB ^ 3 * 16) : Smd z:=⟨Nat.lt_of_lt_of_le h BB_pow⟩
theorem BB_le3 {k n : Nat} (hk : k<=3) (hn : n<=16) : BB ^ k * n<=BB ^ 3 * 16:=Nat.mul_le_mul (le_pow2 BB_pos hk) hn
theorem BB_smd {z : Int} (h : z.natAbs < BB) : Smd z:=BB3_smd (Nat.lt_of_lt_of_le h (by have:=BB_le3 (k:=1) (n:=1) oM oM; simpa using this))
theorem BB_bsd : BSd BB:=⟨fun z h=>BB_smd h⟩
theorem small_smd {z : Int} (h : z.natAbs<=2 ^ 99) : Smd z:=BB_smd (Nat.lt_of_lt_of_le (Nat.lt_of_le_of_lt h dE) BB_97)
theorem Inv.small {R C r h : Nat} {A F : Nat->Nat->Int} (hI : Inv R C r A F) (hR : R<=4) (h1 : 1<=h) (hA : leM h R C A) : (prodN r (fun i=>F i i)).natAbs<=24 * h ^ 4:=by
 have hr : r<=min R C:=hI.dg.le
 have hp : 0 < prodN r (fun i=>F i i):=prodN_pos fun i hi=>hI.dg.pos i hi
 have hm:=hI.minors hr
 have hne : ∃σ τ : Nat->Nat,(∀a,a < r->σ a < R)/\(∀a,a < r->τ a < C)/\det r (fun a b=>A (σ a) (τ b)) ≠ 0:=by
  refine Classical.byContradiction fun hn=>?_
  have : MinD R C r A 0:=fun σ τ hσ hτ=>by
   have : det r (fun a b=>A (σ a) (τ b)) = 0:=Classical.byContradiction fun h0=>hn ⟨σ,τ,hσ,hτ,h0⟩
   rw [this]
   exact Int.dvd_refl 0
  have:=Int.zero_dvd.1 (hI.gen hr this)
  omega
 obtain ⟨σ,τ,hσ,hτ,h0⟩:=hne
 refine Nat.le_trans (Nat.le_of_dvd oM (Int.natAbs_dvd_natAbs.2 (hm σ τ hσ hτ))) ?_
 exact det_le (F:=fun a b=>A (σ a) (τ b)) oM h1 fun a ha b hb=>hA _ (hσ a ha) _ (hτ b hb)
theorem filter_all {n : Nat} {f : Nat->Int} (hp : ∀i,i < n->f i ≠ 0) : nzL (genV n f) = genV n f:=by
 unfold nzL genV
 rw [List.filter_eq_self]
 intro z hz
 obtain ⟨i,hi,rfl⟩:=List.mem_map.1 hz
 exact decide_eq_true (hp i (List.mem_range.1 hi))
theorem filter_gen {n r : Nat} {f : Nat->Int} (hr : r<=n) (hp : ∀i,i < r->f i ≠ 0) (hz : ∀i,r<=i->i < n->f i = 0) : nzL (genV n f) = genV r f:=by
 induction n with
 | zero=>
  obtain rfl : r = 0:=by omega
  rfl
 | succ n ih=>
  have e : genV (n + 1) f = genV n f ++ [f n]:=by unfold genV; rw [List.range_succ,List.map_append]; rfl
  rw [e,nzL_snoc]
  by_cases h : r = n + 1
  ·subst h
   rw [if_pos (hp n oM),filter_all (fun i hi=>hp i oM),e]
  ·rw [if_neg (by rw [hz n oM oM]; simp),ih oM fun i h1 h2=>hz i h1 oM]
theorem Inv.empty (C : Nat) (A : Nat->Nat->Int) : Inv 0 C 0 A A:=
 ⟨⟨fun a ha=>by omega,fun i hi=>by omega,fun i _ hi=>by omega,by omega⟩,fun a b _ h1 h2=>by omega,⟨idf,idf,fun a ha=>by omega⟩,⟨idf,idf,fun a ha=>by omega⟩⟩
theorem inv_all (v : Value) (M : List (List Int)) (R C : Nat) (w : World) (h : MatV w v R C M) (hF : Fits R C M) (hR : R<=4) (hC : C<=4) (hA : leM 1048576 R C (ent M)) :
  Calls Tryz.prog 18 #[v] w fun e w'=>∃v F r,e = .returned v/\Inv R C r (ent M) F/\VecO w' w.heap.size v (genV r fun i=>F i i)/\Below w.heap.size w w':=by
 rcases Nat.eq_zero_or_pos R with h0 | h0
 ·subst h0
  refine (invariants_none v C M w h hF).mono ?_
  rintro e w' ⟨v,rfl,h1,h2⟩
  exact ⟨v,ent M,0,rfl,Inv.empty C _,h1,h2⟩
 ·have z0 : ∀n,leM 1 n 0 zf:=fun n a _ b hb=>by omega
  obtain ⟨f,rr,L,r,h1,h2,h3,h4,h5⟩:=smith_all (z:=⟨ent M,zf,zf,zf,zf⟩) (Cu:=0) (Cw:=0) hR hC hA (z0 R) (z0 R) (z0 C) (z0 C)
  have hr:=Rel.rnds h2 (Rel.start R C (ent M))
  have hs : (rnds L ⟨ent M,idf,idf,idf,idf⟩).s = (rnds L ⟨ent M,zf,zf,zf,zf⟩).s:=rnds_s L rfl
  have hRS : RelS R C r (ent M) (rnds L ⟨ent M,zf,zf,zf,zf⟩).s:=by
   rw [<-hs] at h4 ⊢
   exact ⟨h4,(rnds L ⟨ent M,idf,idf,idf,idf⟩).u,(rnds L ⟨ent M,idf,idf,idf,idf⟩).v,(rnds L ⟨ent M,idf,idf,idf,idf⟩).w,(rnds L ⟨ent M,idf,idf,idf,idf⟩).x,hr⟩
  have hRS2:=RelS.divI (min R C) 0 _ oM hRS
  have hI:=Inv.of_relS hRS2 (divI_chain (n:=min R C) (min R C) 0 _ oM)
  refine (invariants_any BB_bsd v M R C w h hF h0 oM oM h3 h1 (fun y' hy i j h6 h7 h8=>(h5 y' hy).2 i j h6 h7 h8) (fun y' hy i hi=>(h5 y' hy).1.1 i oM i oM)).mono ?_
  rintro e w' ⟨v,rfl,k1,k2⟩
  rw [filter_gen hI.dg.le (fun i hi=>by have:=hI.dg.pos i hi; omega) (fun i a b=>hI.dg.zero i a b)] at k1
  exact ⟨v,_,r,rfl,hI,k1,k2⟩
theorem dg_isM2 {R C r : Nat} {F : Nat->Nat->Int} (hd : Dg R C r F) (hc : Chn 0 (min R C) F) : IsM2 R C (genM R C F) = true:=by
 unfold IsM2
 rw [decide_eq_true (genM_fits R C F).valid,Bool.true_and,Int.toNat_natCast,Int.toNat_natCast,diagL_genM oM oM,Bool.and_eq_true]
 constructor
 ·have : ∀d i,i + d = R->diagGo i ((genM R C F).drop i) = true:=by
   intro d
   induction d with
   | zero=>
    intro i hi
    rw [List.drop_eq_nil_of_le (by rw [(genM_fits R C F).1]; omega)]
    rfl
   | succ d ih=>
    intro i hi
    have e1 : (genM R C F)[i]? = some (genV C (F i)):=by simp [genM,genV,show i < R by omega]
    rw [drop_cons e1,diagGo_step,ih (i + 1) oM]
    intro t ht hne
    rw [genV_length] at ht
    rw [getD_of (genV_get ht)]
    exact hd.off i oM t ht oM
  exact this R 0 oM
 ·have : ∀d i (last : Int),i + d = min R C->(i < min R C->last ∣ F i i)->chainGo last ((genV (min R C) fun i=>F i i).drop i) = true:=by
   intro d
   induction d with
   | zero=>
    intro i last hi _
    rw [List.drop_eq_nil_of_le (by rw [genV_length]; omega)]
    rfl
   | succ d ih=>
    intro i last hi hl
    rw [drop_cons (genV_get oM),chainGo_step (hd.nonneg oM) (hl oM)]
    exact ih (i + 1) _ oM fun h=>hc i (i + 1) (Nat.zero_le _) oM h
  exact this (min R C) 0 1 oM fun _=>Int.one_dvd _
def I8V (w : World) (v : Value) (ls : List Int) : Prop:=
 ∃ao n cap,v = .slice ao n cap/\ls.length = n/\n<=cap/\cap<=9223372036854775807/\(∀z ∈ ls,-128<=z/\z<=127) ∧
  (ls ≠ []->∃b off,ao = some ⟨b,off,none⟩/\b < w.heap.size/\∀(k : Nat) (z : Int),ls[k]? = some z->w.cell? ⟨b,off + k,none⟩ = some (.int .i8 z))
theorem I8V.cell {w : World} {ao : Option Addr} {n cap : Nat} {ls : List Int} (h : I8V w (.slice ao n cap) ls) {k : Nat} (hk : k < ls.length) :
  ∃b off z,ao = some ⟨b,off,none⟩/\b < w.heap.size/\ls[k]? = some z/\w.cell? ⟨b,off + k,none⟩ = some (.int .i8 z)/\-128<=z/\z<=127:=by
 obtain ⟨ao',n',cap',h1,h2,h3,h4,h5,h6⟩:=h
 injection h1 with e1 e2 e3
 subst e1
 obtain ⟨b,off,e,hb,hc⟩:=h6 (by rintro rfl; simp at hk)
 have hz:=List.getElem?_eq_getElem hk
 have:=h5 _ (List.mem_of_getElem? hz)
 exact ⟨b,off,_,e,hb,hz,hc _ _ hz,this.1,this.2⟩
theorem I8V.below {w w' : World} {v : Value} {ls : List Int} (h : I8V w v ls) (hb : Below w.heap.size w w') : I8V w' v ls:=by
 obtain ⟨ao,n,cap,h1,h2,h3,h4,h5,h6⟩:=h
 refine ⟨ao,n,cap,h1,h2,h3,h4,h5,fun hne=>?_⟩
 obtain ⟨b,off,e,hlt,hc⟩:=h6 hne
 exact ⟨b,off,e,Nat.lt_of_lt_of_le hlt hb.size,fun k z hz=>(hb.cell (p:=⟨b,off + k,none⟩) hlt).trans (hc k z hz)⟩
def digF (C : Nat) (ls : List Int) : Nat->Nat->Int:=fun i j=>(ls.getD (i * C + j) 0).tmod 10
theorem digF_out {C : Nat} {ls : List Int} {i j : Nat} (h : ls.length<=i * C + j) : digF C ls i j = 0:=by
 unfold digF
 rw [List.getD_eq_getElem?_getD,List.getElem?_eq_none h]
 rfl
theorem tmod10 {z : Int} : (Int.tmod z 10).natAbs<=9:=by
 rcases Int.le_total 0 z with h | h
 ·rw [Int.tmod_eq_emod_of_nonneg h]; omega
 ·have : Int.tmod z 10 = -(Int.tmod (-z) 10):=by rw [Int.neg_tmod]; omega
  rw [this,Int.tmod_eq_emod_of_nonneg oM]; omega
theorem digF_le (C : Nat) (ls : List Int) (i j : Nat) : (digF C ls i j).natAbs<=9:=tmod10
theorem upTo_rest {R C : Nat} {f : Nat->Nat->Int} {i j : Nat} (h : ∀b,j<=b->f i b = 0) : genM R C (upTo f i j) = genM R C (upTo f (i + 1) 0):=
 genM_congr fun a _ b _=>by
  unfold upTo
  by_cases e : a < i ∨ (a = i/\b < j)
  ·rw [if_pos e,if_pos oM]
  ·rw [if_neg e]
   by_cases e2 : a < i + 1 ∨ a = i + 1/\b < 0
   ·rw [if_pos e2]
    obtain rfl : a = i:=by omega
    exact (h b oM).symm
   ·rw [if_neg e2]
set_option maxHeartbeats 4000000 in
set_option maxRecDepth 20000 in
theorem filled_any (v : Value) (R C : Nat) (ls : List Int) (w : World) (h : I8V w v ls) (hR : R<=16) (hC : C<=16) :
  Calls Tryz.prog 44 #[.int .i64 R,.int .i64 C,v] w (RetMat w R C (genM R C (digF C ls))):=by
 obtain ⟨ao,n,cap,rfl,h2,h3,h4,-,-⟩:=id h
 have HL:=Lib.hid h2
 obtain ⟨f,hf⟩ : ∃f : Nat->Nat->Int,digF C ls = f:=⟨_,rfl⟩
 rw [hf]
 have HFE : HidS (∀i j,f i j = digF C ls i j):=⟨fun i j=>by rw [<-hf]⟩
 clear hf h2
 go_enter Tryz.func44,Tryz.ntmps44
 go_upto_region 1 with (fail)
 refine wp_world ?_
 intro W0 hW0
 obtain ⟨hB0,br,hs0⟩:=world1 hW0
 have e1 : min (R : Int) 16 = R:=by omega
 have e2 : min (C : Int) 16 = C:=by omega
 go_wp2_with fail
 refine (r5new_any R C W0 oM oM).mono ?_
 rintro e w2 ⟨u,bs,rfl,⟨hbl,A2,rfl,ho⟩,hb2⟩
 obtain ⟨oo,on,oc,rfl,-,-,-,-⟩:=id ho.rows
 have hlts:=ho.lts
 go_upto_region 2 with (fail)
 refine wp_world ?_
 intro W3 hW3
 obtain ⟨hB3,T7,hs3⟩:=world1 hW3
 have br:=(br.below hb2).below hB3
 have ho:=ho.below hB3
 rw [upTo_start R C f] at ho
 have hBt:=nx (nx hB0 hb2) hB3
 have q2:=hb2.size
 clear hW3 hW0 e1 e2
 go_wp2
 go_loopw [8] (fun iv wr=>∃i : Nat,i<=R/\iv = .int .i64 i/\Below w.heap.size w wr/\Blk wr w.heap.size 28 #[.int .i64 0,.int .i64 0,.slice none 0 0]/\Blk wr w2.heap.size 28 #[.int .i64 R,.int .i64 C,.slice oo on oc]/\RowsO wr W0.heap.size (.slice oo on oc) C bs (genM R C (upTo f i 0))) (fun iv _=>R - (intOf iv).toNat)
 case atStart=>exact ⟨0,by omega,rfl,hBt,br,T7,ho⟩
 case round=>
  obtain ⟨i,hi,rfl,hb,br,T7,ho⟩:=hrel
  obtain ⟨f1,f2,f3,f4,f5,f6⟩:=T7.three
  by_cases hlt : i < R
  ·go_wp2
   clear f1 f2 f3 f4 f5 f6
   go_loopw [9] (fun jv wr=>∃j : Nat,j<=C/\jv = .int .i64 j/\Below w.heap.size w wr/\Blk wr w.heap.size 28 #[.int .i64 0,.int .i64 0,.slice none 0 0]/\Blk wr w2.heap.size 28 #[.int .i64 R,.int .i64 C,.slice oo on oc]/\RowsO wr W0.heap.size (.slice oo on oc) C bs (genM R C (upTo f i j))) (fun jv _=>C - (intOf jv).toNat)
   case atStart=>exact ⟨0,by omega,rfl,hb,br,T7,ho⟩
   case round=>
    obtain ⟨j,hj,rfl,hb,br,T7,ho⟩:=hrel
    obtain ⟨f1,f2,f3,f4,f5,f6⟩:=T7.three
    obtain ⟨m,hm⟩ : ∃m,i * C + j = m:=⟨_,rfl⟩
    have hmi : (i : Int) * (C : Int) + (j : Int) = (m : Int):=by rw [<-hm,Int.natCast_add,Int.natCast_mul]
    have hiC : i * C<=16 * 16:=Nat.mul_le_mul oM hC
    have hp0 : 0<=(i : Int) * (C : Int):=by rw [<-Int.natCast_mul]; omega
    have hp1 : (i : Int) * (C : Int)<=1000000:=by rw [<-Int.natCast_mul]; omega
    have hw1 : IntKind.i64.wrap ((i : Int) * (C : Int)) = (i : Int) * (C : Int):=IntWalk.i64_in _ oM
    have hw2 : IntKind.i64.wrap (m : Int) = (m : Int):=IntWalk.i64_in _ oM
    have hmm : IntKind.i64.wrap ((i : Int) * (C : Int) + (j : Int)) = (m : Int):=by rw [hmi,hw2]
    by_cases hjc : j < C
    ·by_cases hmn : m < n
     ·obtain ⟨b,off,z,rfl,hbl1,hz,c1,z1,z2⟩:=h.cell (k:=m) (by rw [HL.out]; exact hmn)
      have hcell:=(hb.cell (p:=⟨b,off + m,none⟩) hbl1).trans c1
      have hent : Hid (f i j = Int.tmod z 10):=Lib.hid (by rw [HFE.out]; unfold digF; rw [hm,getD_of hz])
      have ht9 : (Int.tmod z 10).natAbs<=9:=tmod10
      obtain ⟨t,ht⟩ : ∃t,Int.tmod z 10 = t:=⟨_,rfl⟩
      rw [ht] at hent ht9
      obtain ⟨g,bo,rfl,hg,hbo,hbo2,o1,ho3⟩:=ho.at_ (i:=i) oM
      have hio : i < on:=by omega
      have HO3:=Lib.hid ho3
      have HM:=Lib.hid hm
      have HT:=Hk ht
      have lt7:=T7.lt
      clear ho3 hm hz hiC c1 ht
      go_upto_region 8 with (fail)
      refine wp_region_headed 19 rfl (RI wr (wr.heap.size) _ 45
        [⟨0,40,fun _ v=>v = .pointer (some ⟨w2.heap.size,2,none⟩)⟩,⟨1,41,fun _ v=>v = .slice (some ⟨g,0,none⟩) on oc⟩,⟨2,42,fun _ v=>v = .int .i64 i⟩,⟨3,43,fun _ v=>v = .pointer (some ⟨g,i,none⟩)⟩,⟨4,44,fun _ v=>v = .slice (some ⟨bo,0,none⟩) C C⟩,⟨5,45,fun _ v=>v = .int .i64 j⟩,⟨6,46,fun _ v=>v = .slice (some ⟨b,off,none⟩) n cap⟩,⟨7,47,fun _ v=>v = .int .i64 i⟩,⟨8,48,fun _ v=>v = .pointer (some ⟨w2.heap.size,1,none⟩)⟩,⟨9,49,fun _ v=>v = .int .i64 C⟩,⟨10,50,fun _ v=>v = .int .i64 ((i : Int) * (C : Int))⟩,⟨11,51,fun _ v=>v = .int .i64 j⟩,⟨12,52,fun _ v=>v = .int .i64 m⟩,⟨13,53,fun _ v=>v = .pointer (some ⟨b,off + m,none⟩)⟩,⟨14,54,fun _ v=>v = .int .i8 z⟩,⟨15,55,fun _ v=>v = .int .i8 t⟩,⟨16,56,fun _ v=>v = .int .i64 t⟩,⟨17,57,fun w v=>IntV w v (t)⟩,⟨18,58,fun _ v=>v = .pointer (some ⟨bo,j * 2,none⟩)⟩]
        [] []) kR RI.start ?fin1 ?steps1
      case steps1=>
       refine ⟨?_,?_,?_,?_,?_,?_,?_,?_,?_,?_,?_,?_,?_,?_,?_,?_,?_,?_,?_,trivial⟩ <;> (intro L T wS hL hd hcl hI K hK; try refine sW rfl ?_)
       ·have zt : T[7]? = some (.pointer (some ⟨w2.heap.size,0,none⟩)):=hI.keep 7 sI sI
        go_simp
        exact hK _ _ (hI.y mm0 rfl)
       ·obtain ⟨v0,zt0,rfl⟩:=hI.v mm0 (hd 0)
        have cc0:=hI.cell f3 oM nom
        go_simp
        exact hK _ _ (hI.y mm1 rfl)
       ·have zt : T[8]? = some (.int .i64 i):=hI.keep 8 sI sI
        go_simp
        exact hK _ _ (hI.y mm2 rfl)
       ·obtain ⟨v1,zt1,rfl⟩:=hI.v mm1 (hd 1)
        obtain ⟨v2,zt2,rfl⟩:=hI.v mm2 (hd 2)
        go_simp
        exact hK _ _ (hI.y mm3 rfl)
       ·obtain ⟨v3,zt3,rfl⟩:=hI.v mm3 (hd 3)
        have cc0:=hI.cell o1 oM nom
        go_simp
        exact hK _ _ (hI.y mm4 rfl)
       ·have zt : T[9]? = some (.int .i64 j):=hI.keep 9 sI sI
        go_simp
        exact hK _ _ (hI.y mm5 rfl)
       ·have zt : T[2]? = some (.slice (some ⟨b,off,none⟩) n cap):=hI.keep 2 sI sI
        go_simp
        exact hK _ _ (hI.y mm6 rfl)
       ·have zt : T[8]? = some (.int .i64 i):=hI.keep 8 sI sI
        go_simp
        exact hK _ _ (hI.y mm7 rfl)
       ·have zt : T[7]? = some (.pointer (some ⟨w2.heap.size,0,none⟩)):=hI.keep 7 sI sI
        go_simp
        exact hK _ _ (hI.y mm8 rfl)
       ·obtain ⟨v8,zt8,rfl⟩:=hI.v mm8 (hd 8)
        have cc0:=hI.cell f2 oM nom
        go_simp
        exact hK _ _ (hI.y mm9 rfl)
       ·obtain ⟨v7,zt7,rfl⟩:=hI.v mm7 (hd 7)
        obtain ⟨v9,zt9,rfl⟩:=hI.v mm9 (hd 9)
        go_simp
        exact hK _ _ (hI.y mm10 rfl)
       ·have zt : T[9]? = some (.int .i64 j):=hI.keep 9 sI sI
        go_simp
        exact hK _ _ (hI.y mm11 rfl)
       ·obtain ⟨v10,zt10,rfl⟩:=hI.v mm10 (hd 10)
        obtain ⟨v11,zt11,rfl⟩:=hI.v mm11 (hd 11)
        go_simp
        exact hK _ _ (hI.y mm12 rfl)
       ·obtain ⟨v6,zt6,rfl⟩:=hI.v mm6 (hd 6)
        obtain ⟨v12,zt12,rfl⟩:=hI.v mm12 (hd 12)
        go_simp
        exact hK _ _ (hI.y mm13 rfl)
       ·obtain ⟨v13,zt13,rfl⟩:=hI.v mm13 (hd 13)
        have cc0:=hI.cell hcell oM nom
        go_simp
        exact hK _ _ (hI.y mm14 rfl)
       ·obtain ⟨v14,zt14,rfl⟩:=hI.v mm14 (hd 14)
        go_simp
        exact hK _ _ (hI.y mm15 (congrArg (Value.int .i8) HT.out))
       ·obtain ⟨v15,zt15,rfl⟩:=hI.v mm15 (hd 15)
        go_simp
        exact hK _ _ (hI.y mm16 (congrArg (Value.int .i64) (IntWalk.i64_in _ oM)))
       ·obtain ⟨v16,zt16,rfl⟩:=hI.v mm16 (hd 16)
        go_simp
        refine (r1of_any t _ oM oM).mono ?_
        rintro e wa ⟨v,rfl,hv,hba⟩
        exact hK _ _ ((hI.world hba).y mm17 hv)
       ·obtain ⟨v4,zt4,rfl⟩:=hI.v mm4 (hd 4)
        obtain ⟨v5,zt5,rfl⟩:=hI.v mm5 (hd 5)
        go_simp
        exact hK _ _ (hI.y mm18 rfl)
      intro T w9 hI
      obtain ⟨va0,q0,rfl⟩:=hI.v mm0 rfl
      obtain ⟨va1,q1,rfl⟩:=hI.v mm1 rfl
      obtain ⟨va2,q2,rfl⟩:=hI.v mm2 rfl
      obtain ⟨va3,q3,rfl⟩:=hI.v mm3 rfl
      obtain ⟨va4,q4,rfl⟩:=hI.v mm4 rfl
      obtain ⟨va5,q5,rfl⟩:=hI.v mm5 rfl
      obtain ⟨va6,q6,rfl⟩:=hI.v mm6 rfl
      obtain ⟨va7,q7,rfl⟩:=hI.v mm7 rfl
      obtain ⟨va8,q8,rfl⟩:=hI.v mm8 rfl
      obtain ⟨va9,q9,rfl⟩:=hI.v mm9 rfl
      obtain ⟨va10,q10,rfl⟩:=hI.v mm10 rfl
      obtain ⟨va11,q11,rfl⟩:=hI.v mm11 rfl
      obtain ⟨va12,q12,rfl⟩:=hI.v mm12 rfl
      obtain ⟨va13,q13,rfl⟩:=hI.v mm13 rfl
      obtain ⟨va14,q14,rfl⟩:=hI.v mm14 rfl
      obtain ⟨va15,q15,rfl⟩:=hI.v mm15 rfl
      obtain ⟨va16,q16,rfl⟩:=hI.v mm16 rfl
      obtain ⟨va17,q17,ha17⟩:=hI.v mm17 rfl
      replace ha17 : IntV w9 va17 (t):=ha17
      obtain ⟨va18,q18,rfl⟩:=hI.v mm18 rfl
      have hT:=tmps_set [(40,.pointer (some ⟨w2.heap.size,2,none⟩)),(41,.slice (some ⟨g,0,none⟩) on oc),(42,.int .i64 i),(43,.pointer (some ⟨g,i,none⟩)),(44,.slice (some ⟨bo,0,none⟩) C C),(45,.int .i64 j),(46,.slice (some ⟨b,off,none⟩) n cap),(47,.int .i64 i),(48,.pointer (some ⟨w2.heap.size,1,none⟩)),(49,.int .i64 C),(50,.int .i64 ((i : Int) * (C : Int))),(51,.int .i64 j),(52,.int .i64 m),(53,.pointer (some ⟨b,off + m,none⟩)),(54,.int .i8 z),(55,.int .i8 t),(56,.int .i64 t),(57,va17),(58,.pointer (some ⟨bo,j * 2,none⟩))]
       (fun j hj=>hI.keep j (by simp only [List.forall_mem_cons] at hj ⊢; simp [hj]) (by simp only [List.forall_mem_cons] at hj ⊢; simp [hj]))
       (by simp only [List.forall_mem_cons]; simp [q0,q1,q2,q3,q4,q5,q6,q7,q8,q9,q10,q11,q12,q13,q14,q15,q16,q17,q18]) hI.size
      have hlw9:=hI.lext
      have hbw9:=hI.bel (wr.heap.size) oM nom
      have holdw9:=hI.old
      clear hI
      simp only [List.foldl_cons,List.foldl_nil,List.setIfInBounds_toArray,List.set_cons_zero,List.set_cons_succ,ptr] at hT
      subst hT
      clear q0 q1 q2 q3 q4 q5 q6 q7 q8 q9 q10 q11 q12 q13 q14 q15 q16 q17 q18
      simp only [List.drop_succ_cons,List.drop_zero]
      obtain ⟨pn,pa,pl,pc,px,rfl,hpx⟩:=id ha17
      have HPX:=Lib.hid hpx
      clear hpx
      have ho9:=ho.below hbw9
      obtain ⟨sn,sa,sl,sc,y1,y2,y3,y4,-⟩:=ho9.cellAt hbo hjc
      have hbolt:=hlts i bo hbo
      have hset:=ho9.set hbo hjc ha17
      clear hw1 hw2 hmi hp0 hp1 hmm ht9
      go_wp2
      go_roundw
      case rel=>
       rw [<-hent.out,upTo_step hlt hjc] at hset
       exact ⟨j + 1,by omega,by simp,bset (bset (nx hb hbw9) oM _ _) oM _ _,(set2_old _ _ _ _ _ _ _ oM).trans (br.below hbw9),(set2_old _ _ _ _ _ _ _ oM).trans (T7.below hbw9),hset.1⟩
      case measure=>simp [intOf]; omega
     ·have hrest : ∀b,j<=b->f i b = 0:=fun b hb=>by
       rw [HFE.out]
       exact digF_out (by rw [HL.out]; omega)
      rw [upTo_rest hrest] at ho
      clear hmi hp0 hp1 hiC hm
      go_wp2
      go_roundw
      case rel=>exact ⟨i + 1,by omega,by simp,hb,br,T7,ho⟩
      case measure=>simp [intOf]; omega
    ·obtain rfl : j = C:=by omega
     rw [upTo_row] at ho
     clear hmi hp0 hp1 hmm hw1 hw2
     go_wp2
     go_roundw
     case rel=>exact ⟨i + 1,by omega,by simp,hb,br,T7,ho⟩
     case measure=>simp [intOf]; omega
  ·obtain rfl : i = R:=by omega
   rw [upTo_end] at ho
   obtain ⟨r1,r2,r3,r4,r5,r6⟩:=br.three
   have q1:=hB0.size
   go_wp2
   refine bodyPost_mat rfl rfl rfl (br.put3 _ _ _) ⟨_,bs,rfl,⟨hbl,_,rfl,?_⟩,bset (bset (bset hb oM 0 _) oM 1 _) oM 2 _⟩
   exact (ho.keep (fun k hk=>set3_old _ _ k _ _ _ oM) (br.lext3 dE _ _ _)).mono q1
set_option maxHeartbeats 4000000 in
set_option maxRecDepth 20000 in
theorem rawMade_any (v : Value) (r c : Nat) (ls : List Int) (w : World) (h : I8V w v ls) (hr : r<=255) (hc : c<=255) (R C : Nat) (hR : R = r % 5) (hC : C = c % 5) :
  Calls Tryz.prog 13 #[.agg #[.int .u8 r,.int .u8 c,v]] w (RetMat w R C (genM R C (digF C ls))):=by
 obtain ⟨ao,n,cap,rfl,-,-,-,-,-⟩:=id h
 go_enter Tryz.func13,Tryz.ntmps13
 go_upto_region 1 with (fail)
 refine wp_world ?_
 intro W0 hW0
 obtain ⟨hB0,bx1,br,hs0⟩:=world2 hW0
 obtain ⟨c1,c2,c3,c4,c5,c6⟩:=bx1.three
 have e1 : (r : Int) % 5 = (R : Int):=by omega
 have e2 : (c : Int) % 5 = (C : Int):=by omega
 have hR4 : R<=4:=by omega
 have hC4 : C<=4:=by omega
 clear hR hC
 go_wp2_with fail
 refine (filled_any _ R C ls W0 (h.below hB0) oM oM).mono ?_
 rintro e w2 ⟨u,bs,rfl,⟨hbl,A2,rfl,ho⟩,hb2⟩
 obtain ⟨oo,on,oc,rfl,-,-,-,-⟩:=id ho.rows
 have br:=br.below hb2
 obtain ⟨r1,r2,r3,r4,r5,r6⟩:=br.three
 have hBt:=nx hB0 hb2
 have q1:=hB0.size
 clear c1 c2 c3 c4 c5 c6
 go_wp2
 refine bodyPost_mat rfl rfl rfl (br.put3 _ _ _) ⟨_,bs,rfl,⟨hbl,_,rfl,?_⟩,bset (bset (bset hBt oM 0 _) oM 1 _) oM 2 _⟩
 exact (ho.keep (fun k hk=>set3_old _ _ k _ _ _ oM) (br.lext3 dE _ _ _)).mono q1
set_option maxHeartbeats 4000000 in
set_option maxRecDepth 20000 in
theorem rawSquare_any (v : Value) (r c : Nat) (ls : List Int) (w : World) (h : I8V w v ls) (hr : r<=255) (hc : c<=255) (R : Nat) (hR : R = r % 5) (_hc : c<=255) :
  Calls Tryz.prog 35 #[.agg #[.int .u8 r,.int .u8 c,v]] w (RetMat w R R (genM R R (digF R ls))):=by
 obtain ⟨ao,n,cap,rfl,-,-,-,-,-⟩:=id h
 go_enter Tryz.func35,Tryz.ntmps35
 go_upto_region 1 with (fail)
 refine wp_world ?_
 intro W0 hW0
 obtain ⟨hB0,bx1,br,hs0⟩:=world2 hW0
 obtain ⟨c1,c2,c3,c4,c5,c6⟩:=bx1.three
 have e1 : (r : Int) % 5 = (R : Int):=by omega
 skip
 have hR4 : R<=4:=by omega
 have hC4 : R<=4:=by omega
 clear hR
 go_wp2_with fail
 refine (filled_any _ R R ls W0 (h.below hB0) oM oM).mono ?_
 rintro e w2 ⟨u,bs,rfl,⟨hbl,A2,rfl,ho⟩,hb2⟩
 obtain ⟨oo,on,oc,rfl,-,-,-,-⟩:=id ho.rows
 have br:=br.below hb2
 obtain ⟨r1,r2,r3,r4,r5,r6⟩:=br.three
 have hBt:=nx hB0 hb2
 have q1:=hB0.size
 clear c1 c2 c3 c4 c5 c6
 go_wp2
 refine bodyPost_mat rfl rfl rfl (br.put3 _ _ _) ⟨_,bs,rfl,⟨hbl,_,rfl,?_⟩,bset (bset (bset hBt oM 0 _) oM 1 _) oM 2 _⟩
 exact (ho.keep (fun k hk=>set3_old _ _ k _ _ _ oM) (br.lext3 dE _ _ _)).mono q1
theorem nxa {w W W' : World} {o : Obj} (h : Below w.heap.size w W) (hb : Below (W.alloc o).heap.size (W.alloc o) W') : Below w.heap.size w W':=nx (h.alloc h.size o) hb
def i64Cells (ls : List Int) : Array Value:=(ls.map (Value.int .i64)).toArray
theorem I64V.new (W : World) (ls : List Int) (hb : (ls.all fun z=>decide (-9223372036854775808<=z/\z<=9223372036854775807)) = true) (hl : ls.length<=1000) :
  I64V (W.alloc (.cells (i64Cells ls) 2)) (.slice (some ⟨W.heap.size,0,none⟩) ls.length ls.length) ls:=by
 refine ⟨_,_,_,rfl,rfl,Nat.le_refl _,by omega,fun z hz=>of_decide_eq_true (List.all_eq_true.1 hb z hz),fun _=>⟨W.heap.size,_,rfl,heap_alloc_new W _,fun k z hk=>?_⟩⟩
 simp [i64Cells,hk]
theorem lastsB_i64 (ls : List Int) : LastsB (fun w v=>I64V w v ls):=fun _ _ _ x h=>h.below x
theorem intsM (v : Value) (ls : List Int) (R C : Nat) (r c : Int) (M : List (List Int)) (w : World) (h : I64V w v ls) (hr : r = R) (hc : c = C) (hl : ls.length = R * C) (hR : R<=1000) (hC : C<=1000) (hM : genM R C (fun i j=>ls.getD (i * C + j) 0) = M) :
  Calls Tryz.prog 42 #[.int .i64 r,.int .i64 c,v] w fun e w'=>∃v,e = .returned v/\MatV w' v R C M/\Below w.heap.size w w':=by
 subst hr
 subst hc
 subst hM
 exact (ints_any v R C ls w h hl hR hC).mono fun e w' ⟨v,bs,he,hm,hb⟩=>⟨v,he,hm.mat.1,hb⟩
theorem newM (R C : Nat) (r c : Int) (w : World) (hr : r = R) (hc : c = C) (hR : R<=1000000) (hC : C<=1000000) :
  Calls Tryz.prog 22 #[.int .i64 r,.int .i64 c] w fun e w'=>∃v,e = .returned v/\MatV w' v R C (zerosM R C)/\Below w.heap.size w w':=by
 subst hr
 subst hc
 exact (r5new_any R C w hR hC).mono fun e w' ⟨v,bs,he,hm,hb⟩=>⟨v,he,hm.mat.1,hb⟩
theorem MatV.agg {w : World} {v : Value} {R C : Int} {M : List (List Int)} (h : MatV w v R C M) : ∃o n k,v = .agg #[.int .i64 R,.int .i64 C,.slice o n k]:=by
 obtain ⟨A,rfl,ao,n,cap,rfl,-⟩:=h
 exact ⟨_,_,_,rfl⟩
theorem SmithV.below {w w' : World} {f : Value} {R C : Nat} {S U V W X : List (List Int)} (h : SmithV w f R C S U V W X) (hb : Below w.heap.size w w') : SmithV w' f R C S U V W X:=by
 obtain ⟨s,u,v,x,y,e,h1,h2,h3,h4,h5⟩:=h.ex
 exact ⟨s,u,v,x,y,e,h1.below hb,h2.below hb,h3.below hb,h4.below hb,h5.below hb⟩
theorem r13sameT (v1 v2 : Value) (xs : List Int) (w : World) (h1 : VecV w v1 xs) (h2 : VecV w v2 xs) :
  Calls Tryz.prog 17 #[v1,v2] w fun e w'=>e = .returned (.bool true)/\Below w.heap.size w w':=
 (r13same_any v1 v2 xs xs w h1 h2).mono fun e w' ⟨h,hb⟩=>⟨by rw [h,decide_eq_true rfl],hb⟩
theorem sisT (v : Value) (R C : Int) (M : List (List Int)) (b : Bool) (w : World) (h : MatV w v R C M) (hS : lessL 1000000 M = true) (hR : R<=1000000) (hC : C<=1000000) (hb : IsM2 R C M = b) :
  Calls Tryz.prog 26 #[v] w fun e w'=>e = .returned (.bool b)/\Below w.heap.size w w':=
 (sis_any v R C M w h (lessL_smd million hS) hR hC).mono fun e w' ⟨h,hb'⟩=>⟨by rw [h,hb],hb'⟩
theorem sameT (v1 v2 : Value) (R C : Int) (M : List (List Int)) (w : World) (h1 : MatV w v1 R C M) (h2 : MatV w v2 R C M) :
  Calls Tryz.prog 14 #[v1,v2] w fun e w'=>∃v,e = .returned v/\v = .bool true/\Below w.heap.size w w':=
 (same_any v1 v2 R C R C M M w h1 h2).mono fun e w' ⟨h,hb⟩=>⟨_,h,by rw [decide_eq_true ⟨rfl,rfl,rfl⟩],hb⟩
theorem r13checkC (av fv : Value) (w : World) (ha : MatV w av (2 : Nat) (1 : Nat) [[4],[6]]) (hf : SmithV w fv 2 1 [[2],[0]] [[-1,1],[3,-2]] [[2,1],[3,1]] [[1]] [[1]]) :
  Calls Tryz.prog 20 #[av,fv] w fun e w'=>∃v,e = .returned v/\v = .bool true/\Below w.heap.size w w':=
 (r13check_true av fv 2 1 [[4],[6]] _ _ _ _ _ w ha hf ⟨rfl,by decide⟩ ⟨rfl,by decide⟩ ⟨rfl,by decide⟩ ⟨rfl,by decide⟩ oM oM dE dE dE (lessL_smd million dE)
  (fun _=>MulB.sm million.bsm dE) (fun _=>MulB.sm million.bsm dE) (MulB.sm million.bsm dE) (MulB.sm million.bsm dE) dE).mono fun e w' ⟨h,hb⟩=>⟨_,h,rfl,hb⟩
theorem scheckC (av fv : Value) (w : World) (ha : MatV w av (2 : Nat) (1 : Nat) [[4],[6]]) (hf : SmithV w fv 2 1 [[2],[0]] [[-1,1],[3,-2]] [[2,1],[3,1]] [[1]] [[1]]) :
  Calls Tryz.prog 21 #[av,fv] w fun e w'=>∃v,e = .returned v/\v = .bool true/\Below w.heap.size w w':=
 (scheck_true av fv 2 1 [[4],[6]] _ _ _ _ _ w ha hf ⟨rfl,by decide⟩ ⟨rfl,by decide⟩ ⟨rfl,by decide⟩ ⟨rfl,by decide⟩ ⟨rfl,by decide⟩ ⟨rfl,by decide⟩ oM oM dE dE dE (lessL_smd million dE)
  (MulB.sm million.bsm dE) (MulB.sm million.bsm dE) (MulB.sm million.bsm dE) (MulB.sm million.bsm dE) dE).mono fun e w' ⟨h,hb⟩=>⟨_,h,rfl,hb⟩
theorem scheckZ (av : Value) (w : World) (ha : MatV w av (2 : Nat) (1 : Nat) [[4],[6]]) :
  Calls Tryz.prog 21 #[av,.agg #[.int .i64 0,.int .i64 0,.slice none 0 0,.int .i64 0,.int .i64 0,.slice none 0 0,.int .i64 0,.int .i64 0,.slice none 0 0,.int .i64 0,.int .i64 0,.slice none 0 0,.int .i64 0,.int .i64 0,.slice none 0 0]] w fun e w'=>∃v,e = .returned v/\v = .bool false/\Below w.heap.size w w':=
 (scheck_zero av 2 1 [[4],[6]] w ha ⟨rfl,by decide⟩ oM).mono fun e w' ⟨h,hb⟩=>⟨_,h,rfl,hb⟩
set_option maxHeartbeats 8000000 in
set_option maxRecDepth 20000 in
theorem sanity_any (w : World) : Calls Tryz.prog 12 #[] w fun e w'=>e = .returned (.bool true)/\Below w.heap.size w w':=by
 go_enter Tryz.func12,Tryz.ntmps12
 have hB:=Below.refl w.heap.size w
 go_wp2_with fail
 refine (intsM _ [4,6] 2 1 _ _ [[4],[6]] _ (I64V.new _ [4,6] dE dE) (by rfl) (by rfl) (by rfl) oM oM (by rfl)).mono ?_
 rintro e wc ⟨v1,rfl,hm,hb1⟩
 have hB:=nxa hB hb1
 obtain ⟨co,cn,ck,rfl⟩:=hm.agg
 have HM:=Hk hm
 clear hm
 go_upto_region 2 with (fail)
 refine wp_world ?_
 intro W1 hW1
 obtain ⟨hB1,bc,hs1⟩:=world1 hW1
 have hB:=nx hB hB1
 have HC:=Hk (HM.out.below hB1)
 obtain ⟨c1,c2,c3,c4,c5,c6⟩:=bc.three
 clear hW1 HM
 go_wp2_with fail
 refine (form_column _ W1 HC.out).mono ?_
 rintro e w2 ⟨fv,rfl,hf,hb2⟩
 have hB:=nx hB hb2
 have bc:=bc.below hb2
 obtain ⟨sv,uv,xv,yv,zv,rfl,hs0,hu0,hx0,hy0,hz0⟩:=id hf.ex
 obtain ⟨s0,s1,s2,rfl,-⟩:=id hs0
 obtain ⟨u0,u1,u2,rfl,-⟩:=id hu0
 obtain ⟨x0,x1,x2,rfl,-⟩:=id hx0
 obtain ⟨y0,y1,y2,rfl,-⟩:=id hy0
 obtain ⟨z0,z1,z2,rfl,-⟩:=id hz0
 have HFV:=Hk hf
 clear hf hs0 hu0 hx0 hy0 hz0 c1 c2 c3 c4 c5 c6
 go_upto_region 3 with (fail)
 refine wp_world ?_
 intro W3 hW3
 obtain ⟨hB3,bf,hs3⟩:=world1 hW3
 have hB:=nx hB hB3
 have bc:=bc.below hB3
 have HC:=Hk ((HC.out.below hb2).below hB3)
 have HF:=Hk (HFV.out.below hB3)
 have hBT:=hB
 have BC:=Hk bc
 have BF:=Hk bf
 clear hW3 HFV hB bc bf
 have hB:=Below.refl W3.heap.size W3
 go_wp2_with fail
 refine (intsM _ [2,0,0,3] 2 2 _ _ [[2,0],[0,3]] _ (I64V.new _ [2,0,0,3] dE dE) (by rfl) (by rfl) (by rfl) oM oM (by rfl)).mono ?_
 rintro e w1 ⟨v1,rfl,hm,hb1⟩
 have hB:=nxa hB hb1
 obtain ⟨mo,mn,mk,rfl⟩:=hm.agg
 have HM:=Hk hm
 clear hm
 go_wp2_with fail
 refine (inv_23 _ _ HM.out).mono ?_
 rintro e w1 ⟨v1,rfl,hv1,hb1⟩
 have hB:=nx hB hb1
 obtain ⟨mo,mk,rfl⟩:=hv1.shape
 have HV:=Hk hv1.vec
 clear hv1
 go_wp2_with fail
 refine (list_any _ [1,6] _ (I64V.new _ [1,6] dE dE) dE).mono ?_
 rintro e w1 ⟨v1,rfl,hv1,hb1⟩
 have HV1:=Hk (HV.out.below (nxa (Below.refl _ _) hb1))
 have hB:=nxa hB hb1
 obtain ⟨so,sk,rfl⟩:=hv1.shape
 go_wp2_with fail
 refine (r13sameT _ _ [1,6] _ HV1.out hv1.vec).mono ?_
 rintro e w1 ⟨rfl,hb1⟩
 have hB:=nx hB hb1
 clear hv1
 clear HM HV HV1
 go_wp2_with fail
 refine (intsM _ [2,4,4,8] 2 2 _ _ [[2,4],[4,8]] _ (I64V.new _ [2,4,4,8] dE dE) (by rfl) (by rfl) (by rfl) oM oM (by rfl)).mono ?_
 rintro e w1 ⟨v1,rfl,hm,hb1⟩
 have hB:=nxa hB hb1
 obtain ⟨mo,mn,mk,rfl⟩:=hm.agg
 have HM:=Hk hm
 clear hm
 go_wp2_with fail
 refine (inv_plain _ 2 2 [[2,4],[4,8]] [2] _ HM.out ⟨rfl,by decide⟩ oM oM oM kR dE).mono ?_
 rintro e w1 ⟨v1,rfl,hv1,hb1⟩
 have hB:=nx hB hb1
 obtain ⟨mo,mk,rfl⟩:=hv1.shape
 have HV:=Hk hv1.vec
 clear hv1
 go_wp2_with fail
 refine (list_any _ [2] _ (I64V.new _ [2] dE dE) dE).mono ?_
 rintro e w1 ⟨v1,rfl,hv1,hb1⟩
 have HV1:=Hk (HV.out.below (nxa (Below.refl _ _) hb1))
 have hB:=nxa hB hb1
 obtain ⟨so,sk,rfl⟩:=hv1.shape
 go_wp2_with fail
 refine (r13sameT _ _ [2] _ HV1.out hv1.vec).mono ?_
 rintro e w1 ⟨rfl,hb1⟩
 have hB:=nx hB hb1
 clear hv1
 clear HM HV HV1
 go_wp2_with fail
 refine (newM 2 3 _ _ _ (by rfl) (by rfl) oM oM).mono ?_
 rintro e w1 ⟨v1,rfl,hm,hb1⟩
 have hB:=nx hB hb1
 obtain ⟨mo,mn,mk,rfl⟩:=hm.agg
 have HM:=Hk hm
 clear hm
 go_wp2_with fail
 refine (inv_plain _ 2 3 (zerosM 2 3) [] _ HM.out ⟨rfl,by decide⟩ oM oM oM kR dE).mono ?_
 rintro e w1 ⟨v1,rfl,hv1,hb1⟩
 have hB:=nx hB hb1
 obtain ⟨mo,mk,rfl⟩:=hv1.shape
 have HV:=Hk hv1.vec
 clear hv1
 clear HM HV
 go_wp2_with fail
 refine (newM 0 3 _ _ _ (by rfl) (by rfl) oM oM).mono ?_
 rintro e w1 ⟨v1,rfl,hm,hb1⟩
 have hB:=nx hB hb1
 obtain ⟨mo,mn,mk,rfl⟩:=hm.agg
 have HM:=Hk hm
 clear hm
 go_wp2_with fail
 refine (invariants_none _ 3 (zerosM 0 3) _ HM.out ⟨rfl,by decide⟩).mono ?_
 rintro e w1 ⟨v1,rfl,hv1,hb1⟩
 have hB:=nx hB hb1
 obtain ⟨mo,mk,rfl⟩:=hv1.shape
 have HV:=Hk hv1.vec
 clear hv1
 clear HM HV
 go_wp2_with fail
 refine (intsM _ [1,0,0,0,2,0] 2 3 _ _ [[1,0,0],[0,2,0]] _ (I64V.new _ [1,0,0,0,2,0] dE dE) (by rfl) (by rfl) (by rfl) oM oM (by rfl)).mono ?_
 rintro e w1 ⟨v1,rfl,hm,hb1⟩
 have hB:=nxa hB hb1
 obtain ⟨mo,mn,mk,rfl⟩:=hm.agg
 have HM:=Hk hm
 clear hm
 go_wp2_with fail
 refine (sisT _ _ _ [[1,0,0],[0,2,0]] true _ HM.out dE dE dE dE).mono ?_
 rintro e w1 ⟨rfl,hb1⟩
 have hB:=nx hB hb1
 clear HM
 go_wp2_with fail
 refine (intsM _ [2,0,0,1] 2 2 _ _ [[2,0],[0,1]] _ (I64V.new _ [2,0,0,1] dE dE) (by rfl) (by rfl) (by rfl) oM oM (by rfl)).mono ?_
 rintro e w1 ⟨v1,rfl,hm,hb1⟩
 have hB:=nxa hB hb1
 obtain ⟨mo,mn,mk,rfl⟩:=hm.agg
 have HM:=Hk hm
 clear hm
 go_wp2_with fail
 refine (sisT _ _ _ [[2,0],[0,1]] false _ HM.out dE dE dE dE).mono ?_
 rintro e w1 ⟨rfl,hb1⟩
 have hB:=nx hB hb1
 clear HM
 go_wp2_with fail
 refine (intsM _ [0,0,0,1] 2 2 _ _ [[0,0],[0,1]] _ (I64V.new _ [0,0,0,1] dE dE) (by rfl) (by rfl) (by rfl) oM oM (by rfl)).mono ?_
 rintro e w1 ⟨v1,rfl,hm,hb1⟩
 have hB:=nxa hB hb1
 obtain ⟨mo,mn,mk,rfl⟩:=hm.agg
 have HM:=Hk hm
 clear hm
 go_wp2_with fail
 refine (sisT _ _ _ [[0,0],[0,1]] false _ HM.out dE dE dE dE).mono ?_
 rintro e w1 ⟨rfl,hb1⟩
 have hB:=nx hB hb1
 clear HM
 go_wp2_with fail
 refine (intsM _ [-1] 1 1 _ _ [[-1]] _ (I64V.new _ [-1] dE dE) (by rfl) (by rfl) (by rfl) oM oM (by rfl)).mono ?_
 rintro e w1 ⟨v1,rfl,hm,hb1⟩
 have hB:=nxa hB hb1
 obtain ⟨mo,mn,mk,rfl⟩:=hm.agg
 have HM:=Hk hm
 clear hm
 go_wp2_with fail
 refine (sisT _ _ _ [[-1]] false _ HM.out dE dE dE dE).mono ?_
 rintro e w1 ⟨rfl,hb1⟩
 have hB:=nx hB hb1
 clear HM
 go_wp2_with fail
 refine (intsM _ [1,1] 1 2 _ _ [[1,1]] _ (I64V.new _ [1,1] dE dE) (by rfl) (by rfl) (by rfl) oM oM (by rfl)).mono ?_
 rintro e w1 ⟨v1,rfl,hm,hb1⟩
 have hB:=nxa hB hb1
 obtain ⟨mo,mn,mk,rfl⟩:=hm.agg
 have HM:=Hk hm
 clear hm
 go_wp2_with fail
 refine (sisT _ _ _ [[1,1]] false _ HM.out dE dE dE dE).mono ?_
 rintro e w1 ⟨rfl,hb1⟩
 have hB:=nx hB hb1
 clear HM
 go_wp2_with fail
 refine (newM 0 2 _ _ _ (by rfl) (by rfl) oM oM).mono ?_
 rintro e w1 ⟨v1,rfl,hm,hb1⟩
 have hB:=nx hB hb1
 obtain ⟨mo,mn,mk,rfl⟩:=hm.agg
 have HM:=Hk hm
 clear hm
 go_wp2_with fail
 refine (sisT _ _ _ (zerosM 0 2) true _ HM.out dE dE dE dE).mono ?_
 rintro e w1 ⟨rfl,hb1⟩
 have hB:=nx hB hb1
 clear HM
 go_wp2_with fail
 refine (sisT _ 1 1 [] false _ ⟨_,rfl,RowsV.nil _⟩ dE dE dE dE).mono ?_
 rintro e w1 ⟨rfl,hb1⟩
 have hB:=nx hB hb1
 have bc:=BC.out.below hB
 have bf:=BF.out.below hB
 have HC:=Hk (HC.out.below hB)
 have HF:=Hk (HF.out.below hB)
 have HS : HidS (MatV w1 (.agg #[.int .i64 2,.int .i64 1,.slice s0 s1 s2]) 2 1 [[2],[0]]):=⟨by
  obtain ⟨sv,uv,xv,yv,zv,e,h1,-⟩:=HF.out.ex
  injection e with e
  simp only [Array.mk.injEq,List.cons.injEq] at e
  exact ⟨_,rfl,by rw [e.2.2.1]; exact h1⟩⟩
 have hBF:=nx hBT hB
 obtain ⟨c1,c2,c3,c4,c5,c6⟩:=bc.three
 obtain ⟨⟨q0,q1,q2,q3,q4,q5,q6,q7,q8,q9,q10,q11,q12,q13,q14⟩,-⟩:=bf.all15
 have hl1:=lastsB_i64 [2,0]
 go_upto_region 5 with (fail)
 refine wp_region_each rfl (RV w1 _ [⟨0,71,fun _ v=>v = .bool true⟩,⟨1,72,fun _ v=>v = .bool true⟩,⟨2,73,fun _ v=>v = .bool true⟩,⟨3,74,fun _ v=>v = .bool true⟩,⟨4,75,fun _ v=>v = .bool true⟩,⟨5,76,fun _ v=>v = .pointer (some ⟨w2.heap.size,0,none⟩)⟩,⟨6,77,fun _ v=>v = .agg #[.int .i64 2,.int .i64 1,.slice s0 s1 s2]⟩,⟨7,78,fun w v=>I64V w v [2,0]⟩,⟨8,79,fun w v=>MatV w v (2 : Nat) (1 : Nat) [[2],[0]]⟩,⟨9,80,fun _ v=>v = .bool true⟩,⟨10,81,fun _ v=>v = .bool true⟩,⟨11,82,fun _ v=>v = .bool true⟩,⟨12,83,fun _ v=>v = .agg #[.int .i64 2,.int .i64 1,.slice co cn ck]⟩,⟨13,84,fun _ v=>v = .agg #[.int .i64 2,.int .i64 1,.slice s0 s1 s2,.int .i64 2,.int .i64 2,.slice u0 u1 u2,.int .i64 2,.int .i64 2,.slice x0 x1 x2,.int .i64 1,.int .i64 1,.slice y0 y1 y2,.int .i64 1,.int .i64 1,.slice z0 z1 z2]⟩,⟨14,85,fun _ v=>v = .bool true⟩,⟨15,86,fun _ v=>v = .bool true⟩,⟨16,87,fun _ v=>v = .bool true⟩,⟨17,88,fun _ v=>v = .agg #[.int .i64 2,.int .i64 1,.slice co cn ck]⟩,⟨18,89,fun _ v=>v = .agg #[.int .i64 2,.int .i64 1,.slice s0 s1 s2,.int .i64 2,.int .i64 2,.slice u0 u1 u2,.int .i64 2,.int .i64 2,.slice x0 x1 x2,.int .i64 1,.int .i64 1,.slice y0 y1 y2,.int .i64 1,.int .i64 1,.slice z0 z1 z2]⟩,⟨19,90,fun _ v=>v = .bool true⟩,⟨20,91,fun _ v=>v = .bool true⟩,⟨21,92,fun _ v=>v = .bool true⟩,⟨22,93,fun _ v=>v = .agg #[.int .i64 2,.int .i64 1,.slice co cn ck]⟩,⟨23,94,fun _ v=>v = .agg #[.int .i64 0,.int .i64 0,.slice none 0 0,.int .i64 0,.int .i64 0,.slice none 0 0,.int .i64 0,.int .i64 0,.slice none 0 0,.int .i64 0,.int .i64 0,.slice none 0 0,.int .i64 0,.int .i64 0,.slice none 0 0]⟩,⟨24,95,fun _ v=>v = .bool false⟩,⟨25,96,fun _ v=>v = .bool true⟩,⟨26,97,fun _ v=>v = .bool true⟩,⟨27,0,fun _ v=>v = .bool true⟩]) kR RV.start ?fin1 ?steps1
 case steps1=>
  refine ⟨?_,?_,?_,?_,?_,?_,?_,?_,?_,?_,?_,?_,?_,?_,?_,?_,?_,?_,?_,?_,?_,?_,?_,?_,?_,?_,?_,?_,trivial⟩ <;> (intro L T wS hL hd hcl hI K hK; try refine sW rfl ?_)
  ·have zt : T[3]? = some (.bool true):=hI.keep 3 sI
   go_simp
   exact hK _ _ (hI.y mm0 rfl)
  ·obtain ⟨_,zt0,rfl⟩:=hI.v mm0 (hd 0)
   go_simp
   exact hK _ _ (hI.y mm1 rfl)
  ·obtain ⟨_,zg,rfl⟩:=hI.v mm1 (hd 1)
   refine sW (by simp [Region.wanted,yielded,zg]) ?_
   have zt : T[4]? = some (.bool true):=hI.keep 4 sI
   go_simp
   exact hK _ _ (hI.y mm2 rfl)
  ·obtain ⟨_,zt1,rfl⟩:=hI.v mm1 (hd 1)
   obtain ⟨_,zt2,rfl⟩:=hI.v mm2 (hd 2)
   go_simp
   exact hK _ _ (hI.y mm3 rfl)
  ·obtain ⟨_,zt3,rfl⟩:=hI.v mm3 (hd 3)
   go_simp
   exact hK _ _ (hI.y mm4 rfl)
  ·obtain ⟨_,zg,rfl⟩:=hI.v mm4 (hd 4)
   refine sW (by simp [Region.wanted,yielded,zg]) ?_
   have zt : T[2]? = some (.pointer (some ⟨w2.heap.size,0,none⟩)):=hI.keep 2 sI
   go_simp
   exact hK _ _ (hI.y mm5 rfl)
  ·obtain ⟨_,zg,rfl⟩:=hI.v mm4 (hd 4)
   refine sW (by simp [Region.wanted,yielded,zg]) ?_
   obtain ⟨_,zt5,rfl⟩:=hI.v mm5 (hd 5)
   have cc0:=hI.cell q0
   have cc1:=hI.cell q1
   have cc2:=hI.cell q2
   go_simp
   exact hK _ _ (hI.y mm6 rfl)
  ·obtain ⟨_,zg,rfl⟩:=hI.v mm4 (hd 4)
   refine sW (by simp [Region.wanted,yielded,zg]) ?_
   go_simp
   exact hK _ _ ((hI.world ((Below.refl _ _).alloc (Nat.le_refl _) _)).y mm7 (I64V.new _ [2,0] dE dE))
  ·obtain ⟨_,zg,rfl⟩:=hI.v mm4 (hd 4)
   refine sW (by simp [Region.wanted,yielded,zg]) ?_
   obtain ⟨v7,zt7,h7⟩:=hI.v mm7 (hd 7)
   go_simp
   refine (intsM _ [2,0] 2 1 _ _ [[2],[0]] _ h7 (by rfl) (by rfl) (by rfl) oM oM (by rfl)).mono ?_
   rintro e wa ⟨v,rfl,hv,hba⟩
   exact hK _ _ ((hI.world hba).y mm8 hv)
  ·obtain ⟨_,zg,rfl⟩:=hI.v mm4 (hd 4)
   refine sW (by simp [Region.wanted,yielded,zg]) ?_
   obtain ⟨_,zt6,rfl⟩:=hI.v mm6 (hd 6)
   obtain ⟨v8,zt8,h8⟩:=hI.v mm8 (hd 8)
   go_simp
   refine (sameT _ _ 2 1 [[2],[0]] _ (HS.out.below hI.bel) h8).mono ?_
   rintro e wa ⟨v,rfl,hv,hba⟩
   exact hK _ _ ((hI.world hba).y mm9 hv)
  ·obtain ⟨_,zt4,rfl⟩:=hI.v mm4 (hd 4)
   obtain ⟨_,zt9,rfl⟩:=hI.v mm9 (hd 9)
   go_simp
   exact hK _ _ (hI.y mm10 rfl)
  ·obtain ⟨_,zt10,rfl⟩:=hI.v mm10 (hd 10)
   go_simp
   exact hK _ _ (hI.y mm11 rfl)
  ·obtain ⟨_,zg,rfl⟩:=hI.v mm11 (hd 11)
   refine sW (by simp [Region.wanted,yielded,zg]) ?_
   have zt : T[1]? = some (.pointer (some ⟨wc.heap.size,0,none⟩)):=hI.keep 1 sI
   have cc0:=hI.cell c1
   have cc1:=hI.cell c2
   have cc2:=hI.cell c3
   go_simp
   exact hK _ _ (hI.y mm12 rfl)
  ·obtain ⟨_,zg,rfl⟩:=hI.v mm11 (hd 11)
   refine sW (by simp [Region.wanted,yielded,zg]) ?_
   have zt : T[2]? = some (.pointer (some ⟨w2.heap.size,0,none⟩)):=hI.keep 2 sI
   have cc0:=hI.cell q0
   have cc1:=hI.cell q1
   have cc2:=hI.cell q2
   have cc3:=hI.cell q3
   have cc4:=hI.cell q4
   have cc5:=hI.cell q5
   have cc6:=hI.cell q6
   have cc7:=hI.cell q7
   have cc8:=hI.cell q8
   have cc9:=hI.cell q9
   have cc10:=hI.cell q10
   have cc11:=hI.cell q11
   have cc12:=hI.cell q12
   have cc13:=hI.cell q13
   have cc14:=hI.cell q14
   go_simp
   exact hK _ _ (hI.y mm13 rfl)
  ·obtain ⟨_,zg,rfl⟩:=hI.v mm11 (hd 11)
   refine sW (by simp [Region.wanted,yielded,zg]) ?_
   obtain ⟨_,zt12,rfl⟩:=hI.v mm12 (hd 12)
   obtain ⟨_,zt13,rfl⟩:=hI.v mm13 (hd 13)
   go_simp
   refine (r13checkC _ _ _ (HC.out.below hI.bel) (HF.out.below hI.bel)).mono ?_
   rintro e wa ⟨v,rfl,hv,hba⟩
   exact hK _ _ ((hI.world hba).y mm14 hv)
  ·obtain ⟨_,zt11,rfl⟩:=hI.v mm11 (hd 11)
   obtain ⟨_,zt14,rfl⟩:=hI.v mm14 (hd 14)
   go_simp
   exact hK _ _ (hI.y mm15 rfl)
  ·obtain ⟨_,zt15,rfl⟩:=hI.v mm15 (hd 15)
   go_simp
   exact hK _ _ (hI.y mm16 rfl)
  ·obtain ⟨_,zg,rfl⟩:=hI.v mm16 (hd 16)
   refine sW (by simp [Region.wanted,yielded,zg]) ?_
   have zt : T[1]? = some (.pointer (some ⟨wc.heap.size,0,none⟩)):=hI.keep 1 sI
   have cc0:=hI.cell c1
   have cc1:=hI.cell c2
   have cc2:=hI.cell c3
   go_simp
   exact hK _ _ (hI.y mm17 rfl)
  ·obtain ⟨_,zg,rfl⟩:=hI.v mm16 (hd 16)
   refine sW (by simp [Region.wanted,yielded,zg]) ?_
   have zt : T[2]? = some (.pointer (some ⟨w2.heap.size,0,none⟩)):=hI.keep 2 sI
   have cc0:=hI.cell q0
   have cc1:=hI.cell q1
   have cc2:=hI.cell q2
   have cc3:=hI.cell q3
   have cc4:=hI.cell q4
   have cc5:=hI.cell q5
   have cc6:=hI.cell q6
   have cc7:=hI.cell q7
   have cc8:=hI.cell q8
   have cc9:=hI.cell q9
   have cc10:=hI.cell q10
   have cc11:=hI.cell q11
   have cc12:=hI.cell q12
   have cc13:=hI.cell q13
   have cc14:=hI.cell q14
   go_simp
   exact hK _ _ (hI.y mm18 rfl)
  ·obtain ⟨_,zg,rfl⟩:=hI.v mm16 (hd 16)
   refine sW (by simp [Region.wanted,yielded,zg]) ?_
   obtain ⟨_,zt17,rfl⟩:=hI.v mm17 (hd 17)
   obtain ⟨_,zt18,rfl⟩:=hI.v mm18 (hd 18)
   go_simp
   refine (scheckC _ _ _ (HC.out.below hI.bel) (HF.out.below hI.bel)).mono ?_
   rintro e wa ⟨v,rfl,hv,hba⟩
   exact hK _ _ ((hI.world hba).y mm19 hv)
  ·obtain ⟨_,zt16,rfl⟩:=hI.v mm16 (hd 16)
   obtain ⟨_,zt19,rfl⟩:=hI.v mm19 (hd 19)
   go_simp
   exact hK _ _ (hI.y mm20 rfl)
  ·obtain ⟨_,zt20,rfl⟩:=hI.v mm20 (hd 20)
   go_simp
   exact hK _ _ (hI.y mm21 rfl)
  ·obtain ⟨_,zg,rfl⟩:=hI.v mm21 (hd 21)
   refine sW (by simp [Region.wanted,yielded,zg]) ?_
   have zt : T[1]? = some (.pointer (some ⟨wc.heap.size,0,none⟩)):=hI.keep 1 sI
   have cc0:=hI.cell c1
   have cc1:=hI.cell c2
   have cc2:=hI.cell c3
   go_simp
   exact hK _ _ (hI.y mm22 rfl)
  ·obtain ⟨_,zg,rfl⟩:=hI.v mm21 (hd 21)
   refine sW (by simp [Region.wanted,yielded,zg]) ?_
   go_simp
   exact hK _ _ (hI.y mm23 rfl)
  ·obtain ⟨_,zg,rfl⟩:=hI.v mm21 (hd 21)
   refine sW (by simp [Region.wanted,yielded,zg]) ?_
   obtain ⟨_,zt22,rfl⟩:=hI.v mm22 (hd 22)
   obtain ⟨_,zt23,rfl⟩:=hI.v mm23 (hd 23)
   go_simp
   refine (scheckZ _ _ (HC.out.below hI.bel)).mono ?_
   rintro e wa ⟨v,rfl,hv,hba⟩
   exact hK _ _ ((hI.world hba).y mm24 hv)
  ·obtain ⟨_,zg,rfl⟩:=hI.v mm21 (hd 21)
   refine sW (by simp [Region.wanted,yielded,zg]) ?_
   obtain ⟨_,zt24,rfl⟩:=hI.v mm24 (hd 24)
   go_simp
   exact hK _ _ (hI.y mm25 rfl)
  ·obtain ⟨_,zt21,rfl⟩:=hI.v mm21 (hd 21)
   obtain ⟨_,zt25,rfl⟩:=hI.v mm25 (hd 25)
   go_simp
   exact hK _ _ (hI.y mm26 rfl)
  ·obtain ⟨_,zt26,rfl⟩:=hI.v mm26 (hd 26)
   go_simp
   exact hK _ _ (hI.y mm27 rfl)
 intro T w9 hI
 obtain ⟨va0,q0,rfl⟩:=hI.v mm0 rfl
 obtain ⟨va1,q1,rfl⟩:=hI.v mm1 rfl
 obtain ⟨va2,q2,rfl⟩:=hI.v mm2 rfl
 obtain ⟨va3,q3,rfl⟩:=hI.v mm3 rfl
 obtain ⟨va4,q4,rfl⟩:=hI.v mm4 rfl
 obtain ⟨va5,q5,rfl⟩:=hI.v mm5 rfl
 obtain ⟨va6,q6,rfl⟩:=hI.v mm6 rfl
 obtain ⟨va7,q7,ha7⟩:=hI.v mm7 rfl
 obtain ⟨va8,q8,ha8⟩:=hI.v mm8 rfl
 obtain ⟨va9,q9,rfl⟩:=hI.v mm9 rfl
 obtain ⟨va10,q10,rfl⟩:=hI.v mm10 rfl
 obtain ⟨va11,q11,rfl⟩:=hI.v mm11 rfl
 obtain ⟨va12,q12,rfl⟩:=hI.v mm12 rfl
 obtain ⟨va13,q13,rfl⟩:=hI.v mm13 rfl
 obtain ⟨va14,q14,rfl⟩:=hI.v mm14 rfl
 obtain ⟨va15,q15,rfl⟩:=hI.v mm15 rfl
 obtain ⟨va16,q16,rfl⟩:=hI.v mm16 rfl
 obtain ⟨va17,q17,rfl⟩:=hI.v mm17 rfl
 obtain ⟨va18,q18,rfl⟩:=hI.v mm18 rfl
 obtain ⟨va19,q19,rfl⟩:=hI.v mm19 rfl
 obtain ⟨va20,q20,rfl⟩:=hI.v mm20 rfl
 obtain ⟨va21,q21,rfl⟩:=hI.v mm21 rfl
 obtain ⟨va22,q22,rfl⟩:=hI.v mm22 rfl
 obtain ⟨va23,q23,rfl⟩:=hI.v mm23 rfl
 obtain ⟨va24,q24,rfl⟩:=hI.v mm24 rfl
 obtain ⟨va25,q25,rfl⟩:=hI.v mm25 rfl
 obtain ⟨va26,q26,rfl⟩:=hI.v mm26 rfl
 obtain ⟨va27,q27,rfl⟩:=hI.v mm27 rfl
 have hT:=tmps_set [(71,.bool true),(72,.bool true),(73,.bool true),(74,.bool true),(75,.bool true),(76,.pointer (some ⟨w2.heap.size,0,none⟩)),(77,.agg #[.int .i64 2,.int .i64 1,.slice s0 s1 s2]),(78,va7),(79,va8),(80,.bool true),(81,.bool true),(82,.bool true),(83,.agg #[.int .i64 2,.int .i64 1,.slice co cn ck]),(84,.agg #[.int .i64 2,.int .i64 1,.slice s0 s1 s2,.int .i64 2,.int .i64 2,.slice u0 u1 u2,.int .i64 2,.int .i64 2,.slice x0 x1 x2,.int .i64 1,.int .i64 1,.slice y0 y1 y2,.int .i64 1,.int .i64 1,.slice z0 z1 z2]),(85,.bool true),(86,.bool true),(87,.bool true),(88,.agg #[.int .i64 2,.int .i64 1,.slice co cn ck]),(89,.agg #[.int .i64 2,.int .i64 1,.slice s0 s1 s2,.int .i64 2,.int .i64 2,.slice u0 u1 u2,.int .i64 2,.int .i64 2,.slice x0 x1 x2,.int .i64 1,.int .i64 1,.slice y0 y1 y2,.int .i64 1,.int .i64 1,.slice z0 z1 z2]),(90,.bool true),(91,.bool true),(92,.bool true),(93,.agg #[.int .i64 2,.int .i64 1,.slice co cn ck]),(94,.agg #[.int .i64 0,.int .i64 0,.slice none 0 0,.int .i64 0,.int .i64 0,.slice none 0 0,.int .i64 0,.int .i64 0,.slice none 0 0,.int .i64 0,.int .i64 0,.slice none 0 0,.int .i64 0,.int .i64 0,.slice none 0 0]),(95,.bool false),(96,.bool true),(97,.bool true),(0,.bool true)]
  (fun j hj=>hI.keep j (by simp only [List.forall_mem_cons] at hj ⊢; simp [hj]))
  (by simp only [List.forall_mem_cons]; simp [q0,q1,q2,q3,q4,q5,q6,q7,q8,q9,q10,q11,q12,q13,q14,q15,q16,q17,q18,q19,q20,q21,q22,q23,q24,q25,q26,q27]) hI.size
 have hbw9:=hI.bel
 clear hI
 simp only [List.foldl_cons,List.foldl_nil,List.setIfInBounds_toArray,List.set_cons_zero,List.set_cons_succ,ptr] at hT
 subst hT
 clear q0 q1 q2 q3 q4 q5 q6 q7 q8 q9 q10 q11 q12 q13 q14 q15 q16 q17 q18 q19 q20 q21 q22 q23 q24 q25 q26 q27
 have hBF:=nx hBF hbw9
 go_wp2
 go_ret
 exact ⟨rfl,hBF⟩
theorem sumTo_sumN (f : Nat->Int) (n : Nat) : sumTo f n = sumN n f:=by
 induction n with
 | zero=>rfl
 | succ n ih=>unfold sumTo sumN; rw [ih]
theorem mulf_genM {R m C : Nat} {F G : Nat->Nat->Int} {i j : Nat} (hi : i < R) (hj : j < C) : mulf (genM R m F) (genM m C G) m i j = sumN m fun t=>F i t * G t j:=by
 unfold mulf
 rw [sumTo_sumN]
 exact sumN_congr fun t ht=>by rw [ent_genM hi ht,ent_genM ht hj]
theorem BB3_sm {z : Int} (h : z.natAbs<=BB ^ 3 * 16) : Sm z:=Nat.lt_of_le_of_lt h (Nat.lt_of_le_of_lt BB_pow (B32_pow_lt DLIM LIM (by rw [DLIM_eq,LIM_eq]; omega)))
theorem MulSm_of {R m C a b : Nat} {F G : Nat->Nat->Int} (hF : leM a R m F) (hG : leM b m C G) (hm : m<=4) (ha : a<=BB ^ 3 * 16) (hb : b<=BB ^ 3 * 16) (hab : 4 * (a * b)<=BB ^ 3 * 16) : MulSm (genM R m F) (genM m C G) R m C:=by
 intro i hi j hj k hk
 rw [ent_genM hi hk,ent_genM hk hj]
 have h1:=hF i hi k hk
 have h2:=hG k hk j hj
 have h3:=abs_mul_le h1 h2
 refine ⟨BB3_sm oM,BB3_sm oM,BB3_sm oM,BB3_sm ?_⟩
 unfold mulf
 rw [sumTo_sumN]
 have h4:=sumN_natAbs (n:=k) (f:=fun t=>ent (genM R m F) i t * ent (genM m C G) t j) (B:=a * b) fun t ht=>by
  rw [ent_genM hi oM,ent_genM oM hj]
  exact abs_mul_le (hF i hi t oM) (hG t oM j hj)
 have h5 : k * (a * b)<=4 * (a * b):=Nat.mul_le_mul_right _ oM
 omega
theorem leM_of_ok {B R C : Nat} {F : Nat->Nat->Int} (h : okF B R C F) : leM B R C F:=fun a ha b hb=>Nat.le_of_lt (h a ha b hb)
theorem bb_nums {h : Nat} (hh : h<=1048576) : BB<=BB ^ 3 * 16/\h<=BB/\4 * (BB * BB)<=BB ^ 3 * 16/\4 * (BB * h)<=BB ^ 3 * 16/\4 * (BB * BB) * 4 * BB<=BB ^ 3 * 16/\4 * (4 * (BB * h) * BB)<=BB ^ 3 * 16/\4 * (BB * h)<=BB ^ 3 * 16:=by
 have h0 : 1048576<=BB:=Nat.le_trans dE BB_97
 have h1:=BB_pos
 generalize BB = B at *
 have e3 : B ^ 3 * 16 = 16 * (B * (B * B)):=by
  rw [show (3 : Nat) = 2 + 1 from rfl,Nat.pow_succ,Nat.pow_two,Nat.mul_comm,Nat.mul_comm (B * B)]
 have q1 : B<=B * B:=Nat.le_mul_of_pos_left _ h1
 have q2 : B * B<=B * (B * B):=Nat.mul_le_mul_left _ q1
 have q3 : B * h<=B * B:=Nat.mul_le_mul_left _ oM
 have q4 : B * h * B<=B * (B * B):=by
  rw [Nat.mul_assoc]
  exact Nat.mul_le_mul_left _ (Nat.mul_le_mul_right _ oM)
 have q5 : 4 * (4 * (B * h) * B) = 16 * (B * h * B):=by rw [Nat.mul_assoc 4,<-Nat.mul_assoc 4 4]
 have q6 : 4 * (B * B) * 4 * B = 16 * (B * (B * B)):=by
  rw [Nat.mul_comm (4 * (B * B)) 4,<-Nat.mul_assoc,Nat.mul_assoc,Nat.mul_comm (B * B) B]
 rw [e3,q5,q6]
 refine ⟨by omega,by omega,by omega,by omega,by omega,by omega,by omega⟩
structure Chk (R C : Nat) (A S U V W X : List (List Int)) : Prop where
 fs : Fits R C S
 fu : Fits R R U
 fv : Fits R R V
 fw : Fits C C W
 fx : Fits C C X
 is : IsM2 R C S = true
 i1 : genM R R (mulf U V R) = genM R R idf
 i2 : genM C C (mulf W X C) = genM C C idf
 ss : ∀r ∈ S,∀z ∈ r,Smd z
 m1 : MulSm U V R R R
 m2 : MulSm W X C C C
 m3 : MulSm U A R R C
 m4 : MulSm (genM R C (mulf U A R)) W R C C
 p : genM R C (mulf (genM R C (mulf U A R)) W C) = S
theorem genM_smd {R C : Nat} {F : Nat->Nat->Int} (h : okF BB R C F) : ∀r ∈ genM R C F,∀z ∈ r,Smd z:=by
 intro r hr z hz
 unfold genM at hr
 obtain ⟨i,hi,rfl⟩:=List.mem_map.1 hr
 obtain ⟨j,hj,rfl⟩:=List.mem_map.1 hz
 exact BB_smd (h i (List.mem_range.1 hi) j (List.mem_range.1 hj))
theorem Chk.of {R C r : Nat} {M : List (List Int)} {y : W5} (hR : R<=4) (hC : C<=4) (hF : Fits R C M) (hA : leM 1048576 R C (ent M)) (hr : Rel R C (ent M) y) (hI : Inv R C r (ent M) y.s) (hok : okW BB R C R C y) :
  Chk R C M (genM R C y.s) (genM R R y.u) (genM R R (trF y.v)) (genM C C (trF y.w)) (genM C C y.x):=by
 obtain ⟨o1,o2,o3,o4,o5⟩:=hok
 obtain ⟨b1,b2,b3,b4,b5,b6,b7⟩:=bb_nums (h:=1048576) (Nat.le_refl _)
 have eM : M = genM R C (ent M):=fits_genM hF
 have eUA : genM R C (mulf (genM R R y.u) M R) = genM R C fun i t=>sumN R fun s=>y.u i s * ent M s t:=genM_congr fun i hi j hj=>by
  conv=>lhs; rw [eM]
  rw [mulf_genM hi hj]
 have hUA : leM (4 * (BB * 1048576)) R C fun i t=>sumN R fun s=>y.u i s * ent M s t:=fun i hi j hj=>by
  have h1:=sumN_natAbs (n:=R) (f:=fun s=>y.u i s * ent M s j) (B:=BB * 1048576) fun t ht=>abs_mul_le (leM_of_ok o2 i hi t ht) (hA t ht j hj)
  exact Nat.le_trans h1 (Nat.mul_le_mul_right _ hR)
 refine ⟨genM_fits _ _ _,genM_fits _ _ _,genM_fits _ _ _,genM_fits _ _ _,genM_fits _ _ _,dg_isM2 hI.dg hI.chn,genM_congr fun i hi j hj=>?_,genM_congr fun i hi j hj=>?_,genM_smd o1,?_,?_,?_,?_,?_⟩
 ·rw [mulf_genM hi hj]
  exact hr.uv i hi j hj
 ·rw [mulf_genM hi hj]
  have:=hr.xw j hj i hi
  rw [idf_comm i j,<-this]
  exact sumN_congr fun t ht=>Int.mul_comm _ _
 ·exact MulSm_of (leM_of_ok o2) (leM_tr (leM_of_ok o3)) hR b1 b1 b3
 ·exact MulSm_of (leM_tr (leM_of_ok o4)) (leM_of_ok o5) hC b1 b1 b3
 ·conv=>arg 2; rw [eM]
  exact MulSm_of (leM_of_ok o2) hA hR b1 (Nat.le_trans b2 b1) b4
 ·rw [eUA]
  exact MulSm_of hUA (leM_tr (leM_of_ok o4)) hC b7 b1 b6
 ·rw [eUA]
  refine genM_congr fun i hi j hj=>?_
  rw [mulf_genM hi hj,hr.s i hi j hj]
  simp only [<-sumN_mul,<-sumN_mulr]
  rw [sumN_swap]
  refine sumN_congr fun s hs=>sumN_congr fun t ht=>?_
  show y.u i s * ent M s t * y.w j t = y.u i s * (ent M s t * y.w j t)
  rw [Int.mul_assoc]
theorem digF_leM (R C D : Nat) (ls : List Int) : leM 9 R C (digF D ls):=fun a _ b _=>digF_le D ls a b
theorem ent_leM {n R C : Nat} {F : Nat->Nat->Int} (h : leM n R C F) : leM n R C (ent (genM R C F)):=fun a ha b hb=>by rw [ent_genM ha hb]; exact h a ha b hb
theorem madeM (v : Value) (r c : Nat) (ls : List Int) (w : World) (h : I8V w v ls) (hr : r<=255) (hc : c<=255) (R C : Nat) (hR : R = r % 5) (hC : C = c % 5) :
  Calls Tryz.prog 13 #[.agg #[.int .u8 r,.int .u8 c,v]] w fun e w'=>∃v,e = .returned v/\MatV w' v R C (genM R C (digF C ls))/\Below w.heap.size w w':=
 (rawMade_any v r c ls w h hr hc R C hR hC).mono fun e w' ⟨v,bs,h,hm,hb⟩=>⟨v,h,hm.mat.1,hb⟩
end Go.Proofs.YtnocgagoaldfnaaGreat

namespace Go.Proofs.YtnocgagoaldfnaaGreat
open Go.ChangeShapes Go.WideShapes Go.ChangeAt Go.RowKit
theorem Tryz.own : ownKnob Tryz.prog.godebug = none:=by kernel_rfl
theorem Tryz.laidOut : laidOutB Tryz.prog = true:=by kernel_rfl
theorem cells5 : Tryz.prog.cellsOf 5 = 1:=by kernel_rfl
theorem open_i8 {H : Type} {enc : TypeId × Value->H} {w : World} {f : Nat} {cs : List Value} {y : DataW H × List MemPlace} (hf : DataW.trod enc Tryz.prog w 0 (fun _=>true) true f 22 cs = some y) (hlt : ∀x ∈ y.2,x.block < w.heap.size) :
  ∃ao n cap ls,cs = [.slice ao n cap]/\I8V w (.slice ao n cap) ls:=by
 rcases open_ints Tryz.underlying22 Tryz.underlying41 kR hf with ⟨e1,-⟩ | ⟨a,len,cap,zs,e1,-,hl,hm,hzl,e2,hcell,hwf⟩
 ·exact ⟨none,0,0,[],e1,none,0,0,rfl,rfl,Nat.le_refl _,by omega,fun z hz=>(by cases hz),fun h=>absurd rfl h⟩
 ·simp only [if_true] at hzl
  unfold maxLen at hm
  refine ⟨some a,len,cap,zs.take len,e1,some a,len,cap,rfl,by simp; omega,hl,by omega,fun z hz=>?_,fun h=>?_⟩
  ·have:=hwf z (List.mem_of_mem_take hz)
   exact bounds_i8 this
  ·have hpos : 0 < zs.length:=by
    rcases Nat.eq_zero_or_pos zs.length with h0 | h0
    ·exact absurd (by rw [List.eq_nil_of_length_eq_zero h0]; simp) h
    ·exact h0
   obtain ⟨b,off,rfl,hj⟩:=ints_at hcell hpos
   refine ⟨b,off,rfl,?_,fun k z hk=>?_⟩
   ·exact hlt (.cell b off) (by rw [e2]; exact MemPlace.mem_row.2 ⟨0,hpos,rfl⟩)
   ·obtain ⟨h1,h2⟩:=List.getElem?_eq_some_iff.1 hk
    rw [List.getElem_take] at h2
    have hkz : k < zs.length:=by
     simp at h1
     omega
    rw [hj k hkz,<-h2]
    simp [hkz]
set_option maxRecDepth 100000 in
theorem open_raw {H : Type} {enc : TypeId × Value->H} {w : World} {b0 : Nat} {r : Reach} {v : Value} {d : DataW H} {ps : List MemPlace} (hval : Value.okWide Tryz.prog w r b0 24 v)
  (h : DataW.Trod enc Tryz.prog w 0 (fun _=>true) true 24 v d ps) (hlt : ∀x ∈ ps,x.block < w.heap.size) : ∃(a b : Nat) (sv : Value) (ls : List Int),v = .agg #[.int .u8 a,.int .u8 b,sv]/\a<=255/\b<=255/\I8V w sv ls:=by
 simp only [Value.okWide,Tryz.underlying24] at hval
 obtain ⟨cs,rfl,hsz,-⟩:=hval
 obtain ⟨fuel,hf⟩:=h
 obtain ⟨xs,m,h0,h1,h2,h3,h4⟩:=DataW.trod_struct Tryz.underlying24 hf
 have c24 : Tryz.prog.cellsOf 24 = 3:=by kernel_rfl
 have c22 : Tryz.prog.cellsOf 22 = 1:=by kernel_rfl
 have g0 : DataW.trod enc Tryz.prog w 0 (fun _=>true) true m 5 (List.take (Tryz.prog.cellsOf 5) (List.drop 0 (Value.agg cs).cells.toList)) = xs[0]?:=h4 0 _ rfl
 have g1 : DataW.trod enc Tryz.prog w 0 (fun _=>true) true m 5 (List.take (Tryz.prog.cellsOf 5) (List.drop 1 (Value.agg cs).cells.toList)) = xs[1]?:=h4 1 _ rfl
 have g2 : DataW.trod enc Tryz.prog w 0 (fun _=>true) true m 22 (List.take (Tryz.prog.cellsOf 22) (List.drop 2 (Value.agg cs).cells.toList)) = xs[2]?:=h4 2 _ rfl
 rw [c24] at h2
 rw [cells5] at g0 g1
 rw [c22] at g2
 simp only [Value.cells] at g0 g1 g2 h2
 obtain ⟨cl⟩:=cs
 match xs,h3 with
 | [y0,y1,y2],_=>
  match cl,h2 with
  | [k0,k1,k2],_=>
   simp at g0 g1 g2
   obtain ⟨a,ha,-,wa⟩:=DataW.trod_int Tryz.underlying5 g0
   obtain ⟨b,hb,-,wb⟩:=DataW.trod_int Tryz.underlying5 g1
   simp only [Prod.mk.injEq] at h1
   obtain ⟨ao,n,cap,ls,hk,hI⟩:=open_i8 g2 (fun x hx=>hlt x (by rw [h1.2]; simp [hx]))
   simp at ha hb hk
   subst ha
   subst hb
   subst hk
   have wa:=bounds_u8 wa
   have wb:=bounds_u8 wb
   exact ⟨a.toNat,b.toNat,_,ls,by rw [Int.toNat_of_nonneg wa.1,Int.toNat_of_nonneg wb.1],by omega,by omega,hI⟩
end Go.Proofs.YtnocgagoaldfnaaGreat

namespace Go.Proofs.YtnocgagoaldfnaaGreat
open Go.RowKit
abbrev tNn : TypeId:=3
theorem Tryz.infoNn : (Tryz.prog.info? tNn).map (fun i=>(i.zero,i.size,i.bytes)) = some (some (.int .i64 0),1,8):=by kernel_rfl
def NatsAt (w : World) (ao : Option Addr) (xs : List Nat) : Prop:=
 (∀x ∈ xs,x<=1000000)/\(xs ≠ []->∃b off cs,ao = some ⟨b,off,none⟩/\w.heap[b]? = some (.cells cs tNn (0,0))/\∀k x,xs[k]? = some x->cs[off + k]? = some (.int .i64 (x : Nat)))
theorem NatsAt.nil (w : World) (ao : Option Addr) : NatsAt w ao []:=⟨by simp,fun h=>absurd rfl h⟩
theorem NatsAt.block {w w' : World} {ao : Option Addr} {xs : List Nat} (h : NatsAt w ao xs) (e : ∀b off,ao = some ⟨b,off,none⟩->b < w.heap.size->w'.heap[b]? = w.heap[b]?) : NatsAt w' ao xs:=
 ⟨h.1,fun hn=>by
  obtain ⟨b,off,cs,h1,h2,h3⟩:=h.2 hn
  exact ⟨b,off,cs,h1,(e b off h1 (Array.getElem?_eq_some_iff.1 h2).1).trans h2,h3⟩⟩
theorem NatsAt.below {w w' : World} {ao : Option Addr} {xs : List Nat} (h : NatsAt w ao xs) (e : Below w.heap.size w w') : NatsAt w' ao xs:=h.block fun b _ _ hb=>e.block b hb
theorem NatsAt.take {w : World} {ao : Option Addr} {xs : List Nat} (h : NatsAt w ao xs) (k : Nat) : NatsAt w ao (xs.take k):=
 ⟨fun x hx=>h.1 x (List.mem_of_mem_take hx),fun hn=>by
  obtain ⟨b,off,cs,h1,h2,h3⟩:=h.2 (by rintro rfl; simp at hn)
  refine ⟨b,off,cs,h1,h2,fun j x hj=>h3 j x ?_⟩
  rw [List.getElem?_take] at hj
  split at hj
  ·exact hj
  ·cases hj⟩
theorem NatsAt.drop {w : World} {b off : Nat} {xs : List Nat} (h : NatsAt w (some ⟨b,off,none⟩) xs) (k : Nat) : NatsAt w (some ⟨b,off + k,none⟩) (xs.drop k):=
 ⟨fun x hx=>h.1 x (List.mem_of_mem_drop hx),fun hn=>by
  obtain ⟨b',off',cs,h1,h2,h3⟩:=h.2 (by rintro rfl; simp at hn)
  injection h1 with h1
  injection h1 with h1 h4
  subst h1
  subst h4
  refine ⟨_,_,cs,rfl,h2,fun j x hj=>?_⟩
  rw [List.getElem?_drop] at hj
  rw [Nat.add_assoc]
  exact h3 _ x hj⟩
def OwnN (w : World) (base : Nat) (v : Value) (xs : List Nat) : Prop:=(∀x ∈ xs,x<=1000000)/\w.ownsRow base tNn 1 v xs.length (xs.map fun n=>Value.int .i64 (n : Nat))
theorem OwnN.at_ {w : World} {base : Nat} {v : Value} {xs : List Nat} (h : OwnN w base v xs) :
  ∃ao cap,v = .slice ao xs.length cap/\xs.length<=cap/\cap<=9223372036854775807/\NatsAt w ao xs:=by
 obtain ⟨hl,h1,h2⟩:=h
 rcases h2 with ⟨rfl,h0⟩ | ⟨g,cap,cur,rfl,hg,hh,hn,hc,hs,ht⟩
 ·have : xs = []:=List.eq_nil_of_length_eq_zero h0
  subst this
  exact ⟨none,0,rfl,by simp,by omega,NatsAt.nil _ _⟩
 ·refine ⟨some ⟨g,0,none⟩,cap,rfl,hn,hc,hl,fun _=>⟨g,0,cur,rfl,hh,fun k x hk=>?_⟩⟩
  have hk' : (xs.map fun n=>Value.int .i64 (n : Nat))[k]? = some (.int .i64 (x : Nat)):=by simp [hk]
  rw [<-ht,List.getElem?_take] at hk'
  split at hk'
  ·simpa using hk'
  ·cases hk'
theorem OwnN.own {w : World} {base : Nat} {v : Value} {xs : List Nat} (h : OwnN w base v xs) : ∀g,v.ownBlock = some g->base<=g/\g < w.heap.size:=h.2.lt
theorem OwnN.empty (w : World) (base : Nat) (h : base<=w.heap.size) : OwnN (w.alloc (.cells #[] tNn)) base (.slice (some ⟨w.heap.size,0,none⟩) 0 0) []:=
 ⟨by simp,by simp,.inr ⟨w.heap.size,0,#[],rfl,h,heap_alloc_new w _,Nat.le_refl _,by simp [maxLen],rfl,rfl⟩⟩
theorem OwnN.alloc {w : World} {base : Nat} {v : Value} {xs : List Nat} (h : OwnN w base v xs) (o : Obj) : OwnN (w.alloc o) base v xs:=⟨h.1,h.2.alloc o⟩
theorem OwnN.below {w w' : World} {base : Nat} {v : Value} {xs : List Nat} (h : OwnN w base v xs) (hb : Below w.heap.size w w') : OwnN w' base v xs:=
 ⟨h.1,h.2.kept (row:=none) ⟨hb.os,hb.tape,hb.output,hb.size,fun k hk _=>hb.block k hk⟩ (by cases hv : v.ownBlock <;> simp)⟩
set_option maxRecDepth 20000 in
theorem wpN {o : Oper} {a : Act} {K : Act->World->Prop} {Q : Exit->Act->World->Prop} {w : World} (s x : Operand)
  (ho : o.op = .call { callee:=.builtin .append,args:=#[s,x],argTypes:=#[103,103] })
  (base : Nat) (v : Value) (xs : List Nat) (hs : a.eval s = v) (hown : OwnN w base v xs) (ao : Option Addr) (m c : Nat) (ys : List Nat) (hx : a.eval x = .slice ao m c) (hy : NatsAt w ao ys) (hm : ys.length = m)
  (hlen : xs.length + m<=17592186044416) (hbase : base<=w.heap.size)
  (h : ∀v' w',OwnN w' base v' (xs ++ ys)->w.grownBy w' v.ownBlock->K (a.put o.dst v') w') : Oper.wp Tryz.prog o a w K Q:=by
 obtain ⟨i0,hi,hz0,hz1,hz2⟩:=info_parts Tryz.infoNn
 have hall : ∀x ∈ xs ++ ys,x<=1000000:=fun x hx=>(List.mem_append.1 hx).elim (hown.1 x) (hy.1 x)
 by_cases hy0 : ys = []
 ·subst hy0
  simp at hm
  subst hm
  have hrun : (Builtin.append_ #[103,103] o.type #[v,.slice ao 0 c]).run Tryz.prog w = .ok v w:=by
   cases ao with
   | none=>
    rcases hown.2.2 with ⟨rfl,h0⟩ | ⟨g,cap,cur,rfl,_,_,hnc,_⟩
    ·simp [Builtin.append_,run_underlying Tryz.underlying103,sizeOf,typeInfo,hi,Builtin.lenOf,Builtin.firstCells,h0]
    ·simp [Builtin.append_,run_underlying Tryz.underlying103,sizeOf,typeInfo,hi,Builtin.lenOf,Builtin.firstCells,hnc,storeCells]
   | some ad=>
    have hf:=run_firstCells_some (P:=Tryz.prog) w i0.size 0 ad 0 c [] sI sI
    rcases hown.2.2 with ⟨rfl,h0⟩ | ⟨g,cap,cur,rfl,_,_,hnc,_⟩
    ·simp [Builtin.append_,run_underlying Tryz.underlying103,sizeOf,typeInfo,hi,Builtin.lenOf,hf,h0]
    ·simp [Builtin.append_,run_underlying Tryz.underlying103,sizeOf,typeInfo,hi,Builtin.lenOf,hf,hnc,storeCells]
  unfold Oper.wp
  simp only [execOp,ho,resolve,invoke,builtin,Sem.run_bind,Sem.run_pure,Result.andThen_ok,List.map_toArray,List.map_cons,List.map_nil,hs,hx,hrun]
  exact h v w (by simpa using hown) (World.grownBy.refl w _)
 ·obtain ⟨b,off,cs,rfl,h2,h3⟩:=hy.2 hy0
  refine wp_append_own w s x 103 ho base tNn i0 _ 1 8 Tryz.underlying103 hi hz0 hz1 hz2 rfl oM v xs.length _ hs hown.2 ⟨b,off,none⟩ m c (ys.map fun n=>Value.int .i64 (n : Nat)) hx (by simp [hm]) ?_ ?_ (by simp [maxLen]; omega) oM hbase ?_
  ·intro j u hj
   simp only [List.getElem?_map,Option.map_eq_some_iff] at hj
   obtain ⟨x',hj,rfl⟩:=hj
   rw [Addr.add_lit,cell_of_row w b (off + j) cs tNn _ h2]
   exact h3 j x' hj
  ·intro u hu
   simp only [List.mem_map] at hu
   obtain ⟨x',_,rfl⟩:=hu
   rfl
  ·intro v' w' h1 h2 _
   refine h v' w' ⟨hall,?_⟩ h2
   simpa [hm] using h1
theorem appN {w : World} {ops : Array Oper} {rest : List Oper} {o : Oper} {a : Act} {Q : Exit->Act->World->Prop} (hgd : o.guard = none) (s x : Operand)
  (ho : o.op = .call { callee:=.builtin .append,args:=#[s,x],argTypes:=#[103,103] })
  (base : Nat) (v : Value) (xs : List Nat) (hs : a.eval s = v) (hown : OwnN w base v xs) (ao : Option Addr) (m c : Nat) (ys : List Nat) (hx : a.eval x = .slice ao m c) (hy : NatsAt w ao ys) (hm : ys.length = m)
  (hlen : xs.length + m<=17592186044416) (hbase : base<=w.heap.size)
  (h : ∀v' w',OwnN w' base v' (xs ++ ys)->w.grownBy w' v.ownBlock->wpList Tryz.prog ops Q rest (a.put o.dst v') w') : wpList Tryz.prog ops Q (o :: rest) a w:=
 wpList_plain hgd fun _ hK=>wpN s x ho base v xs hs hown ao m c ys hx hy hm hlen hbase fun v' w' h1 h2=>hK _ _ (h v' w' h1 h2)
theorem range_any (n : Nat) (w : World) (hn : n<=1000000) :
  Calls Tryz.prog 111 #[.int .i64 n] w fun e w'=>∃v,e = .returned v/\OwnN w' w.heap.size v (List.range n)/\Below w.heap.size w w':=by
 go_enter Tryz.func111,Tryz.ntmps111
 go_upto_region 1 with (fail)
 go_wp2
 have ho:=OwnN.empty w w.heap.size (Nat.le_refl _)
 have hb : Below w.heap.size w (w.alloc (.cells #[] tNn)):=(Below.refl _ _).alloc (Nat.le_refl _) _
 go_loopw [3,4] (fun u iv wr=>∃i : Nat,iv = .int .i64 i/\i<=n/\OwnN wr w.heap.size u (List.range i)/\Below w.heap.size w wr) (fun _ iv _=>n - (intOf iv).toNat)
 case atStart=>exact ⟨0,rfl,by omega,ho,hb⟩
 case round=>
  clear ho hb
  obtain ⟨i,rfl,hi,ho,hb⟩:=hrel
  by_cases hlt : i < n
  ·have hys : ∀w' : World,NatsAt (w'.alloc (.cells #[.int .i64 i] tNn)) (some ⟨w'.heap.size,0,none⟩) [i]:=fun w'=>⟨by simp; omega,fun _=>⟨_,0,_,rfl,heap_alloc_new w' _,fun k x hk=>by
    match k with
    | 0=>simp at hk; subst hk; rfl
    | k + 1=>simp at hk⟩⟩
   go_wp2_with (at_builtin; refine appN rfl _ _ rfl w.heap.size u3 (List.range i) rfl (ho.alloc _) (some ⟨wr.heap.size,0,none⟩) 1 1 [i] rfl (hys wr) rfl (by simp; omega) (by have:=hb.size; simp; omega) ?_; intro v' w' hown hgr)
   have hgr : World.grownBy (wr.alloc (.cells #[.int .i64 i] tNn)) w' (Value.ownBlock u3):=hgr
   have hB9 : Below w.heap.size w w':=(hb.alloc hb.size _).grown hgr (by have:=hb.size; simp; omega) (fun g hg=>(ho.own g hg).1)
   go_roundw
   case rel=>exact ⟨i + 1,by simp,by omega,by rw [List.range_succ]; exact hown,hB9⟩
   case measure=>simp [intOf]; omega
  ·obtain rfl : i = n:=by omega
   go_wp2
   go_ret
   exact ⟨_,rfl,ho,hb⟩
theorem NatsAt.cell {w : World} {ao : Option Addr} {xs : List Nat} (h : NatsAt w ao xs) {k : Nat} (hk : k < xs.length) :
  ∃b off x,ao = some ⟨b,off,none⟩/\b < w.heap.size/\xs[k]? = some x/\w.cell? ⟨b,off + k,none⟩ = some (.int .i64 (x : Nat))/\x<=1000000:=by
 obtain ⟨b,off,cs,e1,e2,e3⟩:=h.2 (by rintro rfl; simp at hk)
 have hx:=List.getElem?_eq_getElem hk
 exact ⟨b,off,_,e1,(Array.getElem?_eq_some_iff.1 e2).1,hx,by rw [cell_of_row w b (off + k) cs tNn _ e2]; exact e3 k _ hx,h.1 _ (List.mem_of_getElem? hx)⟩
theorem inside_any (ao : Option Addr) (m cap n : Nat) (xs : List Nat) (w : World) (hm : xs.length = m) (hc : m<=1000000) (h : NatsAt w ao xs) (hlt : ∀x ∈ xs,x < n) (hn : n<=1000000) :
  Calls Tryz.prog 110 #[.slice ao m cap,.int .i64 n] w fun e w'=>e = .returned (.bool true)/\Below w.heap.size w w':=by
 have HM:=Lib.hid hm
 have HL : HidS (∀k x,xs[k]? = some x->x < n):=⟨fun k x hk=>hlt x (List.mem_of_getElem? hk)⟩
 clear hm hlt
 go_enter Tryz.func110,Tryz.ntmps110
 go_upto_region 1 with (fail)
 go_wp2
 go_loopw [5] (fun iv wr=>∃i : Nat,iv = .int .i64 i/\i<=m/\wr = w) (fun iv _=>m - (intOf iv).toNat)
 case atStart=>exact ⟨0,rfl,by omega,rfl⟩
 case round=>
  obtain ⟨i,rfl,hi,rfl⟩:=hrel
  by_cases hlt : i < m
  ·obtain ⟨b,off,x,rfl,hb,hx,hcell,hx1⟩:=h.cell (k:=i) (by rw [HM.out]; exact hlt)
   have hxn:=HL.out i x hx
   clear hx
   go_wp2
   go_roundw
   case rel=>exact ⟨i + 1,by simp,by omega,trivial⟩
   case measure=>simp [intOf]; omega
  ·go_wp2
   go_ret
   exact ⟨rfl,Below.refl _ _⟩
def pickF (M : List (List Int)) (xs ys : List Nat) : Nat->Nat->Int:=fun a b=>ent M (xs.getD a 0) (ys.getD b 0)
set_option maxHeartbeats 8000000 in
set_option maxRecDepth 20000 in
theorem pick_any (v : Value) (R C : Nat) (M : List (List Int)) (a1 a2 : Option Addr) (m k cp1 cp2 : Nat) (xs ys : List Nat) (w : World) (h : MatV w v R C M) (hF : Fits R C M) (hR : R<=1000000) (hC : C<=1000000)
  (hx : NatsAt w a1 xs) (hy : NatsAt w a2 ys) (hm : xs.length = m) (hk : ys.length = k) (hm1 : m<=1000000) (hk1 : k<=1000000) (hxR : ∀x ∈ xs,x < R) (hyC : ∀y ∈ ys,y < C) :
  Calls Tryz.prog 79 #[v,.slice a1 m cp1,.slice a2 k cp2] w fun e w'=>∃v bs,e = .returned (.tuple #[v,.int .i64 0])/\MatO w' w.heap.size v m k bs (genM m k (pickF M xs ys))/\Below w.heap.size w w':=by
 obtain ⟨A,rfl,h⟩:=h
 obtain ⟨ao,n,cap,rfl,e2,e3,e4,-⟩:=id h
 obtain rfl : R = n:=by rw [<-e2,hF.1]
 have HF:=Hk hF
 obtain ⟨f,hf⟩ : ∃f : Nat->Nat->Int,pickF M xs ys = f:=⟨_,rfl⟩
 rw [hf]
 have HFE : HidS (∀a b x y,xs[a]? = some x->ys[b]? = some y->f a b = ent M x y):=⟨fun a b x y h1 h2=>by rw [<-hf]; simp [pickF,List.getD_eq_getElem?_getD,h1,h2]⟩
 have HX:=Lib.hid e2
 have HM:=Lib.hid hm
 have HK:=Lib.hid hk
 have HXR : HidS (∀k x,xs[k]? = some x->x < R):=⟨fun k x hk=>hxR x (List.mem_of_getElem? hk)⟩
 have HYC : HidS (∀k x,ys[k]? = some x->x < C):=⟨fun k x hk=>hyC x (List.mem_of_getElem? hk)⟩
 have HI1 : HidS (∀w',Below w.heap.size w w'->Calls Tryz.prog 110 #[.slice a1 m cp1,.int .i64 R] w' fun e w2=>e = .returned (.bool true)/\Below w'.heap.size w' w2):=⟨fun w' hb=>inside_any a1 m cp1 R xs w' hm hm1 (hx.below hb) hxR hR⟩
 have HI2 : HidS (∀w',Below w.heap.size w w'->Calls Tryz.prog 110 #[.slice a2 k cp2,.int .i64 C] w' fun e w2=>e = .returned (.bool true)/\Below w'.heap.size w' w2):=⟨fun w' hb=>inside_any a2 k cp2 C ys w' hk hk1 (hy.below hb) hyC hC⟩
 clear hf hF e2 hm hk hxR hyC
 go_enter Tryz.func79,Tryz.ntmps79
 go_upto_region 1 with (fail)
 refine wp_world ?_
 intro W0 hW0
 obtain ⟨hB0,bx1,br,hs0⟩:=world2 hW0
 obtain ⟨c1,c2,c3,c4,c5,c6⟩:=bx1.three
 go_wp2_with fail
 refine (HI1.out W0 hB0).mono ?_
 rintro e w1 ⟨rfl,hb1⟩
 have hB:=nx hB0 hb1
 have bx1:=bx1.below hb1
 have br:=br.below hb1
 have q1:=hb1.size
 clear c1 c2 c3 c4 c5 c6
 obtain ⟨c1,c2,c3,c4,c5,c6⟩:=bx1.three
 go_wp2_with fail
 refine (HI2.out w1 hB).mono ?_
 rintro e w2 ⟨rfl,hb2⟩
 have hB:=nx hB hb2
 have bx1:=bx1.below hb2
 have br:=br.below hb2
 have q2:=hb2.size
 clear c1 c2 c3 c4 c5 c6
 go_wp2_with fail
 refine (r5new_any m k w2 oM oM).mono ?_
 rintro e w4 ⟨u,bs,rfl,⟨hbl,A2,rfl,ho⟩,hb4⟩
 obtain ⟨oo,on,oc,rfl,-,-,-,-⟩:=id ho.rows
 have hlts:=ho.lts
 go_upto_region 4 with (fail)
 refine wp_world ?_
 intro W3 hW3
 obtain ⟨hB3,T8,hs3⟩:=world1 hW3
 have br:=(br.below hb4).below hB3
 have bx1:=(bx1.below hb4).below hB3
 have ho:=ho.below hB3
 rw [upTo_start m k f] at ho
 have hBt:=nx (nx hB hb4) hB3
 have q4:=hb4.size
 clear hW3 hW0 HI1 HI2
 go_wp2
 go_loopw [9] (fun iv wr=>∃i : Nat,i<=m/\iv = .int .i64 i/\Below w.heap.size w wr/\Blk wr w.heap.size 28 #[.int .i64 R,.int .i64 C,.slice ao R cap]/\Blk wr (w.heap.size + 1) 28 #[.int .i64 0,.int .i64 0,.slice none 0 0]/\Blk wr w4.heap.size 28 #[.int .i64 m,.int .i64 k,.slice oo on oc]/\RowsO wr w2.heap.size (.slice oo on oc) k bs (genM m k (upTo f i 0))) (fun iv _=>m - (intOf iv).toNat)
 case atStart=>exact ⟨0,by omega,rfl,hBt,bx1,br,T8,ho⟩
 case round=>
  clear bx1 br T8 ho hBt
  obtain ⟨i,hi,rfl,hb,bx1,br,T8,ho⟩:=hrel
  by_cases hlt : i < m
  ·go_wp2
   go_loopw [10] (fun jv wr=>∃j : Nat,j<=k/\jv = .int .i64 j/\Below w.heap.size w wr/\Blk wr w.heap.size 28 #[.int .i64 R,.int .i64 C,.slice ao R cap]/\Blk wr (w.heap.size + 1) 28 #[.int .i64 0,.int .i64 0,.slice none 0 0]/\Blk wr w4.heap.size 28 #[.int .i64 m,.int .i64 k,.slice oo on oc]/\RowsO wr w2.heap.size (.slice oo on oc) k bs (genM m k (upTo f i j))) (fun jv _=>k - (intOf jv).toNat)
   case atStart=>exact ⟨0,by omega,rfl,hb,bx1,br,T8,ho⟩
   case round=>
    clear bx1 br T8 ho hb
    obtain ⟨j,hj,rfl,hb,bx1,br,T8,ho⟩:=hrel
    by_cases hjc : j < k
    ·obtain ⟨xb,xo,x,rfl,hxb,hxi,cx,hx1⟩:=hx.cell (k:=i) (by rw [HM.out]; exact hlt)
     obtain ⟨yb,yo,y,rfl,hyb,hyj,cy,hy1⟩:=hy.cell (k:=j) (by rw [HK.out]; exact hjc)
     have cx:=(hb.cell (p:=⟨xb,xo + i,none⟩) hxb).trans cx
     have cy:=(hb.cell (p:=⟨yb,yo + j,none⟩) hyb).trans cy
     have hxr:=HXR.out i x hxi
     have hyc:=HYC.out j y hyj
     obtain ⟨c1,c2,c3,c4,c5,c6⟩:=bx1.three
     obtain ⟨b,ra,rn,rc,zs,rfl,hbl1,hz,p1,hv⟩:=(h.below hb).row (k:=x) (by rw [HX.out]; exact hxr)
     have hzl:=HF.out.2 zs (List.mem_of_getElem? hz)
     have hvl:=hv.len
     obtain rfl : rn = C:=by omega
     obtain ⟨b',z,s,a,l,c,rfl,hbl',hzk,q1,q2',hzv⟩:=hv.cell (k:=y) oM
     have hent:=Lib.hid ((HFE.out i j x y hxi hyj).trans (ent_of hz hzk))
     clear hz hzk hzl hxi hyj
     obtain ⟨g,bo,rfl,hg,hbo,hbo2,o1,ho3⟩:=ho.at_ (i:=i) oM
     obtain ⟨f1,f2,f3,f4,f5,f6⟩:=T8.three
     have hio : i < on:=by omega
     have HO3:=Lib.hid ho3
     clear ho3
     have lt1:=bx1.lt
     have lt8:=T8.lt
     go_upto_region 10 with (fail)
     refine wp_region_headed 21 rfl (RI wr (wr.heap.size) _ 45
       [⟨0,41,fun _ v=>v = .pointer (some ⟨w4.heap.size,2,none⟩)⟩,⟨1,42,fun _ v=>v = .slice (some ⟨g,0,none⟩) on oc⟩,⟨2,43,fun _ v=>v = .int .i64 i⟩,⟨3,44,fun _ v=>v = .pointer (some ⟨g,i,none⟩)⟩,⟨4,45,fun _ v=>v = .slice (some ⟨bo,0,none⟩) k k⟩,⟨5,46,fun _ v=>v = .int .i64 j⟩,⟨6,47,fun _ v=>v = .pointer (some ⟨w.heap.size,2,none⟩)⟩,⟨7,48,fun _ v=>v = .slice (some ⟨b,0,none⟩) R cap⟩,⟨8,49,fun _ v=>v = .slice (some ⟨xb,xo,none⟩) m cp1⟩,⟨9,50,fun _ v=>v = .int .i64 i⟩,⟨10,51,fun _ v=>v = .pointer (some ⟨xb,xo + i,none⟩)⟩,⟨11,52,fun _ v=>v = .int .i64 x⟩,⟨12,53,fun _ v=>v = .pointer (some ⟨b,x,none⟩)⟩,⟨13,54,fun _ v=>v = .slice (some ⟨b',0,none⟩) rn rc⟩,⟨14,55,fun _ v=>v = .slice (some ⟨yb,yo,none⟩) k cp2⟩,⟨15,56,fun _ v=>v = .int .i64 j⟩,⟨16,57,fun _ v=>v = .pointer (some ⟨yb,yo + j,none⟩)⟩,⟨17,58,fun _ v=>v = .int .i64 y⟩,⟨18,59,fun _ v=>v = .pointer (some ⟨b',y * 2,none⟩)⟩,⟨19,60,fun _ v=>v = .agg #[.bool s,.slice a l c]⟩,⟨20,61,fun _ v=>v = .pointer (some ⟨bo,j * 2,none⟩)⟩]
       [] []) kR RI.start ?fin1 ?steps1
     case steps1=>
      refine ⟨?_,?_,?_,?_,?_,?_,?_,?_,?_,?_,?_,?_,?_,?_,?_,?_,?_,?_,?_,?_,?_,trivial⟩ <;> (intro L T wS hL hd hcl hI K hK; try refine sW rfl ?_)
      ·have zt : T[8]? = some (.pointer (some ⟨w4.heap.size,0,none⟩)):=hI.keep 8 sI sI
       go_simp
       exact hK _ _ (hI.y mm0 rfl)
      ·obtain ⟨v0,zt0,rfl⟩:=hI.v mm0 (hd 0)
       have cc0:=hI.cell f3 oM nom
       go_simp
       exact hK _ _ (hI.y mm1 rfl)
      ·have zt : T[9]? = some (.int .i64 i):=hI.keep 9 sI sI
       go_simp
       exact hK _ _ (hI.y mm2 rfl)
      ·obtain ⟨v1,zt1,rfl⟩:=hI.v mm1 (hd 1)
       obtain ⟨v2,zt2,rfl⟩:=hI.v mm2 (hd 2)
       go_simp
       exact hK _ _ (hI.y mm3 rfl)
      ·obtain ⟨v3,zt3,rfl⟩:=hI.v mm3 (hd 3)
       have cc0:=hI.cell o1 oM nom
       go_simp
       exact hK _ _ (hI.y mm4 rfl)
      ·have zt : T[10]? = some (.int .i64 j):=hI.keep 10 sI sI
       go_simp
       exact hK _ _ (hI.y mm5 rfl)
      ·have zt : T[3]? = some (.pointer (some ⟨w.heap.size,0,none⟩)):=hI.keep 3 sI sI
       go_simp
       exact hK _ _ (hI.y mm6 rfl)
      ·obtain ⟨v6,zt6,rfl⟩:=hI.v mm6 (hd 6)
       have cc0:=hI.cell c3 oM nom
       go_simp
       exact hK _ _ (hI.y mm7 rfl)
      ·have zt : T[1]? = some (.slice (some ⟨xb,xo,none⟩) m cp1):=hI.keep 1 sI sI
       go_simp
       exact hK _ _ (hI.y mm8 rfl)
      ·have zt : T[9]? = some (.int .i64 i):=hI.keep 9 sI sI
       go_simp
       exact hK _ _ (hI.y mm9 rfl)
      ·obtain ⟨v8,zt8,rfl⟩:=hI.v mm8 (hd 8)
       obtain ⟨v9,zt9,rfl⟩:=hI.v mm9 (hd 9)
       go_simp
       exact hK _ _ (hI.y mm10 rfl)
      ·obtain ⟨v10,zt10,rfl⟩:=hI.v mm10 (hd 10)
       have cc0:=hI.cell cx oM nom
       go_simp
       exact hK _ _ (hI.y mm11 rfl)
      ·obtain ⟨v7,zt7,rfl⟩:=hI.v mm7 (hd 7)
       obtain ⟨v11,zt11,rfl⟩:=hI.v mm11 (hd 11)
       go_simp
       exact hK _ _ (hI.y mm12 rfl)
      ·obtain ⟨v12,zt12,rfl⟩:=hI.v mm12 (hd 12)
       have cc0:=hI.cell p1 oM nom
       go_simp
       exact hK _ _ (hI.y mm13 rfl)
      ·have zt : T[2]? = some (.slice (some ⟨yb,yo,none⟩) k cp2):=hI.keep 2 sI sI
       go_simp
       exact hK _ _ (hI.y mm14 rfl)
      ·have zt : T[10]? = some (.int .i64 j):=hI.keep 10 sI sI
       go_simp
       exact hK _ _ (hI.y mm15 rfl)
      ·obtain ⟨v14,zt14,rfl⟩:=hI.v mm14 (hd 14)
       obtain ⟨v15,zt15,rfl⟩:=hI.v mm15 (hd 15)
       go_simp
       exact hK _ _ (hI.y mm16 rfl)
      ·obtain ⟨v16,zt16,rfl⟩:=hI.v mm16 (hd 16)
       have cc0:=hI.cell cy oM nom
       go_simp
       exact hK _ _ (hI.y mm17 rfl)
      ·obtain ⟨v13,zt13,rfl⟩:=hI.v mm13 (hd 13)
       obtain ⟨v17,zt17,rfl⟩:=hI.v mm17 (hd 17)
       go_simp
       exact hK _ _ (hI.y mm18 rfl)
      ·obtain ⟨v18,zt18,rfl⟩:=hI.v mm18 (hd 18)
       have cc0:=hI.cell q1 oM nom
       have cc1:=hI.cell q2' oM nom
       go_simp
       exact hK _ _ (hI.y mm19 rfl)
      ·obtain ⟨v4,zt4,rfl⟩:=hI.v mm4 (hd 4)
       obtain ⟨v5,zt5,rfl⟩:=hI.v mm5 (hd 5)
       go_simp
       exact hK _ _ (hI.y mm20 rfl)
     intro T w9 hI
     obtain ⟨va0,q0,rfl⟩:=hI.v mm0 rfl
     obtain ⟨va1,q1,rfl⟩:=hI.v mm1 rfl
     obtain ⟨va2,q2,rfl⟩:=hI.v mm2 rfl
     obtain ⟨va3,q3,rfl⟩:=hI.v mm3 rfl
     obtain ⟨va4,q4,rfl⟩:=hI.v mm4 rfl
     obtain ⟨va5,q5,rfl⟩:=hI.v mm5 rfl
     obtain ⟨va6,q6,rfl⟩:=hI.v mm6 rfl
     obtain ⟨va7,q7,rfl⟩:=hI.v mm7 rfl
     obtain ⟨va8,q8,rfl⟩:=hI.v mm8 rfl
     obtain ⟨va9,q9,rfl⟩:=hI.v mm9 rfl
     obtain ⟨va10,q10,rfl⟩:=hI.v mm10 rfl
     obtain ⟨va11,q11,rfl⟩:=hI.v mm11 rfl
     obtain ⟨va12,q12,rfl⟩:=hI.v mm12 rfl
     obtain ⟨va13,q13,rfl⟩:=hI.v mm13 rfl
     obtain ⟨va14,q14,rfl⟩:=hI.v mm14 rfl
     obtain ⟨va15,q15,rfl⟩:=hI.v mm15 rfl
     obtain ⟨va16,q16,rfl⟩:=hI.v mm16 rfl
     obtain ⟨va17,q17,rfl⟩:=hI.v mm17 rfl
     obtain ⟨va18,q18,rfl⟩:=hI.v mm18 rfl
     obtain ⟨va19,q19,rfl⟩:=hI.v mm19 rfl
     obtain ⟨va20,q20,rfl⟩:=hI.v mm20 rfl
     have hT:=tmps_set [(41,.pointer (some ⟨w4.heap.size,2,none⟩)),(42,.slice (some ⟨g,0,none⟩) on oc),(43,.int .i64 i),(44,.pointer (some ⟨g,i,none⟩)),(45,.slice (some ⟨bo,0,none⟩) k k),(46,.int .i64 j),(47,.pointer (some ⟨w.heap.size,2,none⟩)),(48,.slice (some ⟨b,0,none⟩) R cap),(49,.slice (some ⟨xb,xo,none⟩) m cp1),(50,.int .i64 i),(51,.pointer (some ⟨xb,xo + i,none⟩)),(52,.int .i64 x),(53,.pointer (some ⟨b,x,none⟩)),(54,.slice (some ⟨b',0,none⟩) rn rc),(55,.slice (some ⟨yb,yo,none⟩) k cp2),(56,.int .i64 j),(57,.pointer (some ⟨yb,yo + j,none⟩)),(58,.int .i64 y),(59,.pointer (some ⟨b',y * 2,none⟩)),(60,.agg #[.bool s,.slice a l c]),(61,.pointer (some ⟨bo,j * 2,none⟩))]
      (fun j hj=>hI.keep j (by simp only [List.forall_mem_cons] at hj ⊢; simp [hj]) (by simp only [List.forall_mem_cons] at hj ⊢; simp [hj]))
      (by simp only [List.forall_mem_cons]; simp [q0,q1,q2,q3,q4,q5,q6,q7,q8,q9,q10,q11,q12,q13,q14,q15,q16,q17,q18,q19,q20]) hI.size
     have hlw9:=hI.lext
     have hbw9:=hI.bel (wr.heap.size) oM nom
     have holdw9:=hI.old
     clear hI
     simp only [List.foldl_cons,List.foldl_nil,List.setIfInBounds_toArray,List.set_cons_zero,List.set_cons_succ,ptr] at hT
     subst hT
     clear q0 q1 q2 q3 q4 q5 q6 q7 q8 q9 q10 q11 q12 q13 q14 q15 q16 q17 q18 q19 q20
     simp only [List.drop_succ_cons,List.drop_zero]
     have ho9:=ho.below hbw9
     obtain ⟨sn,sa,sl,sc,z1,z2,z3,z4,-⟩:=ho9.cellAt hbo hjc
     have hbolt:=hlts i bo hbo
     have hset:=ho9.set hbo hjc (hzv.ext hlw9)
     go_wp2
     go_roundw
     case rel=>
      rw [<-hent.out,upTo_step hlt hjc] at hset
      exact ⟨j + 1,by omega,by simp,bset (bset (nx hb hbw9) oM _ _) oM _ _,(set2_old _ _ _ _ _ _ _ oM).trans (bx1.below hbw9),(set2_old _ _ _ _ _ _ _ oM).trans (br.below hbw9),(set2_old _ _ _ _ _ _ _ oM).trans (T8.below hbw9),hset.1⟩
     case measure=>simp [intOf]; omega
    ·obtain rfl : j = k:=by omega
     rw [upTo_row] at ho
     go_wp2
     go_roundw
     case rel=>exact ⟨i + 1,by omega,by simp,hb,bx1,br,T8,ho⟩
     case measure=>simp [intOf]; omega
  ·obtain rfl : i = m:=by omega
   rw [upTo_end] at ho
   obtain ⟨f1,f2,f3,f4,f5,f6⟩:=T8.three
   obtain ⟨r1,r2,r3,r4,r5,r6⟩:=br.three
   have q1:=hB0.size
   go_wp2
   refine bodyPost_ret (results_mt rfl _ rfl (br.put3 _ _ _) rfl) rfl ⟨_,bs,rfl,⟨hbl,_,rfl,?_⟩,bset (bset (bset hb oM 0 _) oM 1 _) oM 2 _⟩
   exact (ho.keep (fun k hk=>set3_old _ _ k _ _ _ oM) (br.lext3 dE _ _ _)).mono oM
def skipL (n k : Nat) : List Nat:=(List.range n).take k ++ (List.range n).drop (k + 1)
theorem skipL_len {n k : Nat} (hk : k < n + 1) : (skipL (n + 1) k).length = n:=by
 unfold skipL
 rw [List.length_append,List.length_take,List.length_drop,List.length_range]
 omega
theorem skipL_lt {n k : Nat} : ∀x ∈ skipL n k,x < n:=fun x hx=>by
 rcases List.mem_append.1 hx with h | h
 ·exact List.mem_range.1 (List.mem_of_mem_take h)
 ·exact List.mem_range.1 (List.mem_of_mem_drop h)
theorem skipL_at {n k b : Nat} (hk : k < n + 1) (hb : b < n) : (skipL (n + 1) k)[b]? = some (sk k b):=by
 unfold skipL sk
 have hl : ((List.range (n + 1)).take k).length = k:=by rw [List.length_take,List.length_range]; omega
 by_cases h : b < k
 ·rw [if_pos h,List.getElem?_append_left oM,List.getElem?_take,if_pos h,List.getElem?_range oM]
 ·rw [if_neg h,List.getElem?_append_right oM,hl,List.getElem?_drop,List.getElem?_range oM]
  congr 1
  omega
theorem dropL_at {n a : Nat} (ha : a < n) : ((List.range (n + 1)).drop 1)[a]? = some (sk 0 a):=by
 rw [List.getElem?_drop,List.getElem?_range oM,sk_zero]
 congr 1
 omega
theorem pick_minor {M : List (List Int)} {n k a b : Nat} (hk : k < n + 1) (ha : a < n) (hb : b < n) :
  pickF M ((List.range (n + 1)).drop 1) (skipL (n + 1) k) a b = mnr (ent M) 0 k a b:=by
 unfold pickF mnr
 rw [List.getD_eq_getElem?_getD,List.getD_eq_getElem?_getD,dropL_at ha,skipL_at hk hb]
 rfl
theorem det_pick {M : List (List Int)} {n k : Nat} (hk : k < n + 1) :
  det n (ent (genM n n (pickF M ((List.range (n + 1)).drop 1) (skipL (n + 1) k)))) = det n (mnr (ent M) 0 k):=
 det_congr fun a ha b hb=>by rw [ent_genM ha hb,pick_minor hk ha hb]
theorem pick_leM {h R C m k : Nat} {M : List (List Int)} {xs ys : List Nat} (hA : leM h R C (ent M)) (hx : ∀x ∈ xs,x < R) (hy : ∀x ∈ ys,x < C) (hm : xs.length = m) (hk : ys.length = k) : leM h m k (ent (genM m k (pickF M xs ys))):=fun a ha b hb=>by
 rw [ent_genM ha hb]
 unfold pickF
 have h1 : xs[a]? = some (xs[a]'oM):=List.getElem?_eq_getElem _
 have h2 : ys[b]? = some (ys[b]'oM):=List.getElem?_eq_getElem _
 rw [List.getD_eq_getElem?_getD,List.getD_eq_getElem?_getD,h1,h2]
 exact hA _ (hx _ (List.getElem_mem _)) _ (hy _ (List.getElem_mem _))
def lap (n : Nat) (M : List (List Int)) (j : Nat) : Int:=sumN j fun t=>sg1 t * (ent M 0 t * det n (mnr (ent M) 0 t))
theorem lap_even {n j : Nat} {M : List (List Int)} (h : j % 2 = 0) : lap n M j + ent M 0 j * det n (mnr (ent M) 0 j) = lap n M (j + 1):=by
 show _ = lap n M j + sg1 j * _
 unfold sg1
 rw [if_pos h,Int.one_mul]
theorem lap_odd {n j : Nat} {M : List (List Int)} (h : j % 2 = 1) : lap n M j + - (ent M 0 j * det n (mnr (ent M) 0 j)) = lap n M (j + 1):=by
 show _ = lap n M j + sg1 j * _
 unfold sg1
 rw [if_neg oM,Int.neg_mul,Int.one_mul]
theorem det_small {k : Nat} {F : Nat->Nat->Int} (hk : k<=3) (h : leM 1048576 k k F) : (det k F).natAbs<=6 * 1048576 ^ 3:=by
 refine Nat.le_trans (det_natAbs h) ?_
 match k,hk with
 | 0,_=>decide
 | 1,_=>decide
 | 2,_=>decide
 | 3,_=>decide
theorem leM_mnr {h n k : Nat} {F : Nat->Nat->Int} (hF : leM h (n + 1) (n + 1) F) : leM h n n (mnr F 0 k):=fun a ha b hb=>hF _ (sk_lt ha) _ (sk_lt hb)
theorem term_small {n k : Nat} {M : List (List Int)} (hn : n<=3) (hk : k < n + 1) (h : leM 1048576 (n + 1) (n + 1) (ent M)) : (ent M 0 k * det n (mnr (ent M) 0 k)).natAbs<=6 * 1048576 ^ 4:=by
 rw [Int.natAbs_mul]
 have:=Nat.mul_le_mul (h 0 oM k hk) (det_small hn (leM_mnr (k:=k) h))
 exact Nat.le_trans this dE
theorem lap_small {n j : Nat} {M : List (List Int)} (hn : n<=3) (hj : j<=n + 1) (h : leM 1048576 (n + 1) (n + 1) (ent M)) : (lap n M j).natAbs<=24 * 1048576 ^ 4:=by
 have:=sumN_natAbs (n:=j) (f:=fun t=>sg1 t * (ent M 0 t * det n (mnr (ent M) 0 t))) (B:=6 * 1048576 ^ 4) fun i hi=>by
  rw [sg1_abs]
  exact term_small hn oM h
 refine Nat.le_trans this (Nat.le_trans (Nat.mul_le_mul_right _ (Nat.le_trans hj (Nat.succ_le_succ hn))) dE)
theorem small24_smd {z : Int} (h : z.natAbs<=24 * 1048576 ^ 4) : Smd z:=⟨Nat.lt_of_le_of_lt h (Nat.lt_of_lt_of_le (show 24 * 1048576 ^ 4 < B32 ^ 4 by decide) (pow_mono (by rw [DLIM_eq]; omega)))⟩
structure RA (S : List Nat) (k : Nat) (W : World) (T0 : Array Value) (vs : List VS) (L : Array Bool) (T : Array Value) (w : World) : Prop where
 wf : wellRV T0.size vs = true
 lv : ∀s ∈ vs,LastsB s.P
 size : T.size = T0.size
 keep : ∀j,(∀s ∈ vs,s.slot ≠ j)->T[j]? = T0[j]?
 onl : Only S W w
 bef : L[k]? = some false->Below W.heap.size W w
 val : ∀s ∈ vs,L[s.op]? = some true->∃v,T[s.slot]? = some v/\s.P w v
section
variable {S : List Nat} {p : Nat} {W : World} {T0 : Array Value} {vs : List VS} {L : Array Bool} {T : Array Value} {w w' : World}
theorem RA.start (hwf : wellRV T0.size vs = true) (hv : ∀s ∈ vs,LastsB s.P) {n : Nat} : RA S p W T0 vs (Array.replicate n false) T0 W.drew:=
 ⟨hwf,hv,rfl,fun _ _=>rfl,Only.of S (dr _),fun _=>dr _,fun s _ h=>by
  rw [Array.getElem?_replicate] at h
  split at h <;> simp at h⟩
theorem RA.world (h : RA S p W T0 vs L T w) (hb : Below w.heap.size w w') : RA S p W T0 vs L T w':=
 ⟨h.wf,h.lv,h.size,h.keep,h.onl.trans (Only.of S hb),fun hp=>nx (h.bef hp) hb,fun s hs hl=>by
  obtain ⟨v,h1,h2⟩:=h.val s hs hl
  exact ⟨v,h1,h.lv s hs _ _ _ hb h2⟩⟩
theorem RA.value {k : Nat} {v : Value} (h : RA S p W T0 vs L T w) (s : VS) (hs : s ∈ vs) (hk : s.op = k) (hP : s.P w v) : RA S p W T0 vs (L.setIfInBounds k true) (T.setIfInBounds s.slot v) w:=by
 subst hk
 have hwf:=h.wf
 unfold wellRV at hwf
 simp only [Bool.and_eq_true,decide_eq_true_eq,List.all_eq_true] at hwf
 obtain ⟨⟨w1,w2⟩,w3⟩:=hwf
 have hslot : s.slot < T0.size:=w3 _ (List.mem_map.2 ⟨s,hs,rfl⟩)
 refine ⟨h.wf,h.lv,by simp [h.size],fun j h1=>by rw [Array.getElem?_setIfInBounds_ne (h1 s hs)]; exact h.keep j h1,h.onl,fun hp=>h.bef ?_,?_⟩
 ·by_cases he : s.op = p
  ·subst he
   rw [Array.getElem?_setIfInBounds] at hp
   split at hp
   ·split at hp <;> cases hp
   ·exact hp
  ·rwa [Array.getElem?_setIfInBounds_ne he] at hp
 intro t ht hl
 by_cases he : t = s
 ·subst he
  exact ⟨v,by rw [Array.getElem?_setIfInBounds_self_of_lt (by rw [h.size]; exact hslot)],hP⟩
 ·have n1 : t.op ≠ s.op:=fun e=>he (inj_of_nodup w2 ht hs e)
  have n2 : t.slot ≠ s.slot:=fun e=>he (inj_of_nodup w1 ht hs e)
  obtain ⟨u,h1,h2⟩:=h.val t ht (set_true hl (Ne.symm n1))
  exact ⟨u,by rw [Array.getElem?_setIfInBounds_ne (Ne.symm n2)]; exact h1,h2⟩
theorem RA.turn {v : Value} (h : RA S p W T0 vs L T w) (s : VS) (hs : s ∈ vs) (hk : s.op = p) (hL : p < L.size) (ho : Only S w w') (hq : ∀t ∈ vs,t ≠ s->L[t.op]? = some true->∀v,t.P w v->t.P w' v) (hP : s.P w' v) : RA S p W T0 vs (L.setIfInBounds p true) (T.setIfInBounds s.slot v) w':=by
 subst hk
 have hwf:=h.wf
 unfold wellRV at hwf
 simp only [Bool.and_eq_true,decide_eq_true_eq,List.all_eq_true] at hwf
 obtain ⟨⟨w1,w2⟩,w3⟩:=hwf
 have hslot : s.slot < T0.size:=w3 _ (List.mem_map.2 ⟨s,hs,rfl⟩)
 refine ⟨h.wf,h.lv,by simp [h.size],fun j h1=>by rw [Array.getElem?_setIfInBounds_ne (h1 s hs)]; exact h.keep j h1,h.onl.trans ho,fun hp=>?_,?_⟩
 ·rw [Array.getElem?_setIfInBounds_self_of_lt hL] at hp
  cases hp
 intro t ht hl
 by_cases he : t = s
 ·subst he
  exact ⟨v,by rw [Array.getElem?_setIfInBounds_self_of_lt (by rw [h.size]; exact hslot)],hP⟩
 ·have n1 : t.op ≠ s.op:=fun e=>he (inj_of_nodup w2 ht hs e)
  have n2 : t.slot ≠ s.slot:=fun e=>he (inj_of_nodup w1 ht hs e)
  have hl':=set_true hl (Ne.symm n1)
  obtain ⟨u,h1,h2⟩:=h.val t ht hl'
  exact ⟨u,by rw [Array.getElem?_setIfInBounds_ne (Ne.symm n2)]; exact h1,hq t ht he hl' u h2⟩
theorem RA.v {s : VS} (h : RA S p W T0 vs L T w) (hs : s ∈ vs) (hl : L[s.op]? = some true) : ∃v,T[s.slot]? = some v/\s.P w v:=h.val s hs hl
theorem RA.y {k : Nat} {v : Value} (h : RA S p W T0 vs L T w) {s : VS} (hs : s ∈ vs) (hP : s.P w v) (hk : s.op = k:=by rfl) : RA S p W T0 vs (L.setIfInBounds k true) (T.setIfInBounds s.slot v) w:=h.value s hs hk hP
theorem RA.cell {b o : Nat} {v : Value} (h : RA S p W T0 vs L T w) (hb : b ∉ S) (hlt : b < W.heap.size) (hc : W.cell? ⟨b,o,none⟩ = some v) : w.cell? ⟨b,o,none⟩ = some v:=by
 have:=h.onl.old b hlt hb
 unfold World.cell? at hc ⊢
 rw [this]
 exact hc
end
def RAS (S : List Nat) (p : Nat) (W : World) (T0 : Array Value) (vs : List VS) (q : Nat) (st : Array Value->World->World) (L : Array Bool) (T : Array Value) (w : World) : Prop:=
 ∃w0,RA S p W T0 vs L T w0/\(L[q]? ≠ some true->w = w0)/\(L[q]? = some true->w = st T w0)
section
variable {S : List Nat} {p : Nat} {W : World} {T0 : Array Value} {vs : List VS} {L : Array Bool} {T : Array Value} {w w' : World} {q : Nat} {st : Array Value->World->World}
theorem RAS.start {n : Nat} (h : RA S p W T0 vs (Array.replicate n false) T0 W.drew) : RAS S p W T0 vs q st (Array.replicate n false) T0 W.drew:=
 ⟨_,h,fun _=>rfl,fun hh=>by
  rw [Array.getElem?_replicate] at hh
  split at hh <;> simp at hh⟩
theorem RA.mark (h : RA S p W T0 vs L T w) (hq : ∀s ∈ vs,s.op ≠ q) (hp : q ≠ p) : RA S p W T0 vs (L.setIfInBounds q true) T w:=
 ⟨h.wf,h.lv,h.size,h.keep,h.onl,fun hh=>h.bef (by rwa [Array.getElem?_setIfInBounds_ne hp] at hh),fun s hs hl=>h.val s hs (set_true hl (Ne.symm (hq s hs)))⟩
theorem StepAt.liftA {P : Program} {ops : Array Oper} {Q : Exit->Act->World->Prop} {ds : List Deferred} {i : Nat} {o : Oper} (hq : reach ops 5 q i = true) (hne : i ≠ q)
  (h : StepAt P ops Q ds (RA S p W T0 vs) i o) : StepAt P ops Q ds (RAS S p W T0 vs q st) i o:=by
 intro L T w hL hd hcl hI K hK
 obtain ⟨w0,h0,h1,h2⟩:=hI
 have hLq : L[q]? ≠ some true:=fun hh=>by
  have:=reach_spec hcl hq hh
  rw [hL] at this
  cases this
 obtain rfl:=h1 hLq
 exact h L T w hL @hd hcl h0 K (fun T' w' h'=>hK T' w' ⟨w',h',fun _=>rfl,fun hh=>absurd (set_true hh hne) hLq⟩)
theorem RAS.pure {k : Nat} {v : Value} (h : RAS S p W T0 vs q st L T w) (s : VS) (hs : s ∈ vs) (hk : s.op = k) (hP : ∀w,s.P w v) (hne : k ≠ q) (hst : ∀w,st (T.setIfInBounds s.slot v) w = st T w) : RAS S p W T0 vs q st (L.setIfInBounds k true) (T.setIfInBounds s.slot v) w:=by
 obtain ⟨w0,h0,h1,h2⟩:=h
 exact ⟨w0,h0.value s hs hk (hP w0),fun hn=>h1 fun hh=>hn (listed_mono hh),fun hh=>(h2 (set_true hh hne)).trans (hst w0).symm⟩
theorem RAS.store (h : RA S p W T0 vs L T w) (hL : L[q]? = some false) (hq : ∀s ∈ vs,s.op ≠ q) (hp : q ≠ p) (hw : w' = st T w) : RAS S p W T0 vs q st (L.setIfInBounds q true) T w':=
 ⟨w,h.mark hq hp,fun hn=>absurd (Array.getElem?_setIfInBounds_self_of_lt (Array.getElem?_eq_some_iff.1 hL).1) hn,fun _=>hw⟩
theorem RAS.here (h : RAS S p W T0 vs q st L T w) (hL : L[q]? = some false) : RA S p W T0 vs L T w:=by
 obtain ⟨w0,h0,h1,-⟩:=h
 obtain rfl:=h1 (by rw [hL]; simp)
 exact h0
end
def put3 (a b : Nat) (T : Array Value) (w : World) : World:=
 match T[a]?,T[b]? with
 | some (.pointer (some ⟨g,0,none⟩)),some (.agg #[x,y,z])=>((w.setCell ⟨g,0,none⟩ x).setCell ⟨g,1,none⟩ y).setCell ⟨g,2,none⟩ z
 | _,_=>w
theorem put3_at {a b g : Nat} {T : Array Value} {w : World} {x y z : Value} (h1 : T[a]? = some (.pointer (some ⟨g,0,none⟩))) (h2 : T[b]? = some (.agg #[x,y,z])) : put3 a b T w = ((w.setCell ⟨g,0,none⟩ x).setCell ⟨g,1,none⟩ y).setCell ⟨g,2,none⟩ z:=by
 unfold put3
 rw [h1,h2]
 rfl
theorem put3_set {a b c : Nat} {T : Array Value} {w : World} {v : Value} (h1 : c ≠ a) (h2 : c ≠ b) : put3 a b (T.setIfInBounds c v) w = put3 a b T w:=by
 unfold put3
 rw [Array.getElem?_setIfInBounds_ne h1,Array.getElem?_setIfInBounds_ne h2]
theorem only_grown {w w' : World} {v : Value} (hg : w.grownBy w' v.ownBlock) (hx : LExt w w') : Only v.ownBlock.toList w w':=
 ⟨(Below.refl 0 w).grown hg (Nat.zero_le _) (fun g _=>Nat.zero_le g),hx,fun k hk hn=>hg.block k hk (fun e=>hn (by rw [<-e]; simp))⟩
theorem Below.only {B : Nat} {S : List Nat} {w0 w w' : World} (h : Below B w0 w) (ho : Only S w w') (hB : B<=w0.heap.size) (hS : ∀b ∈ S,B<=b) : Below B w0 w':=
 h.trans ⟨ho.bel.os,ho.bel.tape,ho.bel.output,ho.bel.size,fun k hk=>ho.old k (Nat.lt_of_lt_of_le hk (Nat.le_trans hB h.size)) fun hm=>absurd (hS k hm) (by omega)⟩
theorem Blk.only {S : List Nat} {w w' : World} {b : Nat} {t : TypeId} {cs : Array Value} (h : Blk w b t cs) (ho : Only S w w') (hb : b ∉ S) : Blk w' b t cs:=(ho.old b h.lt hb).trans h
theorem OwnN.mono {w : World} {base base' : Nat} {v : Value} {xs : List Nat} (h : OwnN w base v xs) (hb : base'<=base) : OwnN w base' v xs:=
 ⟨h.1,h.2.1,h.2.2.imp id fun ⟨g,cap,cur,e,k,r⟩=>⟨g,cap,cur,e,Nat.le_trans hb k,r⟩⟩
theorem OwnN.first {w : World} {base : Nat} {v : Value} {xs : List Nat} (h : OwnN w base v xs) (hn : xs ≠ []) :
  ∃b cap,v = .slice (some ⟨b,0,none⟩) xs.length cap/\base<=b/\b < w.heap.size/\xs.length<=cap/\cap<=9223372036854775807/\NatsAt w (some ⟨b,0,none⟩) xs:=by
 obtain ⟨ao,cap,rfl,h1,h2,h3⟩:=h.at_
 obtain ⟨b,off,cs,rfl,-,-⟩:=h3.2 hn
 rcases h.2.2 with ⟨h0,-⟩ | ⟨g,c,cur,e,k,r,-⟩
 ·cases h0
 ·injection e with e1 e2 e3
  injection e1 with e1
  injection e1 with e1 e4
  subst e1
  subst e4
  exact ⟨b,cap,rfl,k,(Array.getElem?_eq_some_iff.1 r).1,h1,h2,h3⟩
theorem NatsAt.drop0 {w : World} {b : Nat} {xs : List Nat} (h : NatsAt w (some ⟨b,0,none⟩) xs) (k : Nat) : NatsAt w (some ⟨b,k,none⟩) (xs.drop k):=by
 have:=h.drop k
 rwa [Nat.zero_add] at this
theorem NatsAt.at_old {w w' : World} {b o : Nat} {xs : List Nat} (h : NatsAt w (some ⟨b,o,none⟩) xs) (e : w'.heap[b]? = w.heap[b]?) : NatsAt w' (some ⟨b,o,none⟩) xs:=
 h.block fun b' o' e' _=>by injection e' with e'; injection e' with e'; subst e'; exact e
theorem NatsAt.dropc {w : World} {b c : Nat} {xs : List Nat} (h : NatsAt w (some ⟨b,0,none⟩) xs) (k : Nat) (hc : xs.length<=c:=by simpa using ‹_›) : NatsAt w (if c = k then some ⟨b,0,none⟩ else some ⟨b,k,none⟩) (xs.drop k):=by
 split
 ·rename_i e
  rw [List.drop_eq_nil_of_le oM]
  exact NatsAt.nil _ _
 ·exact h.drop0 k
theorem NatsAt.only {S : List Nat} {w w' : World} {b o : Nat} {xs : List Nat} (h : NatsAt w (some ⟨b,o,none⟩) xs) (ho : Only S w w') (hb : b ∉ S) : NatsAt w' (some ⟨b,o,none⟩) xs:=
 h.block fun b' o' e hlt=>ho.old b' hlt (by injection e with e; injection e with e; subst e; exact hb)
theorem lastsB_own (base : Nat) (xs : List Nat) : LastsB (fun w v=>OwnN w base v xs):=fun _ _ _ e h=>h.below e
def NewB (t : TypeId) (n0 : Nat) (cs : Array Value) (w : World) (v : Value) : Prop:=∃b,v = .pointer (some ⟨b,0,none⟩)/\n0<=b/\Blk w b t cs
theorem lastsB_new (t : TypeId) (n0 : Nat) (cs : Array Value) : LastsB (NewB t n0 cs):=fun _ _ _ e ⟨b,h1,h2,h3⟩=>⟨b,h1,h2,h3.below e⟩
theorem MatV.typed {w w' : World} {v : Value} {R C : Int} {M : List (List Int)} (h : MatV w v R C M) (e : ∀(b : Nat) (cs : Array Value) (t : TypeId),w.heap[b]? = some (.cells cs t (0,0))->t = 35 ∨ t = tI->w'.heap[b]? = w.heap[b]?) (x : LExt w w') : MatV w' v R C M:=by
 obtain ⟨A,h1,ao,n,cap,k1,k2,k3,k4,k5⟩:=h
 refine ⟨A,h1,ao,n,cap,k1,k2,k3,k4,fun hn=>?_⟩
 obtain ⟨b,cs,e1,e2,e3⟩:=k5 hn
 refine ⟨b,cs,e1,(e b cs _ e2 (.inl rfl)).trans e2,fun k zs hk=>?_⟩
 obtain ⟨rv,e4,ao',n',cap',j1,j2,j3,j4,j5⟩:=e3 k zs hk
 refine ⟨rv,e4,ao',n',cap',j1,j2,j3,j4,fun hz=>?_⟩
 obtain ⟨b',i1,cs',i2,i3⟩:=j5 hz
 exact ⟨b',i1,RowAt.old ⟨cs',i2,i3⟩ (e b' cs' _ i2 (.inr rfl)) x⟩
theorem MatV.put3 {w : World} {v : Value} {R C : Int} {M : List (List Int)} {b : Nat} {cs : Array Value} (h : MatV w v R C M) (hb : Blk w b 28 cs) (x y z : Value) (hx : LExt w (((w.setCell ⟨b,0,none⟩ x).setCell ⟨b,1,none⟩ y).setCell ⟨b,2,none⟩ z)) :
  MatV (((w.setCell ⟨b,0,none⟩ x).setCell ⟨b,1,none⟩ y).setCell ⟨b,2,none⟩ z) v R C M:=
 h.typed (fun b' cs' t hb' ht=>set3_old _ _ _ _ _ _ (by
  rintro rfl
  have e:=congrArg (fun o : Option Obj=>match o with | some (Obj.cells _ t _)=>t | _=>0) (hb.symm.trans hb')
  replace e : (28 : TypeId) = t:=e
  rcases ht with ht | ht <;> rw [ht] at e <;> exact absurd e dE)) hx
def PickT (R C : Int) (M : List (List Int)) (w : World) (v : Value) : Prop:=∃u,v = .tuple #[u,.int .i64 0]/\MatV w u R C M
theorem lastsB_pick (R C : Int) (M : List (List Int)) : LastsB (PickT R C M):=fun _ _ _ e ⟨u,h1,h2⟩=>⟨u,h1,h2.below e⟩
set_option maxHeartbeats 8000000 in
set_option maxRecDepth 20000 in
theorem determinant_any : ∀(n : Nat) (v : Value) (M : List (List Int)) (w : World),MatV w v n n M->Fits n n M->n<=4->leM 1048576 n n (ent M) ->
  Calls Tryz.prog 80 #[v] w (RetInt w (det n (ent M))):=by
 intro n
 induction n with
 | zero=>
  intro v M w h hF _ _
  obtain ⟨A,rfl,h⟩:=h
  obtain ⟨ao,n,cap,rfl,e2,e3,e4,-⟩:=id h
  go_enter Tryz.func80,Tryz.ntmps80
  go_upto_region 1 with (fail)
  refine wp_world ?_
  intro W0 hW0
  obtain ⟨hB0,bx1,br,hs0⟩:=world2 hW0
  obtain ⟨c1,c2,c3,c4,c5,c6⟩:=bx1.three
  go_wp2_with fail
  refine (r1of_any 1 W0 oM oM).mono ?_
  rintro e w2 ⟨u,rfl,hu,hb2⟩
  obtain ⟨un,ua,ul,uc,ux,rfl,hu'⟩:=id hu
  have HU:=Lib.hid hu'
  clear hu'
  have br:=br.below hb2
  obtain ⟨r1,r2,r3,r4⟩:=br.two
  go_wp2
  refine bodyPost_int rfl rfl rfl (br.put2 _ _) (hu.ext (br.lext2 dE _ _)) (bset (bset (nx hB0 hb2) oM 0 _) oM 1 _)
 | succ n ih=>
  intro v M w h hF hn hA
  obtain ⟨N,hN⟩ : ∃N,N = n + 1:=⟨_,rfl⟩
  have HD : HidS (lap n M N = det (n + 1) (ent M)):=⟨by rw [hN]; rfl⟩
  have HT : HidS (∀k,k < N->(ent M 0 k * det n (mnr (ent M) 0 k)).natAbs<=24 * 1048576 ^ 4):=⟨fun k hk=>Nat.le_trans (term_small oM oM hA) dE⟩
  have HM : HidS (∀k,k < N->Smd (det n (mnr (ent M) 0 k))):=⟨fun k hk=>small24_smd (Nat.le_trans (det_small oM (leM_mnr (k:=k) hA)) dE)⟩
  have HE : HidS (∀k,k < N->Smd (ent M 0 k)):=⟨fun k hk=>small24_smd (Nat.le_trans (hA 0 oM k oM) dE)⟩
  have HL : HidS (∀k,k<=N->Smd (lap n M k)):=⟨fun k hk=>small24_smd (lap_small oM oM hA)⟩
  rw [<-HD.out]
  rw [<-hN] at h hF hA
  obtain ⟨A,rfl,h⟩:=h
  obtain ⟨ao,n1,cap,rfl,e2,e3,e4,-⟩:=id h
  obtain rfl : N = n1:=by rw [<-e2,hF.1]
  have HF:=Hk hF
  have HA:=Hk hA
  have HX:=Lib.hid e2
  have hMV : MatV w (.agg #[.int .i64 (N : Int),.int .i64 (N : Int),.slice ao N cap]) N N M:=⟨_,rfl,h⟩
  have HN:=Lib.hid hN
  have hpos : 0 < N:=by omega
  have h4 : N<=4:=by omega
  have h3 : n<=3:=by omega
  clear hF hA e2 HD hn hN
  go_enter Tryz.func80,Tryz.ntmps80
  go_upto_region 1 with (fail)
  refine wp_world ?_
  intro W0 hW0
  obtain ⟨hB0,bx1,br,hs0⟩:=world2 hW0
  obtain ⟨c1,c2,c3,c4,c5,c6⟩:=bx1.three
  have hne : ((N : Int) == 0) = false:=by rw [beq_eq_false_iff_ne]; omega
  go_upto_region 3 with (fail)
  have l0:=br.lt
  have hLN:=lastsB_own W0.heap.size (List.range N)
  have hLB:=lastsB_new 45 W0.heap.size #[.bool false,.slice none 0 0]
  refine wp_region_headed 5 rfl (RV W0 _ [⟨0,14,fun w v=>IntV w v (0)⟩,⟨1,15,fun _ v=>v = .pointer (some ⟨w.heap.size,0,none⟩)⟩,⟨2,16,fun _ v=>v = .int .i64 N⟩,⟨3,17,fun w' v=>OwnN w' W0.heap.size v (List.range N)⟩,⟨4,3,NewB 45 W0.heap.size #[.bool false,.slice none 0 0]⟩]) kR RV.start ?fin1 ?steps1
  case steps1=>
   refine ⟨?_,?_,?_,?_,?_,trivial⟩ <;> (intro L T wS hL hd hcl hI K hK; try refine sW rfl ?_)
   ·go_simp
    refine (r1of_any 0 wS oM oM).mono ?_
    rintro e wa ⟨v,rfl,hv,hba⟩
    exact hK _ _ ((hI.world hba).y mm0 hv)
   ·have zt : T[1]? = some (.pointer (some ⟨w.heap.size,0,none⟩)):=hI.keep 1 sI
    go_simp
    exact hK _ _ (hI.y mm1 rfl)
   ·obtain ⟨_,zt1,rfl⟩:=hI.v mm1 (hd 1)
    have cc0:=hI.cell c1
    go_simp
    exact hK _ _ (hI.y mm2 rfl)
   ·obtain ⟨_,zt2,rfl⟩:=hI.v mm2 (hd 2)
    go_simp
    refine (range_any N wS oM).mono ?_
    rintro e wa ⟨v,rfl,hv,hba⟩; replace hv:=hv.mono hI.bel.size
    exact hK _ _ ((hI.world hba).y mm3 hv)
   ·go_simp
    exact hK _ _ ((hI.world ((Below.refl _ _).alloc (Nat.le_refl _) _)).y mm4 ⟨_,rfl,hI.bel.size,Blk.new _ _ _⟩)
  intro T W3 hI
  obtain ⟨va0,q0,ha0⟩:=hI.v mm0 rfl
  replace ha0 : IntV W3 va0 (0):=ha0
  obtain ⟨va1,q1,rfl⟩:=hI.v mm1 rfl
  obtain ⟨va2,q2,rfl⟩:=hI.v mm2 rfl
  obtain ⟨va3,q3,ha3⟩:=hI.v mm3 rfl
  obtain ⟨va4,q4,ha4⟩:=hI.v mm4 rfl
  have hT:=tmps_set [(14,va0),(15,.pointer (some ⟨w.heap.size,0,none⟩)),(16,.int .i64 N),(17,va3),(3,va4)]
   (fun j hj=>hI.keep j (by simp only [List.forall_mem_cons] at hj ⊢; simp [hj]))
   (by simp only [List.forall_mem_cons]; simp [q0,q1,q2,q3,q4]) hI.size
  have hbW3:=hI.bel
  clear hI
  simp only [List.foldl_cons,List.foldl_nil,List.setIfInBounds_toArray,List.set_cons_zero,List.set_cons_succ,ptr] at hT
  subst hT
  clear q0 q1 q2 q3 q4
  simp only [List.drop_succ_cons,List.drop_zero]
  obtain ⟨b3,rfl,hb3,T3⟩:=ha4
  obtain ⟨rb,rc,rfl,hrb,hrb2,hrc,hrc2,hrows⟩:=ha3.first (by rw [HN.out]; simp)
  rw [List.length_range] at hrc ⊢
  obtain ⟨un,ua,ul,uc,ux,rfl,hu'⟩:=id ha0
  have HU:=Lib.hid hu'
  clear hu' hLN hLB
  obtain ⟨d1,d2,d3,d4⟩:=T3.two
  have bx1:=bx1.below hbW3
  have br:=br.below hbW3
  have hne3 : rb ≠ b3:=fun e=>by
   subst e
   obtain ⟨b',o',cs,e1,e2,-⟩:=hrows.2 (by rw [HN.out]; simp)
   injection e1 with e1
   injection e1 with e1
   subst e1
   exact absurd (congrArg (fun o : Option Obj=>match o with | some (Obj.cells _ t _)=>t | _=>0) (T3.symm.trans e2)) (show ¬ (45 : TypeId) = tNn by decide)
  go_wp2
  clear c1 c2 c3 c4 c5 c6
  go_loopw [5] (fun jv wr=>∃j : Nat,j<=N/\jv = .int .i64 j/\Below w.heap.size w wr/\Blk wr w.heap.size 28 #[.int .i64 N,.int .i64 N,.slice ao N cap]/\Blk wr (w.heap.size + 1) 45 #[.bool false,.slice none 0 0]/\NatsAt wr (some ⟨rb,0,none⟩) (List.range N)/\rb < wr.heap.size/\BoxI wr b3 (lap n M j)) (fun jv _=>N - (intOf jv).toNat)
  case atStart=>exact ⟨0,by omega,rfl,bset (bset (nx hB0 hbW3) oM _ _) oM _ _,(set2_old _ _ _ _ _ _ _ oM).trans bx1,(set2_old _ _ _ _ _ _ _ oM).trans br,hrows.at_old (set2_old _ _ _ _ _ _ _ hne3),by simpa using hrb2,BoxI.put T3 ha0⟩
  case round=>
   clear bx1 br d1 d2 d3 d4 T3 hrows ha0 ha3 hrb2
   obtain ⟨j,hj,rfl,hb,bx1,br,hrows,hrb2,z3⟩:=hrel
   obtain ⟨c1,c2,c3,c4,c5,c6⟩:=bx1.three
   by_cases hlt : j < N
   ·have lt1:=bx1.lt
    have l3:=z3.lt
    have l0:=br.lt
    have hlr : ((List.range N).take j).length = j:=by rw [List.length_take,List.length_range]; omega
    go_upto_region 8 with (at_builtin; refine appN rfl _ _ rfl wr.heap.size (.slice (some ⟨wr.heap.size,0,none⟩) 0 0) [] rfl (OwnN.empty wr wr.heap.size (Nat.le_refl _)) (some ⟨rb,0,none⟩) j rc ((List.range N).take j) rfl ((hrows.below ((Below.refl _ _).alloc (Nat.le_refl _) _)).take j) hlr (by simp; omega) (Nat.le_of_lt (World.size_alloc ..  ▸ Nat.lt_succ_self _)) ?_; intro v6 w6 hown hgr)
    have hgr : World.grownBy (wr.alloc (.cells #[] tNn)) w6 (some wr.heap.size):=hgr
    have hown : OwnN w6 wr.heap.size v6 ((List.range N).take j):=hown
    have hb6 : Below wr.heap.size wr w6:=((Below.refl wr.heap.size wr).alloc (Nat.le_refl _) _).grown hgr sI (fun g hg=>by injection hg with hg; omega)
    have q6:=hb6.size
    have hN6:=hrows.below hb6
    have hS : ∀b,b < wr.heap.size->b ∉ v6.ownBlock.toList:=fun b hb hm=>by
     have:=(hown.own b (by simpa using hm)).1
     omega
    have bx6:=bx1.below hb6
    have br6:=br.below hb6
    have z36:=z3.below hb6
    have hbw6:=nx hb hb6
    clear c1 c2 c3 c4 c5 c6
    obtain ⟨c1,c2,c3,c4,c5,c6⟩:=bx6.three
    have hLN:=lastsB_own wr.heap.size (skipL N j)
    have h1N : (1 : Int)<=(N : Int):=by omega
    have hwj : IntKind.i64.wrap ((j : Int) + 1) = (j : Int) + 1:=IntWalk.i64_in _ oM
    have hjN : (j : Int) + 1<=(N : Int):=by omega
    have hLP:=lastsB_pick ((N - 1 : Nat) : Int) ((skipL N j).length : Int) (genM (N - 1) (skipL N j).length (pickF M ((List.range N).drop 1) (skipL N j)))
    have hLB:=lastsB_new 28 w6.heap.size #[.int .i64 0,.int .i64 0,.slice none 0 0]
    have hdl : ((List.range N).drop 1).length = N - 1:=by rw [List.length_drop,List.length_range]
    have hsl : (skipL N j).length<=1000000:=by rw [HN.out] at hlt ⊢; rw [skipL_len hlt]; have:=HN.out; omega
    refine wp_region_headed 15 rfl (RAS (v6.ownBlock.toList) 8 w6 _ [⟨0,30,fun _ v=>v = .agg #[.int .i64 N,.int .i64 N,.slice ao N cap]⟩,⟨1,31,fun _ v=>v = .slice (some ⟨rb,0,none⟩) N rc⟩,⟨2,32,fun _ v=>v = .slice (if rc = 1 then some ⟨rb,0,none⟩ else some ⟨rb,1,none⟩) (N - 1) (rc - 1)⟩,⟨3,33,fun _ v=>v = v6⟩,⟨4,34,fun _ v=>v = .slice (some ⟨rb,0,none⟩) N rc⟩,⟨5,35,fun _ v=>v = .int .i64 j⟩,⟨6,36,fun _ v=>v = .int .i64 (j + 1)⟩,⟨7,37,fun _ v=>v = .slice (if rc = j + 1 then some ⟨rb,0,none⟩ else some ⟨rb,j + 1,none⟩) (N - (j + 1)) (rc - (j + 1))⟩,⟨8,38,fun w v=>OwnN w wr.heap.size v (skipL N j)⟩,⟨9,39,PickT ((N - 1 : Nat) : Int) ((skipL N j).length : Int) (genM (N - 1) (skipL N j).length (pickF M ((List.range N).drop 1) (skipL N j)))⟩,⟨10,29,PickT ((N - 1 : Nat) : Int) ((skipL N j).length : Int) (genM (N - 1) (skipL N j).length (pickF M ((List.range N).drop 1) (skipL N j)))⟩,⟨11,40,fun w v=>MatV w v ((N - 1 : Nat) : Int) ((skipL N j).length : Int) (genM (N - 1) (skipL N j).length (pickF M ((List.range N).drop 1) (skipL N j)))⟩,⟨12,41,fun _ v=>v = .int .i64 0⟩,⟨13,7,NewB 28 w6.heap.size #[.int .i64 0,.int .i64 0,.slice none 0 0]⟩] 14 (put3 7 40)) kR (RAS.start (RA.start kR (by repeat' (first | exact lastsB_int _ | exact lastsB_eq _ | exact lastsB_mat _ _ _ | exact lastsB_vec _ | assumption | refine List.forall_mem_cons.2 ⟨?_,?_⟩ | exact List.forall_mem_nil _)))) ?fin2 ?steps2
    case steps2=>
     refine ⟨?_,?_,?_,?_,?_,?_,?_,?_,?_,?_,?_,?_,?_,?_,?_,trivial⟩
     ·refine StepAt.liftA kR dE ?_
      intro L T wS hL hd hcl hI K hK
      try refine sW rfl ?_
      have zt : T[1]? = some (.pointer (some ⟨w.heap.size,0,none⟩)):=hI.keep 1 sI
      have cc0:=hI.cell (hS _ oM) oM c1
      have cc1:=hI.cell (hS _ oM) oM c2
      have cc2:=hI.cell (hS _ oM) oM c3
      go_simp
      exact hK _ _ (hI.y mm0 rfl)
     ·refine StepAt.liftA kR dE ?_
      intro L T wS hL hd hcl hI K hK
      try refine sW rfl ?_
      have zt : T[4]? = some (.slice (some ⟨rb,0,none⟩) N rc):=hI.keep 4 sI
      go_simp
      exact hK _ _ (hI.y mm1 rfl)
     ·refine StepAt.liftA kR dE ?_
      intro L T wS hL hd hcl hI K hK
      try refine sW rfl ?_
      obtain ⟨_,zt1,rfl⟩:=hI.v mm1 (hd 1)
      go_simp
      exact hK _ _ (hI.y mm2 rfl)
     ·refine StepAt.liftA kR dE ?_
      intro L T wS hL hd hcl hI K hK
      try refine sW rfl ?_
      have zt : T[6]? = some v6:=hI.keep 6 sI
      go_simp
      exact hK _ _ (hI.y mm3 rfl)
     ·refine StepAt.liftA kR dE ?_
      intro L T wS hL hd hcl hI K hK
      try refine sW rfl ?_
      have zt : T[4]? = some (.slice (some ⟨rb,0,none⟩) N rc):=hI.keep 4 sI
      go_simp
      exact hK _ _ (hI.y mm4 rfl)
     ·refine StepAt.liftA kR dE ?_
      intro L T wS hL hd hcl hI K hK
      try refine sW rfl ?_
      have zt : T[5]? = some (.int .i64 j):=hI.keep 5 sI
      go_simp
      exact hK _ _ (hI.y mm5 rfl)
     ·refine StepAt.liftA kR dE ?_
      intro L T wS hL hd hcl hI K hK
      try refine sW rfl ?_
      obtain ⟨_,zt5,rfl⟩:=hI.v mm5 (hd 5)
      go_simp
      exact hK _ _ (hI.y mm6 rfl)
     ·refine StepAt.liftA kR dE ?_
      intro L T wS hL hd hcl hI K hK
      try refine sW rfl ?_
      obtain ⟨_,zt4,rfl⟩:=hI.v mm4 (hd 4)
      obtain ⟨_,zt6,rfl⟩:=hI.v mm6 (hd 6)
      go_simp
      exact hK _ _ (hI.y mm7 rfl)
     ·refine StepAt.liftA kR dE ?_
      intro L T wS hL hd hcl hI K hK
      try refine sW rfl ?_
      obtain ⟨z3v,zt3,hz3⟩:=hI.v mm3 (hd 3)
      replace hz3 : z3v = v6:=hz3
      rw [hz3] at zt3
      obtain ⟨_,zt7,rfl⟩:=hI.v mm7 (hd 7)
      have hbz:=hI.bef hL
      have qz:=hbz.size
      refine wpN _ _ rfl wr.heap.size v6 ((List.range N).take j) (by simp [Act.eval,zt3]) (hown.below hbz) _ (N - (j + 1)) (rc - (j + 1)) ((List.range N).drop (j + 1)) (by simp [Act.eval,zt7]) ((hN6.dropc (c:=rc) (j + 1)).below hbz) sI (by simp; omega) oM ?_
      intro v8 wz h1 h2
      have hoz:=only_grown h2 (lext_grown (hown.below hbz).2 dE h2)
      exact hK _ _ (hI.turn ⟨8,38,_⟩ mm8 rfl (Array.getElem?_eq_some_iff.1 hL).1 hoz (by repeat' (first | exact List.forall_mem_nil _ | refine List.forall_mem_cons.2 ⟨?_,?_⟩ | exact fun _ _ _ hv=>hv | exact fun h=>absurd rfl h | exact fun _ _ _ ⟨b,g1,g2,g3⟩=>⟨b,g1,g2,g3.only hoz (fun hm=>absurd (hown.own b (by simpa using hm)).2 oM)⟩ | exact fun _ hl=>absurd (reach_spec (f:=3) hcl kR hl) (by rw [hL]; simp))) h1)
     ·refine StepAt.liftA kR dE ?_
      intro L T wS hL hd hcl hI K hK
      try refine sW rfl ?_
      obtain ⟨_,zt0,rfl⟩:=hI.v mm0 (hd 0)
      obtain ⟨_,zt2,rfl⟩:=hI.v mm2 (hd 2)
      obtain ⟨z8,zt8,hz8⟩:=hI.v mm8 (hd 8)
      replace hz8 : OwnN wS wr.heap.size z8 (skipL N j):=hz8
      obtain ⟨co,cc,rfl,-,-,hcc⟩:=hz8.at_
      have hbS:=Below.only hbw6 hI.onl oM (fun b hm=>by have:=(hown.own b (by simpa using hm)).1; omega)
      have hNS:=(hN6.only hI.onl (hS rb hrb2)).dropc (c:=rc) 1
      go_simp
      refine (pick_any _ N N M _ co (N - 1) _ (rc - 1) cc ((List.range N).drop 1) (skipL N j) wS (hMV.below hbS) HF.out oM oM hNS hcc hdl rfl oM hsl (fun x hx=>List.mem_range.1 (List.mem_of_mem_drop hx)) (fun x hx=>skipL_lt x hx)).mono ?_
      rintro e wa ⟨v,bs,rfl,hv,hba⟩
      exact hK _ _ ((hI.world hba).y mm9 ⟨v,rfl,hv.mat.1⟩)
     ·refine StepAt.liftA kR dE ?_
      intro L T wS hL hd hcl hI K hK
      try refine sW rfl ?_
      obtain ⟨z9,zt9,hz9⟩:=hI.v mm9 (hd 9)
      go_simp
      exact hK _ _ (hI.y mm10 hz9)
     ·refine StepAt.liftA kR dE ?_
      intro L T wS hL hd hcl hI K hK
      try refine sW rfl ?_
      obtain ⟨z10,zt10,hz10⟩:=hI.v mm10 (hd 10)
      obtain ⟨u,rfl,hu⟩:=hz10
      go_simp
      exact hK _ _ (hI.y mm11 hu)
     ·intro L T wS hL hd hcl hI K hK
      try refine sW rfl ?_
      obtain ⟨w0,hJ,-,-⟩:=id hI
      obtain ⟨z10,zt10,hz10⟩:=hJ.val _ mm10 (hd 10)
      obtain ⟨u,rfl,hu⟩:=hz10
      go_simp
      exact hK _ _ (hI.pure ⟨12,41,_⟩ mm12 rfl (fun _=>rfl) dE (fun _=>put3_set dE dE))
     ·refine StepAt.liftA kR dE ?_
      intro L T wS hL hd hcl hI K hK
      try refine sW rfl ?_
      go_simp
      exact hK _ _ ((hI.world ((Below.refl _ _).alloc (Nat.le_refl _) _)).y mm13 ⟨_,rfl,hI.onl.bel.size,Blk.new _ _ _⟩)
     ·intro L T wS hL hd hcl hI K hK
      try refine sW rfl ?_
      replace hI:=hI.here hL
      obtain ⟨z11,zt11,hz11⟩:=hI.v mm11 (hd 11)
      obtain ⟨z13,zt13,hz13⟩:=hI.v mm13 (hd 13)
      obtain ⟨Av,rfl,hrv⟩:=hz11
      obtain ⟨vo,vn,vc,rfl,-,-,-,-⟩:=hrv
      obtain ⟨b7,rfl,-,T7⟩:=hz13
      obtain ⟨f1,f2,f3,f4,f5,f6⟩:=T7.three
      go_simp
      exact hK _ _ (RAS.store hI hL (by repeat' (first | exact List.forall_mem_nil _ | refine List.forall_mem_cons.2 ⟨by dsimp only; decide,?_⟩)) dE (put3_at zt13 zt11).symm)
    intro T w8f hJ
    obtain ⟨w8,hI,-,hstw8⟩:=hJ
    replace hstw8:=hstw8 kR
    obtain ⟨va0,q0,rfl⟩:=hI.v mm0 rfl
    obtain ⟨va1,q1,rfl⟩:=hI.v mm1 rfl
    obtain ⟨va2,q2,ha2⟩:=hI.v mm2 rfl
    obtain ⟨va3,q3,ha3⟩:=hI.v mm3 rfl
    obtain ⟨va4,q4,rfl⟩:=hI.v mm4 rfl
    obtain ⟨va5,q5,rfl⟩:=hI.v mm5 rfl
    obtain ⟨va6,q6,rfl⟩:=hI.v mm6 rfl
    obtain ⟨va7,q7,ha7⟩:=hI.v mm7 rfl
    obtain ⟨va8,q8,ha8⟩:=hI.v mm8 rfl
    obtain ⟨va9,q9,ha9⟩:=hI.v mm9 rfl
    obtain ⟨va10,q10,ha10⟩:=hI.v mm10 rfl
    obtain ⟨va11,q11,ha11⟩:=hI.v mm11 rfl
    obtain ⟨va12,q12,rfl⟩:=hI.v mm12 rfl
    obtain ⟨va13,q13,ha13⟩:=hI.v mm13 rfl
    have hT:=tmps_set [(30,.agg #[.int .i64 N,.int .i64 N,.slice ao N cap]),(31,.slice (some ⟨rb,0,none⟩) N rc),(32,va2),(33,va3),(34,.slice (some ⟨rb,0,none⟩) N rc),(35,.int .i64 j),(36,.int .i64 (j + 1)),(37,va7),(38,va8),(39,va9),(29,va10),(40,va11),(41,.int .i64 0),(7,va13)]
     (fun j hj=>hI.keep j (by simp only [List.forall_mem_cons] at hj ⊢; simp [hj]))
     (by simp only [List.forall_mem_cons]; simp [q0,q1,q2,q3,q4,q5,q6,q7,q8,q9,q10,q11,q12,q13]) hI.size
    have how8:=hI.onl
    clear hI
    simp only [List.foldl_cons,List.foldl_nil,List.setIfInBounds_toArray,List.set_cons_zero,List.set_cons_succ,ptr] at hT
    subst hT
    clear q0 q1 q2 q3 q4 q5 q6 q7 q8 q9 q10 q11 q12 q13
    simp only [List.drop_succ_cons,List.drop_zero]
    have e1 : (skipL N j).length = n:=by rw [HN.out] at hlt ⊢; exact skipL_len hlt
    have e2 : N - 1 = n:=by rw [HN.out]; rfl
    replace ha11 : MatV w8 va11 ((N - 1 : Nat) : Int) ((skipL N j).length : Int) (genM (N - 1) (skipL N j).length (pickF M ((List.range N).drop 1) (skipL N j))):=ha11
    rw [e1,e2] at ha11
    obtain ⟨Av,rfl,hrv⟩:=id ha11
    obtain ⟨vo,vn,vc,rfl,hvl,-,-,-⟩:=id hrv
    obtain ⟨b7,rfl,hb7,T7⟩:=ha13
    have hbS:=Below.only hbw6 how8 oM (fun b hm=>by have:=(hown.own b (by simpa using hm)).1; omega)
    have hSb : ∀b,b < wr.heap.size->w8.heap[b]? = w6.heap[b]?:=fun b hb=>how8.old b oM (hS b hb)
    have bx8 : Blk w8 w.heap.size 28 #[.int .i64 N,.int .i64 N,.slice ao N cap]:=(hSb _ oM).trans bx6
    have br8 : Blk w8 (w.heap.size + 1) 45 #[.bool false,.slice none 0 0]:=(hSb _ oM).trans br6
    have z38:=z36.old (hSb b3 l3) how8.lext
    have hN8:=hN6.only how8 (hS rb hrb2)
    obtain ⟨f1,f2,f3,f4,f5,f6⟩:=T7.three
    have q7:=T7.lt
    have q8:=how8.bel.size
    clear e1 e2 ha2 ha7 ha3 ha8 ha9 ha10 hLP hLN hLB hown hgr hdl hsl hlr
    clear c1 c2 c3 c4 c5 c6
    have hw9:=hstw8.trans (put3_at rfl rfl)
    have hx9 : LExt w8 w8f:=by rw [hw9]; exact T7.lext3 dE _ _ _
    have ho9 : ∀k,k ≠ b7->w8f.heap[k]? = w8.heap[k]?:=fun k hk=>by rw [hw9]; exact set3_old _ _ _ _ _ _ hk
    have T79 : Blk w8f b7 28 #[.int .i64 n,.int .i64 n,.slice vo vn vc]:=by rw [hw9]; exact T7.put3 _ _ _
    have hm9 : MatV w8f (.agg #[.int .i64 n,.int .i64 n,.slice vo vn vc]) n n (genM n n (pickF M ((List.range N).drop 1) (skipL N j))):=by
     rw [hw9] at hx9 ⊢
     exact ha11.put3 T7 _ _ _ hx9
    have hbf : Below w.heap.size w w8f:=by
     rw [hw9]
     exact bset (bset (bset hbS oM 0 _) oM 1 _) oM 2 _
    have bx9 : Blk w8f w.heap.size 28 #[.int .i64 N,.int .i64 N,.slice ao N cap]:=(ho9 _ oM).trans bx8
    have br9 : Blk w8f (w.heap.size + 1) 45 #[.bool false,.slice none 0 0]:=(ho9 _ oM).trans br8
    have z39:=z38.old (ho9 b3 oM) hx9
    have hN9:=hN8.at_old (ho9 rb oM)
    have qrb : rb < w8f.heap.size:=by rw [hw9]; simpa using (show rb < w8.heap.size by omega)
    have s9 : w8.heap.size = w8f.heap.size:=by rw [hw9]; simp
    obtain ⟨c1,c2,c3,c4,c5,c6⟩:=bx9.three
    clear f1 f2 f3 f4 f5 f6
    obtain ⟨f1,f2,f3,f4,f5,f6⟩:=T79.three
    obtain ⟨b,ra,rn,rcc,zs,rfl,hbl1,hz,p1,hv⟩:=(h.below hbf).row (k:=0) (by rw [HX.out]; exact hpos)
    have hzl:=HF.out.2 zs (List.mem_of_getElem? hz)
    have hvl:=hv.len
    obtain rfl : N = rn:=by omega
    obtain ⟨b',z,sg,al,ll,cl,rfl,hbl',hzk,q1,q2',hzv⟩:=hv.cell (k:=j) oM
    have hent:=Lib.hid (ent_of hz hzk)
    have HZ : HidS (Smd z):=⟨by rw [<-hent.out]; exact HE.out j hlt⟩
    have HDM : HidS (Smd (det n (mnr (ent M) 0 j))):=⟨HM.out j hlt⟩
    have HDE:=Lib.hid (det_pick (M:=M) (n:=n) (k:=j) (by have:=HN.out; omega))
    have HAM : HidS (leM 1048576 n n (ent (genM n n (pickF M ((List.range N).drop 1) (skipL N j))))):=⟨pick_leM HA.out (fun x hx=>List.mem_range.1 (List.mem_of_mem_drop hx)) (fun x hx=>skipL_lt x hx) (by rw [List.length_drop,List.length_range,HN.out]; rfl) (by have:=HN.out; subst this; exact skipL_len hlt)⟩
    rw [<-HN.out] at HDE
    clear hz hzk hzl hw9 hstw8 T7 ha11 hrv hvl
    obtain ⟨D,hD⟩ : ∃D,det n (mnr (ent M) 0 j) = D:=⟨_,rfl⟩
    have HDV:=Lib.hid hD
    rw [hD] at HDM HDE
    clear hD
    have hLB:=lastsB_new 45 w8f.heap.size #[.bool false,.slice none 0 0]
    go_upto_region 9 with (fail)
    refine wp_region_headed 11 rfl (RV w8f _ [⟨0,42,fun _ v=>v = .pointer (some ⟨w.heap.size,2,none⟩)⟩,⟨1,43,fun _ v=>v = .slice (some ⟨b,0,none⟩) N cap⟩,⟨2,44,fun _ v=>v = .pointer (some ⟨b,0,none⟩)⟩,⟨3,45,fun _ v=>v = .slice (some ⟨b',0,none⟩) N rcc⟩,⟨4,46,fun _ v=>v = .int .i64 j⟩,⟨5,47,fun _ v=>v = .pointer (some ⟨b',j * 2,none⟩)⟩,⟨6,48,fun _ v=>v = .agg #[.bool sg,.slice al ll cl]⟩,⟨7,49,fun _ v=>v = .agg #[.int .i64 n,.int .i64 n,.slice vo vn vc]⟩,⟨8,50,fun w v=>IntV w v (D)⟩,⟨9,51,fun w v=>IntV w v (z * D)⟩,⟨10,9,NewB 45 w8f.heap.size #[.bool false,.slice none 0 0]⟩]) kR RV.start ?fin3 ?steps3
    case steps3=>
     refine ⟨?_,?_,?_,?_,?_,?_,?_,?_,?_,?_,?_,trivial⟩ <;> (intro L T wS hL hd hcl hI K hK; try refine sW rfl ?_)
     ·have zt : T[1]? = some (.pointer (some ⟨w.heap.size,0,none⟩)):=hI.keep 1 sI
      go_simp
      exact hK _ _ (hI.y mm0 rfl)
     ·obtain ⟨_,zt0,rfl⟩:=hI.v mm0 (hd 0)
      have cc0:=hI.cell c3
      go_simp
      exact hK _ _ (hI.y mm1 rfl)
     ·obtain ⟨_,zt1,rfl⟩:=hI.v mm1 (hd 1)
      go_simp
      exact hK _ _ (hI.y mm2 rfl)
     ·obtain ⟨_,zt2,rfl⟩:=hI.v mm2 (hd 2)
      have cc0:=hI.cell p1
      go_simp
      exact hK _ _ (hI.y mm3 rfl)
     ·have zt : T[5]? = some (.int .i64 j):=hI.keep 5 sI
      go_simp
      exact hK _ _ (hI.y mm4 rfl)
     ·obtain ⟨_,zt3,rfl⟩:=hI.v mm3 (hd 3)
      obtain ⟨_,zt4,rfl⟩:=hI.v mm4 (hd 4)
      go_simp
      exact hK _ _ (hI.y mm5 rfl)
     ·obtain ⟨_,zt5,rfl⟩:=hI.v mm5 (hd 5)
      have cc0:=hI.cell q1
      have cc1:=hI.cell q2'
      go_simp
      exact hK _ _ (hI.y mm6 rfl)
     ·have zt : T[7]? = some (.pointer (some ⟨b7,0,none⟩)):=hI.keep 7 sI
      have cc0:=hI.cell f1
      have cc1:=hI.cell f2
      have cc2:=hI.cell f3
      go_simp
      exact hK _ _ (hI.y mm7 rfl)
     ·obtain ⟨_,zt7,rfl⟩:=hI.v mm7 (hd 7)
      go_simp
      refine (HDE.out ▸ ih _ _ wS (hm9.below hI.bel) (genM_fits n n _) oM HAM.out).mono ?_
      rintro e wa ⟨v,rfl,hv,hba⟩
      exact hK _ _ ((hI.world hba).y mm8 hv)
     ·obtain ⟨_,zt6,rfl⟩:=hI.v mm6 (hd 6)
      obtain ⟨v8,zt8,h8⟩:=hI.v mm8 (hd 8)
      go_simp
      refine (r1mul_any _ _ z D wS (hzv.ext (lx hI.bel)) h8 HZ.out.sm HDM.out.sm).mono ?_
      rintro e wa ⟨v,rfl,hv,hba⟩
      exact hK _ _ ((hI.world hba).y mm9 hv)
     ·go_simp
      exact hK _ _ ((hI.world ((Below.refl _ _).alloc (Nat.le_refl _) _)).y mm10 ⟨_,rfl,hI.bel.size,Blk.new _ _ _⟩)
    intro T w10 hI
    obtain ⟨vd0,q0,rfl⟩:=hI.v mm0 rfl
    obtain ⟨vd1,q1,rfl⟩:=hI.v mm1 rfl
    obtain ⟨vd2,q2,rfl⟩:=hI.v mm2 rfl
    obtain ⟨vd3,q3,rfl⟩:=hI.v mm3 rfl
    obtain ⟨vd4,q4,rfl⟩:=hI.v mm4 rfl
    obtain ⟨vd5,q5,rfl⟩:=hI.v mm5 rfl
    obtain ⟨vd6,q6,rfl⟩:=hI.v mm6 rfl
    obtain ⟨vd7,q7,rfl⟩:=hI.v mm7 rfl
    obtain ⟨vd8,q8,hd8⟩:=hI.v mm8 rfl
    replace hd8 : IntV w10 vd8 (D):=hd8
    obtain ⟨vd9,q9,hd9⟩:=hI.v mm9 rfl
    replace hd9 : IntV w10 vd9 (z * D):=hd9
    obtain ⟨vd10,q10,hd10⟩:=hI.v mm10 rfl
    have hT:=tmps_set [(42,.pointer (some ⟨w.heap.size,2,none⟩)),(43,.slice (some ⟨b,0,none⟩) N cap),(44,.pointer (some ⟨b,0,none⟩)),(45,.slice (some ⟨b',0,none⟩) N rcc),(46,.int .i64 j),(47,.pointer (some ⟨b',j * 2,none⟩)),(48,.agg #[.bool sg,.slice al ll cl]),(49,.agg #[.int .i64 n,.int .i64 n,.slice vo vn vc]),(50,vd8),(51,vd9),(9,vd10)]
     (fun j hj=>hI.keep j (by simp only [List.forall_mem_cons] at hj ⊢; simp [hj]))
     (by simp only [List.forall_mem_cons]; simp [q0,q1,q2,q3,q4,q5,q6,q7,q8,q9,q10]) hI.size
    have hbw10:=hI.bel
    clear hI
    simp only [List.foldl_cons,List.foldl_nil,List.setIfInBounds_toArray,List.set_cons_zero,List.set_cons_succ,ptr] at hT
    subst hT
    clear q0 q1 q2 q3 q4 q5 q6 q7 q8 q9 q10
    simp only [List.drop_succ_cons,List.drop_zero]
    obtain ⟨b9,rfl,hbq9,T9⟩:=hd10
    obtain ⟨pn,pa,pl,pc,px,rfl,hp'⟩:=id hd9
    have HP:=Lib.hid hp'
    clear hp' hLB c1 c2 c3 c4 c5 c6 f1 f2 f3 f4 f5 f6
    obtain ⟨t1,t2,t3,t4⟩:=T9.two
    go_upto_region 10 with (fail)
    refine wp_world ?_
    intro W11 hW11
    have z9 : BoxI W11 b9 (z * D):=by rw [hW11.out]; exact BoxI.put T9 hd9
    have z311 : BoxI W11 b3 (lap n M j):=by rw [hW11.out]; exact (z39.below hbw10).far oM T9 dE _ _
    have ho11 : ∀k,k ≠ b9->W11.heap[k]? = w10.heap[k]?:=fun k hk=>by rw [hW11.out]; exact set2_old _ _ _ _ _ _ _ hk
    have hb11 : Below w.heap.size w W11:=by rw [hW11.out]; exact bset (bset (nx hbf hbw10) oM _ _) oM _ _
    have bx11 : Blk W11 w.heap.size 28 #[.int .i64 N,.int .i64 N,.slice (some ⟨b,0,none⟩) N cap]:=(ho11 _ oM).trans (bx9.below hbw10)
    have br11 : Blk W11 (w.heap.size + 1) 45 #[.bool false,.slice none 0 0]:=(ho11 _ oM).trans (br9.below hbw10)
    have hN11:=(hN9.below hbw10).at_old (ho11 rb oM)
    have q10:=hbw10.size
    have qrb : rb < W11.heap.size:=by rw [hW11.out]; simp; omega
    have HL1 : HidS (Smd (lap n M j)):=⟨HL.out j hj⟩
    have HL2 : HidS (Smd (lap n M (j + 1))):=⟨HL.out (j + 1) hlt⟩
    have HTD : HidS (Smd (z * D)):=⟨by rw [<-hent.out,<-HDV.out]; exact small24_smd (HT.out j hlt)⟩
    clear hW11 t1 t2 t3 t4 hbl1 hbl' p1 hv q1 q2' hzv hd8 hd9 T9 z39 bx9 br9 hN9 bx8 br8 z38 hN8 ho9 hx9 T79 hm9 hSb how8 hS bx6 br6 z36 hN6 bx1 br z3 hrows
    by_cases hodd : j % 2 = 1
    ·have hm : ((j : Int) % 2 == 1) = true:=by rw [beq_iff_eq]; omega
     obtain ⟨xn,xa,xl,xc,k9,i9⟩:=z9
     obtain ⟨t1,t2,t3,t4⟩:=k9.two
     go_wp2_with fail
     refine (r1neg_any _ _ W11 i9.weak HTD.out.sm).mono ?_
     rintro e w12 ⟨u,rfl,hu,hb12⟩
     obtain ⟨gn,ga,gl,gc,gx,rfl,hu'⟩:=id hu
     have HG:=Lib.hid hu'
     clear hu' t1 t2 t3 t4
     have k9:=k9.below hb12
     obtain ⟨t1,t2,t3,t4⟩:=k9.two
     go_upto_region 12 with (fail)
     refine wp_world ?_
     intro W13 hW13
     have k9n : Blk W13 b9 45 #[.bool gn,.slice ga gl gc]:=by rw [hW13.out]; exact k9.put2 _ _
     have i9 : IntV W13 (.agg #[.bool gn,.slice ga gl gc]) (-(z * D)):=by rw [hW13.out]; exact hu.ext (k9.lext2 dE _ _)
     have ho13 : ∀k,k ≠ b9->W13.heap[k]? = w12.heap[k]?:=fun k hk=>by rw [hW13.out]; exact set2_old _ _ _ _ _ _ _ hk
     have hx13 : LExt w12 W13:=by rw [hW13.out]; exact k9.lext2 dE _ _
     have bx11:=(ho13 _ oM).trans (bx11.below hb12)
     have br11:=(ho13 _ oM).trans (br11.below hb12)
     have hN11:=(hN11.below hb12).at_old (ho13 rb oM)
     have z311:=(z311.below hb12).old (ho13 b3 oM) hx13
     have q12:=hb12.size
     have qrb : rb < W13.heap.size:=by rw [hW13.out]; simp; omega
     have hb11 : Below w.heap.size w W13:=by rw [hW13.out]; exact bset (bset (nx hb11 hb12) oM _ _) oM _ _
     have HTN : HidS (Smd (-(z * D))):=⟨HTD.out.mono (by rw [Int.natAbs_neg]; exact Nat.le_refl _)⟩
     replace bx11 : Blk W13 w.heap.size 28 #[.int .i64 N,.int .i64 N,.slice (some ⟨b,0,none⟩) N cap]:=bx11
     replace br11 : Blk W13 (w.heap.size + 1) 45 #[.bool false,.slice none 0 0]:=br11
     clear hW13 t1 t2 t3 t4 k9
     have k9:=k9n
     clear k9n
     obtain ⟨yn,ya,yl,yc,k3,i3⟩:=z311
     obtain ⟨t1,t2,t3,t4⟩:=k9.two
     obtain ⟨t5,t6,t7,t8⟩:=k3.two
     go_wp2_with fail
     refine (r1add_any _ _ (lap n M j) (-(z * D)) W13 i3 i9 HL1.out.sm HTN.out.sm).mono ?_
     rintro e w14 ⟨u,rfl,hu,hbv⟩
     obtain ⟨u1,u2,u3,u4,u5,rfl,hu'⟩:=id hu
     have HUV:=Lib.hid hu'
     clear hu' t1 t2 t3 t4 t5 t6 t7 t8
     have k3:=k3.below hbv
     obtain ⟨t1,t2,t3,t4⟩:=k3.two
     rw [<-hent.out,<-HDV.out,lap_odd hodd] at hu
     go_wp2
     go_roundw
     case rel=>exact ⟨j + 1,by omega,by simp,bset (bset (nx hb11 hbv) oM _ _) oM _ _,(set2_old _ _ _ _ _ _ _ oM).trans (bx11.below hbv),(set2_old _ _ _ _ _ _ _ oM).trans (br11.below hbv),(hN11.below hbv).at_old (set2_old _ _ _ _ _ _ _ hne3),by have:=hbv.size; simp; omega,BoxI.put k3 hu⟩
     case measure=>simp [intOf]; omega
    ·have hm : ((j : Int) % 2 == 1) = false:=by rw [beq_eq_false_iff_ne]; omega
     have hodd : j % 2 = 0:=by omega
     obtain ⟨xn,xa,xl,xc,k9,i9⟩:=z9
     have HTN:=HTD
     obtain ⟨yn,ya,yl,yc,k3,i3⟩:=z311
     obtain ⟨t1,t2,t3,t4⟩:=k9.two
     obtain ⟨t5,t6,t7,t8⟩:=k3.two
     go_wp2_with fail
     refine (r1add_any _ _ (lap n M j) (z * D) W11 i3 i9 HL1.out.sm HTN.out.sm).mono ?_
     rintro e w14 ⟨u,rfl,hu,hbv⟩
     obtain ⟨u1,u2,u3,u4,u5,rfl,hu'⟩:=id hu
     have HUV:=Lib.hid hu'
     clear hu' t1 t2 t3 t4 t5 t6 t7 t8
     have k3:=k3.below hbv
     obtain ⟨t1,t2,t3,t4⟩:=k3.two
     rw [<-hent.out,<-HDV.out,lap_even hodd] at hu
     go_wp2
     go_roundw
     case rel=>exact ⟨j + 1,by omega,by simp,bset (bset (nx hb11 hbv) oM _ _) oM _ _,(set2_old _ _ _ _ _ _ _ oM).trans (bx11.below hbv),(set2_old _ _ _ _ _ _ _ oM).trans (br11.below hbv),(hN11.below hbv).at_old (set2_old _ _ _ _ _ _ _ hne3),by have:=hbv.size; simp; omega,BoxI.put k3 hu⟩
     case measure=>simp [intOf]; omega
   ·obtain rfl : j = N:=by omega
    obtain ⟨yn,ya,yl,yc,k3,i3⟩:=z3
    obtain ⟨t5,t6,t7,t8⟩:=k3.two
    obtain ⟨r1,r2,r3,r4⟩:=br.two
    go_wp2
    refine bodyPost_int rfl rfl rfl (br.put2 _ _) (i3.ext (br.lext2 dE _ _)) (bset (bset hb oM 0 _) oM 1 _)
abbrev tLst : TypeId:=103
theorem Tryz.infoLst : (Tryz.prog.info? tLst).map (fun i=>(i.zero,i.size,i.bytes)) = some (some (.slice none 0 0),1,24):=by kernel_rfl
def OwnNN (w : World) (base : Nat) (v : Value) (L : List (List Nat)) : Prop:=
 ∃cells,w.ownsRow base tLst 1 v L.length cells/\∀(k : Nat) (xs : List Nat),L[k]? = some xs->∃ao cap,cells[k]? = some (.slice ao xs.length cap)/\xs.length<=cap/\cap<=9223372036854775807/\NatsAt w ao xs
theorem OwnNN.own {w : World} {base : Nat} {v : Value} {L : List (List Nat)} (h : OwnNN w base v L) : ∀g,v.ownBlock = some g->base<=g/\g < w.heap.size:=by
 obtain ⟨cells,h,-⟩:=h
 exact h.lt
theorem OwnNN.type {w : World} {base : Nat} {v : Value} {L : List (List Nat)} (h : OwnNN w base v L) : ∀g,v.ownBlock = some g->∃cs,w.heap[g]? = some (.cells cs tLst (0,0)):=by
 obtain ⟨cells,h,-⟩:=h
 intro g hg
 rcases h.2 with ⟨rfl,-⟩ | ⟨g',cap,cur,rfl,-,hh,-⟩
 ·cases hg
 ·simp only [Value.ownBlock,Option.some.injEq] at hg
  subst hg
  exact ⟨cur,hh⟩
theorem OwnNN.len {w : World} {base : Nat} {v : Value} {L : List (List Nat)} (h : OwnNN w base v L) : ∃ao cap,v = .slice ao L.length cap/\L.length<=cap/\cap<=9223372036854775807:=by
 obtain ⟨cells,h,-⟩:=h
 rcases h.2 with ⟨rfl,h0⟩ | ⟨g,cap,cur,rfl,-,-,hn,hc,-⟩
 ·exact ⟨none,0,by rw [h0],by omega,by omega⟩
 ·exact ⟨_,_,rfl,hn,hc⟩
theorem OwnNN.mono {w : World} {base base' : Nat} {v : Value} {L : List (List Nat)} (h : OwnNN w base v L) (hb : base'<=base) : OwnNN w base' v L:=by
 obtain ⟨cells,⟨h1,h2⟩,h3⟩:=h
 exact ⟨cells,⟨h1,h2.imp id fun ⟨g,cap,cur,e,k,r⟩=>⟨g,cap,cur,e,Nat.le_trans hb k,r⟩⟩,h3⟩
theorem OwnNN.below {w w' : World} {base : Nat} {v : Value} {L : List (List Nat)} (h : OwnNN w base v L) (hb : Below w.heap.size w w') : OwnNN w' base v L:=by
 obtain ⟨cells,h1,h2⟩:=h
 refine ⟨cells,h1.kept (row:=none) ⟨hb.os,hb.tape,hb.output,hb.size,fun k hk _=>hb.block k hk⟩ (by cases hv : v.ownBlock <;> simp),fun k xs hk=>?_⟩
 obtain ⟨ao,cap,e1,e2,e3,e4⟩:=h2 k xs hk
 exact ⟨ao,cap,e1,e2,e3,e4.below hb⟩
theorem nats_ne {w : World} {b o : Nat} {xs : List Nat} {g : Nat} {cs : Array Value} (h : NatsAt w (some ⟨b,o,none⟩) xs) (hn : xs ≠ []) (hg : w.heap[g]? = some (.cells cs tLst (0,0))) : b ≠ g:=by
 rintro rfl
 obtain ⟨b',o',cs',e1,e2,-⟩:=h.2 hn
 injection e1 with e1
 injection e1 with e1
 subst e1
 exact absurd (congrArg (fun o : Option Obj=>match o with | some (Obj.cells _ t _)=>t | _=>0) (hg.symm.trans e2)) (show ¬ (tLst : TypeId) = tNn by decide)
theorem NatsAt.lists {w w' : World} {ao : Option Addr} {xs : List Nat} (h : NatsAt w ao xs) (e : ∀b,b < w.heap.size->(∀cs,w.heap[b]? ≠ some (.cells cs tLst (0,0)))->w'.heap[b]? = w.heap[b]?) : NatsAt w' ao xs:=by
 by_cases hn : xs = []
 ·subst hn; exact NatsAt.nil _ _
 ·refine h.block fun b o e' hlt=>e b hlt fun cs hc=>?_
  subst e'
  exact nats_ne h hn hc rfl
theorem OwnNN.only {S : List Nat} {w w' : World} {base : Nat} {v : Value} {L : List (List Nat)} (h : OwnNN w base v L) (ho : Only S w w') (hS : ∀g ∈ S,g < base) (hT : ∀g ∈ S,∃cs,w.heap[g]? = some (.cells cs tLst (0,0))) : OwnNN w' base v L:=by
 obtain ⟨cells,⟨h1,h2⟩,h3⟩:=h
 refine ⟨cells,⟨h1,?_⟩,fun k xs hk=>?_⟩
 ·rcases h2 with h2 | ⟨g,cap,cur,e1,e2,e3,e4⟩
  ·exact .inl h2
  ·exact .inr ⟨g,cap,cur,e1,e2,(ho.old g (Array.getElem?_eq_some_iff.1 e3).1 (fun hm=>absurd (hS g hm) oM)).trans e3,e4⟩
 ·obtain ⟨ao,cap,e1,e2,e3,e4⟩:=h3 k xs hk
  exact ⟨ao,cap,e1,e2,e3,e4.lists fun b hb hn=>ho.old b hb fun hm=>by
   obtain ⟨cs,hc⟩:=hT b hm
   exact hn cs hc⟩
theorem OwnNN.empty (w : World) (base : Nat) (h : base<=w.heap.size) : OwnNN (w.alloc (.cells #[] tLst)) base (.slice (some ⟨w.heap.size,0,none⟩) 0 0) []:=
 ⟨[],⟨by simp,.inr ⟨w.heap.size,0,#[],rfl,h,heap_alloc_new w _,Nat.le_refl _,by simp [maxLen],rfl,rfl⟩⟩,fun k xs hk=>by simp at hk⟩
theorem OwnNN.one {w : World} {base : Nat} {ao : Option Addr} {cap : Nat} {xs : List Nat} (h : NatsAt w ao xs) (hb : base<=w.heap.size) (h1 : xs.length<=cap) (h2 : cap<=9223372036854775807) : OwnNN (w.alloc (.cells #[.slice ao xs.length cap] tLst)) base (.slice (some ⟨w.heap.size,0,none⟩) 1 1) [xs]:=
 ⟨[.slice ao xs.length cap],⟨by simp,.inr ⟨w.heap.size,1,#[.slice ao xs.length cap],rfl,hb,heap_alloc_new w _,Nat.le_refl _,by simp [maxLen],rfl,rfl⟩⟩,fun k ys hk=>by
  match k with
  | 0=>
   simp at hk
   subst hk
   exact ⟨ao,cap,rfl,h1,h2,h.below ((Below.refl _ _).alloc (Nat.le_refl _) _)⟩
  | k + 1=>simp at hk⟩
theorem OwnNN.cell {w : World} {base : Nat} {ao : Option Addr} {n cap : Nat} {L : List (List Nat)} (h : OwnNN w base (.slice ao n cap) L) {k : Nat} (hk : k < L.length) :
  ∃b a c xs,ao = some ⟨b,0,none⟩/\b < w.heap.size/\L[k]? = some xs/\w.cell? ⟨b,k,none⟩ = some (.slice a xs.length c)/\xs.length<=c/\c<=9223372036854775807/\NatsAt w a xs:=by
 obtain ⟨cells,⟨h1,h2⟩,h3⟩:=h
 have hx:=List.getElem?_eq_getElem hk
 obtain ⟨a,c,e1,e2,e3,e4⟩:=h3 k _ hx
 rcases h2 with ⟨-,h0⟩ | ⟨g,cap',cur,e,k1,k2,k3,k4,k5,k6⟩
 ·omega
 ·injection e with f1 f2 f3
  subst f1
  refine ⟨g,a,c,_,rfl,(Array.getElem?_eq_some_iff.1 k2).1,hx,?_,e2,e3,e4⟩
  rw [cell_of_row w g k cur _ _ k2]
  rw [<-k6,List.getElem?_take] at e1
  split at e1
  ·simpa using e1
  ·cases e1
set_option maxRecDepth 20000 in
theorem appNN {w : World} {ops : Array Oper} {rest : List Oper} {o : Oper} {a : Act} {Q : Exit->Act->World->Prop} (hgd : o.guard = none) (s x : Operand)
  (ho : o.op = .call { callee:=.builtin .append,args:=#[s,x],argTypes:=#[100,100] })
  (base : Nat) (v : Value) (L : List (List Nat)) (hs : a.eval s = v) (hown : OwnNN w base v L) (b c : Nat) (sa : Option Addr) (sl sc : Nat) (xs : List Nat) (hx : a.eval x = .slice (some ⟨b,0,none⟩) 1 c)
  (hb : Blk w b tLst #[.slice sa sl sc]) (hxl : xs.length = sl) (hxc : sl<=sc) (hxm : sc<=9223372036854775807) (hz : NatsAt w sa xs)
  (hlen : L.length + 1<=1099511627776) (hbase : base<=w.heap.size)
  (h : ∀v' w',OwnNN w' base v' (L ++ [xs])->w.grownBy w' v.ownBlock->LExt w w'->(v'.ownBlock = v.ownBlock ∨ ∃g,v'.ownBlock = some g/\w.heap.size<=g)->wpList Tryz.prog ops Q rest (a.put o.dst v') w') : wpList Tryz.prog ops Q (o :: rest) a w:=by
 obtain ⟨i0,hi,hz0,hz1,hz2⟩:=info_parts Tryz.infoLst
 have hty:=hown.type
 obtain ⟨cells,h1,h2⟩:=hown
 have hcl : cells.length = L.length * 1:=h1.1
 have c0:=hb.cell 0
 have hnews : ∀(j : Nat) (u : Value),[Value.slice sa sl sc][j]? = some u->w.cell? ((⟨b,0,none⟩ : Addr).add j) = some u:=by
  intro j u hj
  rw [Addr.add_lit]
  match j with
  | 0=>simp at hj; subst hj; exact c0
  | j + 1=>simp at hj
 have hone : ∀u ∈ [Value.slice sa sl sc],u.oneCell' = true:=by
  intro u hu
  simp at hu
  subst hu
  rfl
 have h63 : L.length + 1<=maxLen:=by simp [maxLen]; omega
 obtain ⟨v',w',hr,k1,k2,-⟩:=run_append_own (P:=Tryz.prog) w base 100 o.type tLst i0 _ 1 24 Tryz.underlying100 hi hz0 hz1 hz2 rfl oM v L.length cells h1 ⟨b,0,none⟩ 1 c [.slice sa sl sc] rfl hnews hone h63 oM hbase
 have h3 : v'.ownBlock = v.ownBlock ∨ ∃g,v'.ownBlock = some g/\w.heap.size<=g:=by
  rcases h1.2 with ⟨rfl,h0⟩ | ⟨g,cap,cur,rfl,e2,e3,e4,e5,e6,e7⟩
  ·have hr2:=run_append_nil (P:=Tryz.prog) w 100 o.type tLst i0 _ Tryz.underlying100 hi hz0 ⟨b,0,none⟩ 1 c [.slice sa sl sc] (by rw [hz1]; rfl) hnews oM oM (by rw [hz2]; omega)
   rw [hr2] at hr
   injection hr with hv _
   exact .inr ⟨_,by rw [<-hv]; rfl,Nat.le_refl _⟩
  ·by_cases hroom : L.length + 1<=cap
   ·have hr2:=run_append_room (P:=Tryz.prog) w 100 o.type tLst i0 Tryz.underlying100 hi g L.length cap cur e3 ⟨b,0,none⟩ 1 c [.slice sa sl sc] (by rw [hz1]; rfl) hnews hone hroom (by rw [hz1,e6]; simp; omega)
    rw [hr2] at hr
    injection hr with hv _
    exact .inl (by rw [<-hv]; rfl)
   ·have hr2:=run_append_grow (P:=Tryz.prog) w 100 o.type tLst i0 _ Tryz.underlying100 hi hz0 ⟨g,0,none⟩ L.length cap cells (by rw [hz1]; exact hcl) (h1.cells (g:=g) rfl) ⟨b,0,none⟩ 1 c [.slice sa sl sc] (by rw [hz1]; rfl) hnews oM oM (growslice_fits oM (by rw [hz2]; omega))
    rw [hr2] at hr
    injection hr with hv _
    exact .inr ⟨_,by rw [<-hv]; rfl,Nat.le_refl _⟩
 have hx2:=lext_grown h1 dE k2
 have hnk : ∀ao ys,NatsAt w ao ys->NatsAt w' ao ys:=fun ao ys hn=>hn.lists fun b hb hc=>k2.block b hb fun e=>by
  obtain ⟨cs,hcs⟩:=hty b e.symm
  exact hc cs hcs
 have hvo : OwnNN w' base v' (L ++ [xs]):=by
  refine ⟨cells ++ [.slice sa sl sc],by simpa using k1,?_⟩
  intro k y hk
  rcases Nat.lt_or_ge k L.length with hlt | hge
  ·rw [List.getElem?_append_left hlt] at hk
   obtain ⟨a',c',e1,e2,e3,e4⟩:=h2 k y hk
   exact ⟨a',c',by rw [List.getElem?_append_left oM]; exact e1,e2,e3,hnk _ _ e4⟩
  ·rw [List.getElem?_append_right hge] at hk
   have hk0 : k = L.length:=by
    have:=(List.getElem?_eq_some_iff.1 hk).1
    simp at this
    omega
   subst hk0
   simp at hk
   subst hk
   refine ⟨sa,sc,?_,by omega,hxm,hnk _ _ hz⟩
   rw [List.getElem?_append_right oM,hcl,hxl]; simp
 refine wpList_plain hgd fun K hK=>?_
 unfold Oper.wp execOp
 simp only [ho,resolve,invoke,builtin,Sem.run_bind,Sem.run_pure,Result.andThen_ok,List.map_toArray,List.map_cons,List.map_nil,hs,hx,hr]
 exact hK _ _ (h v' w' hvo k2 hx2 h3)
def chs : Nat->Nat->List (List Nat)
 | _,0=>[[]]
 | 0,_ + 1=>[]
 | n + 1,k + 1=>chs n (k + 1) ++ (chs n k).map (· ++ [n])
theorem chs_zero (n : Nat) : chs n 0 = [[]]:=by cases n <;> rfl
theorem chs_succ (n k : Nat) : chs (n + 1) (k + 1) = chs n (k + 1) ++ (chs n k).map (· ++ [n]):=rfl
theorem chs_nil : ∀{n k : Nat},n < k->chs n k = []
 | 0,0,h=>absurd h oM
 | 0,k + 1,_=>rfl
 | n + 1,0,h=>absurd h oM
 | n + 1,k + 1,h=>by rw [chs_succ,chs_nil (n:=n) (k:=k + 1) oM,chs_nil (n:=n) (k:=k) oM]; rfl
theorem chs_len : ∀(n k : Nat),(chs n k).length<=2 ^ n
 | n,0=>by rw [chs_zero]; exact Nat.one_le_two_pow
 | 0,k + 1=>Nat.zero_le _
 | n + 1,k + 1=>by
  rw [chs_succ,List.length_append,List.length_map,Nat.pow_succ]
  have h1:=chs_len n (k + 1)
  have h2:=chs_len n k
  omega
theorem chs_mem : ∀{n k : Nat} {xs : List Nat},xs ∈ chs n k->xs.length = k/\∀x ∈ xs,x < n
 | n,0,xs,h=>by
  rw [chs_zero] at h
  simp at h
  subst h
  exact ⟨rfl,fun x hx=>by cases hx⟩
 | 0,k + 1,xs,h=>by cases h
 | n + 1,k + 1,xs,h=>by
  rw [chs_succ] at h
  rcases List.mem_append.1 h with h | h
  ·obtain ⟨h1,h2⟩:=chs_mem h
   exact ⟨h1,fun x hx=>Nat.lt_succ_of_lt (h2 x hx)⟩
  ·obtain ⟨ys,hy,rfl⟩:=List.mem_map.1 h
   obtain ⟨h1,h2⟩:=chs_mem hy
   refine ⟨by simp [h1],fun x hx=>?_⟩
   rcases List.mem_append.1 hx with hx | hx
   ·exact Nat.lt_succ_of_lt (h2 x hx)
   ·simp at hx
    omega
theorem chs_all : ∀{n k : Nat} {σ : Nat->Nat},Inc k σ->(∀a,a < k->σ a < n)->∃xs ∈ chs n k,∀a,a < k->xs.getD a 0 = σ a
 | n,0,σ,_,_=>⟨[],by rw [chs_zero]; simp,fun a ha=>by omega⟩
 | 0,k + 1,σ,_,h=>absurd (h 0 oM) oM
 | n + 1,k + 1,σ,hi,h=>by
  rw [chs_succ]
  by_cases hk : σ k = n
  ·have hi' : Inc k σ:=fun a ha=>hi a oM
   obtain ⟨xs,h1,h2⟩:=chs_all (n:=n) hi' fun a ha=>by
    have:=hi.lt a k ha oM
    omega
   have hl:=(chs_mem h1).1
   refine ⟨xs ++ [n],List.mem_append_right _ (List.mem_map.2 ⟨xs,h1,rfl⟩),fun a ha=>?_⟩
   rcases Nat.lt_or_ge a k with hlt | hge
   ·rw [List.getD_eq_getElem?_getD,List.getElem?_append_left oM,<-List.getD_eq_getElem?_getD]
    exact h2 a hlt
   ·obtain rfl : a = k:=by omega
    rw [List.getD_eq_getElem?_getD,List.getElem?_append_right oM,hl,Nat.sub_self]
    exact hk.symm
  ·obtain ⟨xs,h1,h2⟩:=chs_all (n:=n) hi fun a ha=>by
    have h3:=h k oM
    rcases Nat.lt_or_ge a k with hlt | hge
    ·have:=hi.lt a k hlt oM
     omega
    ·obtain rfl : a = k:=by omega
     omega
   exact ⟨xs,List.mem_append_left _ h1,h2⟩
end Go.Proofs.YtnocgagoaldfnaaGreat
