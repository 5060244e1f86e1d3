/- The fixed examples of torsionlaw13.sanity: Form and Invariants at them. smith.Invariants and smith.Form of small matrices, with what they yield. torsionref05.Filled. torsionref05: Made, Square. -/
import Derived.Test.YtnocgagoaldfnaaGreatD36
import Derived.Test.YtnocgagoaldfnaaGreatD45
set_option linter.unusedVariables false
set_option linter.unusedSimpArgs false
set_option linter.unusedSectionVars false
namespace Go.Proofs.YtnocgagoaldfnaaGreat
open Go.RowKit
theorem million : BSd 1000000:=⟨fun z hz=>⟨Nat.lt_of_lt_of_le (Nat.lt_trans hz (by
 have h1:=B32_pow_lt 0 1 oM
 show 1000000 < B32 ^ 1
 decide)) (pow_mono (by rw [DLIM_eq]; omega))⟩⟩
instance (B R C Cu Cw : Nat) (z : W5) : Decidable (okW B R C Cu Cw z):=by unfold okW; infer_instance
theorem DivR.same {n : Nat} {z y : W5} (h : DivR n z y) (hd : ∀i j,i < j->j < n->z.s i i ∣ z.s j j) : y = z:=by
 induction h with
 | refl=>rfl
 | step y i j s t h1 h2 h3 h4 h5 ih=>
  have e:=ih
  subst e
  exact absurd (hd i j h2 h3) h4
def lessL (B : Nat) (M : List (List Int)) : Bool:=M.all fun r=>r.all fun z=>decide (z.natAbs < B)
theorem lessL_smd {B : Nat} (hB : BSd B) {M : List (List Int)} (h : lessL B M = true) : ∀r ∈ M,∀z ∈ r,Smd z:=fun r hr z hz=>
 hB.smd z (of_decide_eq_true (List.all_eq_true.1 (List.all_eq_true.1 h r hr) z hz))
def MulB (B : Nat) (X Y : List (List Int)) (R m C : Nat) : Prop:=∀i,i < R->∀j,j < C->∀k,k < m->(ent X i k).natAbs < B/\(ent Y k j).natAbs < B/\(ent X i k * ent Y k j).natAbs < B/\(mulf X Y k i j).natAbs < B
instance (B : Nat) (X Y : List (List Int)) (R m C : Nat) : Decidable (MulB B X Y R m C):=by unfold MulB; infer_instance
theorem MulB.sm {B : Nat} (hB : BSm B) {X Y : List (List Int)} {R m C : Nat} (h : MulB B X Y R m C) : MulSm X Y R m C:=fun i hi j hj k hk=>
 ⟨hB.sm _ (h i hi j hj k hk).1,hB.sm _ (h i hi j hj k hk).2.1,hB.sm _ (h i hi j hj k hk).2.2.1,hB.sm _ (h i hi j hj k hk).2.2.2⟩
theorem form_column (v : Value) (w : World) (h : MatV w v (2 : Nat) (1 : Nat) [[4],[6]]) :
  Calls Tryz.prog 15 #[v] w fun e w'=>∃f,e = .returned f/\SmithV w' f 2 1 [[2],[0]] [[-1,1],[3,-2]] [[2,1],[3,1]] [[1]] [[1]]/\Below w.heap.size w w':=by
 have hr : (runGo 1000000 2 1 2 1 20 5 ⟨ent [[4],[6]],idf,idf,idf,idf⟩).map (fun y=>(genM 2 1 y.s,genM 2 2 y.u,genM 2 2 (trF y.v),genM 1 1 (trF y.w),genM 1 1 y.x,decide (okW 1000000 2 1 2 1 y))) = some ([[2],[0]],[[-1,1],[3,-2]],[[2,1],[3,1]],[[1]],[[1]],true):=by kernel_rfl
 obtain ⟨y,hy,he⟩:=Option.map_eq_some_iff.1 hr
 simp only [Prod.mk.injEq] at he
 obtain ⟨e1,e2,e3,e4,e5,e6⟩:=he
 have hs : ∀y',DivR (min 2 1) y y'->y' = y:=fun y' hd=>hd.same (fun i j h1 h2=>by omega)
 refine (form_any million v [[4],[6]] 2 1 w h ⟨rfl,by decide⟩ oM oM dE hy (fun y' _ i j h1 h2=>by omega) (fun y' hd=>by rw [hs y' hd]; exact of_decide_eq_true e6)).mono ?_
 rintro e w' ⟨f,y',rfl,hd,-,hf,hb⟩
 obtain rfl:=hs y' hd
 rw [e1,e2,e3,e4,e5] at hf
 exact ⟨f,rfl,hf,hb⟩
theorem inv_plain (v : Value) (R C : Nat) (M : List (List Int)) (l : List Int) (w : World) (h : MatV w v R C M) (hF : Fits R C M) (hR0 : 0 < R) (hR : R<=1000000) (hC : C<=1000000)
  (hr : (runGo 1000000 R C 0 0 20 5 ⟨ent M,zf,zf,zf,zf⟩).map (fun y=>(decide (∀j,j < min R C->∀i,i < j->y.s i i ∣ y.s j j),decide (∀i,i < min R C->(y.s i i).natAbs < 1000000),nzL (genV (min R C) (fun i=>divI (min R C) 0 y.s i i)))) = some (true,true,l)) (hok : okW 1000000 R C 0 0 ⟨ent M,zf,zf,zf,zf⟩) :
  Calls Tryz.prog 18 #[v] w fun e w'=>∃v,e = .returned v/\VecO w' w.heap.size v l/\Below w.heap.size w w':=by
 obtain ⟨y,hy,he⟩:=Option.map_eq_some_iff.1 hr
 simp only [Prod.mk.injEq] at he
 obtain ⟨e1,e2,e3⟩:=he
 have hdd:=of_decide_eq_true e1
 have hs : ∀y',DivR (min R C) y y'->y' = y:=fun y' hd=>hd.same (fun i j h1 h2=>hdd j h2 i h1)
 rw [<-e3]
 exact invariants_any million v M R C w h hF hR0 hR hC hok hy (fun y' hd i j h1 h2 hn=>absurd (by rw [hs y' hd]; exact hdd j h2 i h1) hn) (fun y' hd i hi=>by rw [hs y' hd]; exact of_decide_eq_true e2 i hi)
theorem inv_23 (v : Value) (w : World) (h : MatV w v (2 : Nat) (2 : Nat) [[2,0],[0,3]]) :
  Calls Tryz.prog 18 #[v] w fun e w'=>∃v,e = .returned v/\VecO w' w.heap.size v [1,6]/\Below w.heap.size w w':=by
 have hr : (runGo 1000000 2 2 0 0 20 5 ⟨ent [[2,0],[0,3]],zf,zf,zf,zf⟩).map (fun y=>(y.s 0 0,y.s 1 1,nzL (genV 2 (fun i=>divI 2 0 y.s i i)))) = some (2,3,[1,6]):=by kernel_rfl
 obtain ⟨y,hy,he⟩:=Option.map_eq_some_iff.1 hr
 simp only [Prod.mk.injEq] at he
 obtain ⟨e1,e2,e3⟩:=he
 have hs : ∀y',DivR 2 y y'->(y'.s 0 0 = 2/\y'.s 1 1 = 3) ∨ (y'.s 0 0 = 1/\y'.s 1 1 = 6):=by
  intro y' hd0
  obtain ⟨n,hn,hd⟩ : ∃n,n = 2/\DivR n y y':=⟨2,rfl,hd0⟩
  clear hr e3 hy hd0
  induction hd with
  | refl=>exact .inl ⟨e1,e2⟩
  | step y i j s t h1 h2 h3 h4 h5 ih=>
   obtain rfl : i = 0:=by omega
   obtain rfl : j = 1:=by omega
   rcases ih with ⟨a,b⟩ | ⟨a,b⟩
   ·refine .inr ⟨?_,?_⟩
    ·show divS y.s 0 1 0 0 = 1
     unfold divS
     rw [a,b]
     decide
    ·show divS y.s 0 1 1 1 = 6
     unfold divS
     rw [a,b]
     decide
   ·rw [a,b] at h4
    exact absurd ⟨6,rfl⟩ h4
 have hmin : min 2 2 = 2:=rfl
 refine (invariants_any million v [[2,0],[0,3]] 2 2 w h ⟨rfl,by decide⟩ oM oM oM dE hy ?_ ?_).mono fun e w' hv=>?_
 ·intro y' hd i j h1 h2 h3
  obtain rfl : i = 0:=by omega
  obtain rfl : j = 1:=by omega
  rcases hs y' hd with ⟨a,b⟩ | ⟨a,b⟩
  ·refine ⟨by rw [a,b]; decide,by rw [a,b]; decide,?_⟩
   intro g u v s t hg hu hv ⟨hb1,hb2,hb3⟩
   rw [a,b] at hg
   rw [a] at hu hb3
   rw [b] at hv hb2
   have hg1 : g = 1:=hg
   subst hg1
   have hu2 : u = 2:=hu
   have hv3 : v = 3:=hv
   subst hu2
   subst hv3
   have hs3 : s.natAbs<=3:=hb2
   have ht2 : t.natAbs<=2:=hb3
   rw [a]
   refine ⟨by omega,by omega,⟨by omega,by omega,by omega,by omega,fun t ht=>by omega⟩,⟨by omega,by omega,by omega,by omega,fun t ht=>by omega⟩,⟨by omega,by omega,by omega,by omega,fun t ht=>by omega⟩,⟨by omega,by omega,by omega,by omega,fun t ht=>by omega⟩⟩
  ·rw [a,b] at h3
   exact absurd ⟨6,rfl⟩ h3
 ·intro y' hd i hi
  rcases hs y' hd with ⟨a,b⟩ | ⟨a,b⟩
  ·match i,hi with
   | 0,_=>rw [a]; decide
   | 1,_=>rw [b]; decide
  ·match i,hi with
   | 0,_=>rw [a]; decide
   | 1,_=>rw [b]; decide
 ·rw [hmin,e3] at hv
  exact hv
theorem BB_pow : BB ^ 3 * 16<=B32 ^ DLIM:=by
 have e : (B32 : Nat) = 2 ^ 32:=by decide
 have h1 : BB ^ 3 * 16 = 2 ^ (EB * 3 + 4):=by unfold BB; rw [<-Nat.pow_mul,Nat.pow_add]
 have h2 : 2 ^ (EB * 3 + 4)<=(2 ^ 32) ^ EB:=by
  rw [<-Nat.pow_mul]
  exact le_pow2 oM (by rw [EB_eq]; omega)
 rw [h1]
 refine Nat.le_trans h2 ?_
 rw [<-e]
 exact pow_mono (by rw [EB_eq,DLIM_eq]; omega)
theorem BB_pos : 1<=BB:=Nat.pow_pos oM
theorem BB_97 : 2 ^ 100<=BB:=le_pow2 oM (by rw [EB_eq]; omega)
theorem BB3_smd {z : Int} (h : z.natAbs < BB ^ 3 * 16) : Smd z:=⟨Nat.lt_of_lt_of_le h BB_pow⟩
theorem BB_le3 {k n : Nat} (hk : k<=3) (hn : n<=16) : BB ^ k * n<=BB ^ 3 * 16:=Nat.mul_le_mul (le_pow2 BB_pos hk) hn
theorem BB_smd {z : Int} (h : z.natAbs < BB) : Smd z:=BB3_smd (Nat.lt_of_lt_of_le h (by have:=BB_le3 (k:=1) (n:=1) oM oM; simpa using this))
theorem BB_bsd : BSd BB:=⟨fun z h=>BB_smd h⟩
theorem small_smd {z : Int} (h : z.natAbs<=2 ^ 99) : Smd z:=BB_smd (Nat.lt_of_lt_of_le (Nat.lt_of_le_of_lt h dE) BB_97)
theorem Inv.small {R C r h : Nat} {A F : Nat->Nat->Int} (hI : Inv R C r A F) (hR : R<=4) (h1 : 1<=h) (hA : leM h R C A) : (prodN r (fun i=>F i i)).natAbs<=24 * h ^ 4:=by
 have hr : r<=min R C:=hI.dg.le
 have hp : 0 < prodN r (fun i=>F i i):=prodN_pos fun i hi=>hI.dg.pos i hi
 have hm:=hI.minors hr
 have hne : ∃σ τ : Nat->Nat,(∀a,a < r->σ a < R)/\(∀a,a < r->τ a < C)/\det r (fun a b=>A (σ a) (τ b)) ≠ 0:=by
  refine Classical.byContradiction fun hn=>?_
  have : MinD R C r A 0:=fun σ τ hσ hτ=>by
   have : det r (fun a b=>A (σ a) (τ b)) = 0:=Classical.byContradiction fun h0=>hn ⟨σ,τ,hσ,hτ,h0⟩
   rw [this]
   exact Int.dvd_refl 0
  have:=Int.zero_dvd.1 (hI.gen hr this)
  omega
 obtain ⟨σ,τ,hσ,hτ,h0⟩:=hne
 refine Nat.le_trans (Nat.le_of_dvd oM (Int.natAbs_dvd_natAbs.2 (hm σ τ hσ hτ))) ?_
 exact det_le (F:=fun a b=>A (σ a) (τ b)) oM h1 fun a ha b hb=>hA _ (hσ a ha) _ (hτ b hb)
theorem filter_all {n : Nat} {f : Nat->Int} (hp : ∀i,i < n->f i ≠ 0) : nzL (genV n f) = genV n f:=by
 unfold nzL genV
 rw [List.filter_eq_self]
 intro z hz
 obtain ⟨i,hi,rfl⟩:=List.mem_map.1 hz
 exact decide_eq_true (hp i (List.mem_range.1 hi))
theorem filter_gen {n r : Nat} {f : Nat->Int} (hr : r<=n) (hp : ∀i,i < r->f i ≠ 0) (hz : ∀i,r<=i->i < n->f i = 0) : nzL (genV n f) = genV r f:=by
 induction n with
 | zero=>
  obtain rfl : r = 0:=by omega
  rfl
 | succ n ih=>
  have e : genV (n + 1) f = genV n f ++ [f n]:=by unfold genV; rw [List.range_succ,List.map_append]; rfl
  rw [e,nzL_snoc]
  by_cases h : r = n + 1
  ·subst h
   rw [if_pos (hp n oM),filter_all (fun i hi=>hp i oM),e]
  ·rw [if_neg (by rw [hz n oM oM]; simp),ih oM fun i h1 h2=>hz i h1 oM]
theorem Inv.empty (C : Nat) (A : Nat->Nat->Int) : Inv 0 C 0 A A:=
 ⟨⟨fun a ha=>by omega,fun i hi=>by omega,fun i _ hi=>by omega,by omega⟩,fun a b _ h1 h2=>by omega,⟨idf,idf,fun a ha=>by omega⟩,⟨idf,idf,fun a ha=>by omega⟩⟩
theorem inv_all (v : Value) (M : List (List Int)) (R C : Nat) (w : World) (h : MatV w v R C M) (hF : Fits R C M) (hR : R<=4) (hC : C<=4) (hA : leM 1048576 R C (ent M)) :
  Calls Tryz.prog 18 #[v] w fun e w'=>∃v F r,e = .returned v/\Inv R C r (ent M) F/\VecO w' w.heap.size v (genV r fun i=>F i i)/\Below w.heap.size w w':=by
 rcases Nat.eq_zero_or_pos R with h0 | h0
 ·subst h0
  refine (invariants_none v C M w h hF).mono ?_
  rintro e w' ⟨v,rfl,h1,h2⟩
  exact ⟨v,ent M,0,rfl,Inv.empty C _,h1,h2⟩
 ·have z0 : ∀n,leM 1 n 0 zf:=fun n a _ b hb=>by omega
  obtain ⟨f,rr,L,r,h1,h2,h3,h4,h5⟩:=smith_all (z:=⟨ent M,zf,zf,zf,zf⟩) (Cu:=0) (Cw:=0) hR hC hA (z0 R) (z0 R) (z0 C) (z0 C)
  have hr:=Rel.rnds h2 (Rel.start R C (ent M))
  have hs : (rnds L ⟨ent M,idf,idf,idf,idf⟩).s = (rnds L ⟨ent M,zf,zf,zf,zf⟩).s:=rnds_s L rfl
  have hRS : RelS R C r (ent M) (rnds L ⟨ent M,zf,zf,zf,zf⟩).s:=by
   rw [<-hs] at h4 ⊢
   exact ⟨h4,(rnds L ⟨ent M,idf,idf,idf,idf⟩).u,(rnds L ⟨ent M,idf,idf,idf,idf⟩).v,(rnds L ⟨ent M,idf,idf,idf,idf⟩).w,(rnds L ⟨ent M,idf,idf,idf,idf⟩).x,hr⟩
  have hRS2:=RelS.divI (min R C) 0 _ oM hRS
  have hI:=Inv.of_relS hRS2 (divI_chain (n:=min R C) (min R C) 0 _ oM)
  refine (invariants_any BB_bsd v M R C w h hF h0 oM oM h3 h1 (fun y' hy i j h6 h7 h8=>(h5 y' hy).2 i j h6 h7 h8) (fun y' hy i hi=>(h5 y' hy).1.1 i oM i oM)).mono ?_
  rintro e w' ⟨v,rfl,k1,k2⟩
  rw [filter_gen hI.dg.le (fun i hi=>by have:=hI.dg.pos i hi; omega) (fun i a b=>hI.dg.zero i a b)] at k1
  exact ⟨v,_,r,rfl,hI,k1,k2⟩
theorem dg_isM2 {R C r : Nat} {F : Nat->Nat->Int} (hd : Dg R C r F) (hc : Chn 0 (min R C) F) : IsM2 R C (genM R C F) = true:=by
 unfold IsM2
 rw [decide_eq_true (genM_fits R C F).valid,Bool.true_and,Int.toNat_natCast,Int.toNat_natCast,diagL_genM oM oM,Bool.and_eq_true]
 constructor
 ·have : ∀d i,i + d = R->diagGo i ((genM R C F).drop i) = true:=by
   intro d
   induction d with
   | zero=>
    intro i hi
    rw [List.drop_eq_nil_of_le (by rw [(genM_fits R C F).1]; omega)]
    rfl
   | succ d ih=>
    intro i hi
    have e1 : (genM R C F)[i]? = some (genV C (F i)):=by simp [genM,genV,show i < R by omega]
    rw [drop_cons e1,diagGo_step,ih (i + 1) oM]
    intro t ht hne
    rw [genV_length] at ht
    rw [getD_of (genV_get ht)]
    exact hd.off i oM t ht oM
  exact this R 0 oM
 ·have : ∀d i (last : Int),i + d = min R C->(i < min R C->last ∣ F i i)->chainGo last ((genV (min R C) fun i=>F i i).drop i) = true:=by
   intro d
   induction d with
   | zero=>
    intro i last hi _
    rw [List.drop_eq_nil_of_le (by rw [genV_length]; omega)]
    rfl
   | succ d ih=>
    intro i last hi hl
    rw [drop_cons (genV_get oM),chainGo_step (hd.nonneg oM) (hl oM)]
    exact ih (i + 1) _ oM fun h=>hc i (i + 1) (Nat.zero_le _) oM h
  exact this (min R C) 0 1 oM fun _=>Int.one_dvd _
def I8V (w : World) (v : Value) (ls : List Int) : Prop:=
 ∃ao n cap,v = .slice ao n cap/\ls.length = n/\n<=cap/\cap<=9223372036854775807/\(∀z ∈ ls,-128<=z/\z<=127) ∧
  (ls ≠ []->∃b off,ao = some ⟨b,off,none⟩/\b < w.heap.size/\∀(k : Nat) (z : Int),ls[k]? = some z->w.cell? ⟨b,off + k,none⟩ = some (.int .i8 z))
theorem I8V.cell {w : World} {ao : Option Addr} {n cap : Nat} {ls : List Int} (h : I8V w (.slice ao n cap) ls) {k : Nat} (hk : k < ls.length) :
  ∃b off z,ao = some ⟨b,off,none⟩/\b < w.heap.size/\ls[k]? = some z/\w.cell? ⟨b,off + k,none⟩ = some (.int .i8 z)/\-128<=z/\z<=127:=by
 obtain ⟨ao',n',cap',h1,h2,h3,h4,h5,h6⟩:=h
 injection h1 with e1 e2 e3
 subst e1
 obtain ⟨b,off,e,hb,hc⟩:=h6 (by rintro rfl; simp at hk)
 have hz:=List.getElem?_eq_getElem hk
 have:=h5 _ (List.mem_of_getElem? hz)
 exact ⟨b,off,_,e,hb,hz,hc _ _ hz,this.1,this.2⟩
theorem I8V.below {w w' : World} {v : Value} {ls : List Int} (h : I8V w v ls) (hb : Below w.heap.size w w') : I8V w' v ls:=by
 obtain ⟨ao,n,cap,h1,h2,h3,h4,h5,h6⟩:=h
 refine ⟨ao,n,cap,h1,h2,h3,h4,h5,fun hne=>?_⟩
 obtain ⟨b,off,e,hlt,hc⟩:=h6 hne
 exact ⟨b,off,e,Nat.lt_of_lt_of_le hlt hb.size,fun k z hz=>(hb.cell (p:=⟨b,off + k,none⟩) hlt).trans (hc k z hz)⟩
def digF (C : Nat) (ls : List Int) : Nat->Nat->Int:=fun i j=>(ls.getD (i * C + j) 0).tmod 10
theorem digF_out {C : Nat} {ls : List Int} {i j : Nat} (h : ls.length<=i * C + j) : digF C ls i j = 0:=by
 unfold digF
 rw [List.getD_eq_getElem?_getD,List.getElem?_eq_none h]
 rfl
theorem tmod10 {z : Int} : (Int.tmod z 10).natAbs<=9:=by
 rcases Int.le_total 0 z with h | h
 ·rw [Int.tmod_eq_emod_of_nonneg h]; omega
 ·have : Int.tmod z 10 = -(Int.tmod (-z) 10):=by rw [Int.neg_tmod]; omega
  rw [this,Int.tmod_eq_emod_of_nonneg oM]; omega
theorem digF_le (C : Nat) (ls : List Int) (i j : Nat) : (digF C ls i j).natAbs<=9:=tmod10
theorem upTo_rest {R C : Nat} {f : Nat->Nat->Int} {i j : Nat} (h : ∀b,j<=b->f i b = 0) : genM R C (upTo f i j) = genM R C (upTo f (i + 1) 0):=
 genM_congr fun a _ b _=>by
  unfold upTo
  by_cases e : a < i ∨ (a = i/\b < j)
  ·rw [if_pos e,if_pos oM]
  ·rw [if_neg e]
   by_cases e2 : a < i + 1 ∨ a = i + 1/\b < 0
   ·rw [if_pos e2]
    obtain rfl : a = i:=by omega
    exact (h b oM).symm
   ·rw [if_neg e2]
set_option maxHeartbeats 4000000 in
set_option maxRecDepth 20000 in
theorem filled_any (v : Value) (R C : Nat) (ls : List Int) (w : World) (h : I8V w v ls) (hR : R<=16) (hC : C<=16) :
  Calls Tryz.prog 44 #[.int .i64 R,.int .i64 C,v] w (RetMat w R C (genM R C (digF C ls))):=by
 obtain ⟨ao,n,cap,rfl,h2,h3,h4,-,-⟩:=id h
 have HL:=Lib.hid h2
 obtain ⟨f,hf⟩ : ∃f : Nat->Nat->Int,digF C ls = f:=⟨_,rfl⟩
 rw [hf]
 have HFE : HidS (∀i j,f i j = digF C ls i j):=⟨fun i j=>by rw [<-hf]⟩
 clear hf h2
 go_enter Tryz.func44,Tryz.ntmps44
 go_upto_region 1 with (fail)
 refine wp_world ?_
 intro W0 hW0
 obtain ⟨hB0,br,hs0⟩:=world1 hW0
 have e1 : min (R : Int) 16 = R:=by omega
 have e2 : min (C : Int) 16 = C:=by omega
 go_wp2_with fail
 refine (r5new_any R C W0 oM oM).mono ?_
 rintro e w2 ⟨u,bs,rfl,⟨hbl,A2,rfl,ho⟩,hb2⟩
 obtain ⟨oo,on,oc,rfl,-,-,-,-⟩:=id ho.rows
 have hlts:=ho.lts
 go_upto_region 2 with (fail)
 refine wp_world ?_
 intro W3 hW3
 obtain ⟨hB3,T7,hs3⟩:=world1 hW3
 have br:=(br.below hb2).below hB3
 have ho:=ho.below hB3
 rw [upTo_start R C f] at ho
 have hBt:=nx (nx hB0 hb2) hB3
 have q2:=hb2.size
 clear hW3 hW0 e1 e2
 go_wp2
 go_loopw [8] (fun iv wr=>∃i : Nat,i<=R/\iv = .int .i64 i/\Below w.heap.size w wr/\Blk wr w.heap.size 28 #[.int .i64 0,.int .i64 0,.slice none 0 0]/\Blk wr w2.heap.size 28 #[.int .i64 R,.int .i64 C,.slice oo on oc]/\RowsO wr W0.heap.size (.slice oo on oc) C bs (genM R C (upTo f i 0))) (fun iv _=>R - (intOf iv).toNat)
 case atStart=>exact ⟨0,by omega,rfl,hBt,br,T7,ho⟩
 case round=>
  obtain ⟨i,hi,rfl,hb,br,T7,ho⟩:=hrel
  obtain ⟨f1,f2,f3,f4,f5,f6⟩:=T7.three
  by_cases hlt : i < R
  ·go_wp2
   clear f1 f2 f3 f4 f5 f6
   go_loopw [9] (fun jv wr=>∃j : Nat,j<=C/\jv = .int .i64 j/\Below w.heap.size w wr/\Blk wr w.heap.size 28 #[.int .i64 0,.int .i64 0,.slice none 0 0]/\Blk wr w2.heap.size 28 #[.int .i64 R,.int .i64 C,.slice oo on oc]/\RowsO wr W0.heap.size (.slice oo on oc) C bs (genM R C (upTo f i j))) (fun jv _=>C - (intOf jv).toNat)
   case atStart=>exact ⟨0,by omega,rfl,hb,br,T7,ho⟩
   case round=>
    obtain ⟨j,hj,rfl,hb,br,T7,ho⟩:=hrel
    obtain ⟨f1,f2,f3,f4,f5,f6⟩:=T7.three
    obtain ⟨m,hm⟩ : ∃m,i * C + j = m:=⟨_,rfl⟩
    have hmi : (i : Int) * (C : Int) + (j : Int) = (m : Int):=by rw [<-hm,Int.natCast_add,Int.natCast_mul]
    have hiC : i * C<=16 * 16:=Nat.mul_le_mul oM hC
    have hp0 : 0<=(i : Int) * (C : Int):=by rw [<-Int.natCast_mul]; omega
    have hp1 : (i : Int) * (C : Int)<=1000000:=by rw [<-Int.natCast_mul]; omega
    have hw1 : IntKind.i64.wrap ((i : Int) * (C : Int)) = (i : Int) * (C : Int):=IntWalk.i64_in _ oM
    have hw2 : IntKind.i64.wrap (m : Int) = (m : Int):=IntWalk.i64_in _ oM
    have hmm : IntKind.i64.wrap ((i : Int) * (C : Int) + (j : Int)) = (m : Int):=by rw [hmi,hw2]
    by_cases hjc : j < C
    ·by_cases hmn : m < n
     ·obtain ⟨b,off,z,rfl,hbl1,hz,c1,z1,z2⟩:=h.cell (k:=m) (by rw [HL.out]; exact hmn)
      have hcell:=(hb.cell (p:=⟨b,off + m,none⟩) hbl1).trans c1
      have hent : Hid (f i j = Int.tmod z 10):=Lib.hid (by rw [HFE.out]; unfold digF; rw [hm,getD_of hz])
      have ht9 : (Int.tmod z 10).natAbs<=9:=tmod10
      obtain ⟨t,ht⟩ : ∃t,Int.tmod z 10 = t:=⟨_,rfl⟩
      rw [ht] at hent ht9
      obtain ⟨g,bo,rfl,hg,hbo,hbo2,o1,ho3⟩:=ho.at_ (i:=i) oM
      have hio : i < on:=by omega
      have HO3:=Lib.hid ho3
      have HM:=Lib.hid hm
      have HT:=HidS.mk ht
      have lt7:=T7.lt
      clear ho3 hm hz hiC c1 ht
      go_upto_region 8 with (fail)
      refine wp_region_headed 19 rfl (RI wr (wr.heap.size) _ 45
        [⟨0,40,fun _ v=>v = .pointer (some ⟨w2.heap.size,2,none⟩)⟩,⟨1,41,fun _ v=>v = .slice (some ⟨g,0,none⟩) on oc⟩,⟨2,42,fun _ v=>v = .int .i64 i⟩,⟨3,43,fun _ v=>v = .pointer (some ⟨g,i,none⟩)⟩,⟨4,44,fun _ v=>v = .slice (some ⟨bo,0,none⟩) C C⟩,⟨5,45,fun _ v=>v = .int .i64 j⟩,⟨6,46,fun _ v=>v = .slice (some ⟨b,off,none⟩) n cap⟩,⟨7,47,fun _ v=>v = .int .i64 i⟩,⟨8,48,fun _ v=>v = .pointer (some ⟨w2.heap.size,1,none⟩)⟩,⟨9,49,fun _ v=>v = .int .i64 C⟩,⟨10,50,fun _ v=>v = .int .i64 ((i : Int) * (C : Int))⟩,⟨11,51,fun _ v=>v = .int .i64 j⟩,⟨12,52,fun _ v=>v = .int .i64 m⟩,⟨13,53,fun _ v=>v = .pointer (some ⟨b,off + m,none⟩)⟩,⟨14,54,fun _ v=>v = .int .i8 z⟩,⟨15,55,fun _ v=>v = .int .i8 t⟩,⟨16,56,fun _ v=>v = .int .i64 t⟩,⟨17,57,fun w v=>IntV w v (t)⟩,⟨18,58,fun _ v=>v = .pointer (some ⟨bo,j * 2,none⟩)⟩]
        [] []) kR RI.start ?fin1 ?steps1
      case steps1=>
       refine ⟨?_,?_,?_,?_,?_,?_,?_,?_,?_,?_,?_,?_,?_,?_,?_,?_,?_,?_,?_,trivial⟩ <;> (intro L T wS hL hd hcl hI K hK; try refine step_wanted rfl ?_)
       ·have zt : T[7]? = some (.pointer (some ⟨w2.heap.size,0,none⟩)):=hI.keep 7 sI sI
        go_simp
        exact hK _ _ (hI.y mm0 rfl)
       ·obtain ⟨v0,zt0,rfl⟩:=hI.v mm0 (hd 0)
        have cc0:=hI.cell f3 oM nom
        go_simp
        exact hK _ _ (hI.y mm1 rfl)
       ·have zt : T[8]? = some (.int .i64 i):=hI.keep 8 sI sI
        go_simp
        exact hK _ _ (hI.y mm2 rfl)
       ·obtain ⟨v1,zt1,rfl⟩:=hI.v mm1 (hd 1)
        obtain ⟨v2,zt2,rfl⟩:=hI.v mm2 (hd 2)
        go_simp
        exact hK _ _ (hI.y mm3 rfl)
       ·obtain ⟨v3,zt3,rfl⟩:=hI.v mm3 (hd 3)
        have cc0:=hI.cell o1 oM nom
        go_simp
        exact hK _ _ (hI.y mm4 rfl)
       ·have zt : T[9]? = some (.int .i64 j):=hI.keep 9 sI sI
        go_simp
        exact hK _ _ (hI.y mm5 rfl)
       ·have zt : T[2]? = some (.slice (some ⟨b,off,none⟩) n cap):=hI.keep 2 sI sI
        go_simp
        exact hK _ _ (hI.y mm6 rfl)
       ·have zt : T[8]? = some (.int .i64 i):=hI.keep 8 sI sI
        go_simp
        exact hK _ _ (hI.y mm7 rfl)
       ·have zt : T[7]? = some (.pointer (some ⟨w2.heap.size,0,none⟩)):=hI.keep 7 sI sI
        go_simp
        exact hK _ _ (hI.y mm8 rfl)
       ·obtain ⟨v8,zt8,rfl⟩:=hI.v mm8 (hd 8)
        have cc0:=hI.cell f2 oM nom
        go_simp
        exact hK _ _ (hI.y mm9 rfl)
       ·obtain ⟨v7,zt7,rfl⟩:=hI.v mm7 (hd 7)
        obtain ⟨v9,zt9,rfl⟩:=hI.v mm9 (hd 9)
        go_simp
        exact hK _ _ (hI.y mm10 rfl)
       ·have zt : T[9]? = some (.int .i64 j):=hI.keep 9 sI sI
        go_simp
        exact hK _ _ (hI.y mm11 rfl)
       ·obtain ⟨v10,zt10,rfl⟩:=hI.v mm10 (hd 10)
        obtain ⟨v11,zt11,rfl⟩:=hI.v mm11 (hd 11)
        go_simp
        exact hK _ _ (hI.y mm12 rfl)
       ·obtain ⟨v6,zt6,rfl⟩:=hI.v mm6 (hd 6)
        obtain ⟨v12,zt12,rfl⟩:=hI.v mm12 (hd 12)
        go_simp
        exact hK _ _ (hI.y mm13 rfl)
       ·obtain ⟨v13,zt13,rfl⟩:=hI.v mm13 (hd 13)
        have cc0:=hI.cell hcell oM nom
        go_simp
        exact hK _ _ (hI.y mm14 rfl)
       ·obtain ⟨v14,zt14,rfl⟩:=hI.v mm14 (hd 14)
        go_simp
        exact hK _ _ (hI.y mm15 (congrArg (Value.int .i8) HT.out))
       ·obtain ⟨v15,zt15,rfl⟩:=hI.v mm15 (hd 15)
        go_simp
        exact hK _ _ (hI.y mm16 (congrArg (Value.int .i64) (IntWalk.i64_in _ oM)))
       ·obtain ⟨v16,zt16,rfl⟩:=hI.v mm16 (hd 16)
        go_simp
        refine (r1of_any t _ oM oM).mono ?_
        rintro e wa ⟨v,rfl,hv,hba⟩
        exact hK _ _ ((hI.world hba).y mm17 hv)
       ·obtain ⟨v4,zt4,rfl⟩:=hI.v mm4 (hd 4)
        obtain ⟨v5,zt5,rfl⟩:=hI.v mm5 (hd 5)
        go_simp
        exact hK _ _ (hI.y mm18 rfl)
      intro T w9 hI
      obtain ⟨va0,q0,rfl⟩:=hI.v mm0 rfl
      obtain ⟨va1,q1,rfl⟩:=hI.v mm1 rfl
      obtain ⟨va2,q2,rfl⟩:=hI.v mm2 rfl
      obtain ⟨va3,q3,rfl⟩:=hI.v mm3 rfl
      obtain ⟨va4,q4,rfl⟩:=hI.v mm4 rfl
      obtain ⟨va5,q5,rfl⟩:=hI.v mm5 rfl
      obtain ⟨va6,q6,rfl⟩:=hI.v mm6 rfl
      obtain ⟨va7,q7,rfl⟩:=hI.v mm7 rfl
      obtain ⟨va8,q8,rfl⟩:=hI.v mm8 rfl
      obtain ⟨va9,q9,rfl⟩:=hI.v mm9 rfl
      obtain ⟨va10,q10,rfl⟩:=hI.v mm10 rfl
      obtain ⟨va11,q11,rfl⟩:=hI.v mm11 rfl
      obtain ⟨va12,q12,rfl⟩:=hI.v mm12 rfl
      obtain ⟨va13,q13,rfl⟩:=hI.v mm13 rfl
      obtain ⟨va14,q14,rfl⟩:=hI.v mm14 rfl
      obtain ⟨va15,q15,rfl⟩:=hI.v mm15 rfl
      obtain ⟨va16,q16,rfl⟩:=hI.v mm16 rfl
      obtain ⟨va17,q17,ha17⟩:=hI.v mm17 rfl
      replace ha17 : IntV w9 va17 (t):=ha17
      obtain ⟨va18,q18,rfl⟩:=hI.v mm18 rfl
      have hT:=tmps_set [(40,.pointer (some ⟨w2.heap.size,2,none⟩)),(41,.slice (some ⟨g,0,none⟩) on oc),(42,.int .i64 i),(43,.pointer (some ⟨g,i,none⟩)),(44,.slice (some ⟨bo,0,none⟩) C C),(45,.int .i64 j),(46,.slice (some ⟨b,off,none⟩) n cap),(47,.int .i64 i),(48,.pointer (some ⟨w2.heap.size,1,none⟩)),(49,.int .i64 C),(50,.int .i64 ((i : Int) * (C : Int))),(51,.int .i64 j),(52,.int .i64 m),(53,.pointer (some ⟨b,off + m,none⟩)),(54,.int .i8 z),(55,.int .i8 t),(56,.int .i64 t),(57,va17),(58,.pointer (some ⟨bo,j * 2,none⟩))]
       (fun j hj=>hI.keep j (by simp only [List.forall_mem_cons] at hj ⊢; simp [hj]) (by simp only [List.forall_mem_cons] at hj ⊢; simp [hj]))
       (by simp only [List.forall_mem_cons]; simp [q0,q1,q2,q3,q4,q5,q6,q7,q8,q9,q10,q11,q12,q13,q14,q15,q16,q17,q18]) hI.size
      have hlw9:=hI.lext
      have hbw9:=hI.bel (wr.heap.size) oM nom
      have holdw9:=hI.old
      clear hI
      simp only [List.foldl_cons,List.foldl_nil,List.setIfInBounds_toArray,List.set_cons_zero,List.set_cons_succ,ptr] at hT
      subst hT
      clear q0 q1 q2 q3 q4 q5 q6 q7 q8 q9 q10 q11 q12 q13 q14 q15 q16 q17 q18
      simp only [List.drop_succ_cons,List.drop_zero]
      obtain ⟨pn,pa,pl,pc,px,rfl,hpx⟩:=id ha17
      have HPX:=Lib.hid hpx
      clear hpx
      have ho9:=ho.below hbw9
      obtain ⟨sn,sa,sl,sc,y1,y2,y3,y4,-⟩:=ho9.cellAt hbo hjc
      have hbolt:=hlts i bo hbo
      have hset:=ho9.set hbo hjc ha17
      clear hw1 hw2 hmi hp0 hp1 hmm ht9
      go_wp2
      go_roundw
      case rel=>
       rw [<-hent.out,upTo_step hlt hjc] at hset
       exact ⟨j + 1,by omega,by simp,bset (bset (nx hb hbw9) oM _ _) oM _ _,(set2_old _ _ _ _ _ _ _ oM).trans (br.below hbw9),(set2_old _ _ _ _ _ _ _ oM).trans (T7.below hbw9),hset.1⟩
      case measure=>simp [intOf]; omega
     ·have hrest : ∀b,j<=b->f i b = 0:=fun b hb=>by
       rw [HFE.out]
       exact digF_out (by rw [HL.out]; omega)
      rw [upTo_rest hrest] at ho
      clear hmi hp0 hp1 hiC hm
      go_wp2
      go_roundw
      case rel=>exact ⟨i + 1,by omega,by simp,hb,br,T7,ho⟩
      case measure=>simp [intOf]; omega
    ·obtain rfl : j = C:=by omega
     rw [upTo_row] at ho
     clear hmi hp0 hp1 hmm hw1 hw2
     go_wp2
     go_roundw
     case rel=>exact ⟨i + 1,by omega,by simp,hb,br,T7,ho⟩
     case measure=>simp [intOf]; omega
  ·obtain rfl : i = R:=by omega
   rw [upTo_end] at ho
   obtain ⟨r1,r2,r3,r4,r5,r6⟩:=br.three
   have q1:=hB0.size
   go_wp2
   refine bodyPost_mat rfl rfl rfl (br.put3 _ _ _) ⟨_,bs,rfl,⟨hbl,_,rfl,?_⟩,bset (bset (bset hb oM 0 _) oM 1 _) oM 2 _⟩
   exact (ho.keep (fun k hk=>set3_old _ _ k _ _ _ oM) (br.lext3 dE _ _ _)).mono q1
set_option maxHeartbeats 4000000 in
set_option maxRecDepth 20000 in
theorem rawMade_any (v : Value) (r c : Nat) (ls : List Int) (w : World) (h : I8V w v ls) (hr : r<=255) (hc : c<=255) (R C : Nat) (hR : R = r % 5) (hC : C = c % 5) :
  Calls Tryz.prog 13 #[.agg #[.int .u8 r,.int .u8 c,v]] w (RetMat w R C (genM R C (digF C ls))):=by
 obtain ⟨ao,n,cap,rfl,-,-,-,-,-⟩:=id h
 go_enter Tryz.func13,Tryz.ntmps13
 go_upto_region 1 with (fail)
 refine wp_world ?_
 intro W0 hW0
 obtain ⟨hB0,bx1,br,hs0⟩:=world2 hW0
 obtain ⟨c1,c2,c3,c4,c5,c6⟩:=bx1.three
 have e1 : (r : Int) % 5 = (R : Int):=by omega
 have e2 : (c : Int) % 5 = (C : Int):=by omega
 have hR4 : R<=4:=by omega
 have hC4 : C<=4:=by omega
 clear hR hC
 go_wp2_with fail
 refine (filled_any _ R C ls W0 (h.below hB0) oM oM).mono ?_
 rintro e w2 ⟨u,bs,rfl,⟨hbl,A2,rfl,ho⟩,hb2⟩
 obtain ⟨oo,on,oc,rfl,-,-,-,-⟩:=id ho.rows
 have br:=br.below hb2
 obtain ⟨r1,r2,r3,r4,r5,r6⟩:=br.three
 have hBt:=nx hB0 hb2
 have q1:=hB0.size
 clear c1 c2 c3 c4 c5 c6
 go_wp2
 refine bodyPost_mat rfl rfl rfl (br.put3 _ _ _) ⟨_,bs,rfl,⟨hbl,_,rfl,?_⟩,bset (bset (bset hBt oM 0 _) oM 1 _) oM 2 _⟩
 exact (ho.keep (fun k hk=>set3_old _ _ k _ _ _ oM) (br.lext3 dE _ _ _)).mono q1
set_option maxHeartbeats 4000000 in
set_option maxRecDepth 20000 in
theorem rawSquare_any (v : Value) (r c : Nat) (ls : List Int) (w : World) (h : I8V w v ls) (hr : r<=255) (hc : c<=255) (R : Nat) (hR : R = r % 5) (_hc : c<=255) :
  Calls Tryz.prog 35 #[.agg #[.int .u8 r,.int .u8 c,v]] w (RetMat w R R (genM R R (digF R ls))):=by
 obtain ⟨ao,n,cap,rfl,-,-,-,-,-⟩:=id h
 go_enter Tryz.func35,Tryz.ntmps35
 go_upto_region 1 with (fail)
 refine wp_world ?_
 intro W0 hW0
 obtain ⟨hB0,bx1,br,hs0⟩:=world2 hW0
 obtain ⟨c1,c2,c3,c4,c5,c6⟩:=bx1.three
 have e1 : (r : Int) % 5 = (R : Int):=by omega
 skip
 have hR4 : R<=4:=by omega
 have hC4 : R<=4:=by omega
 clear hR
 go_wp2_with fail
 refine (filled_any _ R R ls W0 (h.below hB0) oM oM).mono ?_
 rintro e w2 ⟨u,bs,rfl,⟨hbl,A2,rfl,ho⟩,hb2⟩
 obtain ⟨oo,on,oc,rfl,-,-,-,-⟩:=id ho.rows
 have br:=br.below hb2
 obtain ⟨r1,r2,r3,r4,r5,r6⟩:=br.three
 have hBt:=nx hB0 hb2
 have q1:=hB0.size
 clear c1 c2 c3 c4 c5 c6
 go_wp2
 refine bodyPost_mat rfl rfl rfl (br.put3 _ _ _) ⟨_,bs,rfl,⟨hbl,_,rfl,?_⟩,bset (bset (bset hBt oM 0 _) oM 1 _) oM 2 _⟩
 exact (ho.keep (fun k hk=>set3_old _ _ k _ _ _ oM) (br.lext3 dE _ _ _)).mono q1
end Go.Proofs.YtnocgagoaldfnaaGreat
