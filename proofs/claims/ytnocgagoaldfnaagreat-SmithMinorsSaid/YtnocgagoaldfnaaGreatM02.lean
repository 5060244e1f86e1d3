/- Joined. -/
import Derived.Test.YtnocgagoaldfnaaGreatM01
set_option linter.unusedVariables false
set_option linter.unusedSimpArgs false
set_option linter.unusedSectionVars false
namespace Go.Proofs.YtnocgagoaldfnaaGreat
open Go.RowKit
theorem nats_one (w : World) (l : Nat) (hl : l<=1000000) : NatsAt (w.alloc (.cells #[.int .i64 l] tNn)) (some ⟨w.heap.size,0,none⟩) [l]:=
 ⟨by simp; omega,fun _=>⟨_,0,_,rfl,heap_alloc_new w _,fun k x hk=>by
  match k with
  | 0=>simp at hk; subst hk; rfl
  | k + 1=>simp at hk⟩⟩
theorem take_snoc {α β : Type} {L : List α} {i : Nat} {x : α} (h : L[i]? = some x) (f : α->β) : (L.take (i + 1)).map f = (L.take i).map f ++ [f x]:=by
 have hi:=(List.getElem?_eq_some_iff.1 h).1
 rw [List.take_add_one,h]
 simp
set_option maxHeartbeats 8000000 in
set_option maxRecDepth 20000 in
theorem choices_any : ∀(k n : Nat) (w : World),k<=n->n<=4 ->
  Calls Tryz.prog 78 #[.int .i64 n,.int .i64 k] w fun e w'=>∃v,e = .returned v/\OwnNN w' w.heap.size v (chs n k)/\Below w.heap.size w w':=by
 intro k
 induction k with
 | zero=>
  intro n w _ _
  go_enter Tryz.func78,Tryz.ntmps78
  go_upto_region 1 with (fail)
  go_wp2
  go_ret
  refine ⟨_,rfl,?_,((Below.refl _ _).alloc (Nat.le_refl _) _).alloc sI _⟩
  rw [chs_zero]
  have h1:=OwnNN.one (base:=w.heap.size) (w:=w.alloc (.cells #[] tNn)) (xs:=[]) (ao:=some ⟨w.heap.size,0,none⟩) (cap:=0) (NatsAt.nil _ _) sI (Nat.le_refl _) oM
  rw [World.size_alloc] at h1
  exact h1
 | succ k ih=>
  intro n w hkn hn
  obtain ⟨K,hK⟩ : ∃K,K = k + 1:=⟨_,rfl⟩
  rw [<-hK]
  have hne : ((K : Int) == 0) = false:=by rw [beq_eq_false_iff_ne]; omega
  have hwk : IntKind.i64.wrap ((K : Int) - 1) = (K : Int) - 1:=IntWalk.i64_in _ oM
  have hk1 : (K : Int) - 1 = (k : Int):=by omega
  have HK:=Lib.hid hK
  have hkn' : k<=n:=by omega
  have hK5 : K<=5:=by omega
  clear hK hkn
  go_enter Tryz.func78,Tryz.ntmps78
  go_upto_region 1 with (fail)
  go_wp2
  have ho:=OwnNN.empty w w.heap.size (Nat.le_refl _)
  have hb : Below w.heap.size w (w.alloc (.cells #[] tLst)):=(Below.refl _ _).alloc (Nat.le_refl _) _
  go_loopw [5,6] (fun u iv wr=>∃l : Nat,iv = .int .i64 l/\k<=l/\l<=n/\OwnNN wr w.heap.size u (chs l K)/\Below w.heap.size w wr) (fun _ iv _=>n - (intOf iv).toNat)
  case atStart=>exact ⟨k,by simp [hk1],Nat.le_refl _,hkn',by rw [chs_nil (by have:=HK.out; omega)]; exact ho,hb⟩
  case round=>
   clear ho hb
   obtain ⟨l,rfl,hkl,hln,ho,hb⟩:=hrel
   by_cases hlt : l < n
   ·have ho0:=ho
    go_wp2_with fail
    refine (ih l wr hkl oM).mono ?_
    rintro e w7 ⟨v7,rfl,hv7,hb7⟩
    obtain ⟨ro,rc,rfl,hrc,hrc2⟩:=hv7.len
    obtain ⟨m,hm⟩ : ∃m,(chs l k).length = m:=⟨_,rfl⟩
    have hm16 : m<=16:=by
     have:=chs_len l k
     have h2 : 2 ^ l<=2 ^ 4:=Nat.pow_le_pow_right oM oM
     omega
    have hM16 : (chs l K).length<=16:=by
     have:=chs_len l K
     have h2 : 2 ^ l<=2 ^ 4:=Nat.pow_le_pow_right oM oM
     omega
    have HM:=Lib.hid hm
    have HMM : HidS (∀xs ∈ chs l k,∀x ∈ xs,x < l):=⟨fun xs hx=>(chs_mem hx).2⟩
    have HLN : HidS (∀xs ∈ chs l k,xs.length<=5):=⟨fun xs hx=>by rw [(chs_mem hx).1]; omega⟩
    rw [hm] at hrc ⊢
    have hown0:=ho.own
    have hty0:=ho.type
    have ho7:=ho.below hb7
    have hS0 : ∀g ∈ u5.ownBlock.toList,g < wr.heap.size:=fun g hg=>(hown0 g (by simpa using hg)).2
    have hT0 : ∀g ∈ u5.ownBlock.toList,∃cs,w7.heap[g]? = some (.cells cs tLst (0,0)):=fun g hg=>by
     obtain ⟨cs,hcs⟩:=hty0 g (by simpa using hg)
     exact ⟨cs,(hb7.block g (hS0 g hg)).trans hcs⟩
    have hbw7:=nx hb hb7
    have q7:=hb7.size
    have q0:=hb.size
    have hob0 : ∀g,u5.ownBlock = some g->g ∈ u5.ownBlock.toList ∨ w7.heap.size<=g:=fun g hg=>.inl (by simp [hg])
    generalize u5.ownBlock.toList = S0 at hS0 hT0 hob0
    obtain ⟨CK,hCK⟩ : ∃CK,chs l K = CK:=⟨_,rfl⟩
    have HCK:=Lib.hid hCK
    rw [hCK] at ho7 hM16
    obtain ⟨Ck,hCk⟩ : ∃Ck,chs l k = Ck:=⟨_,rfl⟩
    have HCk:=Lib.hid hCk
    rw [hCk] at hv7 HM HMM HLN
    obtain ⟨Z,hZ⟩ : ∃Z,wr.heap.size = Z:=⟨_,rfl⟩
    rw [hZ] at hv7 hS0 q0 q7
    clear hb7 hZ
    clear hm ho ho0 hown0 hty0 hb hCK hCk
    go_wp2
    go_loopw [5,8] (fun u iv wr=>∃i : Nat,iv = .int .i64 i/\i<=m/\OwnNN wr w.heap.size u (CK ++ (Ck.take i).map (· ++ [l]))/\Below w.heap.size w wr/\Only S0 w7 wr/\(∀g,u.ownBlock = some g->g ∈ S0 ∨ w7.heap.size<=g)) (fun _ iv _=>m - (intOf iv).toNat)
    case atStart=>exact ⟨0,rfl,by omega,by simpa using ho7,hbw7,Only.refl _ _,hob0⟩
    case round=>
     clear hob0 ho7
     obtain ⟨i,rfl,hi,ho,hb,hol,hob⟩:=hrel
     by_cases hlt2 : i < m
     ·have hvq:=hv7.only hol hS0 hT0
      obtain ⟨b,a,c,xs,rfl,hbq,hxi,cx,hxc,hxc2,hnat⟩:=hvq.cell (k:=i) (by rw [HM.out]; exact hlt2)
      have hx5:=HLN.out xs (List.mem_of_getElem? hxi)
      have HXI:=Lib.hid hxi
      clear hxi
      have qr:=hb.size
      have HLQ : (CK ++ (Ck.take i).map (· ++ [l])).length + 1<=1099511627776:=by simp; omega
      have hl6 : l<=1000000:=by omega
      go_wp2_with (at_builtin; first | (refine appN rfl _ _ rfl wr.heap.size (.slice (some ⟨wr.heap.size,0,none⟩) 0 0) [] rfl (OwnN.empty wr wr.heap.size (Nat.le_refl _)) a xs.length c xs rfl (hnat.below ((Below.refl _ _).alloc (Nat.le_refl _) _)) rfl (by simp; omega) sI ?_; intro v9 wA hown1 hgr1; have qA:=hgr1.size; rw [World.size_alloc] at qA; have hgr1 : World.grownBy (wr.alloc (.cells #[] tNn)) wA (some wr.heap.size):=hgr1; have hbA : Below wr.heap.size wr wA:=((Below.refl wr.heap.size wr).alloc (Nat.le_refl _) _).grown hgr1 sI (fun g hg=>by injection hg with hg; omega)) | (refine appN rfl _ _ rfl wr.heap.size v9 xs rfl (hown1.alloc _) (some ⟨wA.heap.size,0,none⟩) 1 1 [l] rfl (nats_one wA l hl6) rfl (by simp; omega) (by simp; omega) ?_; intro v42 wB hown2 hgr2; have qB:=hgr2.size; rw [World.size_alloc] at qB; have hgr2 : World.grownBy (wA.alloc (.cells #[.int .i64 l] tNn)) wB (Value.ownBlock v9):=hgr2; have hbB : Below wr.heap.size wr wB:=(hbA.alloc oM _).grown hgr2 (by simp; omega) (fun g hg=>(hown1.own g hg).1); have hoB:=fun o=>ho.below (hbB.alloc oM o); obtain ⟨ao4,c4,hv4,h41,h42,h43⟩:=hown2.at_; subst hv4) | (refine appNN rfl _ _ rfl w.heap.size u5 (CK ++ (Ck.take i).map (· ++ [l])) rfl (hoB _) wB.heap.size 1 ao4 _ c4 (xs ++ [l]) rfl (Blk.new _ _ _) sI (by simpa using h41) h42 (h43.below ((Below.refl _ _).alloc (Nat.le_refl _) _)) HLQ (by simp; omega) ?_; intro v44 wC hown3 hgr3 hx3 hob3))
      have hgr3 : World.grownBy (wB.alloc (.cells #[.slice ao4 (xs.length + 1) c4] tLst)) wC (Value.ownBlock u5):=hgr3
      have hx3 : LExt (wB.alloc (.cells #[.slice ao4 (xs.length + 1) c4] tLst)) wC:=hx3
      replace hob3 : v44.ownBlock = u5.ownBlock ∨ ∃g,v44.ownBlock = some g/\(wB.alloc (.cells #[.slice ao4 (xs.length + 1) c4] tLst)).heap.size<=g:=hob3
      have hBB : Below wr.heap.size wr (wB.alloc (.cells #[.slice ao4 (xs.length + 1) c4] tLst)):=hbB.alloc oM _
      have hq3:=hgr3.size
      rw [World.size_alloc] at hq3
      have hBC : Below w.heap.size w wC:=(nx hb hBB).grown hgr3 (by simp; omega) (fun g hg=>(ho.own g hg).1)
      have q77:=hol.bel.size
      have hOC : Only S0 w7 wC:=⟨hol.bel.trans (((hBB.mono (Nat.zero_le _))).trans ((Below.refl 0 _).grown hgr3 (Nat.zero_le _) (fun g _=>Nat.zero_le g))),hol.lext.trans ((lx hBB).trans hx3),fun k hk hn=>((hgr3.block k (by simp; omega) (fun e=>(hob k e.symm).elim hn (fun h=>by omega))).trans (hBB.block k oM)).trans (hol.old k hk hn)⟩
      go_roundw
      case rel=>
       refine ⟨i + 1,by simp,by omega,?_,hBC,hOC,?_⟩
       ·rw [take_snoc HXI.out,<-List.append_assoc]
        exact hown3
       ·intro g hg
        rcases hob3 with h3 | ⟨g',h3,h4⟩
        ·exact hob g (h3 ▸ hg)
        ·rw [h3] at hg
         injection hg with hg
         subst hg
         simp at h4
         exact .inr oM
      case measure=>simp [intOf]; omega
     ·obtain rfl : i = m:=by omega
      go_wp2
      go_roundw
      case rel=>
       refine ⟨l + 1,by simp,by omega,by omega,?_,hb⟩
       rw [HK.out,chs_succ,<-HK.out,HCK.out,HCk.out]
       rw [<-HM.out,List.take_length] at ho
       exact ho
      case measure=>simp [intOf]; omega
   ·obtain rfl : l = n:=by omega
    go_wp2
    go_ret
    exact ⟨_,rfl,ho,hb⟩
def GcdOf (S : Int->Prop) (g : Int) : Prop:=0<=g/\(∀z,S z->g ∣ z)/\∀d,(∀z,S z->d ∣ z)->d ∣ g
theorem GcdOf.zero {S : Int->Prop} (h : ∀z,¬ S z) : GcdOf S 0:=⟨Int.le_refl _,fun z hz=>absurd hz (h z),fun d _=>Int.dvd_zero d⟩
theorem GcdOf.step {S T : Int->Prop} {g x : Int} (h : GcdOf S g) (e : ∀z,T z ↔ S z ∨ z = x) : GcdOf T ((Int.gcd g x : Nat) : Int):=by
 refine ⟨by omega,fun z hz=>?_,fun d hd=>?_⟩
 ·rcases (e z).1 hz with hz | rfl
  ·exact Int.dvd_trans (Int.gcd_dvd_left g x) (h.2.1 z hz)
  ·exact Int.gcd_dvd_right g z
 ·exact Int.dvd_coe_gcd (h.2.2 d fun z hz=>hd z ((e z).2 (.inl hz))) (hd x ((e x).2 (.inr rfl)))
theorem GcdOf.congr {S T : Int->Prop} {g : Int} (h : GcdOf S g) (e : ∀z,T z ↔ S z) : GcdOf T g:=
 ⟨h.1,fun z hz=>h.2.1 z ((e z).1 hz),fun d hd=>h.2.2 d fun z hz=>hd z ((e z).2 hz)⟩
theorem GcdOf.small {S : Int->Prop} {g : Int} {B : Nat} (h : GcdOf S g) (hS : ∀z,S z->z.natAbs<=B) : g.natAbs<=B:=by
 by_cases h0 : ∃z,S z/\z ≠ 0
 ·obtain ⟨z,hz,hz0⟩:=h0
  exact Nat.le_trans (Nat.le_of_dvd oM (Int.natAbs_dvd_natAbs.2 (h.2.1 z hz))) (hS z hz)
 ·have : (0 : Int) ∣ g:=h.2.2 0 fun z hz=>by
   have : z = 0:=Classical.byContradiction fun hn=>h0 ⟨z,hz,hn⟩
   rw [this]
   exact Int.dvd_refl 0
  rw [Int.zero_dvd.1 this]
  exact Nat.zero_le _
def part (P : Nat->Nat->Int) (m i j : Nat) (z : Int) : Prop:=∃a b,(a < i/\b < m ∨ a = i/\b < j)/\z = P a b
theorem part_start (P : Nat->Nat->Int) (m : Nat) (z : Int) : ¬ part P m 0 0 z:=fun ⟨a,b,h,_⟩=>by omega
theorem part_step {P : Nat->Nat->Int} {m i j : Nat} (z : Int) : part P m i (j + 1) z ↔ part P m i j z ∨ z = P i j:=by
 constructor
 ·rintro ⟨a,b,h,e⟩
  by_cases h2 : a = i/\b = j
  ·obtain ⟨rfl,rfl⟩:=h2
   exact .inr e
  ·exact .inl ⟨a,b,by omega,e⟩
 ·rintro (⟨a,b,h,e⟩ | e)
  ·exact ⟨a,b,by omega,e⟩
  ·exact ⟨i,j,by omega,e⟩
theorem part_row {P : Nat->Nat->Int} {m i : Nat} (z : Int) : part P m (i + 1) 0 z ↔ part P m i m z:=by
 constructor
 ·rintro ⟨a,b,h,e⟩
  exact ⟨a,b,by omega,e⟩
 ·rintro ⟨a,b,h,e⟩
  exact ⟨a,b,by omega,e⟩
def minorP (M : List (List Int)) (k : Nat) (X Y : List (List Nat)) (a b : Nat) : Int:=det k (ent (genM k k (pickF M (X.getD a []) (Y.getD b []))))
theorem minorP_at {M : List (List Int)} {k a b : Nat} {X Y : List (List Nat)} {xs ys : List Nat} (h1 : X[a]? = some xs) (h2 : Y[b]? = some ys) : minorP M k X Y a b = det k (ent (genM k k (pickF M xs ys))):=by
 unfold minorP
 rw [List.getD_eq_getElem?_getD,List.getD_eq_getElem?_getD,h1,h2]
 rfl
theorem pick_det {M : List (List Int)} {k : Nat} {xs ys : List Nat} : det k (ent (genM k k (pickF M xs ys))) = det k fun s t=>ent M (xs.getD s 0) (ys.getD t 0):=
 det_congr fun a ha b hb=>by rw [ent_genM ha hb]; rfl
theorem getD_lt {xs : List Nat} {n k a : Nat} (hl : xs.length = k) (h : ∀x ∈ xs,x < n) (ha : a < k) : xs.getD a 0 < n:=by
 have h1 : xs[a]? = some (xs[a]'oM):=List.getElem?_eq_getElem _
 rw [List.getD_eq_getElem?_getD,h1]
 exact h _ (List.getElem_mem _)
theorem prodN_nn {n : Nat} {f : Nat->Int} (h : ∀i,i < n->0<=f i) : 0<=prodN n f:=by
 induction n with
 | zero=>exact Int.le_of_lt Int.one_pos
 | succ n ih=>exact Int.mul_nonneg (ih fun i hi=>h i oM) (h n oM)
theorem minors_prod {R C r k : Nat} {M : List (List Int)} {F : Nat->Nat->Int} {g : Int} (hI : Inv R C r (ent M) F) (hR : k<=R) (hC : k<=C)
  (h : GcdOf (part (minorP M k (chs R k) (chs C k)) (chs C k).length (chs R k).length 0) g) : g = prodN k fun i=>F i i:=by
 refine Int.dvd_antisymm h.1 (prodN_nn fun i hi=>hI.dg.nonneg oM) ?_ ?_
 ·refine hI.gen oM fun σ τ hσ hτ=>dvd_both_inc (fun σ τ hσ hτ hi hj=>?_) σ τ hσ hτ
  obtain ⟨xs,h1,h2⟩:=chs_all hi hσ
  obtain ⟨ys,h3,h4⟩:=chs_all hj hτ
  obtain ⟨a,ha⟩:=List.mem_iff_getElem?.1 h1
  obtain ⟨b,hb⟩:=List.mem_iff_getElem?.1 h3
  have hd : (det k fun a b=>ent M (σ a) (τ b)) = minorP M k (chs R k) (chs C k) a b:=by
   rw [minorP_at ha hb,pick_det]
   exact det_congr fun s hs t ht=>by rw [h2 s hs,h4 t ht]
  rw [hd]
  exact h.2.1 _ ⟨a,b,.inl ⟨(List.getElem?_eq_some_iff.1 ha).1,(List.getElem?_eq_some_iff.1 hb).1⟩,rfl⟩
 ·refine h.2.2 _ ?_
  rintro z ⟨a,b,hab,rfl⟩
  have ha : a < (chs R k).length:=by omega
  have hb : b < (chs C k).length:=by omega
  have e1:=List.getElem?_eq_getElem ha
  have e2:=List.getElem?_eq_getElem hb
  obtain ⟨l1,m1⟩:=chs_mem (List.mem_of_getElem? e1)
  obtain ⟨l2,m2⟩:=chs_mem (List.mem_of_getElem? e2)
  rw [minorP_at e1 e2,pick_det]
  exact hI.minors oM _ _ (fun a ha=>getD_lt l1 m1 ha) (fun b hb=>getD_lt l2 m2 hb)
theorem lastsB_ownNN (base : Nat) (L : List (List Nat)) : LastsB (fun w v=>OwnNN w base v L):=fun _ _ _ e h=>h.below e
theorem OwnNN.box {w w' : World} {base b : Nat} {v : Value} {L : List (List Nat)} {cs : Array Value} (h : OwnNN w base v L) (hT : Blk w b 45 cs) (ho : ∀k,k < w.heap.size->k ≠ b->w'.heap[k]? = w.heap[k]?) : OwnNN w' base v L:=by
 obtain ⟨cells,⟨h1,h2⟩,h3⟩:=h
 have hty : ∀{t : TypeId} {cs' : Array Value} {k : Nat},w.heap[k]? = some (.cells cs' t (0,0))->¬ (45 : TypeId) = t->k ≠ b:=fun {t cs' k} hk ht e=>by
  subst e
  exact absurd (congrArg (fun o : Option Obj=>match o with | some (Obj.cells _ t _)=>t | _=>0) (hT.symm.trans hk)) ht
 refine ⟨cells,⟨h1,?_⟩,fun k xs hk=>?_⟩
 ·rcases h2 with h2 | ⟨g,cap,cur,e1,e2,e3,e4⟩
  ·exact .inl h2
  ·exact .inr ⟨g,cap,cur,e1,e2,(ho g (Array.getElem?_eq_some_iff.1 e3).1 (hty e3 dE)).trans e3,e4⟩
 ·obtain ⟨ao,cap,e1,e2,e3,e4⟩:=h3 k xs hk
  refine ⟨ao,cap,e1,e2,e3,?_⟩
  by_cases hn : xs = []
  ·subst hn; exact NatsAt.nil _ _
  ·obtain ⟨b',o,cs',rfl,g2,g3⟩:=e4.2 hn
   exact e4.at_old (ho b' (Array.getElem?_eq_some_iff.1 g2).1 (hty g2 dE))
theorem onlyNil {W w : World} (h : Only [] W w) : Below W.heap.size W w:=⟨h.bel.os,h.bel.tape,h.bel.output,h.bel.size,fun k hk=>h.old k hk sI⟩
set_option maxHeartbeats 8000000 in
set_option maxRecDepth 20000 in
theorem minors_any (v : Value) (R C k : Nat) (M : List (List Int)) (w : World) (h : MatV w v R C M) (hF : Fits R C M) (hR : R<=4) (hC : C<=4) (hkR : k<=R) (hkC : k<=C) (hA : leM 1048576 R C (ent M)) :
  Calls Tryz.prog 31 #[v,.int .i64 k] w fun e w'=>∃v g,e = .returned v/\IntV w' v g/\GcdOf (part (minorP M k (chs R k) (chs C k)) (chs C k).length (chs R k).length 0) g/\Below w.heap.size w w':=by
 obtain ⟨A,rfl,h⟩:=h
 obtain ⟨ao,n1,cap,rfl,e2,e3,e4,-⟩:=id h
 obtain rfl : R = n1:=by rw [<-e2,hF.1]
 have HF:=Hk hF
 have HA:=Hk hA
 have hMV : MatV w (.agg #[.int .i64 (R : Int),.int .i64 (C : Int),.slice ao R cap]) R C M:=⟨_,rfl,h⟩
 have HX1 : HidS (∀xs ∈ chs R k,xs.length = k/\∀x ∈ xs,x < R):=⟨fun xs hx=>chs_mem hx⟩
 have HX2 : HidS (∀xs ∈ chs C k,xs.length = k/\∀x ∈ xs,x < C):=⟨fun xs hx=>chs_mem hx⟩
 have HC1 : HidS (∀w,Calls Tryz.prog 78 #[.int .i64 R,.int .i64 k] w fun e w'=>∃v,e = .returned v/\OwnNN w' w.heap.size v (chs R k)/\Below w.heap.size w w'):=⟨fun w=>choices_any k R w hkR hR⟩
 have HC2 : HidS (∀w,Calls Tryz.prog 78 #[.int .i64 C,.int .i64 k] w fun e w'=>∃v,e = .returned v/\OwnNN w' w.heap.size v (chs C k)/\Below w.heap.size w w'):=⟨fun w=>choices_any k C w hkC hC⟩
 have hl1 : (chs R k).length<=16:=Nat.le_trans (chs_len R k) (Nat.pow_le_pow_right (n:=2) oM hR)
 have hl2 : (chs C k).length<=16:=Nat.le_trans (chs_len C k) (Nat.pow_le_pow_right (n:=2) oM hC)
 obtain ⟨X,hX⟩ : ∃X,chs R k = X:=⟨_,rfl⟩
 obtain ⟨Y,hY⟩ : ∃Y,chs C k = Y:=⟨_,rfl⟩
 rw [hX] at HX1 HC1 hl1 ⊢
 rw [hY] at HX2 HC2 hl2 ⊢
 clear hX hY
 have hpk : ∀xs ∈ X,∀ys ∈ Y,leM 1048576 k k (ent (genM k k (pickF M xs ys))):=fun xs hx ys hy=>pick_leM HA.out (HX1.out xs hx).2 (HX2.out ys hy).2 (HX1.out xs hx).1 (HX2.out ys hy).1
 have HPS : HidS (∀z i j,part (minorP M k X Y) Y.length i j z->i<=X.length->(i = X.length->j = 0)->j<=Y.length->z.natAbs<=24 * 1048576 ^ 4):=⟨by
  rintro z i j ⟨a,b,hab,rfl⟩ hi hi2 hj
  have ha : a < X.length:=by omega
  have hb : b < Y.length:=by omega
  have e1:=List.getElem?_eq_getElem ha
  have e2:=List.getElem?_eq_getElem hb
  rw [minorP_at e1 e2]
  exact det_le oM dE (hpk _ (List.mem_of_getElem? e1) _ (List.mem_of_getElem? e2))⟩
 have HPK:=Hk hpk
 have hk4 : k<=4:=by omega
 clear hF hA e2 hpk
 go_enter Tryz.func31,Tryz.ntmps31
 go_upto_region 1 with (fail)
 refine wp_world ?_
 intro W0 hW0
 obtain ⟨hB0,bx1,br,hs0⟩:=world2 hW0
 obtain ⟨c1,c2,c3,c4,c5,c6⟩:=bx1.three
 have l0:=br.lt
 have hL1:=lastsB_ownNN W0.heap.size X
 have hL2:=lastsB_ownNN W0.heap.size Y
 have hLB:=lastsB_new 45 W0.heap.size #[.bool false,.slice none 0 0]
 refine wp_region_headed 10 rfl (RV W0 _ [⟨0,12,fun w v=>IntV w v (0)⟩,⟨1,13,fun _ v=>v = .pointer (some ⟨w.heap.size,0,none⟩)⟩,⟨2,14,fun _ v=>v = .int .i64 R⟩,⟨3,15,fun _ v=>v = .int .i64 k⟩,⟨4,16,fun w' v=>OwnNN w' W0.heap.size v X⟩,⟨5,17,fun _ v=>v = .pointer (some ⟨w.heap.size,1,none⟩)⟩,⟨6,18,fun _ v=>v = .int .i64 C⟩,⟨7,19,fun _ v=>v = .int .i64 k⟩,⟨8,20,fun w' v=>OwnNN w' W0.heap.size v Y⟩,⟨9,5,NewB 45 W0.heap.size #[.bool false,.slice none 0 0]⟩]) kR RV.start ?fin1 ?steps1
 case steps1=>
  refine ⟨?_,?_,?_,?_,?_,?_,?_,?_,?_,?_,trivial⟩ <;> (intro L T wS hL hd hcl hI K hK; try refine sW rfl ?_)
  ·go_simp
   refine (r1of_any 0 wS oM oM).mono ?_
   rintro e wa ⟨v,rfl,hv,hba⟩
   exact hK _ _ ((hI.world hba).y mm0 hv)
  ·have zt : T[2]? = some (.pointer (some ⟨w.heap.size,0,none⟩)):=hI.keep 2 sI
   go_simp
   exact hK _ _ (hI.y mm1 rfl)
  ·obtain ⟨_,zt1,rfl⟩:=hI.v mm1 (hd 1)
   have cc0:=hI.cell c1
   go_simp
   exact hK _ _ (hI.y mm2 rfl)
  ·have zt : T[1]? = some (.int .i64 k):=hI.keep 1 sI
   go_simp
   exact hK _ _ (hI.y mm3 rfl)
  ·obtain ⟨_,zt2,rfl⟩:=hI.v mm2 (hd 2)
   obtain ⟨_,zt3,rfl⟩:=hI.v mm3 (hd 3)
   go_simp
   refine (HC1.out wS).mono ?_
   rintro e wa ⟨v,rfl,hv,hba⟩; replace hv:=hv.mono hI.bel.size
   exact hK _ _ ((hI.world hba).y mm4 hv)
  ·have zt : T[2]? = some (.pointer (some ⟨w.heap.size,0,none⟩)):=hI.keep 2 sI
   go_simp
   exact hK _ _ (hI.y mm5 rfl)
  ·obtain ⟨_,zt5,rfl⟩:=hI.v mm5 (hd 5)
   have cc0:=hI.cell c2
   go_simp
   exact hK _ _ (hI.y mm6 rfl)
  ·have zt : T[1]? = some (.int .i64 k):=hI.keep 1 sI
   go_simp
   exact hK _ _ (hI.y mm7 rfl)
  ·obtain ⟨_,zt6,rfl⟩:=hI.v mm6 (hd 6)
   obtain ⟨_,zt7,rfl⟩:=hI.v mm7 (hd 7)
   go_simp
   refine (HC2.out wS).mono ?_
   rintro e wa ⟨v,rfl,hv,hba⟩; replace hv:=hv.mono hI.bel.size
   exact hK _ _ ((hI.world hba).y mm8 hv)
  ·go_simp
   exact hK _ _ ((hI.world ((Below.refl _ _).alloc (Nat.le_refl _) _)).y mm9 ⟨_,rfl,hI.bel.size,Blk.new _ _ _⟩)
 intro T W3 hI
 obtain ⟨va0,q0,ha0⟩:=hI.v mm0 rfl
 replace ha0 : IntV W3 va0 (0):=ha0
 obtain ⟨va1,q1,rfl⟩:=hI.v mm1 rfl
 obtain ⟨va2,q2,rfl⟩:=hI.v mm2 rfl
 obtain ⟨va3,q3,rfl⟩:=hI.v mm3 rfl
 obtain ⟨va4,q4,ha4⟩:=hI.v mm4 rfl
 obtain ⟨va5,q5,rfl⟩:=hI.v mm5 rfl
 obtain ⟨va6,q6,rfl⟩:=hI.v mm6 rfl
 obtain ⟨va7,q7,rfl⟩:=hI.v mm7 rfl
 obtain ⟨va8,q8,ha8⟩:=hI.v mm8 rfl
 obtain ⟨va9,q9,ha9⟩:=hI.v mm9 rfl
 have hT:=tmps_set [(12,va0),(13,.pointer (some ⟨w.heap.size,0,none⟩)),(14,.int .i64 R),(15,.int .i64 k),(16,va4),(17,.pointer (some ⟨w.heap.size,1,none⟩)),(18,.int .i64 C),(19,.int .i64 k),(20,va8),(5,va9)]
  (fun j hj=>hI.keep j (by simp only [List.forall_mem_cons] at hj ⊢; simp [hj]))
  (by simp only [List.forall_mem_cons]; simp [q0,q1,q2,q3,q4,q5,q6,q7,q8,q9]) hI.size
 have hbW3:=hI.bel
 clear hI
 simp only [List.foldl_cons,List.foldl_nil,List.setIfInBounds_toArray,List.set_cons_zero,List.set_cons_succ,ptr] at hT
 subst hT
 clear q0 q1 q2 q3 q4 q5 q6 q7 q8 q9
 simp only [List.drop_succ_cons,List.drop_zero]
 obtain ⟨b5,rfl,hb5,T5⟩:=ha9
 obtain ⟨xo,xc,rfl,hxc,hxc2⟩:=ha4.len
 obtain ⟨yo,yc,rfl,hyc,hyc2⟩:=ha8.len
 obtain ⟨un,ua,ul,uc,ux,rfl,hu'⟩:=id ha0
 have HU:=Lib.hid hu'
 clear hu' hL1 hL2 hLB
 obtain ⟨d1,d2,d3,d4⟩:=T5.two
 have bx3:=bx1.below hbW3
 have br3:=br.below hbW3
 obtain ⟨m1,hm1⟩ : ∃m,X.length = m:=⟨_,rfl⟩
 obtain ⟨m2,hm2⟩ : ∃m,Y.length = m:=⟨_,rfl⟩
 have HM1:=Lib.hid hm1
 have HM2:=Lib.hid hm2
 rw [hm1] at hl1 HPS hxc ⊢
 rw [hm2] at hl2 HPS hyc ⊢
 have HS:=Hk (And.intro ha4 ha8)
 have hB3:=nx hB0 hbW3
 have q3:=hbW3.size
 have l5:=T5.lt
 clear hm1 hm2 ha4 ha8 hW0
 go_wp2
 clear c1 c2 c3 c4 c5 c6
 go_loopw [8] (fun iv wr=>∃(i : Nat) (g : Int),i<=m1/\iv = .int .i64 i/\Below w.heap.size w wr/\Only [b5] W3 wr/\BoxI wr b5 g/\Hid (GcdOf (part (minorP M k X Y) m2 i 0) g)) (fun iv _=>m1 - (intOf iv).toNat)
 case atStart=>exact ⟨0,0,by omega,rfl,bset (bset hB3 oM _ _) oM _ _,⟨bset (bset (Below.refl 0 _) (Nat.zero_le _) _ _) (Nat.zero_le _) _ _,T5.lext2 dE _ _,fun k _ hk=>set2_old _ _ _ _ _ _ _ (by simpa using hk)⟩,BoxI.put T5 ha0,Lib.hid (GcdOf.zero (part_start _ _))⟩
 case round=>
  obtain ⟨i,g,hi,rfl,hb,hol,zg,hg⟩:=hrel
  by_cases hlt : i < m1
  ·go_wp2
   go_loopw [9] (fun jv wr=>∃(j : Nat) (g : Int),j<=m2/\jv = .int .i64 j/\Below w.heap.size w wr/\Only [b5] W3 wr/\BoxI wr b5 g/\Hid (GcdOf (part (minorP M k X Y) m2 i j) g)) (fun jv _=>m2 - (intOf jv).toNat)
   case atStart=>exact ⟨0,g,by omega,rfl,hb,hol,zg,hg⟩
   case round=>
    clear hb hol zg hg
    obtain ⟨j,g,hj,rfl,hb,hol,zg,hg⟩:=hrel
    by_cases hjm : j < m2
    ·have hold : ∀k,k < W3.heap.size->k ≠ b5->wr.heap[k]? = W3.heap[k]?:=fun k hk hn=>hol.old k hk (by simpa using hn)
     have bx : Blk wr w.heap.size 28 #[.int .i64 R,.int .i64 C,.slice ao R cap]:=(hold _ bx3.lt oM).trans bx3
     obtain ⟨c1,c2,c3,c4,c5,c6⟩:=bx.three
     obtain ⟨x6,xa,xsc,xs,rfl,hx6,hxi,cx,hxs1,hxs2,hxn⟩:=(HS.out.1.box T5 hold).cell (k:=i) (by rw [HM1.out]; exact hlt)
     obtain ⟨y6,ya,ysc,ys,rfl,hy6,hyj,cy,hys1,hys2,hyn⟩:=(HS.out.2.box T5 hold).cell (k:=j) (by rw [HM2.out]; exact hjm)
     have hxm:=HX1.out xs (List.mem_of_getElem? hxi)
     have hym:=HX2.out ys (List.mem_of_getElem? hyj)
     have HXM:=Hk hxm
     have HYM:=Hk hym
     have HPD:=Lib.hid (minorP_at (M:=M) (k:=k) hxi hyj)
     have HLM:=Hk (HPK.out xs (List.mem_of_getElem? hxi) ys (List.mem_of_getElem? hyj))
     have hxl : xs.length<=1000000:=by omega
     have hyl : ys.length<=1000000:=by omega
     have lg:=zg.lt
     have lw:=bx.lt
     clear hxi hyj hxm hym
     have hLP:=lastsB_pick ((xs.length : Nat) : Int) ((ys.length : Nat) : Int) (genM xs.length ys.length (pickF M xs ys))
     have hLB:=lastsB_new 28 wr.heap.size #[.int .i64 0,.int .i64 0,.slice none 0 0]
     go_upto_region 8 with (fail)
     refine wp_region_headed 15 rfl (RAS ([]) 99 wr _ [⟨0,34,fun _ v=>v = .agg #[.int .i64 R,.int .i64 C,.slice ao R cap]⟩,⟨1,35,fun _ v=>v = .slice (some ⟨x6,0,none⟩) m1 xc⟩,⟨2,36,fun _ v=>v = .int .i64 i⟩,⟨3,37,fun _ v=>v = .pointer (some ⟨x6,i,none⟩)⟩,⟨4,38,fun _ v=>v = .slice xa xs.length xsc⟩,⟨5,39,fun _ v=>v = .slice (some ⟨y6,0,none⟩) m2 yc⟩,⟨6,40,fun _ v=>v = .int .i64 j⟩,⟨7,41,fun _ v=>v = .pointer (some ⟨y6,j,none⟩)⟩,⟨8,42,fun _ v=>v = .slice ya ys.length ysc⟩,⟨9,43,PickT ((xs.length : Nat) : Int) ((ys.length : Nat) : Int) (genM xs.length ys.length (pickF M xs ys))⟩,⟨10,33,PickT ((xs.length : Nat) : Int) ((ys.length : Nat) : Int) (genM xs.length ys.length (pickF M xs ys))⟩,⟨11,44,fun w v=>MatV w v ((xs.length : Nat) : Int) ((ys.length : Nat) : Int) (genM xs.length ys.length (pickF M xs ys))⟩,⟨12,45,fun _ v=>v = .int .i64 0⟩,⟨13,10,NewB 28 wr.heap.size #[.int .i64 0,.int .i64 0,.slice none 0 0]⟩] 14 (put3 10 44)) kR (RAS.start (RA.start kR (by repeat' (first | exact lastsB_int _ | exact lastsB_eq _ | exact lastsB_mat _ _ _ | exact lastsB_vec _ | assumption | refine List.forall_mem_cons.2 ⟨?_,?_⟩ | exact List.forall_mem_nil _)))) ?fin2 ?steps2
     case steps2=>
      refine ⟨?_,?_,?_,?_,?_,?_,?_,?_,?_,?_,?_,?_,?_,?_,?_,trivial⟩
      ·refine StepAt.liftA kR dE ?_
       intro L T wS hL hd hcl hI K hK
       try refine sW rfl ?_
       have zt : T[2]? = some (.pointer (some ⟨w.heap.size,0,none⟩)):=hI.keep 2 sI
       have cc0:=hI.cell (sI) oM c1
       have cc1:=hI.cell (sI) oM c2
       have cc2:=hI.cell (sI) oM c3
       go_simp
       exact hK _ _ (hI.y mm0 rfl)
      ·refine StepAt.liftA kR dE ?_
       intro L T wS hL hd hcl hI K hK
       try refine sW rfl ?_
       have zt : T[6]? = some (.slice (some ⟨x6,0,none⟩) m1 xc):=hI.keep 6 sI
       go_simp
       exact hK _ _ (hI.y mm1 rfl)
      ·refine StepAt.liftA kR dE ?_
       intro L T wS hL hd hcl hI K hK
       try refine sW rfl ?_
       have zt : T[8]? = some (.int .i64 i):=hI.keep 8 sI
       go_simp
       exact hK _ _ (hI.y mm2 rfl)
      ·refine StepAt.liftA kR dE ?_
       intro L T wS hL hd hcl hI K hK
       try refine sW rfl ?_
       obtain ⟨_,zt1,rfl⟩:=hI.v mm1 (hd 1)
       obtain ⟨_,zt2,rfl⟩:=hI.v mm2 (hd 2)
       go_simp
       exact hK _ _ (hI.y mm3 rfl)
      ·refine StepAt.liftA kR dE ?_
       intro L T wS hL hd hcl hI K hK
       try refine sW rfl ?_
       obtain ⟨_,zt3,rfl⟩:=hI.v mm3 (hd 3)
       have cc0:=hI.cell (sI) oM cx
       go_simp
       exact hK _ _ (hI.y mm4 rfl)
      ·refine StepAt.liftA kR dE ?_
       intro L T wS hL hd hcl hI K hK
       try refine sW rfl ?_
       have zt : T[7]? = some (.slice (some ⟨y6,0,none⟩) m2 yc):=hI.keep 7 sI
       go_simp
       exact hK _ _ (hI.y mm5 rfl)
      ·refine StepAt.liftA kR dE ?_
       intro L T wS hL hd hcl hI K hK
       try refine sW rfl ?_
       have zt : T[9]? = some (.int .i64 j):=hI.keep 9 sI
       go_simp
       exact hK _ _ (hI.y mm6 rfl)
      ·refine StepAt.liftA kR dE ?_
       intro L T wS hL hd hcl hI K hK
       try refine sW rfl ?_
       obtain ⟨_,zt5,rfl⟩:=hI.v mm5 (hd 5)
       obtain ⟨_,zt6,rfl⟩:=hI.v mm6 (hd 6)
       go_simp
       exact hK _ _ (hI.y mm7 rfl)
      ·refine StepAt.liftA kR dE ?_
       intro L T wS hL hd hcl hI K hK
       try refine sW rfl ?_
       obtain ⟨_,zt7,rfl⟩:=hI.v mm7 (hd 7)
       have cc0:=hI.cell (sI) oM cy
       go_simp
       exact hK _ _ (hI.y mm8 rfl)
      ·refine StepAt.liftA kR dE ?_
       intro L T wS hL hd hcl hI K hK
       try refine sW rfl ?_
       obtain ⟨_,zt0,rfl⟩:=hI.v mm0 (hd 0)
       obtain ⟨_,zt4,rfl⟩:=hI.v mm4 (hd 4)
       obtain ⟨_,zt8,rfl⟩:=hI.v mm8 (hd 8)
       have hbS:=onlyNil hI.onl
       go_simp
       refine (pick_any _ R C M xa ya xs.length ys.length xsc ysc xs ys wS (hMV.below (nx hb hbS)) HF.out oM oM (hxn.below hbS) (hyn.below hbS) rfl rfl hxl hyl HXM.out.2 HYM.out.2).mono ?_
       rintro e wa ⟨v,bs,rfl,hv,hba⟩
       exact hK _ _ ((hI.world hba).y mm9 ⟨v,rfl,hv.mat.1⟩)
      ·refine StepAt.liftA kR dE ?_
       intro L T wS hL hd hcl hI K hK
       try refine sW rfl ?_
       obtain ⟨z9,zt9,hz9⟩:=hI.v mm9 (hd 9)
       go_simp
       exact hK _ _ (hI.y mm10 hz9)
      ·refine StepAt.liftA kR dE ?_
       intro L T wS hL hd hcl hI K hK
       try refine sW rfl ?_
       obtain ⟨z10,zt10,hz10⟩:=hI.v mm10 (hd 10)
       obtain ⟨u,rfl,hu⟩:=hz10
       go_simp
       exact hK _ _ (hI.y mm11 hu)
      ·intro L T wS hL hd hcl hI K hK
       try refine sW rfl ?_
       obtain ⟨w0,hJ,-,-⟩:=id hI
       obtain ⟨z10,zt10,hz10⟩:=hJ.val _ mm10 (hd 10)
       obtain ⟨u,rfl,hu⟩:=hz10
       go_simp
       exact hK _ _ (hI.pure ⟨12,45,_⟩ mm12 rfl (fun _=>rfl) dE (fun _=>put3_set dE dE))
      ·refine StepAt.liftA kR dE ?_
       intro L T wS hL hd hcl hI K hK
       try refine sW rfl ?_
       go_simp
       exact hK _ _ ((hI.world ((Below.refl _ _).alloc (Nat.le_refl _) _)).y mm13 ⟨_,rfl,hI.onl.bel.size,Blk.new _ _ _⟩)
      ·intro L T wS hL hd hcl hI K hK
       try refine sW rfl ?_
       replace hI:=hI.here hL
       obtain ⟨z11,zt11,hz11⟩:=hI.v mm11 (hd 11)
       obtain ⟨z13,zt13,hz13⟩:=hI.v mm13 (hd 13)
       obtain ⟨Av,rfl,hrv⟩:=hz11
       obtain ⟨vo,vn,vc,rfl,-,-,-,-⟩:=hrv
       obtain ⟨b7,rfl,-,T7⟩:=hz13
       obtain ⟨f1,f2,f3,f4,f5,f6⟩:=T7.three
       go_simp
       exact hK _ _ (RAS.store hI hL (by repeat' (first | exact List.forall_mem_nil _ | refine List.forall_mem_cons.2 ⟨by dsimp only; decide,?_⟩)) dE (put3_at zt13 zt11).symm)
     intro T w8f hJ
     obtain ⟨w8,hI,-,hstw8⟩:=hJ
     replace hstw8:=hstw8 kR
     obtain ⟨va0,q0,rfl⟩:=hI.v mm0 rfl
     obtain ⟨va1,q1,rfl⟩:=hI.v mm1 rfl
     obtain ⟨va2,q2,rfl⟩:=hI.v mm2 rfl
     obtain ⟨va3,q3,rfl⟩:=hI.v mm3 rfl
     obtain ⟨va4,q4,rfl⟩:=hI.v mm4 rfl
     obtain ⟨va5,q5,rfl⟩:=hI.v mm5 rfl
     obtain ⟨va6,q6,rfl⟩:=hI.v mm6 rfl
     obtain ⟨va7,q7,rfl⟩:=hI.v mm7 rfl
     obtain ⟨va8,q8,rfl⟩:=hI.v mm8 rfl
     obtain ⟨va9,q9,ha9⟩:=hI.v mm9 rfl
     obtain ⟨va10,q10,ha10⟩:=hI.v mm10 rfl
     obtain ⟨va11,q11,ha11⟩:=hI.v mm11 rfl
     obtain ⟨va12,q12,rfl⟩:=hI.v mm12 rfl
     obtain ⟨va13,q13,ha13⟩:=hI.v mm13 rfl
     have hT:=tmps_set [(34,.agg #[.int .i64 R,.int .i64 C,.slice ao R cap]),(35,.slice (some ⟨x6,0,none⟩) m1 xc),(36,.int .i64 i),(37,.pointer (some ⟨x6,i,none⟩)),(38,.slice xa xs.length xsc),(39,.slice (some ⟨y6,0,none⟩) m2 yc),(40,.int .i64 j),(41,.pointer (some ⟨y6,j,none⟩)),(42,.slice ya ys.length ysc),(43,va9),(33,va10),(44,va11),(45,.int .i64 0),(10,va13)]
      (fun j hj=>hI.keep j (by simp only [List.forall_mem_cons] at hj ⊢; simp [hj]))
      (by simp only [List.forall_mem_cons]; simp [q0,q1,q2,q3,q4,q5,q6,q7,q8,q9,q10,q11,q12,q13]) hI.size
     have how8:=hI.onl
     clear hI
     simp only [List.foldl_cons,List.foldl_nil,List.setIfInBounds_toArray,List.set_cons_zero,List.set_cons_succ,ptr] at hT
     subst hT
     clear q0 q1 q2 q3 q4 q5 q6 q7 q8 q9 q10 q11 q12 q13
     simp only [List.drop_succ_cons,List.drop_zero]
     have hbw8:=onlyNil how8
     replace ha11 : MatV w8 va11 ((xs.length : Nat) : Int) ((ys.length : Nat) : Int) (genM xs.length ys.length (pickF M xs ys)):=ha11
     rw [HXM.out.1,HYM.out.1] at ha11
     obtain ⟨Av,rfl,hrv⟩:=id ha11
     obtain ⟨vo,vn,vc,rfl,hvl,-,-,-⟩:=id hrv
     obtain ⟨b10,rfl,hb10,T10⟩:=ha13
     have q8:=hbw8.size
     have hw9:=hstw8.trans (put3_at rfl rfl)
     have hx9 : LExt w8 w8f:=by rw [hw9]; exact T10.lext3 dE _ _ _
     have ho9 : ∀k,k ≠ b10->w8f.heap[k]? = w8.heap[k]?:=fun k hk=>by rw [hw9]; exact set3_old _ _ _ _ _ _ hk
     have T109 : Blk w8f b10 28 #[.int .i64 k,.int .i64 k,.slice vo vn vc]:=by rw [hw9]; exact T10.put3 _ _ _
     have hm9 : MatV w8f (.agg #[.int .i64 k,.int .i64 k,.slice vo vn vc]) k k (genM k k (pickF M xs ys)):=by
      rw [hw9] at hx9 ⊢
      exact ha11.put3 T10 _ _ _ hx9
     have hb9 : Below wr.heap.size wr w8f:=by
      rw [hw9]
      exact bset (bset (bset hbw8 oM 0 _) oM 1 _) oM 2 _
     have zg9:=zg.below hb9
     have hb99:=nx hb hb9
     have hol9:=hol.trans (Only.of [b5] hb9)
     have q9:=hb9.size
     have hgs : HidS (Smd g):=⟨small24_smd (hg.out.small fun z hz=>HPS.out z i j hz oM oM oM)⟩
     have hds : HidS (Smd (minorP M k X Y i j)):=⟨small24_smd (by rw [HPD.out]; exact det_le hk4 dE HLM.out)⟩
     obtain ⟨D,hD⟩ : ∃D,minorP M k X Y i j = D:=⟨_,rfl⟩
     have HDV:=Lib.hid hD
     rw [hD] at HPD hds
     clear hD hw9 hstw8 T10 ha11 hrv hvl ha9 ha10 hLP hLB c1 c2 c3 c4 c5 c6 how8
     obtain ⟨f1,f2,f3,f4,f5,f6⟩:=T109.three
     obtain ⟨yn,yya,yl,yyc,k5,i5⟩:=zg9
     obtain ⟨t1,t2,t3,t4⟩:=k5.two
     go_upto_region 9 with (fail)
     refine wp_region_headed 4 rfl (RV w8f _ [⟨0,46,fun _ v=>v = .agg #[.bool yn,.slice yya yl yyc]⟩,⟨1,47,fun _ v=>v = .agg #[.int .i64 k,.int .i64 k,.slice vo vn vc]⟩,⟨2,48,fun w v=>IntV w v (D)⟩,⟨3,49,fun w v=>IntV w v (((Int.gcd g D : Nat) : Int))⟩]) kR RV.start ?fin3 ?steps3
     case steps3=>
      refine ⟨?_,?_,?_,?_,trivial⟩ <;> (intro L T wS hL hd hcl hI K hK; try refine sW rfl ?_)
      ·have zt : T[5]? = some (.pointer (some ⟨b5,0,none⟩)):=hI.keep 5 sI
       have cc0:=hI.cell t1
       have cc1:=hI.cell t2
       go_simp
       exact hK _ _ (hI.y mm0 rfl)
      ·have zt : T[10]? = some (.pointer (some ⟨b10,0,none⟩)):=hI.keep 10 sI
       have cc0:=hI.cell f1
       have cc1:=hI.cell f2
       have cc2:=hI.cell f3
       go_simp
       exact hK _ _ (hI.y mm1 rfl)
      ·obtain ⟨_,zt1,rfl⟩:=hI.v mm1 (hd 1)
       go_simp
       refine (HPD.out ▸ determinant_any k _ _ wS (hm9.below hI.bel) (genM_fits k k _) hk4 HLM.out).mono ?_
       rintro e wa ⟨v,rfl,hv,hba⟩
       exact hK _ _ ((hI.world hba).y mm2 hv)
      ·obtain ⟨_,zt0,rfl⟩:=hI.v mm0 (hd 0)
       obtain ⟨v2,zt2,h2⟩:=hI.v mm2 (hd 2)
       go_simp
       refine (r1gcd_any _ _ g D wS (i5.ext (lx hI.bel)) h2 hgs.out hds.out).mono ?_
       rintro e wa ⟨v,rfl,hv,hba⟩
       exact hK _ _ ((hI.world hba).y mm3 hv)
     intro T w10 hI
     obtain ⟨vd0,q0,rfl⟩:=hI.v mm0 rfl
     obtain ⟨vd1,q1,rfl⟩:=hI.v mm1 rfl
     obtain ⟨vd2,q2,hd2⟩:=hI.v mm2 rfl
     replace hd2 : IntV w10 vd2 (D):=hd2
     obtain ⟨vd3,q3,hd3⟩:=hI.v mm3 rfl
     replace hd3 : IntV w10 vd3 (((Int.gcd g D : Nat) : Int)):=hd3
     have hT:=tmps_set [(46,.agg #[.bool yn,.slice yya yl yyc]),(47,.agg #[.int .i64 k,.int .i64 k,.slice vo vn vc]),(48,vd2),(49,vd3)]
      (fun j hj=>hI.keep j (by simp only [List.forall_mem_cons] at hj ⊢; simp [hj]))
      (by simp only [List.forall_mem_cons]; simp [q0,q1,q2,q3]) hI.size
     have hbw10:=hI.bel
     clear hI
     simp only [List.foldl_cons,List.foldl_nil,List.setIfInBounds_toArray,List.set_cons_zero,List.set_cons_succ,ptr] at hT
     subst hT
     clear q0 q1 q2 q3
     simp only [List.drop_succ_cons,List.drop_zero]
     obtain ⟨G,hG⟩ : ∃G : Int,((Int.gcd g D : Nat) : Int) = G:=⟨_,rfl⟩
     have HG : Hid (GcdOf (part (minorP M k X Y) m2 i (j + 1)) G):=Lib.hid (by
      rw [<-hG]
      exact hg.out.step fun z=>by rw [<-HDV.out]; exact part_step z)
     rw [hG] at hd3
     obtain ⟨pn,pa,pl,pc,px,rfl,hp'⟩:=id hd3
     have HP:=Lib.hid hp'
     clear hp' hG hd2 t1 t2 t3 t4
     have k5:=k5.below hbw10
     obtain ⟨t1,t2,t3,t4⟩:=k5.two
     have hb10':=nx hb99 hbw10
     have hol10:=hol9.trans (Only.of [b5] hbw10)
     go_wp2
     go_roundw
     case rel=>exact ⟨j + 1,G,by omega,by simp,bset (bset hb10' oM _ _) oM _ _,hol10.trans ⟨bset (bset (Below.refl 0 _) (Nat.zero_le _) _ _) (Nat.zero_le _) _ _,k5.lext2 dE _ _,fun k _ hk=>set2_old _ _ _ _ _ _ _ (by simpa using hk)⟩,BoxI.put k5 hd3,HG⟩
     case measure=>simp [intOf]; omega
    ·obtain rfl : j = m2:=by omega
     go_wp2
     go_roundw
     case rel=>exact ⟨i + 1,g,by omega,by simp,hb,hol,zg,Lib.hid (hg.out.congr fun z=>part_row z)⟩
     case measure=>simp [intOf]; omega
  ·obtain rfl : i = m1:=by omega
   have br : Blk wr (w.heap.size + 1) 45 #[.bool false,.slice none 0 0]:=(hol.old _ br3.lt (by simp; omega)).trans br3
   obtain ⟨r1,r2,r3,r4⟩:=br.two
   obtain ⟨yn,yya,yl,yyc,k5,i5⟩:=zg
   obtain ⟨t1,t2,t3,t4⟩:=k5.two
   have q1:=hb.size
   go_wp2
   refine bodyPost_intQ rfl rfl rfl (br.put2 _ _) (i5.ext (br.lext2 dE _ _)) (bset (bset hb oM 0 _) oM 1 _) (fun e w' ⟨v,h1,h2,h3⟩=>⟨v,g,h1,h2,by rw [HM1.out,HM2.out]; exact hg.out,h3⟩)


def addC (F : Nat->Nat->Int) (i j : Nat) (k : Int) : Nat->Nat->Int:=fun a b=>if b = i then F a i + k * F a j else F a b
def addFu (F : Nat->Nat->Int) (i j : Nat) (k : Int) (c : Nat) : Nat->Nat->Int:=fun a b=>if a = i/\b < c then F i b + k * F j b else F a b
def addCu (F : Nat->Nat->Int) (i j : Nat) (k : Int) (c : Nat) : Nat->Nat->Int:=fun a b=>if b = i/\a < c then F a i + k * F a j else F a b
def StV (w : World) (v : Value) (ls : List (Nat × Nat × Nat × Int)) : Prop:=
 ∃ao n cap,v = .slice ao n cap/\ls.length = n/\n<=cap/\cap<=9223372036854775807/\(∀s ∈ ls,s.1<=255/\s.2.1<=255/\s.2.2.1<=255/\-128<=s.2.2.2/\s.2.2.2<=127) ∧
  (ls ≠ []->∃b off,ao = some ⟨b,off,none⟩/\b < w.heap.size/\∀(k : Nat) (s : Nat × Nat × Nat × Int),ls[k]? = some s->w.cell? ⟨b,off + k * 4,none⟩ = some (.int .u8 s.1)/\w.cell? ⟨b,off + k * 4 + 1,none⟩ = some (.int .u8 s.2.1)/\w.cell? ⟨b,off + k * 4 + 2,none⟩ = some (.int .u8 s.2.2.1)/\w.cell? ⟨b,off + k * 4 + 3,none⟩ = some (.int .i8 s.2.2.2))
theorem StV.cell {w : World} {ao : Option Addr} {n cap : Nat} {ls : List (Nat × Nat × Nat × Int)} (h : StV w (.slice ao n cap) ls) {k : Nat} (hk : k < ls.length) :
  ∃b off,∃p q r : Nat,∃z : Int,ao = some ⟨b,off,none⟩/\b < w.heap.size/\p<=255/\q<=255/\r<=255/\-128<=z/\z<=127/\w.cell? ⟨b,off + k * 4,none⟩ = some (.int .u8 p)/\w.cell? ⟨b,off + k * 4 + 1,none⟩ = some (.int .u8 q)/\w.cell? ⟨b,off + k * 4 + 2,none⟩ = some (.int .u8 r)/\w.cell? ⟨b,off + k * 4 + 3,none⟩ = some (.int .i8 z):=by
 obtain ⟨ao',n',cap',h1,h2,h3,h4,h5,h6⟩:=h
 injection h1 with e1 e2 e3
 subst e1
 obtain ⟨b,off,e,hb,hc⟩:=h6 (by rintro rfl; simp at hk)
 have hz:=List.getElem?_eq_getElem hk
 obtain ⟨g1,g2,g3,g4,g5⟩:=h5 _ (List.mem_of_getElem? hz)
 obtain ⟨c1,c2,c3,c4⟩:=hc _ _ hz
 exact ⟨b,off,_,_,_,_,e,hb,g1,g2,g3,g4,g5,c1,c2,c3,c4⟩
theorem StV.below {w w' : World} {v : Value} {ls : List (Nat × Nat × Nat × Int)} (h : StV w v ls) (hb : Below w.heap.size w w') : StV w' v ls:=by
 obtain ⟨ao,n,cap,h1,h2,h3,h4,h5,h6⟩:=h
 refine ⟨ao,n,cap,h1,h2,h3,h4,h5,fun hne=>?_⟩
 obtain ⟨b,off,e,hlt,hc⟩:=h6 hne
 refine ⟨b,off,e,Nat.lt_of_lt_of_le hlt hb.size,fun k s hz=>?_⟩
 obtain ⟨c1,c2,c3,c4⟩:=hc k s hz
 exact ⟨(hb.cell (p:=⟨b,off + k * 4,none⟩) hlt).trans c1,(hb.cell (p:=⟨b,off + k * 4 + 1,none⟩) hlt).trans c2,(hb.cell (p:=⟨b,off + k * 4 + 2,none⟩) hlt).trans c3,(hb.cell (p:=⟨b,off + k * 4 + 3,none⟩) hlt).trans c4⟩
theorem Fac.refl (R C : Nat) (F : Nat->Nat->Int) : Fac R C F F:=⟨idf,idf,fun a ha b hb=>by
 rw [<-idf_sum ha fun s=>sumN C fun t=>F s t * idf t b,sum_idf hb]⟩
theorem Fac.congr {R C : Nat} {F G G' : Nat->Nat->Int} (h : Fac R C F G) (e : ∀a,a < R->∀b,b < C->G' a b = G a b) : Fac R C F G':=by
 obtain ⟨P,Q,h⟩:=h
 exact ⟨P,Q,fun a ha b hb=>(e a ha b hb).trans (h a ha b hb)⟩
theorem Fac.trans {R C : Nat} {F G H : Nat->Nat->Int} (h : Fac R C F G) (k : Fac R C G H) : Fac R C F H:=by
 obtain ⟨P,Q,h⟩:=h
 obtain ⟨P',Q',k⟩:=k
 refine ⟨fun a s=>sumN R fun m=>P' a m * P m s,fun t b=>sumN C fun m=>Q t m * Q' m b,fun a ha b hb=>?_⟩
 rw [k a ha b hb]
 have e1 : ∀m,m < R->sumN C (fun t=>G m t * Q' t b) = sumN R fun s=>P m s * sumN C fun t=>F s t * sumN C fun m'=>Q t m' * Q' m' b:=fun m hm=>by
  have e2 : ∀t,t < C->G m t * Q' t b = sumN R fun s=>P m s * sumN C fun t'=>F s t' * (Q t' t * Q' t b):=fun t ht=>by
   rw [h m hm t ht,<-sumN_mulr]
   refine sumN_congr fun s _=>?_
   rw [Int.mul_assoc,<-sumN_mulr]
   congr 1
   exact sumN_congr fun t' _=>Int.mul_assoc _ _ _
  rw [sumN_congr e2,sumN_swap]
  refine sumN_congr fun s _=>?_
  rw [sumN_mul,sumN_swap]
  congr 1
  exact sumN_congr fun t' _=>sumN_mul _ _ _
 have e3 : ∀m,m < R->P' a m * sumN C (fun t=>G m t * Q' t b) = sumN R fun s=>(P' a m * P m s) * sumN C fun t=>F s t * sumN C fun m'=>Q t m' * Q' m' b:=fun m hm=>by
  rw [e1 m hm,<-sumN_mul]
  exact sumN_congr fun s _=>(Int.mul_assoc _ _ _).symm
 rw [sumN_congr e3,sumN_swap]
 exact sumN_congr fun s _=>sumN_mulr _ _ _
theorem Fac.rows {R C : Nat} {F G P : Nat->Nat->Int} (h : ∀a,a < R->∀b,b < C->G a b = sumN R fun s=>P a s * F s b) : Fac R C F G:=⟨P,idf,fun a ha b hb=>by
 rw [h a ha b hb]
 exact sumN_congr fun s _=>by rw [sum_idf hb fun t=>F s t]⟩
theorem Fac.tr {R C : Nat} {F G : Nat->Nat->Int} (h : Fac R C F G) : Fac C R (trF F) (trF G):=by
 obtain ⟨P,Q,h⟩:=h
 refine ⟨fun a s=>Q s a,fun t b=>P b t,fun a ha b hb=>?_⟩
 show G b a = _
 rw [h b hb a ha]
 simp only [<-sumN_mul]
 rw [sumN_swap]
 refine sumN_congr fun t _=>sumN_congr fun s _=>?_
 show P b s * (F s t * Q t a) = Q t a * (F s t * P b s)
 grind
theorem Fac.ops {R C : Nat} {l : List Op} (hl : okOps R l) (F : Nat->Nat->Int) : Fac R C F (opsF l F)/\Fac R C (opsF l F) F:=
 ⟨Fac.rows (P:=opsF l idf) fun a ha b _=>ops_mat hl F a ha b,Fac.rows (P:=fun a s=>opsD l idf s a) fun a ha b _=>ops_back hl F a ha b⟩
structure ChI (R C M i : Nat) (F0 F : Nat->Nat->Int) : Prop where
 to_ : Fac R C F0 F
 back : Fac R C F F0
 le : leM (M * 3 ^ i) R C F
theorem ChI.next {R C M i : Nat} {F0 F G : Nat->Nat->Int} (h : ChI R C M i F0 F) (h1 : Fac R C F G) (h2 : Fac R C G F) (h3 : leM (M * 3 ^ i * 3) R C G) : ChI R C M (i + 1) F0 G:=
 ⟨h.to_.trans h1,h2.trans h.back,by rwa [Nat.pow_succ,<-Nat.mul_assoc]⟩
theorem ChI.same {R C M i : Nat} {F0 F : Nat->Nat->Int} (h : ChI R C M i F0 F) : ChI R C M (i + 1) F0 F:=h.next (Fac.refl _ _ _) (Fac.refl _ _ _) (h.le.mono oM)
theorem ChI.add {R C M i x y : Nat} {k : Int} {F0 F : Nat->Nat->Int} (h : ChI R C M i F0 F) (hx : x < R) (hy : y < R) (hxy : x ≠ y) (hk : k.natAbs<=2) : ChI R C M (i + 1) F0 (addF F x y k):=by
 obtain ⟨h1,h2⟩:=Fac.ops (C:=C) (l:=[.add x y k]) (okOps.cons ⟨hx,hy,hxy⟩ okOps.nil) F
 exact h.next h1 h2 ((leM_add h.le hx hy).mono (Nat.mul_le_mul_left _ oM))
theorem ChI.swap {R C M i x y : Nat} {F0 F : Nat->Nat->Int} (h : ChI R C M i F0 F) (hx : x < R) (hy : y < R) : ChI R C M (i + 1) F0 (fun a b=>F (swp x y a) b):=by
 obtain ⟨h1,h2⟩:=Fac.ops (C:=C) (l:=[.swap x y]) (okOps.cons ⟨hx,hy⟩ okOps.nil) F
 exact h.next h1 h2 fun a ha b hb=>Nat.le_trans (h.le _ (swp_lt hx hy ha) b hb) oM
def swnF (F : Nat->Nat->Int) (x y : Nat) : Nat->Nat->Int:=fun a b=>if b = x then -(F a y) else if b = y then F a x else F a b
def swnU (F : Nat->Nat->Int) (x y r : Nat) : Nat->Nat->Int:=fun a b=>if a < r then swnF F x y a b else F a b
theorem RowsO.blk {w : World} {base g n cap C : Nat} {bs : List Nat} {M : List (List Int)} (h : RowsO w base (.slice (some ⟨g,0,none⟩) n cap) C bs M) : base<=g/\∃cs,Blk w g tR cs:=by
 rcases h.own.2 with ⟨e,-⟩ | ⟨g',cap',cur,e,e2,e3,-⟩
 ·cases e
 ·injection e with e8 e9 e10
  injection e8 with e8
  injection e8 with e8
  subst e8
  exact ⟨e2,cur,e3⟩
theorem Only.below {S : List Nat} {B : Nat} {w a b : World} (h : Below B w a) (ho : Only S a b) (hS : ∀k ∈ S,B<=k) (hsz : B<=a.heap.size) : Below B w b:=
 ⟨ho.bel.os.trans h.os,ho.bel.tape.trans h.tape,ho.bel.output.trans h.output,Nat.le_trans h.size ho.bel.size,fun k hk=>(ho.old k oM (fun hh=>by have:=hS k hh; omega)).trans (h.block k hk)⟩
theorem Only.blk {S : List Nat} {w w' : World} {g : Nat} {T : TypeId} {cs : Array Value} (h : Blk w g T cs) (ho : Only S w w') (hg : g ∉ S) : Blk w' g T cs:=(ho.old g h.lt hg).trans h
theorem Dg.tr {R C r : Nat} {F : Nat->Nat->Int} (h : Dg R C r F) : Dg C R r (trF F):=
 ⟨fun a ha b hb hab=>h.off b hb a ha (Ne.symm hab),h.pos,fun i h1 h2=>h.zero i h1 oM,by have:=h.le; omega⟩
theorem Inv.tr {R C r : Nat} {A F : Nat->Nat->Int} (h : Inv R C r A F) : Inv C R r (trF A) (trF F):=
 ⟨h.dg.tr,fun a b h1 h2 h3=>h.chn a b h1 h2 oM,h.fwd.tr,h.bwd.tr⟩
theorem Inv.congr {R C r : Nat} {A B F : Nat->Nat->Int} (h : Inv R C r A F) (e : ∀a,a < R->∀b,b < C->B a b = A a b) : Inv R C r B F:=
 ⟨h.dg,h.chn,(Fac.congr (Fac.refl R C B) fun a ha b hb=>(e a ha b hb).symm).trans h.fwd,h.bwd.congr e⟩
def InvV (n : Nat) (M : List (List Int)) (w : World) (v : Value) : Prop:=∃F r,Inv n n r (ent M) F/\VecV w v (genV r fun i=>F i i)
theorem prodN_div {n m : Nat} {f : Nat->Int} (h : n<=m) : prodN n f ∣ prodN m f:=by
 induction m with
 | zero=>
  obtain rfl : n = 0:=by omega
  exact Int.dvd_refl _
 | succ m ih=>
  rcases Nat.lt_or_ge m n with h1 | h1
  ·obtain rfl : n = m + 1:=by omega
   exact Int.dvd_refl _
  ·exact Int.dvd_trans (ih h1) ⟨f m,rfl⟩
theorem Inv.part {R C r h i : Nat} {A F : Nat->Nat->Int} (hI : Inv R C r A F) (hR : R<=4) (h1 : 1<=h) (hA : leM h R C A) (hi : i<=r) : (prodN i (fun i=>F i i)).natAbs<=24 * h ^ 4:=by
 refine Nat.le_trans (Nat.le_of_dvd ?_ (Int.natAbs_dvd_natAbs.2 (prodN_div hi))) (hI.small hR h1 hA)
 have : 0 < prodN r fun i=>F i i:=prodN_pos fun i hi=>hI.dg.pos i hi
 omega
theorem Inv.elem {R C r h i : Nat} {A F : Nat->Nat->Int} (hI : Inv R C r A F) (hR : R<=4) (h1 : 1<=h) (hA : leM h R C A) (hi : i < r) : (F i i).natAbs<=24 * h ^ 4:=by
 refine Nat.le_trans (Nat.le_of_dvd ?_ (Int.natAbs_dvd_natAbs.2 ?_)) (hI.part hR h1 hA (i:=i + 1) hi)
 ·have : 0 < prodN (i + 1) fun i=>F i i:=prodN_pos fun k hk=>hI.dg.pos k oM
  omega
 ·exact ⟨prodN i fun i=>F i i,Int.mul_comm _ _⟩
theorem r1sameB (v1 v2 : Value) (z : Int) (w : World) (h1 : IntV w v1 z) (h2 : IntV w v2 z) : Calls Tryz.prog 30 #[v1,v2] w fun e w'=>∃v,e = .returned v/\v = .bool true/\Below w.heap.size w w':=
 (r1same_any v1 v2 z z w h1 h2).mono fun e w' h=>⟨_,h.1,by simp,h.2⟩
theorem minorsI (v : Value) (R C k r : Nat) (M : List (List Int)) (F : Nat->Nat->Int) (w : World) (h : MatV w v R C M) (hF : Fits R C M) (hR : R<=4) (hC : C<=4) (hkR : k<=R) (hkC : k<=C) (hA : leM 1048576 R C (ent M)) (hI : Inv R C r (ent M) F) :
  Calls Tryz.prog 31 #[v,.int .i64 k] w (RetInt w (prodN k fun i=>F i i)):=
 (minors_any v R C k M w h hF hR hC hkR hkC hA).mono fun e w' ⟨v,g,h1,h2,h3,h4⟩=>⟨v,h1,by rw [<-minors_prod hI hkR hkC h3]; exact h2,h4⟩
set_option maxHeartbeats 8000000 in
set_option maxRecDepth 20000 in
theorem smithMinors_any (v : Value) (r c : Nat) (ls : List Int) (w : World) (h : I8V w v ls) (hr : r<=255) (hc : c<=255) :
  Calls Tryz.prog 6 #[.agg #[.int .u8 r,.int .u8 c,v]] w fun e w'=>e = .returned (.bool true)/\Below w.heap.size w w':=by
 obtain ⟨ao,n,cap,rfl,-,-,-,-,-⟩:=id h
 obtain ⟨R,hR⟩ : ∃R : Nat,R = r % 5:=⟨_,rfl⟩
 obtain ⟨C,hC⟩ : ∃C : Nat,C = c % 5:=⟨_,rfl⟩
 have hR4 : R<=4:=by omega
 have hC4 : C<=4:=by omega
 have HR:=Lib.hid hR
 have HC:=Lib.hid hC
 clear hR hC
 obtain ⟨M,hM⟩ : ∃M,genM R C (digF C ls) = M:=⟨_,rfl⟩
 have HMade : HidS (∀w,I8V w (.slice ao n cap) ls->Calls Tryz.prog 13 #[.agg #[.int .u8 r,.int .u8 c,.slice ao n cap]] w fun e w'=>∃v,e = .returned v/\MatV w' v R C M/\Below w.heap.size w w'):=⟨fun w h=>by
  rw [<-hM]
  exact madeM _ r c ls w h hr hc R C HR.out HC.out⟩
 have HF : HidS (Fits R C M):=⟨by rw [<-hM]; exact genM_fits _ _ _⟩
 have HA : HidS (leM 1048576 R C (ent M)):=⟨by rw [<-hM]; exact (ent_leM (digF_leM R C C ls)).mono oM⟩
 clear hM
 go_enter Tryz.func6,Tryz.ntmps6
 go_upto_region 1 with (fail)
 refine wp_world ?_
 intro W0 hW0
 obtain ⟨hB0,bx,hs0⟩:=world1 hW0
 clear hW0
 go_wp2_with fail
 refine (sanity_any W0).mono ?_
 rintro e w1 ⟨rfl,hb1⟩
 have hB:=nx hB0 hb1
 have bx:=bx.below hb1
 obtain ⟨c1,c2,c3,c4,c5,c6⟩:=bx.three
 go_wp2_with fail
 refine (HMade.out w1 (h.below hB)).mono ?_
 rintro e w2 ⟨va,rfl,hm,hb2⟩
 obtain ⟨A,rfl,hrv⟩:=id hm
 obtain ⟨ro,rn,rc,rfl,-⟩:=id hrv
 have hB:=nx hB hb2
 clear c1 c2 c3 c4 c5 c6 hrv bx
 go_upto_region 3 with (fail)
 refine wp_world ?_
 intro W3 hW3
 obtain ⟨hB3,T4,hs3⟩:=world1 hW3
 have HM:=Hk (hm.below hB3)
 have hB:=nx hB hB3
 clear hW3 hm
 obtain ⟨c1,c2,c3,c4,c5,c6⟩:=T4.three
 go_wp2_with fail
 refine (inv_all _ M R C W3 HM.out HF.out hR4 hC4 HA.out).mono ?_
 rintro e w4 ⟨fv,F,rr,rfl,hinv,hvo,hb4⟩
 have hvv:=hvo.vec
 obtain ⟨mo,mn,mk,rfl,hml,hmk1,hmk2,-⟩:=id hvv
 obtain rfl : rr = mn:=by rw [<-hml,genV_length]
 have hrr : rr<=R/\rr<=C:=by have:=hinv.dg.le; omega
 obtain ⟨hrR,hrC⟩:=hrr
 have HP : HidS (∀i,i<=rr->Smd (prodN i fun i=>F i i)):=⟨fun i hi=>small24_smd (hinv.part hR4 dE HA.out hi)⟩
 have HE : HidS (∀i,i < rr->Smd (F i i)):=⟨fun i hi=>small24_smd (hinv.elem hR4 dE HA.out hi)⟩
 have HZ : HidS (∀K,rr < K->K<=R->K<=C->(prodN K fun i=>F i i) = 0):=⟨fun K h1 h2 h3=>prodN_zero h1 (hinv.dg.zero rr (Nat.le_refl _) oM)⟩
 have HMN : HidS (∀K,K<=R->K<=C->∀w',MatV w' (.agg #[.int .i64 R,.int .i64 C,.slice ro rn rc]) R C M->Calls Tryz.prog 31 #[.agg #[.int .i64 R,.int .i64 C,.slice ro rn rc],.int .i64 K] w' (RetInt w' (prodN K fun i=>F i i))):=⟨fun K h1 h2 w' hm=>minorsI _ R C K rr M F w' hm HF.out hR4 hC4 h1 h2 HA.out hinv⟩
 have HV:=Hk hvv
 have T4:=T4.below hb4
 have HM:=Hk (HM.out.below hb4)
 have hB:=nx hB hb4
 clear hinv hvo hvv hml c1 c2 c3 c4 c5 c6
 obtain ⟨c1,c2,c3,c4,c5,c6⟩:=T4.three
 have g1 : ¬ ((R : Int) < (rr : Int)):=by omega
 have g2 : ¬ ((C : Int) < (rr : Int)):=by omega
 go_wp2_with fail
 refine (validvec_any _ _ w4 HV.out).mono ?_
 rintro e w5 ⟨rfl,hb5⟩
 have hB:=nx hB hb5
 have T4:=T4.below hb5
 have HM:=Hk (HM.out.below hb5)
 have HV:=Hk (HV.out.below hb5)
 clear c1 c2 c3 c4 c5 c6 g1 g2
 go_wp2_with fail
 refine (r1of_any 1 w5 oM oM).mono ?_
 rintro e w6 ⟨u,rfl,hu,hb6⟩
 obtain ⟨un,ua,ul,uc,ux,rfl,hu'⟩:=id hu
 have HU2:=Lib.hid hu'
 clear hu'
 go_upto_region 7 with (fail)
 refine wp_world ?_
 intro W7 hW7
 obtain ⟨hB7,T7,hs7⟩:=world1 hW7
 have z7 : BoxI W7 w6.heap.size 1:=BoxI.mk T7 (hu.ext (lx hB7))
 have T40:=T4.below hb6
 have HV0:=Hk (HV.out.below hb6)
 have HM0:=Hk (HM.out.below hb6)
 have hB:=nx (nx hB hb6) hB7
 have q0 : w.heap.size<=w6.heap.size:=by have:=hb6.size; have:=hb5.size; have:=hb4.size; have:=hB3.size; have:=hb2.size; have:=hb1.size; have:=hB0.size; omega
 clear hW7 hu T7
 go_wp2
 go_loopw [7] (fun iv wr=>∃q : Nat,q<=min R C/\iv = .int .i64 (q + 1)/\Below w.heap.size w wr/\Below w6.heap.size w6 wr/\BoxI wr w6.heap.size (prodN q fun i=>F i i)) (fun iv _=>min R C + 1 - (intOf iv).toNat)
 case atStart=>exact ⟨0,by omega,rfl,hB,hB7,z7⟩
 case round=>
  clear hB T4 HV z7 HM hB7
  obtain ⟨q,hq,rfl,hB,hBr,z7⟩:=hrel
  obtain ⟨N,hKq⟩ : ∃N,N = q + 1:=⟨_,rfl⟩
  have e1 : (q : Int) + 1 = (N : Int):=by omega
  have e2 : (q : Int) = (N : Int) - 1:=by omega
  have hqK : N - 1 = q:=by omega
  have hKm : N<=min R C + 1:=by omega
  have hK0 : 0 < N:=by omega
  have HKQ:=Lib.hid hKq
  rw [e1]
  have T4:=T40.below hBr
  have HMW:=Hk (HM0.out.below hBr)
  have l4:=T4.lt
  obtain ⟨c1,c2,c3,c4,c5,c6⟩:=T4.three
  by_cases hkR : N<=R
  ·by_cases hkC : N<=C
   ·obtain ⟨P,hP⟩ : ∃P,(prodN N fun i=>F i i) = P:=⟨_,rfl⟩
    have HPP:=Lib.hid hP
    have h1 : (N : Int)<=(R : Int):=by omega
    have h2 : (N : Int)<=(C : Int):=by omega
    by_cases hkr : N<=rr
    ·have h3 : (N : Int)<=(rr : Int):=by omega
     obtain ⟨b',z,sg,al,ll,cl,rfl,hbl',hzk,q1,q2,hzv⟩:=(HV0.out.below hBr).cell (k:=q) (by rw [genV_length]; omega)
     rw [genV_get oM] at hzk
     injection hzk with hzk
     have HZS : HidS (Smd z):=⟨by rw [<-hzk]; exact HE.out q oM⟩
     have HPS : HidS (Smd (prodN q fun i=>F i i)):=⟨HP.out q oM⟩
     obtain ⟨P0,hP0⟩ : ∃P0,(prodN q fun i=>F i i) = P0:=⟨_,rfl⟩
     have HPV : HidS (P0 * z = P):=⟨by rw [<-hP0,<-hzk,<-hP,hKq]; rfl⟩
     rw [hP0] at z7 HPS
     have hw1 : IntKind.i64.wrap (q : Int) = (q : Int):=IntWalk.i64_in _ oM
     have hw2 : (N : Int) - 1 = (q : Int):=by omega
     have hq1 : q < rr:=by omega
     clear hP0 hP hzk e1 e2 hqK hKq
     obtain ⟨yn,ya,yl,yc,k7,i7⟩:=z7
     obtain ⟨t1,t2,t3,t4⟩:=k7.two
     have l7:=k7.lt
     go_upto_region 11 with (fail)
     refine wp_region_headed 7 rfl (RV wr _ [⟨0,47,fun _ v=>v = .agg #[.bool yn,.slice ya yl yc]⟩,⟨1,48,fun _ v=>v = .slice (some ⟨b',0,none⟩) rr mk⟩,⟨2,49,fun _ v=>v = .int .i64 N⟩,⟨3,50,fun _ v=>v = .int .i64 q⟩,⟨4,51,fun _ v=>v = .pointer (some ⟨b',q * 2,none⟩)⟩,⟨5,52,fun _ v=>v = .agg #[.bool sg,.slice al ll cl]⟩,⟨6,53,fun w v=>IntV w v (P0 * z)⟩]) kR RV.start ?fin1 ?steps1
     case steps1=>
      refine ⟨?_,?_,?_,?_,?_,?_,?_,trivial⟩ <;> (intro L T wS hL hd hcl hI K hK; try refine sW rfl ?_)
      ·have zt : T[6]? = some (.pointer (some ⟨w6.heap.size,0,none⟩)):=hI.keep 6 sI
       have cc0:=hI.cell t1
       have cc1:=hI.cell t2
       go_simp
       exact hK _ _ (hI.y mm0 rfl)
      ·have zt : T[5]? = some (.slice (some ⟨b',0,none⟩) rr mk):=hI.keep 5 sI
       go_simp
       exact hK _ _ (hI.y mm1 rfl)
      ·have zt : T[7]? = some (.int .i64 N):=hI.keep 7 sI
       go_simp
       exact hK _ _ (hI.y mm2 rfl)
      ·obtain ⟨_,zt2,rfl⟩:=hI.v mm2 (hd 2)
       go_simp
       exact hK _ _ (hI.y mm3 rfl)
      ·obtain ⟨_,zt1,rfl⟩:=hI.v mm1 (hd 1)
       obtain ⟨_,zt3,rfl⟩:=hI.v mm3 (hd 3)
       go_simp
       exact hK _ _ (hI.y mm4 rfl)
      ·obtain ⟨_,zt4,rfl⟩:=hI.v mm4 (hd 4)
       have cc0:=hI.cell q1
       have cc1:=hI.cell q2
       go_simp
       exact hK _ _ (hI.y mm5 rfl)
      ·obtain ⟨_,zt0,rfl⟩:=hI.v mm0 (hd 0)
       obtain ⟨_,zt5,rfl⟩:=hI.v mm5 (hd 5)
       go_simp
       refine (r1mul_any _ _ P0 z wS (i7.ext (lx hI.bel)) (hzv.ext (lx hI.bel)) HPS.out.sm HZS.out.sm).mono ?_
       rintro e wa ⟨v,rfl,hv,hba⟩
       exact hK _ _ ((hI.world hba).y mm6 hv)
     intro T w10 hI
     obtain ⟨vb0,q0,rfl⟩:=hI.v mm0 rfl
     obtain ⟨vb1,q1,rfl⟩:=hI.v mm1 rfl
     obtain ⟨vb2,q2,rfl⟩:=hI.v mm2 rfl
     obtain ⟨vb3,q3,rfl⟩:=hI.v mm3 rfl
     obtain ⟨vb4,q4,rfl⟩:=hI.v mm4 rfl
     obtain ⟨vb5,q5,rfl⟩:=hI.v mm5 rfl
     obtain ⟨vb6,q6,hb6⟩:=hI.v mm6 rfl
     replace hb6 : IntV w10 vb6 (P0 * z):=hb6
     have hT:=tmps_set [(47,.agg #[.bool yn,.slice ya yl yc]),(48,.slice (some ⟨b',0,none⟩) rr mk),(49,.int .i64 N),(50,.int .i64 q),(51,.pointer (some ⟨b',q * 2,none⟩)),(52,.agg #[.bool sg,.slice al ll cl]),(53,vb6)]
      (fun j hj=>hI.keep j (by simp only [List.forall_mem_cons] at hj ⊢; simp [hj]))
      (by simp only [List.forall_mem_cons]; simp [q0,q1,q2,q3,q4,q5,q6]) hI.size
     have hbw10:=hI.bel
     clear hI
     simp only [List.foldl_cons,List.foldl_nil,List.setIfInBounds_toArray,List.set_cons_zero,List.set_cons_succ,ptr] at hT
     subst hT
     clear q0 q1 q2 q3 q4 q5 q6
     simp only [List.drop_succ_cons,List.drop_zero]
     obtain ⟨pn,pa,pl,pc,px,rfl,hp'⟩:=id hb6
     have HPQ:=Lib.hid hp'
     rw [HPV.out] at hb6
     clear hp' t1 t2 t3 t4 q1 q2 hw1 hw2 c1 c2 c3 c4 c5 c6
     have k7:=k7.below hbw10
     obtain ⟨t1,t2,t3,t4⟩:=k7.two
     have T4:=T4.below hbw10
     have q10:=hbw10.size
     have q1:=hBr.size
     go_upto_region 13 with (fail)
     refine wp_world ?_
     intro W12 hW12
     have z9 : BoxI W12 w6.heap.size P:=by rw [hW12.out]; exact BoxI.put k7 hb6
     have hBw : Below w.heap.size w W12:=by rw [hW12.out]; exact bset (bset (nx hB hbw10) oM _ _) oM _ _
     have hRw : Below w6.heap.size w6 W12:=by rw [hW12.out]; exact bset (bset (nx hBr hbw10) oM _ _) oM _ _
     have T4:=T40.below hRw
     have HMW:=Hk (HM0.out.below hRw)
     clear hW12 t1 t2 t3 t4
     obtain ⟨yn,ya,yl,yc,k6,i6⟩:=z9
     have l6:=k6.lt
     obtain ⟨t1,t2,t3,t4⟩:=k6.two
     obtain ⟨c1,c2,c3,c4,c5,c6⟩:=T4.three
     go_upto_region 13 with (fail)
     refine wp_region_each rfl (RV W12 _ [⟨0,55,fun _ v=>v = .agg #[.bool yn,.slice ya yl yc]⟩,⟨1,56,fun _ v=>v = .agg #[.int .i64 R,.int .i64 C,.slice ro rn rc]⟩,⟨2,57,fun _ v=>v = .int .i64 N⟩,⟨3,58,fun w v=>IntV w v (P)⟩,⟨4,59,fun _ v=>v = .bool true⟩,⟨5,60,fun _ v=>v = .bool false⟩]) kR RV.start ?fin2 ?steps2
     case steps2=>
      refine ⟨?_,?_,?_,?_,?_,?_,trivial⟩ <;> (intro L T wS hL hd hcl hI K hK; try refine sW rfl ?_)
      ·have zt : T[6]? = some (.pointer (some ⟨w6.heap.size,0,none⟩)):=hI.keep 6 sI
       have cc0:=hI.cell t1
       have cc1:=hI.cell t2
       go_simp
       exact hK _ _ (hI.y mm0 rfl)
      ·have zt : T[4]? = some (.pointer (some ⟨w2.heap.size,0,none⟩)):=hI.keep 4 sI
       have cc0:=hI.cell c1
       have cc1:=hI.cell c2
       have cc2:=hI.cell c3
       go_simp
       exact hK _ _ (hI.y mm1 rfl)
      ·have zt : T[7]? = some (.int .i64 N):=hI.keep 7 sI
       go_simp
       exact hK _ _ (hI.y mm2 rfl)
      ·obtain ⟨_,zt1,rfl⟩:=hI.v mm1 (hd 1)
       obtain ⟨_,zt2,rfl⟩:=hI.v mm2 (hd 2)
       go_simp
       refine (HPP.out ▸ HMN.out N hkR hkC wS (HMW.out.below hI.bel)).mono ?_
       rintro e wa ⟨v,rfl,hv,hba⟩
       exact hK _ _ ((hI.world hba).y mm3 hv)
      ·obtain ⟨_,zt0,rfl⟩:=hI.v mm0 (hd 0)
       obtain ⟨v3,zt3,h3⟩:=hI.v mm3 (hd 3)
       go_simp
       refine (r1sameB _ _ P wS (i6.ext (lx hI.bel)) h3).mono ?_
       rintro e wa ⟨v,rfl,hv,hba⟩
       exact hK _ _ ((hI.world hba).y mm4 hv)
      ·obtain ⟨_,zt4,rfl⟩:=hI.v mm4 (hd 4)
       go_simp
       exact hK _ _ (hI.y mm5 rfl)
     intro T wz hI
     obtain ⟨vz0,q0,rfl⟩:=hI.v mm0 rfl
     obtain ⟨vz1,q1,rfl⟩:=hI.v mm1 rfl
     obtain ⟨vz2,q2,rfl⟩:=hI.v mm2 rfl
     obtain ⟨vz3,q3,hz3⟩:=hI.v mm3 rfl
     replace hz3 : IntV wz vz3 (P):=hz3
     obtain ⟨vz4,q4,rfl⟩:=hI.v mm4 rfl
     obtain ⟨vz5,q5,rfl⟩:=hI.v mm5 rfl
     have hT:=tmps_set [(55,.agg #[.bool yn,.slice ya yl yc]),(56,.agg #[.int .i64 R,.int .i64 C,.slice ro rn rc]),(57,.int .i64 N),(58,vz3),(59,.bool true),(60,.bool false)]
      (fun j hj=>hI.keep j (by simp only [List.forall_mem_cons] at hj ⊢; simp [hj]))
      (by simp only [List.forall_mem_cons]; simp [q0,q1,q2,q3,q4,q5]) hI.size
     have hbwz:=hI.bel
     clear hI
     simp only [List.foldl_cons,List.foldl_nil,List.setIfInBounds_toArray,List.set_cons_zero,List.set_cons_succ,ptr] at hT
     subst hT
     clear q0 q1 q2 q3 q4 q5
     have hBz:=nx hBw hbwz
     have hRz:=nx hRw hbwz
     have z6:=(BoxI.mk k6 i6).below hbwz
     rw [<-HPP.out] at z6
     go_wp2
     go_roundw
     case rel=>exact ⟨N,by omega,by simp,hBz,hRz,z6⟩
     case measure=>simp [intOf]; omega
    ·have h3 : ¬ ((N : Int)<=(rr : Int)):=by omega
     have hP0 : P = 0:=by rw [<-hP]; exact HZ.out N oM hkR hkC
     have HP0:=Lib.hid hP0
     clear hP hP0 e1 e2 hqK hKq
     go_wp2_with fail
     refine (r1of_any 0 wr oM oM).mono ?_
     rintro e w10 ⟨u,rfl,hu,hbw10⟩
     obtain ⟨un,ua,ul,uc,ux,rfl,hu'⟩:=id hu
     have HU3:=Lib.hid hu'
     clear hu' c1 c2 c3 c4 c5 c6
     obtain ⟨yn,ya,yl,yc,k7,i7⟩:=z7.below hbw10
     obtain ⟨t1,t2,t3,t4⟩:=k7.two
     have q10:=hbw10.size
     have q1:=hBr.size
     go_upto_region 13 with (fail)
     refine wp_world ?_
     intro W12 hW12
     have z9 : BoxI W12 w6.heap.size P:=by rw [hW12.out,HP0.out]; exact BoxI.put k7 hu
     have hBw : Below w.heap.size w W12:=by rw [hW12.out]; exact bset (bset (nx hB hbw10) oM _ _) oM _ _
     have hRw : Below w6.heap.size w6 W12:=by rw [hW12.out]; exact bset (bset (nx hBr hbw10) oM _ _) oM _ _
     have T4:=T40.below hRw
     have HMW:=Hk (HM0.out.below hRw)
     clear hW12 t1 t2 t3 t4
     obtain ⟨yn,ya,yl,yc,k6,i6⟩:=z9
     have l6:=k6.lt
     obtain ⟨t1,t2,t3,t4⟩:=k6.two
     obtain ⟨c1,c2,c3,c4,c5,c6⟩:=T4.three
     go_upto_region 13 with (fail)
     refine wp_region_each rfl (RV W12 _ [⟨0,55,fun _ v=>v = .agg #[.bool yn,.slice ya yl yc]⟩,⟨1,56,fun _ v=>v = .agg #[.int .i64 R,.int .i64 C,.slice ro rn rc]⟩,⟨2,57,fun _ v=>v = .int .i64 N⟩,⟨3,58,fun w v=>IntV w v (P)⟩,⟨4,59,fun _ v=>v = .bool true⟩,⟨5,60,fun _ v=>v = .bool false⟩]) kR RV.start ?fin3 ?steps3
     case steps3=>
      refine ⟨?_,?_,?_,?_,?_,?_,trivial⟩ <;> (intro L T wS hL hd hcl hI K hK; try refine sW rfl ?_)
      ·have zt : T[6]? = some (.pointer (some ⟨w6.heap.size,0,none⟩)):=hI.keep 6 sI
       have cc0:=hI.cell t1
       have cc1:=hI.cell t2
       go_simp
       exact hK _ _ (hI.y mm0 rfl)
      ·have zt : T[4]? = some (.pointer (some ⟨w2.heap.size,0,none⟩)):=hI.keep 4 sI
       have cc0:=hI.cell c1
       have cc1:=hI.cell c2
       have cc2:=hI.cell c3
       go_simp
       exact hK _ _ (hI.y mm1 rfl)
      ·have zt : T[7]? = some (.int .i64 N):=hI.keep 7 sI
       go_simp
       exact hK _ _ (hI.y mm2 rfl)
      ·obtain ⟨_,zt1,rfl⟩:=hI.v mm1 (hd 1)
       obtain ⟨_,zt2,rfl⟩:=hI.v mm2 (hd 2)
       go_simp
       refine (HPP.out ▸ HMN.out N hkR hkC wS (HMW.out.below hI.bel)).mono ?_
       rintro e wa ⟨v,rfl,hv,hba⟩
       exact hK _ _ ((hI.world hba).y mm3 hv)
      ·obtain ⟨_,zt0,rfl⟩:=hI.v mm0 (hd 0)
       obtain ⟨v3,zt3,h3⟩:=hI.v mm3 (hd 3)
       go_simp
       refine (r1sameB _ _ P wS (i6.ext (lx hI.bel)) h3).mono ?_
       rintro e wa ⟨v,rfl,hv,hba⟩
       exact hK _ _ ((hI.world hba).y mm4 hv)
      ·obtain ⟨_,zt4,rfl⟩:=hI.v mm4 (hd 4)
       go_simp
       exact hK _ _ (hI.y mm5 rfl)
     intro T wz hI
     obtain ⟨vz0,q0,rfl⟩:=hI.v mm0 rfl
     obtain ⟨vz1,q1,rfl⟩:=hI.v mm1 rfl
     obtain ⟨vz2,q2,rfl⟩:=hI.v mm2 rfl
     obtain ⟨vz3,q3,hz3⟩:=hI.v mm3 rfl
     replace hz3 : IntV wz vz3 (P):=hz3
     obtain ⟨vz4,q4,rfl⟩:=hI.v mm4 rfl
     obtain ⟨vz5,q5,rfl⟩:=hI.v mm5 rfl
     have hT:=tmps_set [(55,.agg #[.bool yn,.slice ya yl yc]),(56,.agg #[.int .i64 R,.int .i64 C,.slice ro rn rc]),(57,.int .i64 N),(58,vz3),(59,.bool true),(60,.bool false)]
      (fun j hj=>hI.keep j (by simp only [List.forall_mem_cons] at hj ⊢; simp [hj]))
      (by simp only [List.forall_mem_cons]; simp [q0,q1,q2,q3,q4,q5]) hI.size
     have hbwz:=hI.bel
     clear hI
     simp only [List.foldl_cons,List.foldl_nil,List.setIfInBounds_toArray,List.set_cons_zero,List.set_cons_succ,ptr] at hT
     subst hT
     clear q0 q1 q2 q3 q4 q5
     have hBz:=nx hBw hbwz
     have hRz:=nx hRw hbwz
     have z6:=(BoxI.mk k6 i6).below hbwz
     rw [<-HPP.out] at z6
     go_wp2
     go_roundw
     case rel=>exact ⟨N,by omega,by simp,hBz,hRz,z6⟩
     case measure=>simp [intOf]; omega
   ·have h1 : (N : Int)<=(R : Int):=by omega
    have h2 : ¬ ((N : Int)<=(C : Int)):=by omega
    clear e1 e2 hqK hKq
    go_wp2
    go_ret
    exact ⟨rfl,hB⟩
  ·have h1 : ¬ ((N : Int)<=(R : Int)):=by omega
   clear e1 e2 hqK hKq
   go_wp2
   go_ret
   exact ⟨rfl,hB⟩
end Go.Proofs.YtnocgagoaldfnaaGreat

namespace Go.Proofs.YtnocgagoaldfnaaGreat
open Go.ChangeShapes Go.WideShapes Go.ChangeAt Go.RowKit
set_option maxRecDepth 100000 in
theorem smithMinors_lifted (os : Os) (started : os.Started) (H : Type) (enc : TypeId × Value->H) :
  ReturnsInHanded {} Tryz.checked os 6 .any (Rows.smithMinorsSpec.pre6 enc Tryz.prog Tryz.f6 Rows.smithMinorsRow.domain false) (Rows.smithMinorsSpec.post enc Tryz.prog Tryz.f6 false true false false):=by
 refine returnsInHanded_of_change (C:=Tryz.checked) Tryz.own started kR Tryz.func6
  (ChangeSpec.witness6 (enc:=enc) (C:=Tryz.checked) false ⟨#[],#[.agg #[.int .u8 0,.int .u8 0,.slice none 0 0]],[]⟩ 8 kR kR kR kR) ?_
 intro W base args ds gs before hval0 hW hcnd _
 have hval : ∀(j : Nat) t v,Tryz.f6.params[j]? = some t->args[j]? = some v->Value.okWide Tryz.prog W .any base t v:=hval0
 have hW':=hW
 obtain ⟨p,q,hA0,hV,rfl,hfz,hnd⟩:=hW
 have hA : DataW.TrodAll enc Tryz.prog W 0 (fun _=>true) true Tryz.f6.params.toList args.toList ds p:=hA0
 rw [Tryz.params6] at hA hval
 obtain ⟨v0,d0,rfl,rfl,h0⟩:=trodAll_one hA
 obtain ⟨rfl,rfl⟩:=trodVars_none hV
 clear hA0 hval0
 simp only [List.append_nil] at hW'
 have hlt0 : ∀x ∈ p,x.block < W.heap.size:=fun x hx=>hW'.lt x (by simp [hx])
 obtain ⟨a,b,sv,ls,rfl,ha,hb,hI⟩:=open_raw (hval 0 24 v0 rfl rfl) h0 hlt0
 refine (smithMinors_any sv a b ls W hI ha hb).mono fun e W' ⟨he,hB⟩=>?_
 subst he
 refine ⟨_,rfl,_,_,_,[],p,[],hW',?_,?_,rfl,hB.frame _,fun h=>by cases h⟩
 ·exact trodAll_mk1 (shut_bool Tryz.underlying4 true)
 ·exact trodAll_mk1 (Below.trod Tryz.laidOut kR (of_decide_eq_true kR) h0 hB hlt0)
theorem smithMinors_holds : Rows.SmithMinorsSaid:=
 OpenClaim.holds_of_wide 6 Tryz.f6 rfl rfl rfl rfl rfl rfl rfl ⟨rfl,rfl,rfl,rfl,rfl⟩ rfl rfl rfl rfl rfl kR Tryz.func6 kR
  (of_decide_eq_true kR) (by unfold Func.isWrapper; first | (rw [if_pos (by decide +kernel)]; kernel_rfl) | (rw [if_neg (by decide +kernel)]; exact ⟨rfl,rfl⟩))
  (fun os started H enc _=>smithMinors_lifted os started H enc)
end Go.Proofs.YtnocgagoaldfnaaGreat
