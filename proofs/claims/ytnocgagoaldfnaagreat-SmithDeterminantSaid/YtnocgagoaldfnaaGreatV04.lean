/- torsionlaw13.SmithDeterminant: whatever the input, it returns true, and the input reads as it did. No conditions. -/
import Derived.Test.YtnocgagoaldfnaaGreatRows
import Derived.ProofKit
import Derived.OpenShut
import Derived.Test.YtnocgagoaldfnaaGreatD21
import Derived.Test.YtnocgagoaldfnaaGreatD47
import Derived.Test.YtnocgagoaldfnaaGreatV03
set_option linter.unusedVariables false
set_option linter.unusedSimpArgs false
set_option linter.unusedSectionVars false
namespace Go.Proofs.YtnocgagoaldfnaaGreat
open Go.RowKit
def StV (w : World) (v : Value) (ls : List (Nat × Nat × Nat × Int)) : Prop:=
 ∃ao n cap,v = .slice ao n cap/\ls.length = n/\n<=cap/\cap<=9223372036854775807/\(∀s ∈ ls,s.1<=255/\s.2.1<=255/\s.2.2.1<=255/\-128<=s.2.2.2/\s.2.2.2<=127) ∧
  (ls ≠ []->∃b off,ao = some ⟨b,off,none⟩/\b < w.heap.size/\∀(k : Nat) (s : Nat × Nat × Nat × Int),ls[k]? = some s->w.cell? ⟨b,off + k * 4,none⟩ = some (.int .u8 s.1)/\w.cell? ⟨b,off + k * 4 + 1,none⟩ = some (.int .u8 s.2.1)/\w.cell? ⟨b,off + k * 4 + 2,none⟩ = some (.int .u8 s.2.2.1)/\w.cell? ⟨b,off + k * 4 + 3,none⟩ = some (.int .i8 s.2.2.2))
theorem StV.cell {w : World} {ao : Option Addr} {n cap : Nat} {ls : List (Nat × Nat × Nat × Int)} (h : StV w (.slice ao n cap) ls) {k : Nat} (hk : k < ls.length) :
  ∃b off,∃p q r : Nat,∃z : Int,ao = some ⟨b,off,none⟩/\b < w.heap.size/\p<=255/\q<=255/\r<=255/\-128<=z/\z<=127/\w.cell? ⟨b,off + k * 4,none⟩ = some (.int .u8 p)/\w.cell? ⟨b,off + k * 4 + 1,none⟩ = some (.int .u8 q)/\w.cell? ⟨b,off + k * 4 + 2,none⟩ = some (.int .u8 r)/\w.cell? ⟨b,off + k * 4 + 3,none⟩ = some (.int .i8 z):=by
 obtain ⟨ao',n',cap',h1,h2,h3,h4,h5,h6⟩:=h
 injection h1 with e1 e2 e3
 subst e1
 obtain ⟨b,off,e,hb,hc⟩:=h6 (by rintro rfl; simp at hk)
 have hz:=List.getElem?_eq_getElem hk
 obtain ⟨g1,g2,g3,g4,g5⟩:=h5 _ (List.mem_of_getElem? hz)
 obtain ⟨c1,c2,c3,c4⟩:=hc _ _ hz
 exact ⟨b,off,_,_,_,_,e,hb,g1,g2,g3,g4,g5,c1,c2,c3,c4⟩
theorem StV.below {w w' : World} {v : Value} {ls : List (Nat × Nat × Nat × Int)} (h : StV w v ls) (hb : Below w.heap.size w w') : StV w' v ls:=by
 obtain ⟨ao,n,cap,h1,h2,h3,h4,h5,h6⟩:=h
 refine ⟨ao,n,cap,h1,h2,h3,h4,h5,fun hne=>?_⟩
 obtain ⟨b,off,e,hlt,hc⟩:=h6 hne
 refine ⟨b,off,e,Nat.lt_of_lt_of_le hlt hb.size,fun k s hz=>?_⟩
 obtain ⟨c1,c2,c3,c4⟩:=hc k s hz
 exact ⟨(hb.cell (p:=⟨b,off + k * 4,none⟩) hlt).trans c1,(hb.cell (p:=⟨b,off + k * 4 + 1,none⟩) hlt).trans c2,(hb.cell (p:=⟨b,off + k * 4 + 2,none⟩) hlt).trans c3,(hb.cell (p:=⟨b,off + k * 4 + 3,none⟩) hlt).trans c4⟩
theorem Fac.refl (R C : Nat) (F : Nat->Nat->Int) : Fac R C F F:=⟨idf,idf,fun a ha b hb=>by
 rw [<-idf_sum ha fun s=>sumN C fun t=>F s t * idf t b,sum_idf hb]⟩
theorem Fac.congr {R C : Nat} {F G G' : Nat->Nat->Int} (h : Fac R C F G) (e : ∀a,a < R->∀b,b < C->G' a b = G a b) : Fac R C F G':=by
 obtain ⟨P,Q,h⟩:=h
 exact ⟨P,Q,fun a ha b hb=>(e a ha b hb).trans (h a ha b hb)⟩
theorem Fac.trans {R C : Nat} {F G H : Nat->Nat->Int} (h : Fac R C F G) (k : Fac R C G H) : Fac R C F H:=by
 obtain ⟨P,Q,h⟩:=h
 obtain ⟨P',Q',k⟩:=k
 refine ⟨fun a s=>sumN R fun m=>P' a m * P m s,fun t b=>sumN C fun m=>Q t m * Q' m b,fun a ha b hb=>?_⟩
 rw [k a ha b hb]
 have e1 : ∀m,m < R->sumN C (fun t=>G m t * Q' t b) = sumN R fun s=>P m s * sumN C fun t=>F s t * sumN C fun m'=>Q t m' * Q' m' b:=fun m hm=>by
  have e2 : ∀t,t < C->G m t * Q' t b = sumN R fun s=>P m s * sumN C fun t'=>F s t' * (Q t' t * Q' t b):=fun t ht=>by
   rw [h m hm t ht,<-sumN_mulr]
   refine sumN_congr fun s _=>?_
   rw [Int.mul_assoc,<-sumN_mulr]
   congr 1
   exact sumN_congr fun t' _=>Int.mul_assoc _ _ _
  rw [sumN_congr e2,sumN_swap]
  refine sumN_congr fun s _=>?_
  rw [sumN_mul,sumN_swap]
  congr 1
  exact sumN_congr fun t' _=>sumN_mul _ _ _
 have e3 : ∀m,m < R->P' a m * sumN C (fun t=>G m t * Q' t b) = sumN R fun s=>(P' a m * P m s) * sumN C fun t=>F s t * sumN C fun m'=>Q t m' * Q' m' b:=fun m hm=>by
  rw [e1 m hm,<-sumN_mul]
  exact sumN_congr fun s _=>(Int.mul_assoc _ _ _).symm
 rw [sumN_congr e3,sumN_swap]
 exact sumN_congr fun s _=>sumN_mulr _ _ _
theorem Fac.rows {R C : Nat} {F G P : Nat->Nat->Int} (h : ∀a,a < R->∀b,b < C->G a b = sumN R fun s=>P a s * F s b) : Fac R C F G:=⟨P,idf,fun a ha b hb=>by
 rw [h a ha b hb]
 exact sumN_congr fun s _=>by rw [sum_idf hb fun t=>F s t]⟩
theorem Fac.tr {R C : Nat} {F G : Nat->Nat->Int} (h : Fac R C F G) : Fac C R (trF F) (trF G):=by
 obtain ⟨P,Q,h⟩:=h
 refine ⟨fun a s=>Q s a,fun t b=>P b t,fun a ha b hb=>?_⟩
 show G b a = _
 rw [h b hb a ha]
 simp only [<-sumN_mul]
 rw [sumN_swap]
 refine sumN_congr fun t _=>sumN_congr fun s _=>?_
 show P b s * (F s t * Q t a) = Q t a * (F s t * P b s)
 grind
theorem Fac.ops {R C : Nat} {l : List Op} (hl : okOps R l) (F : Nat->Nat->Int) : Fac R C F (opsF l F)/\Fac R C (opsF l F) F:=
 ⟨Fac.rows (P:=opsF l idf) fun a ha b _=>ops_mat hl F a ha b,Fac.rows (P:=fun a s=>opsD l idf s a) fun a ha b _=>ops_back hl F a ha b⟩
structure ChI (R C M i : Nat) (F0 F : Nat->Nat->Int) : Prop where
 to_ : Fac R C F0 F
 back : Fac R C F F0
 le : leM (M * 3 ^ i) R C F
theorem ChI.next {R C M i : Nat} {F0 F G : Nat->Nat->Int} (h : ChI R C M i F0 F) (h1 : Fac R C F G) (h2 : Fac R C G F) (h3 : leM (M * 3 ^ i * 3) R C G) : ChI R C M (i + 1) F0 G:=
 ⟨h.to_.trans h1,h2.trans h.back,by rwa [Nat.pow_succ,<-Nat.mul_assoc]⟩
theorem ChI.same {R C M i : Nat} {F0 F : Nat->Nat->Int} (h : ChI R C M i F0 F) : ChI R C M (i + 1) F0 F:=h.next (Fac.refl _ _ _) (Fac.refl _ _ _) (h.le.mono oM)
theorem ChI.add {R C M i x y : Nat} {k : Int} {F0 F : Nat->Nat->Int} (h : ChI R C M i F0 F) (hx : x < R) (hy : y < R) (hxy : x ≠ y) (hk : k.natAbs<=2) : ChI R C M (i + 1) F0 (addF F x y k):=by
 obtain ⟨h1,h2⟩:=Fac.ops (C:=C) (l:=[.add x y k]) (okOps.cons ⟨hx,hy,hxy⟩ okOps.nil) F
 exact h.next h1 h2 ((leM_add h.le hx hy).mono (Nat.mul_le_mul_left _ oM))
theorem ChI.swap {R C M i x y : Nat} {F0 F : Nat->Nat->Int} (h : ChI R C M i F0 F) (hx : x < R) (hy : y < R) : ChI R C M (i + 1) F0 (fun a b=>F (swp x y a) b):=by
 obtain ⟨h1,h2⟩:=Fac.ops (C:=C) (l:=[.swap x y]) (okOps.cons ⟨hx,hy⟩ okOps.nil) F
 exact h.next h1 h2 fun a ha b hb=>Nat.le_trans (h.le _ (swp_lt hx hy ha) b hb) oM
def swnF (F : Nat->Nat->Int) (x y : Nat) : Nat->Nat->Int:=fun a b=>if b = x then -(F a y) else if b = y then F a x else F a b
def swnU (F : Nat->Nat->Int) (x y r : Nat) : Nat->Nat->Int:=fun a b=>if a < r then swnF F x y a b else F a b
theorem RowsO.blk {w : World} {base g n cap C : Nat} {bs : List Nat} {M : List (List Int)} (h : RowsO w base (.slice (some ⟨g,0,none⟩) n cap) C bs M) : base<=g/\∃cs,Blk w g tR cs:=by
 rcases h.own.2 with ⟨e,-⟩ | ⟨g',cap',cur,e,e2,e3,-⟩
 ·cases e
 ·injection e with e8 e9 e10
  injection e8 with e8
  injection e8 with e8
  subst e8
  exact ⟨e2,cur,e3⟩
theorem Only.below {S : List Nat} {B : Nat} {w a b : World} (h : Below B w a) (ho : Only S a b) (hS : ∀k ∈ S,B<=k) (hsz : B<=a.heap.size) : Below B w b:=
 ⟨ho.bel.os.trans h.os,ho.bel.tape.trans h.tape,ho.bel.output.trans h.output,Nat.le_trans h.size ho.bel.size,fun k hk=>(ho.old k oM (fun hh=>by have:=hS k hh; omega)).trans (h.block k hk)⟩
theorem Only.blk {S : List Nat} {w w' : World} {g : Nat} {T : TypeId} {cs : Array Value} (h : Blk w g T cs) (ho : Only S w w') (hg : g ∉ S) : Blk w' g T cs:=(ho.old g h.lt hg).trans h
theorem Dg.tr {R C r : Nat} {F : Nat->Nat->Int} (h : Dg R C r F) : Dg C R r (trF F):=
 ⟨fun a ha b hb hab=>h.off b hb a ha (Ne.symm hab),h.pos,fun i h1 h2=>h.zero i h1 oM,by have:=h.le; omega⟩
theorem Inv.tr {R C r : Nat} {A F : Nat->Nat->Int} (h : Inv R C r A F) : Inv C R r (trF A) (trF F):=
 ⟨h.dg.tr,fun a b h1 h2 h3=>h.chn a b h1 h2 oM,h.fwd.tr,h.bwd.tr⟩
theorem Inv.congr {R C r : Nat} {A B F : Nat->Nat->Int} (h : Inv R C r A F) (e : ∀a,a < R->∀b,b < C->B a b = A a b) : Inv R C r B F:=
 ⟨h.dg,h.chn,(Fac.congr (Fac.refl R C B) fun a ha b hb=>(e a ha b hb).symm).trans h.fwd,h.bwd.congr e⟩
theorem det_any (n : Nat) (v : Value) (M : List (List Int)) (w : World) (h : MatV w v n n M) (hF : Fits n n M) (hn : n<=4) (hA : leM 1048576 n n (ent M)) :
  Calls Tryz.prog 36 #[v] w (RetInt w (det n (ent M))):=by
 have HC : HidS (∀w',Below w.heap.size w w'->Calls Tryz.prog 80 #[v] w' (RetInt w' (det n (ent M)))):=⟨fun w' hb=>determinant_any n v M w' (h.below hb) hF hn hA⟩
 obtain ⟨D,hD⟩ : ∃D,det n (ent M) = D:=⟨_,rfl⟩
 rw [hD] at HC ⊢
 obtain ⟨A,rfl,h⟩:=h
 obtain ⟨ao,n1,cap,rfl,e2,e3,e4,-⟩:=id h
 clear hD hF hA h e2
 go_enter Tryz.func36,Tryz.ntmps36
 go_upto_region 1 with (fail)
 refine wp_world ?_
 intro W0 hW0
 obtain ⟨hB0,bx1,br,hs0⟩:=world2 hW0
 obtain ⟨c1,c2,c3,c4,c5,c6⟩:=bx1.three
 go_wp2_with fail
 refine (HC.out W0 hB0).mono ?_
 rintro e w2 ⟨u,rfl,hu,hb2⟩
 obtain ⟨un,ua,ul,uc,ux,rfl,hu'⟩:=id hu
 have HU:=Lib.hid hu'
 clear hu'
 have br:=br.below hb2
 obtain ⟨r1,r2,r3,r4⟩:=br.two
 go_wp2
 refine bodyPost_int rfl rfl rfl (br.put2 _ _) (hu.ext (br.lext2 dE _ _)) (bset (bset (nx hB0 hb2) oM 0 _) oM 1 _)
def InvV (n : Nat) (M : List (List Int)) (w : World) (v : Value) : Prop:=∃F r,Inv n n r (ent M) F/\VecV w v (genV r fun i=>F i i)
theorem lastsB_inv (n : Nat) (M : List (List Int)) : LastsB (InvV n M):=fun _ _ _ e ⟨F,r,h1,h2⟩=>⟨F,r,h1,h2.below e⟩
theorem prodN_div {n m : Nat} {f : Nat->Int} (h : n<=m) : prodN n f ∣ prodN m f:=by
 induction m with
 | zero=>
  obtain rfl : n = 0:=by omega
  exact Int.dvd_refl _
 | succ m ih=>
  rcases Nat.lt_or_ge m n with h1 | h1
  ·obtain rfl : n = m + 1:=by omega
   exact Int.dvd_refl _
  ·exact Int.dvd_trans (ih h1) ⟨f m,rfl⟩
theorem Inv.part {R C r h i : Nat} {A F : Nat->Nat->Int} (hI : Inv R C r A F) (hR : R<=4) (h1 : 1<=h) (hA : leM h R C A) (hi : i<=r) : (prodN i (fun i=>F i i)).natAbs<=24 * h ^ 4:=by
 refine Nat.le_trans (Nat.le_of_dvd ?_ (Int.natAbs_dvd_natAbs.2 (prodN_div hi))) (hI.small hR h1 hA)
 have : 0 < prodN r fun i=>F i i:=prodN_pos fun i hi=>hI.dg.pos i hi
 omega
theorem Inv.elem {R C r h i : Nat} {A F : Nat->Nat->Int} (hI : Inv R C r A F) (hR : R<=4) (h1 : 1<=h) (hA : leM h R C A) (hi : i < r) : (F i i).natAbs<=24 * h ^ 4:=by
 refine Nat.le_trans (Nat.le_of_dvd ?_ (Int.natAbs_dvd_natAbs.2 ?_)) (hI.part hR h1 hA (i:=i + 1) hi)
 ·have : 0 < prodN (i + 1) fun i=>F i i:=prodN_pos fun k hk=>hI.dg.pos k oM
  omega
 ·exact ⟨prodN i fun i=>F i i,Int.mul_comm _ _⟩
theorem r1sameB (v1 v2 : Value) (z : Int) (w : World) (h1 : IntV w v1 z) (h2 : IntV w v2 z) : Calls Tryz.prog 30 #[v1,v2] w fun e w'=>∃v,e = .returned v/\v = .bool true/\Below w.heap.size w w':=
 (r1same_any v1 v2 z z w h1 h2).mono fun e w' h=>⟨_,h.1,by simp,h.2⟩
theorem VecV.apart {w w' : World} {v : Value} {zs : List Int} {b : Nat} (h : VecV w v zs) (hT : Blk w b 45 #[.bool false,.slice none 0 0]) (h0 : ∀z,zs[0]? = some z->z ≠ 0)
  (ho : ∀k,k ≠ b->w'.heap[k]? = w.heap[k]?) (hx : LExt w w') : VecV w' v zs:=by
 obtain ⟨ao,n,cap,k1,k2,k3,k4,k5⟩:=h
 refine ⟨ao,n,cap,k1,k2,k3,k4,fun hn=>?_⟩
 obtain ⟨b',e,hr⟩:=k5 hn
 refine ⟨b',e,hr.old (ho b' ?_) hx⟩
 rintro rfl
 cases zs with
 | nil=>exact hn rfl
 | cons z zs=>
  obtain ⟨cs,h1,h2⟩:=hr
  obtain ⟨s,a,l,c,e1,e2,neg,ao',n',cap',xs,i1,i2,-,-,-,-,i6,-⟩:=h2 0 z rfl
  have hc:=h1.symm.trans hT
  injection hc with hc
  injection hc with hc
  subst hc
  simp at e1 e2
  obtain ⟨rfl,rfl,rfl⟩:=e2
  injection i1 with i1
  simp at i1
  obtain ⟨-,-,rfl,-⟩:=i1
  have hxs : xs = []:=List.eq_nil_of_length_eq_zero i2
  subst hxs
  exact h0 z rfl (by rw [i6]; cases neg <;> rfl)
set_option maxHeartbeats 8000000 in
set_option maxRecDepth 20000 in
theorem smithDeterminant_any (v : Value) (r c : Nat) (ls : List Int) (w : World) (h : I8V w v ls) (hr : r<=255) (hc : c<=255) :
  Calls Tryz.prog 9 #[.agg #[.int .u8 r,.int .u8 c,v]] w fun e w'=>e = .returned (.bool true)/\Below w.heap.size w w':=by
 obtain ⟨ao,n,cap,rfl,-,-,-,-,-⟩:=id h
 obtain ⟨R,hR⟩ : ∃R : Nat,R = r % 5:=⟨_,rfl⟩
 have hR4 : R<=4:=by omega
 have HR:=Lib.hid hR
 clear hR
 obtain ⟨M,hM⟩ : ∃M,genM R R (digF R ls) = M:=⟨_,rfl⟩
 have HMade : HidS (∀w,I8V w (.slice ao n cap) ls->Calls Tryz.prog 35 #[.agg #[.int .u8 r,.int .u8 c,.slice ao n cap]] w fun e w'=>∃v,e = .returned v/\MatV w' v R R M/\Below w.heap.size w w'):=⟨fun w h=>by
  rw [<-hM]
  exact (rawSquare_any _ r c ls w h hr hc R HR.out hc).mono fun e w' ⟨v,bs,h,hm,hb⟩=>⟨v,h,hm.mat.1,hb⟩⟩
 have HF : HidS (Fits R R M):=⟨by rw [<-hM]; exact genM_fits _ _ _⟩
 have HA : HidS (leM 1048576 R R (ent M)):=⟨by rw [<-hM]; exact (ent_leM (digF_leM R R R ls)).mono oM⟩
 clear hM
 go_enter Tryz.func9,Tryz.ntmps9
 go_upto_region 1 with (fail)
 refine wp_world ?_
 intro W0 hW0
 obtain ⟨hB0,bx,hs0⟩:=world1 hW0
 clear hW0
 go_wp2_with fail
 refine (sanity_any W0).mono ?_
 rintro e w1 ⟨rfl,hb1⟩
 have hB:=nx hB0 hb1
 have bx:=bx.below hb1
 obtain ⟨c1,c2,c3,c4,c5,c6⟩:=bx.three
 go_wp2_with fail
 refine (HMade.out w1 (h.below hB)).mono ?_
 rintro e w2 ⟨va,rfl,hm,hb2⟩
 obtain ⟨A,rfl,hrv⟩:=id hm
 obtain ⟨ro,rn,rc,rfl,-⟩:=id hrv
 have hB:=nx hB hb2
 clear c1 c2 c3 c4 c5 c6 hrv bx
 go_upto_region 3 with (fail)
 refine wp_world ?_
 intro W3 hW3
 obtain ⟨hB3,T4,hs3⟩:=world1 hW3
 have HM:=HidS.mk (hm.below hB3)
 have hB:=nx hB hB3
 clear hW3 hm
 obtain ⟨c1,c2,c3,c4,c5,c6⟩:=T4.three
 have HDA : HidS (∀w',Below W3.heap.size W3 w'->Calls Tryz.prog 36 #[.agg #[.int .i64 R,.int .i64 R,.slice ro rn rc]] w' (RetInt w' (det R (ent M)))):=⟨fun w' hb=>det_any R _ M w' (HM.out.below hb) HF.out hR4 HA.out⟩
 have HDS : HidS (Smd (det R (ent M))):=⟨small_smd (Nat.le_trans (det_le hR4 dE HA.out) dE)⟩
 obtain ⟨D,hD⟩ : ∃D,det R (ent M) = D:=⟨_,rfl⟩
 have HDV:=Lib.hid hD
 rw [hD] at HDA HDS
 clear hD
 have hLB:=lastsB_new 45 W3.heap.size #[.bool false,.slice none 0 0]
 have hLI:=lastsB_inv R M
 refine wp_region_headed 5 rfl (RV W3 _ [⟨0,12,fun _ v=>v = .agg #[.int .i64 R,.int .i64 R,.slice ro rn rc]⟩,⟨1,13,InvV R M⟩,⟨2,14,fun _ v=>v = .agg #[.int .i64 R,.int .i64 R,.slice ro rn rc]⟩,⟨3,15,fun w v=>IntV w v (D)⟩,⟨4,6,NewB 45 W3.heap.size #[.bool false,.slice none 0 0]⟩]) kR RV.start ?fin1 ?steps1
 case steps1=>
  refine ⟨?_,?_,?_,?_,?_,trivial⟩ <;> (intro L T wS hL hd hcl hI K hK; try refine step_wanted rfl ?_)
  ·have zt : T[4]? = some (.pointer (some ⟨w2.heap.size,0,none⟩)):=hI.keep 4 sI
   have cc0:=hI.cell c1
   have cc1:=hI.cell c2
   have cc2:=hI.cell c3
   go_simp
   exact hK _ _ (hI.y mm0 rfl)
  ·obtain ⟨_,zt0,rfl⟩:=hI.v mm0 (hd 0)
   go_simp
   refine (inv_all _ M R R wS (HM.out.below hI.bel) HF.out hR4 hR4 HA.out).mono ?_
   rintro e wa ⟨v,F,rr,rfl,hinv,hv,hba⟩; replace hv : InvV R M wa v:=⟨F,rr,hinv,hv.vec⟩
   exact hK _ _ ((hI.world hba).y mm1 hv)
  ·have zt : T[4]? = some (.pointer (some ⟨w2.heap.size,0,none⟩)):=hI.keep 4 sI
   have cc0:=hI.cell c1
   have cc1:=hI.cell c2
   have cc2:=hI.cell c3
   go_simp
   exact hK _ _ (hI.y mm2 rfl)
  ·obtain ⟨_,zt2,rfl⟩:=hI.v mm2 (hd 2)
   go_simp
   refine (HDA.out wS hI.bel).mono ?_
   rintro e wa ⟨v,rfl,hv,hba⟩
   exact hK _ _ ((hI.world hba).y mm3 hv)
  ·go_simp
   exact hK _ _ ((hI.world ((Below.refl _ _).alloc (Nat.le_refl _) _)).y mm4 ⟨_,rfl,hI.bel.size,Blk.new _ _ _⟩)
 intro T w4 hI
 obtain ⟨va0,q0,rfl⟩:=hI.v mm0 rfl
 obtain ⟨va1,q1,ha1⟩:=hI.v mm1 rfl
 obtain ⟨va2,q2,rfl⟩:=hI.v mm2 rfl
 obtain ⟨va3,q3,ha3⟩:=hI.v mm3 rfl
 replace ha3 : IntV w4 va3 (D):=ha3
 obtain ⟨va4,q4,ha4⟩:=hI.v mm4 rfl
 have hT:=tmps_set [(12,.agg #[.int .i64 R,.int .i64 R,.slice ro rn rc]),(13,va1),(14,.agg #[.int .i64 R,.int .i64 R,.slice ro rn rc]),(15,va3),(6,va4)]
  (fun j hj=>hI.keep j (by simp only [List.forall_mem_cons] at hj ⊢; simp [hj]))
  (by simp only [List.forall_mem_cons]; simp [q0,q1,q2,q3,q4]) hI.size
 have hbw4:=hI.bel
 clear hI
 simp only [List.foldl_cons,List.foldl_nil,List.setIfInBounds_toArray,List.set_cons_zero,List.set_cons_succ,ptr] at hT
 subst hT
 clear q0 q1 q2 q3 q4
 simp only [List.drop_succ_cons,List.drop_zero]
 obtain ⟨b6,rfl,hb6,T6⟩:=ha4
 obtain ⟨F,rr,hinv,hvv⟩:=ha1
 obtain ⟨mo,mn,mk,rfl,hml,hmk1,hmk2,-⟩:=id hvv
 obtain rfl : rr = mn:=by rw [<-hml,genV_length]
 obtain ⟨dn,da,dl,dc,dx,rfl,hd'⟩:=id ha3
 have HDD:=Lib.hid hd'
 have hrr : rr<=R:=by have:=hinv.dg.le; omega
 have HP : HidS (∀i,i<=rr->Smd (prodN i fun i=>F i i)):=⟨fun i hi=>small24_smd (hinv.part hR4 dE HA.out hi)⟩
 have HE : HidS (∀i,i < rr->Smd (F i i)):=⟨fun i hi=>small24_smd (hinv.elem hR4 dE HA.out hi)⟩
 have HZ : HidS (rr < R->D = 0):=⟨fun h=>by rw [<-HDV.out]; exact hinv.det_zero h⟩
 have HU : HidS (rr = R->(prodN rr fun i=>F i i) = (D.natAbs : Int)/\D ≠ 0):=⟨fun h=>by
  subst h
  rw [<-HDV.out]
  exact hinv.det_full⟩
 have HV:=HidS.mk hvv
 have HNZ : HidS (∀z,(genV rr fun i=>F i i)[0]? = some z->z ≠ 0):=⟨fun z hz=>by
  have h0 : 0 < rr:=by have:=(List.getElem?_eq_some_iff.1 hz).1; rwa [genV_length] at this
  rw [genV_get h0] at hz
  injection hz with hz
  have:=hinv.dg.pos 0 h0
  omega⟩
 clear hd' hinv hvv hml hLB hLI c1 c2 c3 c4 c5 c6 HDA
 obtain ⟨t1,t2,t3,t4⟩:=T6.two
 have T4:=T4.below hbw4
 have hB:=nx hB hbw4
 go_upto_region 4 with (fail)
 refine wp_world ?_
 intro W5 hW5
 have q4:=hbw4.size
 have l4:=T4.lt
 have k6 : Blk W5 b6 45 #[.bool dn,.slice da dl dc]:=by rw [hW5.out]; exact T6.put2 _ _
 have hx5 : LExt w4 W5:=by rw [hW5.out]; exact T6.lext2 dE _ _
 have i6 : IntV W5 (.agg #[.bool dn,.slice da dl dc]) D:=ha3.ext hx5
 have ho5 : ∀k,k ≠ b6->W5.heap[k]? = w4.heap[k]?:=fun k hk=>by rw [hW5.out]; exact set2_old _ _ _ _ _ _ _ hk
 have hB : Below w.heap.size w W5:=by rw [hW5.out]; exact bset (bset hB (by have:=hB3.size; have:=hb2.size; have:=hb1.size; have:=hB0.size; omega) _ _) (by have:=hB3.size; have:=hb2.size; have:=hb1.size; have:=hB0.size; omega) _ _
 have HV : HidS (VecV W5 (.slice mo rr mk) (genV rr fun i=>F i i)):=⟨HV.out.apart T6 HNZ.out ho5 hx5⟩
 have T4 : Blk W5 w2.heap.size 28 #[.int .i64 R,.int .i64 R,.slice ro rn rc]:=(ho5 _ oM).trans T4
 have l6:=k6.lt
 clear hW5 t1 t2 t3 t4 ho5 hx5 T6 ha3
 go_wp2_with fail
 refine (r1of_any 1 W5 oM oM).mono ?_
 rintro e w6 ⟨u,rfl,hu,hb6'⟩
 obtain ⟨un,ua,ul,uc,ux,rfl,hu'⟩:=id hu
 have HU2:=Lib.hid hu'
 clear hu'
 go_upto_region 5 with (fail)
 refine wp_world ?_
 intro W7 hW7
 obtain ⟨hB7,T7,hs7⟩:=world1 hW7
 have z7 : BoxI W7 w6.heap.size 1:=BoxI.mk T7 (hu.ext (lx hB7))
 have k60:=k6.below hb6'
 have i60:=i6.ext (lx hb6')
 have T40:=T4.below hb6'
 have HV0:=HidS.mk (HV.out.below hb6')
 have hB:=nx (nx hB hb6') hB7
 have q7:=hb6'.size
 have q0 : w.heap.size<=w6.heap.size:=by have:=hB3.size; have:=hb2.size; have:=hb1.size; have:=hB0.size; omega
 clear hW7 hu T7
 go_wp2
 go_loopw [8] (fun iv wr=>∃i : Nat,i<=rr/\iv = .int .i64 i/\Below w.heap.size w wr/\Below w6.heap.size w6 wr/\BoxI wr w6.heap.size (prodN i fun i=>F i i)) (fun iv _=>rr - (intOf iv).toNat)
 case atStart=>exact ⟨0,by omega,rfl,hB,hB7,z7⟩
 case round=>
  clear hB T4 k6 i6 HV z7
  obtain ⟨i,hi,rfl,hB,hBr,z7⟩:=hrel
  have T4:=T40.below hBr
  have k6:=k60.below hBr
  have i6:=i60.ext (lx hBr)
  have HV:=HidS.mk (HV0.out.below hBr)
  by_cases hlt : i < rr
  ·obtain ⟨b',z,sg,al,ll,cl,rfl,hbl',hzk,q1,q2,hzv⟩:=HV.out.cell (k:=i) (by rw [genV_length]; exact hlt)
   rw [genV_get hlt] at hzk
   injection hzk with hzk
   have HZE:=Lib.hid hzk
   have HZS : HidS (Smd z):=⟨by rw [<-hzk]; exact HE.out i hlt⟩
   have HPS : HidS (Smd (prodN i fun i=>F i i)):=⟨HP.out i hi⟩
   clear hzk
   obtain ⟨P,hP⟩ : ∃P,(prodN i fun i=>F i i) = P:=⟨_,rfl⟩
   have HPV : HidS (P * z = prodN (i + 1) fun i=>F i i):=⟨by rw [<-hP,<-HZE.out]; rfl⟩
   rw [hP] at z7 HPS
   clear hP
   go_wp2_with fail
   refine (r1valid_any _ z wr hzv).mono ?_
   rintro e w9 ⟨rfl,hb9⟩
   have l7:=z7.lt
   have l4:=T4.lt
   have l6:=k6.lt
   have q9:=hb9.size
   obtain ⟨yn,ya,yl,yc,k7,i7⟩:=z7.below hb9
   obtain ⟨t1,t2,t3,t4⟩:=k7.two
   have c1:=kc_below q1 hb9
   have c2:=kc_below q2 hb9
   go_upto_region 10 with (fail)
   refine wp_region_headed 6 rfl (RV w9 _ [⟨0,29,fun _ v=>v = .agg #[.bool yn,.slice ya yl yc]⟩,⟨1,30,fun _ v=>v = .slice (some ⟨b',0,none⟩) rr mk⟩,⟨2,31,fun _ v=>v = .int .i64 i⟩,⟨3,32,fun _ v=>v = .pointer (some ⟨b',i * 2,none⟩)⟩,⟨4,33,fun _ v=>v = .agg #[.bool sg,.slice al ll cl]⟩,⟨5,34,fun w v=>IntV w v (P * z)⟩]) kR RV.start ?fin2 ?steps2
   case steps2=>
    refine ⟨?_,?_,?_,?_,?_,?_,trivial⟩ <;> (intro L T wS hL hd hcl hI K hK; try refine step_wanted rfl ?_)
    ·have zt : T[7]? = some (.pointer (some ⟨w6.heap.size,0,none⟩)):=hI.keep 7 sI
     have cc0:=hI.cell t1
     have cc1:=hI.cell t2
     go_simp
     exact hK _ _ (hI.y mm0 rfl)
    ·have zt : T[5]? = some (.slice (some ⟨b',0,none⟩) rr mk):=hI.keep 5 sI
     go_simp
     exact hK _ _ (hI.y mm1 rfl)
    ·have zt : T[8]? = some (.int .i64 i):=hI.keep 8 sI
     go_simp
     exact hK _ _ (hI.y mm2 rfl)
    ·obtain ⟨_,zt1,rfl⟩:=hI.v mm1 (hd 1)
     obtain ⟨_,zt2,rfl⟩:=hI.v mm2 (hd 2)
     go_simp
     exact hK _ _ (hI.y mm3 rfl)
    ·obtain ⟨_,zt3,rfl⟩:=hI.v mm3 (hd 3)
     have cc0:=hI.cell c1
     have cc1:=hI.cell c2
     go_simp
     exact hK _ _ (hI.y mm4 rfl)
    ·obtain ⟨_,zt0,rfl⟩:=hI.v mm0 (hd 0)
     obtain ⟨_,zt4,rfl⟩:=hI.v mm4 (hd 4)
     go_simp
     refine (r1mul_any _ _ P z wS (i7.ext (lx hI.bel)) (hzv.ext ((lx hb9).trans (lx hI.bel))) HPS.out.sm HZS.out.sm).mono ?_
     rintro e wa ⟨v,rfl,hv,hba⟩
     exact hK _ _ ((hI.world hba).y mm5 hv)
   intro T w10 hI
   obtain ⟨vb0,q0,rfl⟩:=hI.v mm0 rfl
   obtain ⟨vb1,q1,rfl⟩:=hI.v mm1 rfl
   obtain ⟨vb2,q2,rfl⟩:=hI.v mm2 rfl
   obtain ⟨vb3,q3,rfl⟩:=hI.v mm3 rfl
   obtain ⟨vb4,q4,rfl⟩:=hI.v mm4 rfl
   obtain ⟨vb5,q5,hb5⟩:=hI.v mm5 rfl
   replace hb5 : IntV w10 vb5 (P * z):=hb5
   have hT:=tmps_set [(29,.agg #[.bool yn,.slice ya yl yc]),(30,.slice (some ⟨b',0,none⟩) rr mk),(31,.int .i64 i),(32,.pointer (some ⟨b',i * 2,none⟩)),(33,.agg #[.bool sg,.slice al ll cl]),(34,vb5)]
    (fun j hj=>hI.keep j (by simp only [List.forall_mem_cons] at hj ⊢; simp [hj]))
    (by simp only [List.forall_mem_cons]; simp [q0,q1,q2,q3,q4,q5]) hI.size
   have hbw10:=hI.bel
   clear hI
   simp only [List.foldl_cons,List.foldl_nil,List.setIfInBounds_toArray,List.set_cons_zero,List.set_cons_succ,ptr] at hT
   subst hT
   clear q0 q1 q2 q3 q4 q5
   simp only [List.drop_succ_cons,List.drop_zero]
   obtain ⟨pn,pa,pl,pc,px,rfl,hp'⟩:=id hb5
   have HPQ:=Lib.hid hp'
   rw [HPV.out] at hb5
   clear hp' t1 t2 t3 t4
   have k7:=k7.below hbw10
   obtain ⟨t1,t2,t3,t4⟩:=k7.two
   have hb910:=nx hb9 hbw10
   go_wp2
   go_roundw
   case rel=>exact ⟨i + 1,by omega,by simp,bset (bset (nx hB hb910) oM _ _) oM _ _,bset (bset (nx hBr hb910) oM _ _) oM _ _,BoxI.put k7 hb5⟩
   case measure=>simp [intOf]; omega
  ·obtain rfl : i = rr:=by omega
   obtain ⟨c1,c2,c3,c4⟩:=k6.two
   have l7:=z7.lt
   have l4:=T4.lt
   go_wp2_with fail
   refine (r1sign_any _ D wr i6).mono ?_
   rintro e w9 ⟨rfl,hb9⟩
   have T4:=T4.below hb9
   have k6:=k6.below hb9
   have i6:=i6.ext (lx hb9)
   have z7:=z7.below hb9
   have hB9:=nx hB hb9
   clear c1 c2 c3 c4
   obtain ⟨c1,c2,c3,c4,c5,c6⟩:=T4.three
   by_cases hfull : i < R
   ·have hD0:=HZ.out hfull
    have hc : (cmpI D 0 == 0) = true:=by rw [hD0]; decide
    obtain ⟨q,hq⟩ : ∃q,cmpI D 0 = q:=⟨_,rfl⟩
    rw [hq] at hc ⊢
    have hlt' : (i : Int) < (R : Int):=by omega
    go_wp2
    go_ret
    exact ⟨rfl,hB9⟩
   ·obtain rfl : i = R:=by omega
    obtain ⟨hPD,hD0⟩:=HU.out rfl
    have hc : (cmpI D 0 == 0) = false:=by
     rw [beq_eq_false_iff_ne]
     unfold cmpI
     split <;> (try split) <;> omega
    obtain ⟨q,hq⟩ : ∃q,cmpI D 0 = q:=⟨_,rfl⟩
    rw [hq] at hc ⊢
    rw [hPD] at z7
    obtain ⟨A,hA⟩ : ∃A,(D.natAbs : Int) = A:=⟨_,rfl⟩
    have HAV:=Lib.hid hA
    rw [hA] at z7
    obtain ⟨yn,ya,yl,yc,k7,i7⟩:=z7
    obtain ⟨t1,t2,t3,t4⟩:=k7.two
    obtain ⟨f1,f2,f3,f4⟩:=k6.two
    clear hA hPD hD0 hq
    go_upto_region 13 with (fail)
    refine wp_region_each rfl (RV w9 _ [⟨0,46,fun _ v=>v = .slice mo i mk⟩,⟨1,47,fun _ v=>v = .int .i64 i⟩,⟨2,48,fun _ v=>v = .pointer (some ⟨w2.heap.size,0,none⟩)⟩,⟨3,49,fun _ v=>v = .int .i64 i⟩,⟨4,50,fun _ v=>v = .bool true⟩,⟨5,51,fun _ v=>v = .bool true⟩,⟨6,52,fun _ v=>v = .agg #[.bool yn,.slice ya yl yc]⟩,⟨7,53,fun _ v=>v = .agg #[.bool dn,.slice da dl dc]⟩,⟨8,54,fun w v=>IntV w v (A)⟩,⟨9,55,fun _ v=>v = .bool true⟩,⟨10,56,fun _ v=>v = .bool true⟩,⟨11,57,fun _ v=>v = .bool true⟩,⟨12,58,fun _ v=>v = .bool true⟩,⟨13,59,fun _ v=>v = .bool true⟩,⟨14,2,fun _ v=>v = .bool true⟩]) kR RV.start ?fin3 ?steps3
    case steps3=>
     refine ⟨?_,?_,?_,?_,?_,?_,?_,?_,?_,?_,?_,?_,?_,?_,?_,trivial⟩ <;> (intro L T wS hL hd hcl hI K hK; try refine step_wanted rfl ?_)
     ·have zt : T[5]? = some (.slice mo i mk):=hI.keep 5 sI
      go_simp
      exact hK _ _ (hI.y mm0 rfl)
     ·obtain ⟨_,zt0,rfl⟩:=hI.v mm0 (hd 0)
      go_simp
      exact hK _ _ (hI.y mm1 rfl)
     ·have zt : T[4]? = some (.pointer (some ⟨w2.heap.size,0,none⟩)):=hI.keep 4 sI
      go_simp
      exact hK _ _ (hI.y mm2 rfl)
     ·obtain ⟨_,zt2,rfl⟩:=hI.v mm2 (hd 2)
      have cc0:=hI.cell c1
      go_simp
      exact hK _ _ (hI.y mm3 rfl)
     ·obtain ⟨_,zt1,rfl⟩:=hI.v mm1 (hd 1)
      obtain ⟨_,zt3,rfl⟩:=hI.v mm3 (hd 3)
      go_simp
      exact hK _ _ (hI.y mm4 rfl)
     ·obtain ⟨_,zt4,rfl⟩:=hI.v mm4 (hd 4)
      go_simp
      exact hK _ _ (hI.y mm5 rfl)
     ·obtain ⟨_,zg,rfl⟩:=hI.v mm5 (hd 5)
      refine step_wanted (by simp [Region.wanted,yielded,zg]) ?_
      have zt : T[7]? = some (.pointer (some ⟨w6.heap.size,0,none⟩)):=hI.keep 7 sI
      have cc0:=hI.cell t1
      have cc1:=hI.cell t2
      go_simp
      exact hK _ _ (hI.y mm6 rfl)
     ·obtain ⟨_,zg,rfl⟩:=hI.v mm5 (hd 5)
      refine step_wanted (by simp [Region.wanted,yielded,zg]) ?_
      have zt : T[6]? = some (.pointer (some ⟨b6,0,none⟩)):=hI.keep 6 sI
      have cc0:=hI.cell f1
      have cc1:=hI.cell f2
      go_simp
      exact hK _ _ (hI.y mm7 rfl)
     ·obtain ⟨_,zg,rfl⟩:=hI.v mm5 (hd 5)
      refine step_wanted (by simp [Region.wanted,yielded,zg]) ?_
      obtain ⟨_,zt7,rfl⟩:=hI.v mm7 (hd 7)
      go_simp
      refine (HAV.out ▸ r1abs_any _ D wS (i6.weak.ext (lx hI.bel)) HDS.out.sm).mono ?_
      rintro e wa ⟨v,rfl,hv,hba⟩
      exact hK _ _ ((hI.world hba).y mm8 hv)
     ·obtain ⟨_,zg,rfl⟩:=hI.v mm5 (hd 5)
      refine step_wanted (by simp [Region.wanted,yielded,zg]) ?_
      obtain ⟨_,zt6,rfl⟩:=hI.v mm6 (hd 6)
      obtain ⟨v8,zt8,h8⟩:=hI.v mm8 (hd 8)
      go_simp
      refine (r1sameB _ _ A wS (i7.ext (lx hI.bel)) h8).mono ?_
      rintro e wa ⟨v,rfl,hv,hba⟩
      exact hK _ _ ((hI.world hba).y mm9 hv)
     ·obtain ⟨_,zt5,rfl⟩:=hI.v mm5 (hd 5)
      obtain ⟨_,zt9,rfl⟩:=hI.v mm9 (hd 9)
      go_simp
      exact hK _ _ (hI.y mm10 rfl)
     ·obtain ⟨_,zt10,rfl⟩:=hI.v mm10 (hd 10)
      go_simp
      exact hK _ _ (hI.y mm11 rfl)
     ·obtain ⟨_,zg,rfl⟩:=hI.v mm11 (hd 11)
      refine step_wanted (by simp [Region.wanted,yielded,zg]) ?_
      have zt : T[3]? = some (.bool true):=hI.keep 3 sI
      go_simp
      exact hK _ _ (hI.y mm12 rfl)
     ·obtain ⟨_,zt11,rfl⟩:=hI.v mm11 (hd 11)
      obtain ⟨_,zt12,rfl⟩:=hI.v mm12 (hd 12)
      go_simp
      exact hK _ _ (hI.y mm13 rfl)
     ·obtain ⟨_,zt13,rfl⟩:=hI.v mm13 (hd 13)
      go_simp
      exact hK _ _ (hI.y mm14 rfl)
    intro T w10 hI
    obtain ⟨vb0,q0,rfl⟩:=hI.v mm0 rfl
    obtain ⟨vb1,q1,rfl⟩:=hI.v mm1 rfl
    obtain ⟨vb2,q2,rfl⟩:=hI.v mm2 rfl
    obtain ⟨vb3,q3,rfl⟩:=hI.v mm3 rfl
    obtain ⟨vb4,q4,rfl⟩:=hI.v mm4 rfl
    obtain ⟨vb5,q5,rfl⟩:=hI.v mm5 rfl
    obtain ⟨vb6,q6,rfl⟩:=hI.v mm6 rfl
    obtain ⟨vb7,q7,rfl⟩:=hI.v mm7 rfl
    obtain ⟨vb8,q8,hb8⟩:=hI.v mm8 rfl
    replace hb8 : IntV w10 vb8 (A):=hb8
    obtain ⟨vb9,q9,rfl⟩:=hI.v mm9 rfl
    obtain ⟨vb10,q10,rfl⟩:=hI.v mm10 rfl
    obtain ⟨vb11,q11,rfl⟩:=hI.v mm11 rfl
    obtain ⟨vb12,q12,rfl⟩:=hI.v mm12 rfl
    obtain ⟨vb13,q13,rfl⟩:=hI.v mm13 rfl
    obtain ⟨vb14,q14,rfl⟩:=hI.v mm14 rfl
    have hT:=tmps_set [(46,.slice mo i mk),(47,.int .i64 i),(48,.pointer (some ⟨w2.heap.size,0,none⟩)),(49,.int .i64 i),(50,.bool true),(51,.bool true),(52,.agg #[.bool yn,.slice ya yl yc]),(53,.agg #[.bool dn,.slice da dl dc]),(54,vb8),(55,.bool true),(56,.bool true),(57,.bool true),(58,.bool true),(59,.bool true),(2,.bool true)]
     (fun j hj=>hI.keep j (by simp only [List.forall_mem_cons] at hj ⊢; simp [hj]))
     (by simp only [List.forall_mem_cons]; simp [q0,q1,q2,q3,q4,q5,q6,q7,q8,q9,q10,q11,q12,q13,q14]) hI.size
    have hbw10:=hI.bel
    clear hI
    simp only [List.foldl_cons,List.foldl_nil,List.setIfInBounds_toArray,List.set_cons_zero,List.set_cons_succ,ptr] at hT
    subst hT
    clear q0 q1 q2 q3 q4 q5 q6 q7 q8 q9 q10 q11 q12 q13 q14
    have hB10:=nx hB9 hbw10
    go_wp2
    go_ret
    exact ⟨rfl,hB10⟩
end Go.Proofs.YtnocgagoaldfnaaGreat

namespace Go.Proofs.YtnocgagoaldfnaaGreat
open Go.ChangeShapes Go.WideShapes Go.ChangeAt Go.RowKit
set_option maxRecDepth 100000 in
theorem smithDeterminant_lifted (os : Os) (started : os.Started) (H : Type) (enc : TypeId × Value->H) :
  ReturnsInHanded {} Tryz.checked os 9 .any (Rows.smithDeterminantSpec.pre6 enc Tryz.prog Tryz.f9 Rows.smithDeterminantRow.domain false) (Rows.smithDeterminantSpec.post enc Tryz.prog Tryz.f9 false true false false):=by
 refine returnsInHanded_of_change (C:=Tryz.checked) Tryz.own started kR Tryz.func9
  (ChangeSpec.witness6 (enc:=enc) (C:=Tryz.checked) false ⟨#[],#[.agg #[.int .u8 0,.int .u8 0,.slice none 0 0]],[]⟩ 8 kR kR kR kR) ?_
 intro W base args ds gs before hval0 hW hcnd _
 have hval : ∀(j : Nat) t v,Tryz.f9.params[j]? = some t->args[j]? = some v->Value.okWide Tryz.prog W .any base t v:=hval0
 have hW':=hW
 obtain ⟨p,q,hA0,hV,rfl,hfz,hnd⟩:=hW
 have hA : DataW.TrodAll enc Tryz.prog W 0 (fun _=>true) true Tryz.f9.params.toList args.toList ds p:=hA0
 rw [Tryz.params9] at hA hval
 obtain ⟨v0,d0,rfl,rfl,h0⟩:=trodAll_one hA
 obtain ⟨rfl,rfl⟩:=trodVars_none hV
 clear hA0 hval0
 simp only [List.append_nil] at hW'
 have hlt0 : ∀x ∈ p,x.block < W.heap.size:=fun x hx=>hW'.lt x (by simp [hx])
 obtain ⟨a,b,sv,ls,rfl,ha,hb,hI⟩:=open_raw (hval 0 24 v0 rfl rfl) h0 hlt0
 refine (smithDeterminant_any sv a b ls W hI ha hb).mono fun e W' ⟨he,hB⟩=>?_
 subst he
 refine ⟨_,rfl,_,_,_,[],p,[],hW',?_,?_,rfl,hB.frame _,fun h=>by cases h⟩
 ·exact trodAll_mk1 (shut_bool Tryz.underlying4 true)
 ·exact trodAll_mk1 (Below.trod Tryz.laidOut kR (of_decide_eq_true kR) h0 hB hlt0)
theorem smithDeterminant_holds : Rows.SmithDeterminantSaid:=
 OpenClaim.holds_of_wide 9 Tryz.f9 rfl rfl rfl rfl rfl rfl rfl ⟨rfl,rfl,rfl,rfl,rfl⟩ rfl rfl rfl rfl rfl kR Tryz.func9 kR
  (of_decide_eq_true kR) (by unfold Func.isWrapper; first | (rw [if_pos (by decide +kernel)]; kernel_rfl) | (rw [if_neg (by decide +kernel)]; exact ⟨rfl,rfl⟩))
  (fun os started H enc _=>smithDeterminant_lifted os started H enc)
end Go.Proofs.YtnocgagoaldfnaaGreat
