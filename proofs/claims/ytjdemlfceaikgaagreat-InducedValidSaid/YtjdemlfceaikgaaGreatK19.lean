/- torsionref13.Changed: what it yields is P F Q, and back. -/
import Derived.Test.YtjdemlfceaikgaaGreatK10
import Derived.Test.YtjdemlfceaikgaaGreatK13
import Derived.Test.YtjdemlfceaikgaaGreatK17
set_option linter.unusedVariables false
set_option linter.unusedSimpArgs false
set_option linter.unusedSectionVars false
namespace Go.Proofs.YtjdemlfceaikgaaGreat
open Go.RowKit
def StV (w : World) (v : Value) (ls : List (Nat × Nat × Nat × Int)) : Prop:=
 ∃ao n cap,v = .slice ao n cap/\ls.length = n/\n<=cap/\cap<=9223372036854775807/\(∀s ∈ ls,s.1<=255/\s.2.1<=255/\s.2.2.1<=255/\-128<=s.2.2.2/\s.2.2.2<=127) ∧
  (ls ≠ []->∃b off,ao = some ⟨b,off,none⟩/\b < w.heap.size/\∀(k : Nat) (s : Nat × Nat × Nat × Int),ls[k]? = some s->w.cell? ⟨b,off + k * 4,none⟩ = some (.int .u8 s.1)/\w.cell? ⟨b,off + k * 4 + 1,none⟩ = some (.int .u8 s.2.1)/\w.cell? ⟨b,off + k * 4 + 2,none⟩ = some (.int .u8 s.2.2.1)/\w.cell? ⟨b,off + k * 4 + 3,none⟩ = some (.int .i8 s.2.2.2))
theorem StV.cell {w : World} {ao : Option Addr} {n cap : Nat} {ls : List (Nat × Nat × Nat × Int)} (h : StV w (.slice ao n cap) ls) {k : Nat} (hk : k < ls.length) :
  ∃b off,∃p q r : Nat,∃z : Int,ao = some ⟨b,off,none⟩/\b < w.heap.size/\p<=255/\q<=255/\r<=255/\-128<=z/\z<=127/\w.cell? ⟨b,off + k * 4,none⟩ = some (.int .u8 p)/\w.cell? ⟨b,off + k * 4 + 1,none⟩ = some (.int .u8 q)/\w.cell? ⟨b,off + k * 4 + 2,none⟩ = some (.int .u8 r)/\w.cell? ⟨b,off + k * 4 + 3,none⟩ = some (.int .i8 z):=by
 obtain ⟨ao',n',cap',h1,h2,h3,h4,h5,h6⟩:=h
 injection h1 with e1 e2 e3
 subst e1
 obtain ⟨b,off,e,hb,hc⟩:=h6 (by rintro rfl; simp at hk)
 have hz:=List.getElem?_eq_getElem hk
 obtain ⟨g1,g2,g3,g4,g5⟩:=h5 _ (List.mem_of_getElem? hz)
 obtain ⟨c1,c2,c3,c4⟩:=hc _ _ hz
 exact ⟨b,off,_,_,_,_,e,hb,g1,g2,g3,g4,g5,c1,c2,c3,c4⟩
theorem StV.below {w w' : World} {v : Value} {ls : List (Nat × Nat × Nat × Int)} (h : StV w v ls) (hb : Below w.heap.size w w') : StV w' v ls:=by
 obtain ⟨ao,n,cap,h1,h2,h3,h4,h5,h6⟩:=h
 refine ⟨ao,n,cap,h1,h2,h3,h4,h5,fun hne=>?_⟩
 obtain ⟨b,off,e,hlt,hc⟩:=h6 hne
 refine ⟨b,off,e,Nat.lt_of_lt_of_le hlt hb.size,fun k s hz=>?_⟩
 obtain ⟨c1,c2,c3,c4⟩:=hc k s hz
 exact ⟨(hb.cell (p:=⟨b,off + k * 4,none⟩) hlt).trans c1,(hb.cell (p:=⟨b,off + k * 4 + 1,none⟩) hlt).trans c2,(hb.cell (p:=⟨b,off + k * 4 + 2,none⟩) hlt).trans c3,(hb.cell (p:=⟨b,off + k * 4 + 3,none⟩) hlt).trans c4⟩
theorem Fac.refl (R C : Nat) (F : Nat->Nat->Int) : Fac R C F F:=⟨idf,idf,fun a ha b hb=>by
 rw [<-idf_sum ha fun s=>sumN C fun t=>F s t * idf t b,sum_idf hb]⟩
theorem Fac.congr {R C : Nat} {F G G' : Nat->Nat->Int} (h : Fac R C F G) (e : ∀a,a < R->∀b,b < C->G' a b = G a b) : Fac R C F G':=by
 obtain ⟨P,Q,h⟩:=h
 exact ⟨P,Q,fun a ha b hb=>(e a ha b hb).trans (h a ha b hb)⟩
theorem Fac.trans {R C : Nat} {F G H : Nat->Nat->Int} (h : Fac R C F G) (k : Fac R C G H) : Fac R C F H:=by
 obtain ⟨P,Q,h⟩:=h
 obtain ⟨P',Q',k⟩:=k
 refine ⟨fun a s=>sumN R fun m=>P' a m * P m s,fun t b=>sumN C fun m=>Q t m * Q' m b,fun a ha b hb=>?_⟩
 rw [k a ha b hb]
 have e1 : ∀m,m < R->sumN C (fun t=>G m t * Q' t b) = sumN R fun s=>P m s * sumN C fun t=>F s t * sumN C fun m'=>Q t m' * Q' m' b:=fun m hm=>by
  have e2 : ∀t,t < C->G m t * Q' t b = sumN R fun s=>P m s * sumN C fun t'=>F s t' * (Q t' t * Q' t b):=fun t ht=>by
   rw [h m hm t ht,<-sumN_mulr]
   refine sumN_congr fun s _=>?_
   rw [Int.mul_assoc,<-sumN_mulr]
   congr 1
   exact sumN_congr fun t' _=>Int.mul_assoc _ _ _
  rw [sumN_congr e2,sumN_swap]
  refine sumN_congr fun s _=>?_
  rw [sumN_mul,sumN_swap]
  congr 1
  exact sumN_congr fun t' _=>sumN_mul _ _ _
 have e3 : ∀m,m < R->P' a m * sumN C (fun t=>G m t * Q' t b) = sumN R fun s=>(P' a m * P m s) * sumN C fun t=>F s t * sumN C fun m'=>Q t m' * Q' m' b:=fun m hm=>by
  rw [e1 m hm,<-sumN_mul]
  exact sumN_congr fun s _=>(Int.mul_assoc _ _ _).symm
 rw [sumN_congr e3,sumN_swap]
 exact sumN_congr fun s _=>sumN_mulr _ _ _
theorem Fac.rows {R C : Nat} {F G P : Nat->Nat->Int} (h : ∀a,a < R->∀b,b < C->G a b = sumN R fun s=>P a s * F s b) : Fac R C F G:=⟨P,idf,fun a ha b hb=>by
 rw [h a ha b hb]
 exact sumN_congr fun s _=>by rw [sum_idf hb fun t=>F s t]⟩
theorem Fac.tr {R C : Nat} {F G : Nat->Nat->Int} (h : Fac R C F G) : Fac C R (trF F) (trF G):=by
 obtain ⟨P,Q,h⟩:=h
 refine ⟨fun a s=>Q s a,fun t b=>P b t,fun a ha b hb=>?_⟩
 show G b a = _
 rw [h b hb a ha]
 simp only [<-sumN_mul]
 rw [sumN_swap]
 refine sumN_congr fun t _=>sumN_congr fun s _=>?_
 show P b s * (F s t * Q t a) = Q t a * (F s t * P b s)
 grind
theorem Fac.ops {R C : Nat} {l : List Op} (hl : okOps R l) (F : Nat->Nat->Int) : Fac R C F (opsF l F)/\Fac R C (opsF l F) F:=
 ⟨Fac.rows (P:=opsF l idf) fun a ha b _=>ops_mat hl F a ha b,Fac.rows (P:=fun a s=>opsD l idf s a) fun a ha b _=>ops_back hl F a ha b⟩
structure ChI (R C M i : Nat) (F0 F : Nat->Nat->Int) : Prop where
 to_ : Fac R C F0 F
 back : Fac R C F F0
 le : leM (M * 3 ^ i) R C F
theorem ChI.next {R C M i : Nat} {F0 F G : Nat->Nat->Int} (h : ChI R C M i F0 F) (h1 : Fac R C F G) (h2 : Fac R C G F) (h3 : leM (M * 3 ^ i * 3) R C G) : ChI R C M (i + 1) F0 G:=
 ⟨h.to_.trans h1,h2.trans h.back,by rwa [Nat.pow_succ,<-Nat.mul_assoc]⟩
theorem ChI.same {R C M i : Nat} {F0 F : Nat->Nat->Int} (h : ChI R C M i F0 F) : ChI R C M (i + 1) F0 F:=h.next (Fac.refl _ _ _) (Fac.refl _ _ _) (h.le.mono oM)
theorem ChI.add {R C M i x y : Nat} {k : Int} {F0 F : Nat->Nat->Int} (h : ChI R C M i F0 F) (hx : x < R) (hy : y < R) (hxy : x ≠ y) (hk : k.natAbs<=2) : ChI R C M (i + 1) F0 (addF F x y k):=by
 obtain ⟨h1,h2⟩:=Fac.ops (C:=C) (l:=[.add x y k]) (okOps.cons ⟨hx,hy,hxy⟩ okOps.nil) F
 exact h.next h1 h2 ((leM_add h.le hx hy).mono (Nat.mul_le_mul_left _ oM))
theorem ChI.swap {R C M i x y : Nat} {F0 F : Nat->Nat->Int} (h : ChI R C M i F0 F) (hx : x < R) (hy : y < R) : ChI R C M (i + 1) F0 (fun a b=>F (swp x y a) b):=by
 obtain ⟨h1,h2⟩:=Fac.ops (C:=C) (l:=[.swap x y]) (okOps.cons ⟨hx,hy⟩ okOps.nil) F
 exact h.next h1 h2 fun a ha b hb=>Nat.le_trans (h.le _ (swp_lt hx hy ha) b hb) oM
def swnF (F : Nat->Nat->Int) (x y : Nat) : Nat->Nat->Int:=fun a b=>if b = x then -(F a y) else if b = y then F a x else F a b
def swnU (F : Nat->Nat->Int) (x y r : Nat) : Nat->Nat->Int:=fun a b=>if a < r then swnF F x y a b else F a b
theorem Blk.ne {w : World} {a b : Nat} {T T' : TypeId} {cs cs' : Array Value} (h : Blk w a T cs) (k : Blk w b T' cs') (hT : T ≠ T') : a ≠ b:=by
 rintro rfl
 unfold Blk at h k
 rw [h] at k
 injection k with k
 injection k with k1 k2
 exact hT k2
theorem RowsO.blk {w : World} {base g n cap C : Nat} {bs : List Nat} {M : List (List Int)} (h : RowsO w base (.slice (some ⟨g,0,none⟩) n cap) C bs M) : base<=g/\∃cs,Blk w g tR cs:=by
 rcases h.own.2 with ⟨e,-⟩ | ⟨g',cap',cur,e,e2,e3,-⟩
 ·cases e
 ·injection e with e8 e9 e10
  injection e8 with e8
  injection e8 with e8
  subst e8
  exact ⟨e2,cur,e3⟩
theorem Only.below {S : List Nat} {B : Nat} {w a b : World} (h : Below B w a) (ho : Only S a b) (hS : ∀k ∈ S,B<=k) (hsz : B<=a.heap.size) : Below B w b:=
 ⟨ho.bel.os.trans h.os,ho.bel.tape.trans h.tape,ho.bel.output.trans h.output,Nat.le_trans h.size ho.bel.size,fun k hk=>(ho.old k oM (fun hh=>by have:=hS k hh; omega)).trans (h.block k hk)⟩
theorem Only.blk {S : List Nat} {w w' : World} {g : Nat} {T : TypeId} {cs : Array Value} (h : Blk w g T cs) (ho : Only S w w') (hg : g ∉ S) : Blk w' g T cs:=(ho.old g h.lt hg).trans h
theorem tmod3 {z : Int} : (Int.tmod z 3).natAbs<=2:=by
 rcases Int.le_total 0 z with h | h
 ·rw [Int.tmod_eq_emod_of_nonneg h]; omega
 ·have : Int.tmod z 3 = -(Int.tmod (-z) 3):=by rw [Int.neg_tmod]; omega
  rw [this,Int.tmod_eq_emod_of_nonneg oM]; omega
end Go.Proofs.YtjdemlfceaikgaaGreat
