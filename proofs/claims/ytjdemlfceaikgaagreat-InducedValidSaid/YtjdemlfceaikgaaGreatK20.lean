/- hermite.Form at matrices of one digit: what Check asks for; the fixed examples of torsionlaw12.sanity. torsionlaw12.sanity. The rest that Reduce leaves: plain Lean. torsionref05: Vector, Row, Times, Act, Zero; hermite.Reduce of a row of another length. -/
import Derived.Test.YtjdemlfceaikgaaGreatK12
import Derived.Test.YtjdemlfceaikgaaGreatK13
import Derived.Test.YtjdemlfceaikgaaGreatK17
import Derived.Test.YtjdemlfceaikgaaGreatK18
set_option linter.unusedVariables false
set_option linter.unusedSimpArgs false
set_option linter.unusedSectionVars false
namespace Go.Proofs.YtjdemlfceaikgaaGreat
open Go.RowKit
theorem BD_sm {z : Int} (h : z.natAbs < BD) : Sm z:=BD_bsd.bsm.sm z h
structure GoodF (R C : Nat) (A H U V : List (List Int)) : Prop where
 fh : Fits R C H
 fu : Fits R R U
 fv : Fits R R V
 chk : ChkP R C A R C H R R U R R V
 lat : ∃r c G,HLat R C r c (ent A) G/\H = genM R C G
 sh : ∀r ∈ H,∀z ∈ r,Sm z
 m1 : MulSm U A R R C
 m2 : MulSm U V R R R
theorem genM_all {R C : Nat} {F : Nat->Nat->Int} {P : Int->Prop} (h : ∀a,a < R->∀b,b < C->P (F a b)) : ∀r ∈ genM R C F,∀z ∈ r,P z:=by
 intro r hr z hz
 unfold genM at hr
 obtain ⟨i,hi,rfl⟩:=List.mem_map.1 hr
 obtain ⟨j,hj,rfl⟩:=List.mem_map.1 hz
 exact h i (List.mem_range.1 hi) j (List.mem_range.1 hj)
theorem GoodF.eq {R C : Nat} {A H U V W : List (List Int)} (h : GoodF R C A H U V) (hW : Fits R C W) (hl : ∃r c,HLat R C r c (ent A) (ent W)) : H = W:=by
 obtain ⟨r,c,G,h1,rfl⟩:=h.lat
 obtain ⟨r',c',h2⟩:=hl
 rw [fits_genM hW]
 exact (h1.eq h2).2
instance (C : Nat) (F : Nat->Nat->Int) (i : Nat) : Decidable (rowOk C F i):=
 decidable_of_iff (lead C F i < 0 ∨ (¬ lead C F i < 0/\(∀k,k < i->0<=lead C F k/\lead C F k < lead C F i)/\0 < F i (lead C F i).toNat/\∀k,k < i->0<=F k (lead C F i).toNat/\F k (lead C F i).toNat < F i (lead C F i).toNat)) (by
  unfold rowOk
  constructor
  ·rintro (h | ⟨h1,h2,h3⟩)
   ·exact .inl h
   ·exact .inr ⟨(lead C F i).toNat,by omega,fun k hk=>by have:=h2 k hk; omega,h3⟩
  ·rintro (h | ⟨c,h1,h2,h3⟩)
   ·exact .inl h
   ·refine .inr ⟨by omega,fun k hk=>by rw [h1]; exact h2 k hk,?_⟩
    rw [h1,Int.toNat_natCast]
    exact h3)
instance (R C : Int) (M : List (List Int)) : Decidable (IsHP R C M):=inferInstanceAs (Decidable (_/\_))
def LatD (R C : Nat) (A W X Y : List (List Int)) : Prop:=IsHP R C W/\(∀a,a < R->∀b,b < C->ent A a b = sumN R fun t=>ent X a t * ent W t b)/\∀a,a < R->∀b,b < C->ent W a b = sumN R fun t=>ent Y a t * ent A t b
instance (R C : Nat) (A W X Y : List (List Int)) : Decidable (LatD R C A W X Y):=inferInstanceAs (Decidable (_/\_))
theorem LatD.lat {R C : Nat} {A W X Y : List (List Int)} (h : LatD R C A W X Y) (hW : Fits R C W) : ∃r c,HLat R C r c (ent A) (ent W):=by
 obtain ⟨r,c,h1⟩:=(isHP_iff hW).1 h.1
 exact ⟨r,c,h1,⟨ent X,h.2.1⟩,⟨ent Y,h.2.2⟩⟩
def RedV (q r : List Int) : World->Value->Prop:=fun w v=>∃qv rv,v = .tuple #[qv,rv,.int .i64 0]/\VecV w qv q/\VecV w rv r
def RowP (xs : List Int) : World->Value->Prop:=fun w v=>∃b rv,v = .pointer (some ⟨b,0,none⟩)/\b < w.heap.size/\w.cell? ⟨b,0,none⟩ = some rv/\VecV w rv xs
def NoneF : World->Value->Prop:=fun w v=>∃H U V,HermV w v 0 3 H U V/\GoodF 0 3 [] H U V
theorem HermV.agg {w : World} {f : Value} {R C : Nat} {H U V : List (List Int)} (h : HermV w f R C H U V) : ∃o1 n1 k1 o2 n2 k2 o3 n3 k3,f = .agg #[.int .i64 R,.int .i64 C,.slice o1 n1 k1,.int .i64 R,.int .i64 R,.slice o2 n2 k2,.int .i64 R,.int .i64 R,.slice o3 n3 k3]/\MatV w (.agg #[.int .i64 R,.int .i64 C,.slice o1 n1 k1]) R C H:=by
 obtain ⟨a,b,c,rfl,h1,h2,h3⟩:=h.ex
 obtain ⟨o1,n1,k1,rfl,-⟩:=id h1
 obtain ⟨o2,n2,k2,rfl,-⟩:=id h2
 obtain ⟨o3,n3,k3,rfl,-⟩:=id h3
 exact ⟨_,_,_,_,_,_,_,_,_,rfl,⟨_,rfl,h1⟩⟩
theorem field_mat2 (a b c : Value) (W : World) : (Instr.field 41 (.agg #[a,b,c]) 2).run Tryz.prog W = .ok c W:=by kernel_rfl
def rest (R C : Nat) (H : Nat->Nat->Int) (x : Nat->Int) : Nat->Int:=redR C H x R
def RstV (r : Nat) (c : Nat->Nat) (H : Nat->Nat->Int) (y : Nat->Int) : Prop:=∀s,s < r->0<=y (c s)/\y (c s) < H s (c s)
section
variable {n C r : Nat} {c : Nat->Nat} {H : Nat->Nat->Int}
end
theorem Hnf.congr {C n r : Nat} {c : Nat->Nat} {F G : Nat->Nat->Int} (h : Hnf C n r c F) (e : ∀a,a < n->∀b,b < C->F a b = G a b) : Hnf C n r c G:=by
 have hl:=h.le
 refine ⟨h.le,⟨h.ech.lt,fun k hk=>?_,fun k hk t ht=>?_,h.ech.inc⟩,fun i j hij hj _=>?_,fun a h1 h2 t ht=>?_⟩
 ·rw [<-e k oM _ (h.ech.lt k hk)]; exact h.ech.pos k hk
 ·rw [<-e k oM t (by have:=h.ech.lt k hk; omega)]; exact h.ech.zero k hk t ht
 ·rw [<-e i oM _ (h.ech.lt j hj),<-e j oM _ (h.ech.lt j hj)]; exact h.red i j hij hj trivial
 ·rw [<-e a h2 t ht]; exact h.zero a h1 h2 t ht
set_option maxHeartbeats 2000000 in
set_option maxRecDepth 20000 in
theorem vector_any (v : Value) (n : Nat) (ls : List Int) (w : World) (h : I8V w v ls) (hn : n<=16) :
  Calls Tryz.prog 59 #[v,.int .i64 n] w fun e w'=>∃u,e = .returned u/\VecV w' u (genV n (digF n ls 0))/\Below w.heap.size w w':=by
 obtain ⟨ao,m,cap,rfl,-⟩:=id h
 go_enter Tryz.func59,Tryz.ntmps59
 go_wp2_with fail
 refine (filled_any _ 1 n ls w h oM hn).mono ?_
 rintro e w1 ⟨u,bs,rfl,⟨hbl,A2,rfl,ho⟩,hb1⟩
 have hr:=ho.rows
 obtain ⟨oo,on,oc,rfl,o2,o3,o4,-⟩:=id hr
 obtain ⟨b,ra,rn,rc,zs,rfl,hbl2,hz,p1,hrv⟩:=hr.row (k:=0) (by simp [genM])
 have hF : Fits 1 n (genM 1 n (digF n ls)):=genM_fits _ _ _
 obtain rfl:=hF.row_eq hz
 have hon : on = 1:=by rw [<-o2]; simp [genM]
 subst hon
 have he : genV n (ent (genM 1 n (digF n ls)) 0) = genV n (digF n ls 0):=genV_congr fun t ht=>ent_genM oM ht
 rw [he] at hrv
 clear ho hr hz hF o2 he
 have hfl:=field_mat2
 go_wp2
 go_ret
 exact ⟨_,rfl,hrv,hb1⟩
end Go.Proofs.YtjdemlfceaikgaaGreat
