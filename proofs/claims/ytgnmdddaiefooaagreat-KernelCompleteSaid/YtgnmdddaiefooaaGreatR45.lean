/- hermite.Form at matrices of one digit: what Check asks for; the fixed examples of torsionlaw12.sanity. torsionref12: operations on the work; Moved. -/
import Derived.Test.YtgnmdddaiefooaaGreatR35
import Derived.Test.YtgnmdddaiefooaaGreatR39
import Derived.Test.YtgnmdddaiefooaaGreatR40
import Derived.Test.YtgnmdddaiefooaaGreatR41
import Derived.Test.YtgnmdddaiefooaaGreatR43
import Derived.Test.YtgnmdddaiefooaaGreatR44
set_option linter.unusedVariables false
set_option linter.unusedSimpArgs false
set_option linter.unusedSectionVars false
set_option maxHeartbeats 16000000
set_option maxRecDepth 100000
namespace Go.Proofs.YtgnmdddaiefooaaGreat
open Go.RowKit
theorem zAi{z:Int}(h:z.natAbs<BD):Sm z:=zGH.bsm.sm z h
structure zNH(R C:Nat)(A H U V:List (List Int)):Prop where
 fh:yG R C H
 fu:yG R R U
 fv:yG R R V
 chk:zP3 R C A R C H R R U R R V
 lat:∃r c G,zCX R C r c (ent A) G/\H=genM R C G
 sh:∀r∈H,∀z∈r,Sm z
 m1:zCM U A R R C
 m2:zCM U V R R R
theorem zCx{R C:Nat}{F:Nat->Nat->Int}{P:Int->Prop}(h:∀a,a<R->∀b,b<C->P (F a b)):∀r∈genM R C F,∀z∈r,P z:=by
 intro r hr z hz;unfold genM at hr;obtain⟨i,hi,rfl⟩:=List.mem_map.1 hr;obtain⟨j,hj,rfl⟩:=List.mem_map.1 hz;exact h i (List.mem_range.1 hi) j (List.mem_range.1 hj)
theorem jI.chk{R C r:Nat}{c:Nat->Nat}{A:List (List Int)}{H U V:Nat->Nat->Int}(h:jI R C r c (ent A) H U V)(hA:yG R C A):zP3 R C A R C (genM R C H) R R (genM R R U) R R (genM R R V):=by
 refine⟨zEW.2 ⟨r,c,h.hnf⟩,rfl,rfl,⟨rfl,rfl,(zV _ _ _).valid⟩,⟨rfl,rfl,(zV _ _ _).valid⟩,?_,?_⟩
 ·refine zS fun i hi j hj=>?_
  conv=>lhs;rw[jU hA]
  rw[zBO hi hj,h.mul i hi j hj]
 ·exact zS fun i hi j hj=>by rw[zBO hi hj,h.inv i hi j hj]
theorem zNH.eq{R C:Nat}{A H U V W:List (List Int)}(h:zNH R C A H U V)(hW:yG R C W)(hl:∃r c,zCX R C r c (ent A) (ent W)):H=W:=by
 obtain⟨r,c,G,h1,rfl⟩:=h.lat;obtain⟨r',c',h2⟩:=hl;rw[jU hW];exact(h1.eq h2).2
instance (C:Nat) (F:Nat->Nat->Int) (i:Nat):Decidable (zBU C F i):=
 decidable_of_iff (lead C F i<0∨(¬ lead C F i<0/\(∀k,k<i->0<=lead C F k/\lead C F k<lead C F i)/\0<F i (lead C F i).toNat/\∀k,k<i->0<=F k (lead C F i).toNat/\F k (lead C F i).toNat<F i (lead C F i).toNat)) (by
  unfold zBU
  constructor
  ·rintro(h|⟨h1,h2,h3⟩)
   ·exact .inl h
   ·exact .inr ⟨(lead C F i).toNat,by omega,fun k hk=>by have:=h2 k hk;omega,h3⟩
  ·rintro(h|⟨c,h1,h2,h3⟩)
   ·exact .inl h
   ·refine .inr ⟨by omega,fun k hk=>by rw[h1];exact h2 k hk,?_⟩
    rw[h1,Int.toNat_natCast]
    exact h3)
instance (R C:Int) (M:List (List Int)):Decidable (zLl R C M):=inferInstanceAs (Decidable (_/\_))
def zPP(R C:Nat)(A W X Y:List (List Int)):Prop:=zLl R C W/\(∀a,a<R->∀b,b<C->ent A a b=zI R fun t=>ent X a t*ent W t b)/\∀a,a<R->∀b,b<C->ent W a b=zI R fun t=>ent Y a t*ent A t b
instance (R C:Nat) (A W X Y:List (List Int)):Decidable (zPP R C A W X Y):=inferInstanceAs (Decidable (_/\_))
theorem zPP.lat{R C:Nat}{A W X Y:List (List Int)}(h:zPP R C A W X Y)(hW:yG R C W):∃r c,zCX R C r c (ent A) (ent W):=by
 obtain⟨r,c,h1⟩:=(zL5 hW).1 h.1;exact⟨r,c,h1,⟨ent X,h.2.1⟩,⟨ent Y,h.2.2⟩⟩
theorem zNu{M0 R C:Nat}{M:List (List Int)}(h:zOr (M0+1) M=true)(hF:yG R C M):leM M0 R C (ent M):=fun a ha b hb=>by
 have hl:a<M.length:=by rw[hF.1];exact ha
 have hr:=hF.2 M[a] (List.getElem_mem _);have hb':b<M[a].length:=by omega
 have e:ent M a b=M[a][b]:=zA7 (xga hl) (xga hb');have:=of_decide_eq_true (List.all_eq_true.1 (List.all_eq_true.1 h M[a] (List.getElem_mem _)) M[a][b] (List.getElem_mem _));rw[e];omega
/- The calls of sanity. -/
theorem zM.to{Z Z':Nat->Prop}{w w':World}(h:zM Z w w')(hz:∀b,Z b->Z' b):zM Z' w w':=h.mono fun b _ hb=>hz b hb
section
variable {Z:Nat->Prop} {w:World} {bw R C:Nat} {x:Bst}
theorem zKV(h:KW Z w bw R C x){i j:Nat}(hi:i<R)(hj:j<R)(hij:i≠j){kv:Value}{k:Int}(hk:zR w kv k)(hob:okB BD R C R x)(hok:zBx BD R C R x i j k)(hR:R<=1000000)(hC:C<=1000000):
  Calls Tryz.prog 82 #[.pointer (some ⟨bw,0,none⟩),.int .i64 i,.int .i64 j,kv] w fun e w'=>(∃u,e= .returned u)/\zM Z w w'/\KW Z w' bw R C (x.add i j k):=by
 obtain⟨AM,AU,AV,bm,bu,bv,h1,h2⟩:=h;obtain⟨o1,o2,o3⟩:=hob;obtain⟨k1,k2,k3,k4⟩:=hok;refine(zJK bw AM AU AV R C i j bm bu bv x kv k w h1 hi hj hij hk (zAi k1) hR hC (fun t ht=>⟨zAi (o1 i hi t ht),zAi (o1 j hj t ht),zAi (k2 t ht)⟩) (fun t ht=>⟨zAi (o2 i hi t ht),zAi (o2 j hj t ht),zAi (k3 t ht).1⟩)
  (fun t ht=>⟨zAi (o3 j hj t ht),zAi (o3 i hi t ht),zAi (k3 t ht).2⟩)).mono ?_
 rintro e w' ⟨hu,ho,hk'⟩;exact⟨hu,ho.to h2,AM,AU,AV,bm,bu,bv,hk',h2⟩
theorem zOo(h:KW Z w bw R C x){i:Nat}(hi:i<R)(hob:okB BD R C R x)(hR:R<=1000000)(hC:C<=1000000):
  Calls Tryz.prog 81 #[.pointer (some ⟨bw,0,none⟩),.int .i64 i] w fun e w'=>(∃u,e= .returned u)/\zM Z w w'/\KW Z w' bw R C (x.neg i):=by
 obtain⟨AM,AU,AV,bm,bu,bv,h1,h2⟩:=h;obtain⟨o1,o2,o3⟩:=hob;refine(zJL bw AM AU AV R C i bm bu bv x w h1 hi hR hC (fun t ht=>zAi (o1 i hi t ht)) (fun t ht=>zAi (o2 i hi t ht)) (fun t ht=>zAi (o3 i hi t ht))).mono ?_;rintro e w' ⟨hu,ho,hk'⟩;exact⟨hu,ho.to h2,AM,AU,AV,bm,bu,bv,hk',h2⟩
theorem zKW(h:KW Z w bw R C x){i j:Nat}(hi:i<R)(hj:j<R)(hR:R<=1000000)(hC:C<=1000000):
  Calls Tryz.prog 80 #[.pointer (some ⟨bw,0,none⟩),.int .i64 i,.int .i64 j] w fun e w'=>(∃u,e= .returned u)/\zM Z w w'/\KW Z w' bw R C (x.swap i j):=by
 obtain⟨AM,AU,AV,bm,bu,bv,h1,h2⟩:=h;refine(zHp bw AM AU AV R C i j bm bu bv x w h1 hi hj hR hC).mono ?_;rintro e w' ⟨hu,ho,hk'⟩;have l1:=h1.m.len;have l2:=h1.u.len;exact⟨hu,ho.to h2,AM,AU,AV,zH1 bm i j,zH1 bu i j,bv,hk',fun b hb=>h2 b (hb.imp (zDg oM oM) (Or.imp (zDg oM oM) id))⟩
theorem KW.blk(h:KW Z w bw R C x):∃m1 m2 m3 cs,Blk w bw tWk cs/\w.cell? ⟨bw,0,none⟩=some (.int .i64 R)/\w.cell? ⟨bw,1,none⟩=some (.int .i64 C)/\w.cell? ⟨bw,2,none⟩=some m1/\cs=#[.int .i64 R,.int .i64 C,m1,.int .i64 R,.int .i64 R,m2,.int .i64 R,.int .i64 R,m3]:=by
 obtain⟨AM,AU,AV,bm,bu,bv,h1,h2⟩:=h;obtain⟨q0,q1,q2,-⟩:=h1.blk.nine;exact⟨AM,AU,AV,_,h1.blk,q0,q1,q2,rfl⟩
end
structure MvI(R C M0 i:Nat)(x0 x:Bst):Prop where
 ops:∃l,qJ R l/\x=zA0 l x0
 bd:leB (M0*4^i) R C R x
section
variable {R C M0 i:Nat} {x0 x:Bst}
theorem MvI.op(h:MvI R C M0 i x0 x){o:Op}(ho:o.ok R)(hg:o.g<=4):MvI R C M0 (i+1) x0 (o.b x):=by
 obtain⟨l,l1,l2⟩:=h.ops;refine⟨zDX l1 l2 (qJ.cons ho qJ.nil) rfl,(zGq h.bd ho).mono ?_⟩;rw[Nat.pow_succ,<-Nat.mul_assoc];exact Nat.mul_le_mul_left _ hg
theorem MvI.same(h:MvI R C M0 i x0 x):MvI R C M0 (i+1) x0 x:=⟨h.ops,h.bd.mono (Nat.mul_le_mul_left _ (zDU oM oM))⟩
theorem MvI.last(h:MvI R C M0 i x0 x)(hi:i<=12):leB (M0*4^12) R C R x:=h.bd.mono (Nat.mul_le_mul_left _ (zDU oM hi))
end
theorem qL.keep3{w:World}{v:Value}{R C:Int}{M:List (List Int)}{b:Nat}{cs:Array Value}(h:qL w v R C M)(hb:Blk w b 28 cs)(x y z:Value):qL (((w.setCell ⟨b,0,none⟩ x).setCell ⟨b,1,none⟩ y).setCell ⟨b,2,none⟩ z) v R C M:=by
 obtain⟨A,rfl,h⟩:=h;exact⟨A,rfl,h.off hb dE dE (fun k hk=>qZ _ _ k _ _ _ hk) (hb.lext3 dE _ _ _)⟩
end Go.Proofs.YtgnmdddaiefooaaGreat
