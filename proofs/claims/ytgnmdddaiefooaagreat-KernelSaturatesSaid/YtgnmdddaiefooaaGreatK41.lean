/- torsionref05.Transpose; torsionref13: combine, combineColumns. torsionref13: combine, combineColumns. smith's run (the mirror) ends, within bounds, in a diagonal. Plain Lean. smith's divide (the mirror): relations, bounds, and the chain of invariants. Plain Lean. Invariants and minors; smith's run on small matrices ends within bounds. Plain Lean. smith.Invariants. smith.inverses and smith.Check where everything holds. smith.Check where everything holds; the zero struct. torsionref13.Same. The two definitions of a Smith form agree. The fixed examples of torsionlaw13.sanity: Form and Invariants at them. -/
import Derived.Test.YtgnmdddaiefooaaGreatK14
import Derived.Test.YtgnmdddaiefooaaGreatK16
import Derived.Test.YtgnmdddaiefooaaGreatK23
import Derived.Test.YtgnmdddaiefooaaGreatK28
import Derived.Test.YtgnmdddaiefooaaGreatK31
import Derived.Test.YtgnmdddaiefooaaGreatK34
import Derived.Test.YtgnmdddaiefooaaGreatK40
set_option linter.unusedVariables false
set_option linter.unusedSimpArgs false
set_option linter.unusedSectionVars false
set_option maxHeartbeats 16000000
set_option maxRecDepth 100000
namespace Go.Proofs.YtgnmdddaiefooaaGreat
open Go.RowKit
theorem zLF{R C:Nat}{g:Nat->Nat->Int}{i j:Nat}(hi:i<R)(hj:j<C):zJe (genM C R (fun a b=>zBh g i j b a)) j i (g i j)=genM C R (fun a b=>zBh g i (j+1) b a):=by
 rw[zAv _ hj hi];exact zR fun a _ b _=>by
  unfold zBh;by_cases h:a=j/\b=i
  ·obtain⟨rfl,rfl⟩:=h
   rw[if_pos ⟨rfl,rfl⟩,if_pos oM]
  ·rw[if_neg h]
   by_cases h2:b<i∨(b=i/\a<j)
   ·rw[if_pos h2,if_pos oM]
   ·rw[if_neg h2,if_neg oM]
theorem zMG{R C:Nat}{g:Nat->Nat->Int}{i:Nat}:genM C R (fun a b=>zBh g i C b a)=genM C R (fun a b=>zBh g (i+1) 0 b a):=
 zR fun a ha b hb=>by
  unfold zBh;by_cases h:b<i∨(b=i/\a<C)
  ·rw[if_pos h,if_pos oM]
  ·rw[if_neg h,if_neg oM]
theorem zJX(R C:Nat)(g:Nat->Nat->Int):jD C R=genM C R (fun a b=>zBh g 0 0 b a):=by
 rw[zBO];exact zR fun i _ j _=>by unfold zBh;rw[if_neg oM]
theorem zMF{R C:Nat}{g:Nat->Nat->Int}:genM C R (fun a b=>zBh g R 0 b a)=genM C R (fun a b=>g b a):=
 zR fun a ha b hb=>by unfold zBh;rw[if_pos oM]
theorem zEd(v:Value)(R C:Nat)(M:List (List Int))(w:World)(h:qX w v R C M)(hF:yI R C M)(hR:R<=1000000)(hC:C<=1000000):
  Calls Tryz.prog 61 #[v] w (zAQ w C R (genM C R (fun a b=>ent M b a))):=by
 obtain⟨A,rfl,h⟩:=h;obtain⟨ao,n,cap,rfl,e2,e3,e4,-⟩:=id h;obtain rfl:R=n:=by rw[<-e2,hF.1]
 have HF:=xgv hF;obtain⟨f,hf⟩:∃f:Nat->Nat->Int,ent M=f:=⟨_,rfl⟩;rw[hf];have HFE:qL (∀a b,f a b=ent M a b):=⟨fun a b=>by rw[<-hf]⟩;have HX:=xgw e2;clear hf hF e2;go_enter Tryz.func61,Tryz.ntmps61;go_upto_region 1 with(fail)
 refine zB ?_;intro W0 hW0;obtain⟨hB0,bx1,br,hs0⟩:=qI hW0;obtain⟨c1,c2,c3,c4,c5,c6⟩:=bx1.three;go_wp2_with fail
 refine(zAt C R W0 oM oM).mono ?_;rintro e w2 ⟨u,bs,rfl,⟨hbl,A2,rfl,ho⟩,hb2⟩;obtain⟨oo,on,oc,rfl,-,-,-,-⟩:=id ho.rows;have hlts:=ho.lts;go_upto_region 2 with(fail)
 refine zB ?_;intro W3 hW3;obtain⟨hB3,T7,hs3⟩:=zO hW3;have br:=(br.below hb2).below hB3;have bx1:=(bx1.below hb2).below hB3;have ho:=ho.below hB3;rw[zJX R C f]at ho;have hBt:=nx (nx hB0 hb2) hB3;have q2:=hb2.size;clear hW3 hW0 c1 c2 c3 c4 c5 c6;go_wp2;go_loopw [4] (fun iv wr=>∃i:Nat,i<=R/\iv= .int .i64 i/\Below w.heap.size w wr/\Blk wr w.heap.size 28 #[.int .i64 R,.int .i64 C,.slice ao R cap]/\Blk wr (w.heap.size+1) 28 #[.int .i64 0,.int .i64 0,.slice none 0 0]/\Blk wr w2.heap.size 28 #[.int .i64 C,.int .i64 R,.slice oo on oc]/\zH wr W0.heap.size (.slice oo on oc) R bs (genM C R (fun a b=>zBh f i 0 b a))) (fun iv _=>R-(intOf iv).toNat)
 case atStart=>exact⟨0,by omega,rfl,hBt,bx1,br,T7,ho⟩
 case round=>
  obtain⟨i,hi,rfl,hb,bx1,br,T7,ho⟩:=hrel;obtain⟨c1,c2,c3,c4,c5,c6⟩:=bx1.three;by_cases hlt:i<R
  ·go_wp2
   clear c1 c2 c3 c4 c5 c6;go_loopw [5] (fun jv wr=>∃j:Nat,j<=C/\jv= .int .i64 j/\Below w.heap.size w wr/\Blk wr w.heap.size 28 #[.int .i64 R,.int .i64 C,.slice ao R cap]/\Blk wr (w.heap.size+1) 28 #[.int .i64 0,.int .i64 0,.slice none 0 0]/\Blk wr w2.heap.size 28 #[.int .i64 C,.int .i64 R,.slice oo on oc]/\zH wr W0.heap.size (.slice oo on oc) R bs (genM C R (fun a b=>zBh f i j b a))) (fun jv _=>C-(intOf jv).toNat)
   case atStart=>exact⟨0,by omega,rfl,hb,bx1,br,T7,ho⟩
   case round=>
    obtain⟨j,hj,rfl,hb,bx1,br,T7,ho⟩:=hrel;obtain⟨c1,c2,c3,c4,c5,c6⟩:=bx1.three;by_cases hjc:j<C
    ·obtain⟨b,ra,rn,rc,zs,rfl,hbl1,hz,p1,hv⟩:=(h.below hb).row (k:=i) (by rw[HX.out];exact hlt)
     have hzl:=HF.out.2 zs (xgd hz);have hvl:=hv.len;obtain rfl:rn=C:=by omega
     obtain⟨b',z,s,a,l,c,rfl,hbl',hzk,q1,q2',hzv⟩:=hv.cell (k:=j) oM;have hent:=xgw ((HFE.out i j).trans (zBj hz hzk));clear hz hzk hzl;obtain⟨g,bo,rfl,hg,hbo,hbo2,o1,ho3⟩:=ho.at_ (i:=j) oM;obtain⟨f1,f2,f3,f4,f5,f6⟩:=T7.three;have hio:j<on:=by omega
     have HO3:=xgw ho3;clear ho3;have lt1:=bx1.lt;have lt7:=T7.lt;go_upto_region 8 with(fail)
     refine zC 15 rfl (RI wr (wr.heap.size) _ 51
       [VP 0 23 w2.heap.size 2,VSl 1 24 g on oc,VN 2 25 j,VP 3 26 g j,VSl 4 27 bo R R,VN 5 28 i,VP 6 29 w.heap.size 2,VSl 7 30 b R cap,VN 8 31 i,VP 9 32 b i,VSl 10 33 b' rn rc,VN 11 34 j,VP 12 35 b' (j*2),E 13 36 (.agg #[.bool s,.slice a l c]),VP 14 37 bo (i*2)] [] []) kR RI.start (RI.fin kR ?fin1) ?steps1
     case steps1=>
      refine⟨?_,?_,?_,?_,?_,?_,?_,?_,?_,?_,?_,?_,?_,?_,?_,trivial⟩<;>(intro L T wS hL hd hcl hI K hK;try refine zA rfl ?_)
      ·exact xgs (hI.k 3 rfl kR)
      ·have zt0:=hI.e mm0 (hd 0)
       have cc0:=hI.cell f3 oM nom;exact xgu
      ·exact xgs (hI.k 5 rfl kR)
      ·exact xgt (hI.e mm1 (hd 1)) (hI.e mm2 (hd 2))
      ·have zt3:=hI.e mm3 (hd 3)
       have cc0:=hI.cell o1 oM nom;exact xgu
      ·exact xgs (hI.k 4 rfl kR)
      ·exact xgs (hI.k 1 rfl kR)
      ·have zt6:=hI.e mm6 (hd 6)
       have cc0:=hI.cell c3 oM nom;exact xgu
      ·exact xgs (hI.k 4 rfl kR)
      ·exact xgt (hI.e mm7 (hd 7)) (hI.e mm8 (hd 8))
      ·have zt9:=hI.e mm9 (hd 9)
       have cc0:=hI.cell p1 oM nom;exact xgu
      ·exact xgs (hI.k 5 rfl kR)
      ·exact xgt (hI.e yC (hd 10)) (hI.e jQ (hd 11))
      ·have zt12:=hI.e zAY (hd 12)
       have cc0:=hI.cell q1 oM nom;have cc1:=hI.cell q2' oM nom;exact xgu
      ·exact xgt (hI.e mm4 (hd 4)) (hI.e mm5 (hd 5))
     intro w9 hlw9 hbw9 holdw9 T hT;simp only[Fin,E,EI,VP,VSl,VN,xgg,xgh,xgi,xgj]at hT;subst hT;simp only[xgl,xgk];have ho9:=ho.below hbw9;obtain⟨sn,sa,sl,sc,z1,z2,z3,z4,-⟩:=ho9.cellAt hbo hlt;have hbolt:=hlts j bo hbo;have hset:=ho9.set hbo hlt (hzv.ext hlw9);go_wp2;go_roundw
     case rel=>
      rw[<-hent.out,zLF hlt hjc]at hset;exact⟨j+1,by omega,by simp,zN (zN (nx hb hbw9) oM _ _) oM _ _,(qA _ _ _ _ _ _ _ oM).trans (bx1.below hbw9),(qA _ _ _ _ _ _ _ oM).trans (br.below hbw9),(qA _ _ _ _ _ _ _ oM).trans (T7.below hbw9),hset.1⟩
     case measure=>simp[intOf];omega
    ·obtain rfl:j=C:=by omega
     rw[zMG]at ho;go_wp2;go_roundw
     case rel=>exact⟨i+1,by omega,by simp,hb,bx1,br,T7,ho⟩
     case measure=>simp[intOf];omega
  ·obtain rfl:i=R:=by omega
   rw[zMF]at ho;obtain⟨f1,f2,f3,f4,f5,f6⟩:=T7.three;obtain⟨r1,r2,r3,r4,r5,r6⟩:=br.three;have q1:=hB0.size;go_wp2;refine zP rfl rfl rfl (br.put3 _ _ _) ⟨_,bs,rfl,⟨hbl,_,rfl,?_⟩,zN (zN (zN hb oM 0 _) oM 1 _) oM 2 _⟩;exact(ho.keep (fun k hk=>qQ _ _ k _ _ _ oM) (br.lext3 dE _ _ _)).mono q1
def zQI(F:Nat->Nat->Int)(i j:Nat)(k:Int):Nat->Nat->Int:=fun a b=>if b=i then F a i+k*F a j else F a b
def zPt(F:Nat->Nat->Int)(i j:Nat)(k:Int)(c:Nat):Nat->Nat->Int:=fun a b=>if a=i/\b<c then F i b+k*F j b else F a b
def zPs(F:Nat->Nat->Int)(i j:Nat)(k:Int)(c:Nat):Nat->Nat->Int:=fun a b=>if b=i/\a<c then F a i+k*F a j else F a b
def rnds:List (List Op × List Op)->W5->W5
 | [],z=>z
 |p::L,z=>rnds L (rnd z p.1 p.2)
def okL(R C:Nat)(L:List (List Op × List Op)):Prop:=∀p∈L,qJ R p.1/\qJ C p.2
theorem okL.cons{R C:Nat}{p:List Op × List Op}{L:List (List Op × List Op)}(h1:qJ R p.1)(h2:qJ C p.2)(h:okL R C L):okL R C (p::L):=fun q hq=>by
 rcases List.mem_cons.1 hq with rfl|hq
 ·exact⟨h1,h2⟩
 ·exact h q hq
theorem Rel.rnds{R C:Nat}{A:Nat->Nat->Int}{L:List (List Op × List Op)}(hL:okL R C L):∀{z:W5},Rel R C A z->Rel R C A (rnds L z):=by
 induction L with
 |nil=>intro z h;exact h
 |cons p L ih=>
  intro z h;exact ih (fun q hq=>hL q (List.mem_cons_of_mem _ hq)) (h.rnd (hL p (List.mem_cons_self ..)).1 (hL p (List.mem_cons_self ..)).2)
theorem zPy:∀m n:Nat,∃s t:Int,s*(m:Int)+t*(n:Int)=((Nat.gcd m n:Nat):Int):=by
 intro m;induction m using Nat.strongRecOn with
 | ind m ih=>
  intro n;rcases Nat.eq_zero_or_pos m with h|h
  ·subst h
   exact⟨0,1,by rw[Nat.gcd_zero_left];omega⟩
  ·obtain⟨s,t,e⟩:=ih (n%m) (Nat.mod_lt _ h) m
   refine⟨t-s*((n/m:Nat):Int),s,?_⟩;rw[Nat.gcd_rec,<-e];have h2:(n:Int)=(m:Int)*((n/m:Nat):Int)+((n%m:Nat):Int):=by
    have:=Nat.div_add_mod n m;exact_mod_cast this.symm
   generalize ((n/m:Nat):Int)=q at*;generalize ((n%m:Nat):Int)=r at*;rw[h2];grind
theorem zPx{x y:Int}(hx:0<=x)(hy:0<=y):∃s t:Int,s*x+t*y=((Int.gcd x y:Nat):Int):=by
 obtain⟨s,t,e⟩:=zPy x.natAbs y.natAbs;refine⟨s,t,?_⟩;rw[show((x.natAbs:Nat):Int)=x by omega,show((y.natAbs:Nat):Int)=y by omega]at e;exact e
def bl(f:Nat->Int)(i j:Nat)(m0 m1 m2 m3:Int)(a:Nat):Int:=if a=i then m0*f i+m1*f j else if a=j then m2*f i+m3*f j else f a
theorem zD8(n:Nat)(F:Nat->Nat->Int)(i j:Nat)(m0 m1 m2 m3:Int)(X:Nat->Int)(a:Nat):
  zI n (fun t=>zW F i j m0 m1 m2 m3 a t*X t)=bl (fun a=>zI n fun t=>F a t*X t) i j m0 m1 m2 m3 a:=by
 unfold bl zW;split
 ·rw[<-zV,<-zV,<-jE]
  exact zD fun t ht=>by rw[Int.add_mul,Int.mul_assoc,Int.mul_assoc]
 ·split
  ·rw[<-zV,<-zV,<-jE]
   exact zD fun t ht=>by rw[Int.add_mul,Int.mul_assoc,Int.mul_assoc]
  ·rfl
theorem zE7(n:Nat)(F:Nat->Nat->Int)(i j:Nat)(m0 m1 m2 m3:Int)(X:Nat->Int)(a:Nat):
  zI n (fun t=>X t*zW F i j m0 m1 m2 m3 a t)=bl (fun a=>zI n fun t=>X t*F a t) i j m0 m1 m2 m3 a:=by
 rw[zD (g:=fun t=>zW F i j m0 m1 m2 m3 a t*X t) (fun t ht=>Int.mul_comm _ _),zD8];unfold bl;dsimp only;rw[zD (g:=fun t=>F i t*X t) (f:=fun t=>X t*F i t) (fun t ht=>Int.mul_comm _ _),zD (g:=fun t=>F j t*X t) (f:=fun t=>X t*F j t) (fun t ht=>Int.mul_comm _ _),zD (g:=fun t=>F a t*X t) (f:=fun t=>X t*F a t) (fun t ht=>Int.mul_comm _ _)]
theorem zGM{n i j:Nat}{P Q:Nat->Nat->Int}{m0 m1 m2 m3 n0 n1 n2 n3:Int}(hi:i<n)(hj:j<n)(hij:i≠j)(h:∀a,a<n->∀b,b<n->dot n P Q a b=idf a b)
  (e0:m0*n0+m1*n1=1) (e1:m0*n2+m1*n3=0) (e2:m2*n0+m3*n1=0) (e3:m2*n2+m3*n3=1):∀a,a<n->∀b,b<n->dot n (zW P i j m0 m1 m2 m3) (zW Q i j n0 n1 n2 n3) a b=idf a b:=by
 intro a ha b hb;unfold dot;rw[zD8];have e:∀a,a<n->zI n (fun t=>P a t*zW Q i j n0 n1 n2 n3 b t)=bl (fun b=>idf a b) i j n0 n1 n2 n3 b:=fun a ha=>by
  rw[zE7];have g:∀b,b<n->zI n (fun t=>P a t*Q b t)=idf a b:=fun b hb=>h a ha b hb
  unfold bl;dsimp only;rw[g i hi,g j hj,g b hb]
 have hji:¬ j=i:=fun h=>hij h.symm
 unfold bl;dsimp only;rw[e i hi,e j hj,e a ha];unfold bl idf;by_cases a1:a=i
 ·by_cases b1:b=i
  ·subst a1;subst b1;simp[hij,hji];omega
  ·by_cases b2:b=j
   ·subst a1;subst b2;simp[hij,hji];omega
   ·have b3:¬ i=b:=fun h=>b1 h.symm
    have b4:¬ j=b:=fun h=>b2 h.symm
    subst a1;simp[b1,b2,b3,b4]
 ·by_cases a2:a=j
  ·by_cases b1:b=i
   ·subst a2;subst b1;simp[hij,hji];omega
   ·by_cases b2:b=j
    ·subst a2;subst b2;simp[hij,hji];omega
    ·have b3:¬ i=b:=fun h=>b1 h.symm
     have b4:¬ j=b:=fun h=>b2 h.symm
     subst a2;simp[b1,b2,b3,b4,hji]
  ·by_cases b1:b=i
   ·subst b1;simp[a1,a2]
   ·by_cases b2:b=j
    ·subst b2;simp[a1,a2,hji]
    ·simp[a1,a2,b1,b2]
theorem zJT{n i j:Nat}{f g:Nat->Int}(hi:i<n)(hj:j<n)(hij:i≠j)(h:∀t,t<n->t≠i->t≠j->f t=g t)(h1:f i+f j=g i+g j):zI n f=zI n g:=
 zEj (d:=f i-g i) hi hj hij h oM oM
theorem zGL{n i j:Nat}{P Q:Nat->Nat->Int}{m0 m1 m2 m3 n0 n1 n2 n3:Int}(hi:i<n)(hj:j<n)(hij:i≠j)
  (e0:n0*m0+n2*m2=1) (e1:n0*m1+n2*m3=0) (e2:n1*m0+n3*m2=0) (e3:n1*m1+n3*m3=1) (a b:Nat):cod n (zW Q i j n0 n1 n2 n3) (zW P i j m0 m1 m2 m3) a b=cod n Q P a b:=by
 refine zJT hi hj hij (fun t ht h1 h2=>?_) ?_
 ·unfold zW;rw[if_neg h1,if_neg h1,if_neg h2,if_neg h2]
 ·unfold zW
  have hji:¬ j=i:=fun h=>hij h.symm
  simp only[if_true,if_neg hji];generalize P i b=p;generalize P j b=q;generalize Q i a=r;generalize Q j a=s;have:(n0*r+n1*s)*(m0*p+m1*q)+(n2*r+n3*s)*(m2*p+m3*q)=r*p*(n0*m0+n2*m2)+r*q*(n0*m1+n2*m3)+s*p*(n1*m0+n3*m2)+s*q*(n1*m1+n3*m3):=by grind
  rw[this,e0,e1,e2,e3];omega
theorem zLX{R C i j:Nat}{A:Nat->Nat->Int}{z:W5}{s t:Int}(h:Rel R C A z)(hd:zIq R C z.s)(hij:i<j)(hj:j<min R C)(hg:Int.gcd (z.s i i) (z.s j j)≠0)(hb:s*z.s i i+t*z.s j j=((Int.gcd (z.s i i) (z.s j j):Nat):Int)):Rel R C A (zPe z i j s t):=by
 obtain⟨u0,hu0⟩:(((Int.gcd (z.s i i) (z.s j j):Nat):Int))∣z.s i i:=Int.gcd_dvd_left ..;obtain⟨v,hv⟩:(((Int.gcd (z.s i i) (z.s j j):Nat):Int))∣z.s j j:=Int.gcd_dvd_right ..;obtain⟨g,hgg⟩:∃g:Int,((Int.gcd (z.s i i) (z.s j j):Nat):Int)=g:=⟨_,rfl⟩;have hg0:g≠0:=by rw[<-hgg];omega
 rw[hgg]at hb hu0 hv;have q1:z.s i i/g=u0:=by rw[hu0];exact Int.mul_ediv_cancel_left _ hg0
 have q2:z.s j j/g=v:=by rw[hv];exact Int.mul_ediv_cancel_left _ hg0
 have hstuv:s*u0+t*v=1:=by
  have:g*(s*u0+t*v)=g*1:=by rw[hu0,hv]at hb;grind
  exact Int.eq_of_mul_eq_mul_left hg0 this
 have hi':i<R/\i<C/\j<R/\j<C:=by omega
 obtain⟨hiR,hiC,hjR,hjC⟩:=hi';have hne:i≠j:=by omega
 have hji:¬ j=i:=by omega
 refine⟨fun a ha b hb'=>?_,?_,fun a ha b hb'=>?_,?_,fun a ha b hb'=>?_⟩
 ·show zJc z.s i j a b=zI R fun s'=>zW z.u i j s t (-(z.s j j/_)) (z.s i i/_) a s'*zI C fun t'=>A s' t'*zW z.w i j 1 1 (-(t*(z.s j j/_))) (1-t*(z.s j j/_)) b t'
  unfold zJc;rw[hgg,q1,q2];have e1:∀s',zI C (fun t'=>A s' t'*zW z.w i j 1 1 (-(t*v)) (1-t*v) b t')=bl (fun b=>zI C fun t'=>A s' t'*z.w b t') i j 1 1 (-(t*v)) (1-t*v) b:=fun s'=>zE7 _ _ _ _ _ _ _ _ _ _
  simp only[e1];rw[zD8];have e2:∀a,a<R->zI R (fun s'=>z.u a s'*bl (fun b=>zI C fun t'=>A s' t'*z.w b t') i j 1 1 (-(t*v)) (1-t*v) b)=bl (fun b=>z.s a b) i j 1 1 (-(t*v)) (1-t*v) b:=fun a ha=>by
   have g1:∀b,b<C->z.s a b=zI R fun s=>z.u a s*zI C fun t=>A s t*z.w b t:=fun b hb=>h.s a ha b hb
   unfold bl;dsimp only;split
   ·rw[g1 i hiC,g1 j hjC,<-zV,<-zV,<-jE]
    exact zD fun s' _=>by rw[Int.mul_add,Int.mul_left_comm (z.u a s'),Int.mul_left_comm (z.u a s')]
   ·split
    ·rw[g1 i hiC,g1 j hjC,<-zV,<-zV,<-jE]
     exact zD fun s' _=>by rw[Int.mul_add,Int.mul_left_comm (z.u a s'),Int.mul_left_comm (z.u a s')]
    ·rw[g1 b hb']
  have hout:bl (fun a=>zI R fun s'=>z.u a s'*bl (fun b=>zI C fun t'=>A s' t'*z.w b t') i j 1 1 (-(t*v)) (1-t*v) b) i j s t (-v) u0 a=bl (fun a=>bl (fun b=>z.s a b) i j 1 1 (-(t*v)) (1-t*v) b) i j s t (-v) u0 a:=by
   unfold bl at*;dsimp only at*;rw[e2 i hiR,e2 j hjR,e2 a ha]
  rw[hout];have zij:z.s i j=0:=hd i hiR j hjC hne;have zji:z.s j i=0:=hd j hjR i hiC hji;unfold bl;dsimp only;by_cases a1:a=i
  ·subst a1
   by_cases b1:b=a
   ·subst b1
    rw[if_neg oM,if_pos ⟨rfl,rfl⟩,if_pos rfl,if_pos rfl,if_pos rfl,zij,zji,<-hb];grind
   ·by_cases b2:b=j
    ·subst b2
     rw[if_neg oM,if_neg oM,if_pos rfl,if_neg hji,if_neg hji,if_pos rfl,if_pos rfl,zji,zij];have:s*(-(t*v)*z.s a a+(1-t*v)*0)+t*(-(t*v)*0+(1-t*v)*z.s b b)=-(t*v)*(s*z.s a a+t*z.s b b)+t*z.s b b:=by grind
     rw[this,hb,hv];grind
    ·have h1:z.s a b=0:=hd a ha b hb' (fun e=>b1 e.symm)
     have h2:z.s j b=0:=hd j hjR b hb' (fun e=>b2 e.symm);rw[if_neg oM,if_neg oM,if_pos rfl,if_neg b1,if_neg b2,if_neg b1,if_neg b2,h1,h2];omega
  ·by_cases a2:a=j
   ·subst a2
    by_cases b1:b=i
    ·subst b1
     rw[if_neg oM,if_neg oM,if_neg a1,if_pos rfl,if_pos rfl,if_pos rfl,zij,zji];have:-v*(1*z.s b b+1*0)+u0*(1*0+1*z.s a a)=u0*z.s a a-v*z.s b b:=by grind
     rw[this,hu0,hv];grind
    ·by_cases b2:b=a
     ·subst b2
      rw[if_pos ⟨rfl,rfl⟩,if_neg a1,if_pos rfl,if_neg b1,if_neg b1,if_pos rfl,if_pos rfl,zij,zji];have:-v*(-(t*v)*z.s i i+(1-t*v)*0)+u0*(-(t*v)*0+(1-t*v)*z.s b b)=t*v*v*z.s i i+(1-t*v)*u0*z.s b b:=by grind
      rw[this,hu0,hv];grind
     ·have h1:z.s i b=0:=hd i hiR b hb' (fun e=>b1 e.symm)
      have h2:z.s a b=0:=hd a ha b hb' (fun e=>b2 e.symm);rw[if_neg oM,if_neg oM,if_neg a1,if_pos rfl,if_neg b1,if_neg b2,if_neg b1,if_neg b2,h1,h2];omega
   ·rw[if_neg oM,if_neg oM,if_neg a1,if_neg a2]
    by_cases b1:b=i
    ·subst b1
     rw[if_pos rfl,hd a ha b hb' a1,hd a ha j hjC a2];omega
    ·by_cases b2:b=j
     ·subst b2
      rw[if_neg b1,if_pos rfl,hd a ha b hb' a2,hd a ha i hiC a1];omega
     ·rw[if_neg b1,if_neg b2]
 ·show ∀a,a<R->∀b,b<R->dot R (zW z.u i j s t (-(z.s j j/_)) (z.s i i/_)) (zW z.v i j (z.s i i/_) (z.s j j/_) (-t) s) a b=idf a b
  rw[hgg,q1,q2];exact zGM hiR hjR hne h.uv hstuv (by grind) (by grind) (by grind)
 ·show cod R (zW z.v i j (z.s i i/_) (z.s j j/_) (-t) s) (zW z.u i j s t (-(z.s j j/_)) (z.s i i/_)) a b=idf a b
  rw[hgg,q1,q2,zGL hiR hjR hne (by grind) (by grind) (by grind) (by grind)];exact h.vu a ha b hb'
 ·show ∀a,a<C->∀b,b<C->dot C (zW z.w i j 1 1 (-(t*(z.s j j/_))) (1-t*(z.s j j/_))) (zW z.x i j (1-t*(z.s j j/_)) (t*(z.s j j/_)) (-1) 1) a b=idf a b
  rw[hgg,q2];exact zGM hiC hjC hne h.wx (by grind) (by grind) (by grind) (by grind)
 ·show cod C (zW z.x i j (1-t*(z.s j j/_)) (t*(z.s j j/_)) (-1) 1) (zW z.w i j 1 1 (-(t*(z.s j j/_))) (1-t*(z.s j j/_))) a b=idf a b
  rw[hgg,q2,zGL hiC hjC hne (by grind) (by grind) (by grind) (by grind)];exact h.xw a ha b hb'
structure Dg(R C r:Nat)(F:Nat->Nat->Int):Prop where
 off:zIq R C F
 pos:∀i,i<r->0<F i i
 zero:∀i,r<=i->i<min R C->F i i=0
 le:r<=min R C
theorem Low.dg{R C r:Nat}{F:Nat->Nat->Int}(h:Low R C r F)(hd:zIq R C F):Dg R C r F:=
 ⟨hd,fun i hi=>h.hnf.ech.pos i hi,fun i h1 h2=>h.row i h1 oM i oM,by have:=h.le;have:=h.hnf.le;omega⟩
theorem Dg.both{R C r i j:Nat}{F:Nat->Nat->Int}(h:Dg R C r F)(hij:i<j)(hj:j<min R C)(hn:¬ F i i∣F j j):j<r/\0<F i i/\0<F j j:=by
 have hjr:j<r:=by
  rcases Nat.lt_or_ge j r with h1|h1
  ·exact h1
  ·rw[h.zero j h1 hj]at hn
   exact absurd (Int.dvd_zero _) hn
 exact⟨hjr,h.pos i oM,h.pos j hjr⟩
theorem zM0{F:Nat->Nat->Int}{i j:Nat}(hij:i<j):zJc F i j i i=((Int.gcd (F i i) (F j j):Nat):Int):=by
 unfold zJc;rw[if_neg oM,if_pos ⟨rfl,rfl⟩]
theorem zM1{F:Nat->Nat->Int}{i j:Nat}:zJc F i j j j=F i i*(F j j/((Int.gcd (F i i) (F j j):Nat):Int)):=by
 unfold zJc;rw[if_pos ⟨rfl,rfl⟩]
theorem zHF{F:Nat->Nat->Int}{i j a b:Nat}(h1:¬ (a=j/\b=j))(h2:¬ (a=i/\b=i)):zJc F i j a b=F a b:=by
 unfold zJc;rw[if_neg h1,if_neg h2]
theorem zJ9{x y:Int}(hx:0<x)(hy:0<y):∃g u v:Int,((Int.gcd x y:Nat):Int)=g/\0<g/\x=g*u/\y=g*v/\0<u/\0<v/\x/g=u/\y/g=v:=by
 obtain⟨u,hu⟩:(((Int.gcd x y:Nat):Int))∣x:=Int.gcd_dvd_left ..;obtain⟨v,hv⟩:(((Int.gcd x y:Nat):Int))∣y:=Int.gcd_dvd_right ..;have h0:0<((Int.gcd x y:Nat):Int):=by
  have:Int.gcd x y≠0:=fun h=>by rw[Int.gcd_eq_zero_iff]at h;omega
  omega
 generalize hg:((Int.gcd x y:Nat):Int)=g at*;have hu0:0<u:=by
  rcases Int.lt_or_le 0 u with h|h
  ·exact h
  ·have:=Int.mul_nonpos_of_nonneg_of_nonpos (Int.le_of_lt h0) h;omega
 have hv0:0<v:=by
  rcases Int.lt_or_le 0 v with h|h
  ·exact h
  ·have:=Int.mul_nonpos_of_nonneg_of_nonpos (Int.le_of_lt h0) h;omega
 exact⟨g,u,v,rfl,h0,hu,hv,hu0,hv0,by rw[hu];exact Int.mul_ediv_cancel_left _ oM,by rw[hv];exact Int.mul_ediv_cancel_left _ oM⟩
theorem Dg.step{R C r i j:Nat}{F:Nat->Nat->Int}(h:Dg R C r F)(hij:i<j)(hj:j<min R C)(hn:¬ F i i∣F j j):Dg R C r (zJc F i j):=by
 obtain⟨h1,h2,h3⟩:=h.both hij hj hn;obtain⟨g,u,v,e1,e2,e3,e4,e5,e6,e7,e8⟩:=zJ9 h2 h3;refine⟨fun a ha b hb hab=>?_,fun k hk=>?_,fun k h4 h5=>?_,h.le⟩
 ·rw[zHF oM oM];exact h.off a ha b hb hab
 ·by_cases k1:k=i
  ·rw[k1,zM0 hij,e1];exact e2
  ·by_cases k2:k=j
   ·rw[k2,zM1,e1,e8];exact Int.mul_pos h2 e6
   ·rw[zHF oM oM];exact h.pos k hk
 ·rw[zHF oM oM];exact h.zero k h4 h5
theorem zDE{x y:Int}{X Y:Nat}(hx:x.natAbs<=X)(hy:y.natAbs<=Y):(x*y).natAbs<=X*Y:=by
 rw[Int.natAbs_mul];exact Nat.mul_le_mul hx hy
structure zQB(M T R C Cu Cw r e:Nat)(y0 y:W5):Prop where
 dg:Dg R C r y.s
 muh:mu r y.s*2^e<=mu r y0.s
 prod:yW r (fun k=>y.s k k)=yW r (fun k=>y0.s k k)
 u:leM (M*(4*T*T)^e) R Cu y.u
 v:leM (M*(4*T*T)^e) R Cu y.v
 w:leM (M*(4*T*T)^e) C Cw y.w
 x:leM (M*(4*T*T)^e) C Cw y.x
theorem Dg.small{R C r T:Nat}{F:Nat->Nat->Int}(h:Dg R C r F)(hT:(yW r (fun k=>F k k)).natAbs<=T):leM T R C F:=by
 intro a ha b hb;by_cases e:a=b
 ·subst e
  rcases Nat.lt_or_ge a r with h1|h1
  ·have h2:=zNa h.pos h1
   have h3:=h.pos a h1;omega
  ·rw[h.zero a h1 oM];omega
 ·rw[h.off a ha b hb e];omega
def Chn(i n:Nat)(F:Nat->Nat->Int):Prop:=∀a b,i<=a->a<b->b<n->F a a∣F b b
def zLN(R C r:Nat)(A F:Nat->Nat->Int):Prop:=Dg R C r F/\∃u v w x,Rel R C A ⟨F,u,v,w,x⟩
theorem zLN.step{R C r i j:Nat}{A F:Nat->Nat->Int}(h:zLN R C r A F)(hij:i<j)(hj:j<min R C)(hn:¬ F i i∣F j j):zLN R C r A (zJc F i j):=by
 obtain⟨hd,u,v,w,x,hr⟩:=h;obtain⟨b1,b2,b3⟩:=hd.both hij hj hn;obtain⟨s,t,e⟩:=zPx (x:=F i i) (y:=F j j) oM oM;have:=zLX hr hd.off hij hj (fun h=>by dsimp only at h;rw[Int.gcd_eq_zero_iff]at h;omega) e;exact⟨hd.step hij hj hn,_,_,_,_,this⟩
theorem zLN.divJ{R C r i:Nat}{A:Nat->Nat->Int}:∀(m j:Nat) (F:Nat->Nat->Int),i<j->j+m<=min R C->zLN R C r A F->zLN R C r A (divJ i m j F):=by
 intro m;induction m with
 |zero=>intro j F _ _ h;exact h
 | succ m ih=>
  intro j F h1 h2 h;unfold Go.Proofs.YtgnmdddaiefooaaGreat.divJ;refine ih (j+1) _ oM oM ?_;split
  ·exact h
  ·rename_i hn
   exact h.step h1 oM hn
theorem zLN.divI{R C r:Nat}{A:Nat->Nat->Int}:∀(m i:Nat) (F:Nat->Nat->Int),i+m<=min R C->zLN R C r A F->zLN R C r A (divI m i F):=by
 intro m;induction m with
 |zero=>intro i F _ h;exact h
 |succ m ih=>
  intro i F h1 h;unfold Go.Proofs.YtgnmdddaiefooaaGreat.divI;exact ih (i+1) _ oM (zLN.divJ m (i+1) F oM oM h)
def zJh(R C k:Nat)(A:Nat->Nat->Int)(g:Int):Prop:=∀σ τ:Nat->Nat,(∀a,a<k->σ a<R)->(∀a,a<k->τ a<C)->g∣det k fun a b=>A (σ a) (τ b)
def Fac(R C:Nat)(F G:Nat->Nat->Int):Prop:=∃P Q:Nat->Nat->Int,∀a,a<R->∀b,b<C->G a b=zI R fun s=>P a s*zI C fun t=>F s t*Q t b
theorem zJh.fac{R C k:Nat}{F G:Nat->Nat->Int}{g:Int}(h:zJh R C k F g)(hf:Fac R C F G):zJh R C k G g:=by
 obtain⟨P,Q,e⟩:=hf;intro σ τ hσ hτ;rw[qU (G:=fun a b=>zI R fun s=>P (σ a) s*zI C fun t=>F s t*Q t (τ b)) fun a ha b hb=>e _ (hσ a ha) _ (hτ b hb)];exact zGV (P:=fun a s=>P (σ a) s) (Q:=fun t b=>Q t (τ b)) h
theorem zJh.tr{R C k:Nat}{F:Nat->Nat->Int}{g:Int}(h:zJh R C k F g):zJh C R k (trF F) g:=fun σ τ hσ hτ=>by
 have:=h τ σ hτ hσ;rw[<-jI]at this;exact this
theorem zLn{P:Nat->Prop}:∀f,P f->∃f,P f/\∀g,P g->f<=g:=by
 intro f;induction f using Nat.strongRecOn with
 | ind f ih=>
  intro hf;by_cases h:∃g,g<f/\P g
  ·obtain⟨g,h1,h2⟩:=h
   exact ih g h1 h2
  ·exact⟨f,hf,fun g hg=>Nat.le_of_not_lt fun hlt=>h ⟨g,hlt,hg⟩⟩
theorem Dg.minors{R C r k:Nat}{F:Nat->Nat->Int}(h:Dg R C r F)(hc:Chn 0 (min R C) F)(hk:k<=min R C):zJh R C k F (yW k fun i=>F i i):=by
 refine fun σ τ hσ hτ=>zDc (R:=R) (C:=C) (fun σ τ hσ hτ hi hj=>?_) σ τ hσ hτ
 by_cases he:∀a,a<k->σ a=τ a
 ·rw[zBC fun a ha b hb hab=>?_]
  ·refine zKg fun i hik=>?_
   rw[<-he i hik];have h1:=hi.le i hik;have h2:=hσ i hik;have h3:=hτ i hik;rw[<-he i hik]at h3;rcases Nat.lt_or_ge i (σ i)with h4|h4
   ·exact hc i (σ i) (Nat.zero_le _) h4 oM
   ·rw[show σ i=i by omega];exact Int.dvd_refl _
  ·refine h.off _ (hσ a ha) _ (hτ b hb) ?_
   rw[<-he b hb];have:=hi.lt a b hab hb;omega
 ·-- the first place where they differ
  have hex:∃a,(a<k/\σ a≠τ a)/\∀b,b<a->b<k->σ b=τ b:=by
   obtain⟨a,ha⟩:=Classical.not_forall.1 he;obtain⟨ha1,ha2⟩:=Classical.not_imp.1 ha;obtain⟨m,hm1,hm2⟩:=zLn (P:=fun a=>a<k/\σ a≠τ a) a ⟨ha1,ha2⟩;exact⟨m,hm1,fun b hb hbk=>Classical.byContradiction fun hne=>by
    have:=hm2 b ⟨hbk,hne⟩;omega⟩
  obtain⟨a,⟨ha,hne⟩,hbef⟩:=hex;rcases Nat.lt_or_ge (σ a) (τ a)with h1|h1
  ·rw[zAB ha fun b hb=>?_]
   ·exact Int.dvd_zero _
   ·refine h.off _ (hσ a ha) _ (hτ b hb) fun e=>?_
    rcases Nat.lt_trichotomy b a with h2|h2|h2
    ·have:=hi.lt b a h2 ha
     rw[hbef b h2 hb]at this;omega
    ·subst h2;omega
    ·have:=hj.lt a b h2 hb
     omega
  ·rw[zGU (c:=a) ha fun b hb=>?_]
   ·exact Int.dvd_zero _
   ·refine h.off _ (hσ b hb) _ (hτ a ha) fun e=>?_
    rcases Nat.lt_trichotomy b a with h2|h2|h2
    ·have:=hj.lt b a h2 ha
     rw[<-hbef b h2 hb]at this;omega
    ·subst h2;omega
    ·have:=hi.lt a b h2 hb
     omega
theorem Dg.gen{R C r k:Nat}{F:Nat->Nat->Int}{g:Int}(h:Dg R C r F)(hk:k<=min R C)(hm:zJh R C k F g):g∣yW k fun i=>F i i:=by
 have:=hm (fun a=>a) (fun a=>a) (fun a ha=>by omega) (fun a ha=>by omega);rwa[zBC fun a ha b hb hab=>h.off a oM b oM oM]at this
structure Inv(R C r:Nat)(A F:Nat->Nat->Int):Prop where
 dg:Dg R C r F
 chn:Chn 0 (min R C) F
 fwd:Fac R C A F
 bwd:Fac R C F A
theorem Inv.minors{R C r k:Nat}{A F:Nat->Nat->Int}(h:Inv R C r A F)(hk:k<=min R C):zJh R C k A (yW k fun i=>F i i):=(h.dg.minors h.chn hk).fac h.bwd
theorem Inv.gen{R C r k:Nat}{A F:Nat->Nat->Int}{g:Int}(h:Inv R C r A F)(hk:k<=min R C)(hm:zJh R C k A g):g∣yW k fun i=>F i i:=h.dg.gen hk (hm.fac h.fwd)
theorem Dg.nonneg{R C r i:Nat}{F:Nat->Nat->Int}(h:Dg R C r F)(hi:i<min R C):0<=F i i:=by
 rcases Nat.lt_or_ge i r with h1|h1
 ·have:=h.pos i h1;omega
 ·rw[h.zero i h1 hi];exact Int.le_refl _
theorem zN2:∃n:Nat,n=549755813888:=⟨_,rfl⟩
noncomputable def EB:Nat:=zN2.choose
theorem zMk:EB=549755813888:=zN2.choose_spec
noncomputable def BB:Nat:=2^EB
def zf:Nat->Nat->Int:=fun _ _=>0
def nzL(l:List Int):List Int:=l.filter (fun z=>decide (z≠0))
theorem zIr{R C n:Nat}{F:Nat->Nat->Int}(h:n<=R)(h2:n<=C):zMy (genM R C F) n=qE n (fun i=>F i i):=by
 unfold zMy qE;refine List.map_congr_left fun k hk=>?_
 have hk':=List.mem_range.1 hk;exact qK oM oM




instance (B R C Cu Cw:Nat) (z:W5):Decidable (okW B R C Cu Cw z):=by unfold okW;infer_instance
theorem zN0.same{n:Nat}{z y:W5}(h:zN0 n z y)(hd:∀i j,i<j->j<n->z.s i i∣z.s j j):y=z:=by
 induction h with
 |refl=>rfl
 |step y i j s t h1 h2 h3 h4 h5 ih=>
  have e:=ih;subst e;exact absurd (hd i j h2 h3) h4
def zOI(B:Nat)(M:List (List Int)):Bool:=M.all fun r=>r.all fun z=>decide (z.natAbs<B)
def zOj(B:Nat)(X Y:List (List Int))(R m C:Nat):Prop:=∀i,i<R->∀j,j<C->∀k,k<m->(ent X i k).natAbs<B/\(ent Y k j).natAbs<B/\(ent X i k*ent Y k j).natAbs<B/\(zEs X Y k i j).natAbs<B
instance (B:Nat) (X Y:List (List Int)) (R m C:Nat):Decidable (zOj B X Y R m C):=by unfold zOj;infer_instance
theorem zOj.sm{B:Nat}(hB:BSm B){X Y:List (List Int)}{R m C:Nat}(h:zOj B X Y R m C):zD6 X Y R m C:=fun i hi j hj k hk=>
 ⟨hB.sm _ (h i hi j hj k hk).1,hB.sm _ (h i hi j hj k hk).2.1,hB.sm _ (h i hi j hj k hk).2.2.1,hB.sm _ (h i hi j hj k hk).2.2.2⟩
end Go.Proofs.YtgnmdddaiefooaaGreat
