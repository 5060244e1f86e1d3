/- hermite.Reduce. torsionref12: Pivot, Is. hermite.Check. torsionref12.Check. smith's run (the mirror) ends, within bounds, in a diagonal. Plain Lean. smith's divide (the mirror): relations, bounds, and the chain of invariants. Plain Lean. Invariants and minors; smith's run on small matrices ends within bounds. Plain Lean. smith.Invariants. smith.inverses and smith.Check where everything holds. smith.Check where everything holds; the zero struct. torsionlaw13.list. torsionref05.Ints. torsionref13.Same. The two definitions of a Smith form agree. The fixed examples of torsionlaw13.sanity: Form and Invariants at them. smith.Invariants and smith.Form of small matrices, with what they yield. torsionref05.Filled. torsionref05: Made, Square. torsionlaw13.sanity. What the Checks ask for; Invariants of a small matrix as a list. hermite.Form at matrices of one digit: what Check asks for; the fixed examples of torsionlaw12.sanity. The rest that Reduce leaves: plain Lean. Diophantine equations, plain: a column that refutes. What the two calls of bareiss.Solve in diophant.refute need, plain. torsionref02.ValidList, torsionref08.Dot. torsionref05.Transpose; torsionref13: combine, combineColumns. torsionref08.Act, Columns. torsionlaw12.sanity. torsionref05: Vector, Row, Times, Act, Zero; hermite.Reduce of a row of another length. torsionref14.Check. -/
import Derived.Test.YtnbmaipobhppcaaGreatE04
import Derived.Test.YtnbmaipobhppcaaGreatE05
import Derived.Test.YtnbmaipobhppcaaGreatE06
import Derived.Test.YtnbmaipobhppcaaGreatE07
import Derived.Test.YtnbmaipobhppcaaGreatE08
import Derived.Test.YtnbmaipobhppcaaGreatE09
import Derived.Test.YtnbmaipobhppcaaGreatE10
set_option linter.unusedVariables false
set_option linter.unusedSimpArgs false
set_option linter.unusedSectionVars false
set_option maxHeartbeats 16000000
set_option maxRecDepth 100000
namespace Go.Proofs.YtnbmaipobhppcaaGreat
open Go.RowKit
def quo(C:Nat)(F:Nat->Nat->Int)(r:Nat->Int)(i:Nat):Int:=if lead C F i<0 then 0 else r (lead C F i).toNat/F i (lead C F i).toNat
def zBR(C:Nat)(F:Nat->Nat->Int)(x:Nat->Int):Nat->Nat->Int
 |0=>x
 |i+1=>fun t=>zBR C F x i t+-(quo C F (zBR C F x i) i)*F i t
def zBA(C:Nat)(F:Nat->Nat->Int)(x:Nat->Int)(i:Nat):Int:=quo C F (zBR C F x i) i
structure zQi(B R C:Nat)(F:Nat->Nat->Int)(x:Nat->Int):Prop where
 mat:okF B R C F
 rest:∀i,i<=R->∀t,t<C->(zBR C F x i t).natAbs<B
 quot:∀i,i<R->(zBA C F x i).natAbs<B/\∀t,t<C->(-(zBA C F x i)*F i t).natAbs<B
theorem mkV(m:Int)(n:Nat)(hm:m=n)(h:n<=1099511627776)(W:World):
  (Instr.makeSlice 31 (.int .i64 m) (.int .i64 m)).run Tryz.prog W= .ok (.slice (some ⟨W.heap.size,0,none⟩) n n) (W.alloc (.cells (zeroCells n) tI)):=by
 subst hm;obtain⟨i0,hi,hz0,hz1,hz2⟩:=info_parts Tryz.infoI;have:=zAd (P:=Tryz.prog) 31 tI i0 _ Tryz.underlying31 hi hz0 .i64 .i64 n n (xgf _) (by rw[hz2];omega) oM W;rw[this,hz1];rfl
def zMG(lo n:Nat):World->Value->Prop:=fun w v=>∃b,v= .slice (some ⟨b,0,none⟩) n n/\lo<=b/\qC w b (zM n fun _=>0)
theorem zCk(lo n:Nat):qK (zMG lo n):=fun _ _ _ hb ⟨b,h1,h2,h3⟩=>⟨b,h1,h2,h3.below hb⟩
theorem zCR{w:World}{lo n:Nat}(hlo:lo<=w.heap.size):zMG lo n (w.alloc (.cells (zeroCells n) tI)) (.slice (some ⟨w.heap.size,0,none⟩) n n):=
 ⟨_,rfl,hlo,by
  have h:=zDC w n
  rwa[show List.replicate n (0:Int)=zM n fun _=>0 from List.ext_getElem (by simp[zM]) fun i h1 h2=>by simp[zM]]at h⟩
def zQs(u v:Value):Prop:=∀a b n m c d,u= .slice (some ⟨a,0,none⟩) n c->v= .slice (some ⟨b,0,none⟩) m d->a≠b
theorem zFV(a b:Int):qK (DMV a b):=fun _ _ _ x ⟨q,r,h1,h2,h3⟩=>⟨q,r,h1,h2.ext (lx x),h3.ext (lx x)⟩
def zOt(a b:Nat)(T:Array Value)(w:World):World:=
 match T[a]?,T[b]? with
 |some (.pointer (some ⟨g,o,none⟩)),some (.agg #[x,y])=>(w.setCell ⟨g,o,none⟩ x).setCell ⟨g,o+1,none⟩ y
 |_,_=>w
theorem zGI{a b g o:Nat}{T:Array Value}{w:World}{x y:Value}(h1:T[a]?=some (.pointer (some ⟨g,o,none⟩)))(h2:T[b]?=some (.agg #[x,y])):zOt a b T w=(w.setCell ⟨g,o,none⟩ x).setCell ⟨g,o+1,none⟩ y:=by
 unfold zOt;rw[h1,h2];rfl
theorem zEF{a b c:Nat}{T:Array Value}{w:World}{v:Value}(h1:c≠a)(h2:c≠b):zOt a b (T.setIfInBounds c v) w=zOt a b T w:=by
 unfold zOt;rw[xgc h1,xgc h2]
theorem zEA{W w:World}(h:qU [] W w):Below W.heap.size W w:=⟨h.bel.os,h.bel.tape,h.bel.output,h.bel.size,fun k hk=>h.old k hk sI⟩
theorem zDn{n:Nat}(f g:Nat->Int):zM n (qA f g n)=zM n f:=zQ fun t ht=>by unfold qA;rw[if_pos ht]
theorem zCO{n:Nat}(f g:Nat->Int):zM n (qA f g 0)=zM n g:=zQ fun t _=>by unfold qA;rw[if_neg oM]
theorem zDI{n j:Nat}(f g:Nat->Int):(zM n (qA f g j)).set j (f j)=zM n (qA f g (j+1)):=by
 rw[zAk];exact zQ fun t _=>by
  unfold qA;by_cases h2:t=j
  ·subst h2;rw[if_pos rfl,if_pos oM]
  ·rw[if_neg h2]
   by_cases h1:t<j
   ·rw[if_pos h1,if_pos oM]
   ·rw[if_neg h1,if_neg oM]
theorem zCq{fn:Func}{a b c:Tmp}(h:fn.results=#[.tmp a,.tmp b,.tmp c])(tmps:Array Value)(P:Program)(W:World):(results fn tmps).run P W= .ok (.tuple #[tmps.getD a undef,tmps.getD b undef,tmps.getD c undef]) W:=by
 simp[results,h]
def zPI(R C:Nat)(q r:Nat->Int)(w:World)(e:Ending)(w':World):Prop:=∃qv rv,e= .returned (.tuple #[qv,rv,.int .i64 0])/\qN w' qv (zM R q)/\qN w' rv (zM C r)/\Below w.heap.size w w'
theorem zGv{B:Nat}(hB:BSd B)(hv vv:Value)(R C:Nat)(M:List (List Int))(x:Nat->Int)(w:World)(h:jE w hv R C M)(hF:jT R C M)(hx:qN w vv (zM C x))(hR:R<=1000000)(hC:C<=1000000)(hok:zQi B R C (ent M) x)(hB0:0<B):
  Calls Tryz.prog 70 #[hv,vv] w (zPI R C (zBA C (ent M) x) (zBR C (ent M) x R) w):=by
 have h0:=h;obtain⟨A,rfl,h⟩:=h;obtain⟨ao,n,cap,rfl,e2,e3,e4,-⟩:=id h;obtain rfl:R=n:=by rw[<-e2,hF.1]
 obtain⟨xo,xn,xcap,rfl,x2,x3,x4,-⟩:=id hx;rw[zD]at x2;subst x2;have hdv:decide (qX R C M)=true:=decide_eq_true hF.valid;have HF:=xgv hF;have HOK:=xgv hok;have H0:=xgv h0;have HR:=xgv h;have HX:=xgv hx;have HB0:=xgv hB0;clear hok h0 hF e2 h hx hB0;go_enter Tryz.func70,Tryz.ntmps70;go_upto_region 1 with(fail)
 refine zB ?_;intro W0 hW0;obtain⟨hb0,bx1,hs0⟩:=zK hW0;obtain⟨c1,c2,c3,c4,c5,c6⟩:=bx1.three;clear hW0;go_wp2_with fail
 refine(yF _ R C M W0 (H0.out.below hb0)).mono ?_;rintro e w1 ⟨rfl,hb1⟩;rw[hdv];have bx1:=bx1.below hb1;have hb:=nx hb0 hb1;clear c1 c2 c3 c4 c5 c6 hdv;obtain⟨c1,c2,c3,c4,c5,c6⟩:=bx1.three;have hmkR:=fun W=>mkV (R:Int) R rfl oM W
 have hmkC:=fun W=>mkV (C:Int) C rfl oM W
 have hl1:=zCk w1.heap.size R;have hl2:=zCk w1.heap.size C;go_upto_region 3 with(fail)
 refine zE rfl (RVP 2 26 5 29 zQs [⟨6,7,2,26⟩,⟨7,8,5,29⟩] w1 _ [⟨0,24,fun _ v=>v= .pointer (some ⟨w.heap.size,0,none⟩)⟩,⟨1,25,fun _ v=>v= .int .i64 R⟩,⟨2,26,zMG w1.heap.size R⟩,⟨3,27,fun _ v=>v= .pointer (some ⟨w.heap.size,1,none⟩)⟩,⟨4,28,fun _ v=>v= .int .i64 C⟩,⟨5,29,zMG w1.heap.size C⟩,⟨6,7,zMG w1.heap.size R⟩,⟨7,8,zMG w1.heap.size C⟩]) kR (RVP.start kR (by repeat' (first|exact yL _|exact jC _|exact jD _ _ _|exact qZ _|assumption|refine xgm.2 ⟨?_,?_⟩|exact xgn _)) ⟨_,mm2⟩ ⟨_,mm5⟩ dE kR) ?fin1 ?steps1
 case steps1=>
  (repeat' constructor)<;>(intro L T wS hL hd hcl hI K hK;try refine zA rfl ?_)
  ·have zt:T[2]?=some (.pointer (some ⟨w.heap.size,0,none⟩)):=hI.keep 2 sI
   go_simp;exact hK _ _ (hI.y mm0 rfl)
  ·obtain⟨_,zt0,rfl⟩:=hI.v mm0 (hd 0)
   have cc0:=hI.cell c1;go_simp;exact hK _ _ (hI.y mm1 rfl)
  ·obtain⟨_,zt1,rfl⟩:=hI.v mm1 (hd 1)
   go_simp;exact hK _ _ ((hI.world ((Below.refl _ _).alloc (xgf _) _)).y mm2 (zCR hI.bel.size) (fun u=>⟨fun _ hu hl=>by obtain⟨v',q1,b',q2,q3,q4⟩:=hI.v mm5 hl;have:=q4.lt;cases q1.symm.trans hu;intro a b n m c d e1 e2;subst q2;cases e1;cases e2;omega,fun e=>absurd e dE⟩))
  ·have zt:T[2]?=some (.pointer (some ⟨w.heap.size,0,none⟩)):=hI.keep 2 sI
   go_simp;exact hK _ _ (hI.y mm3 rfl)
  ·obtain⟨_,zt3,rfl⟩:=hI.v mm3 (hd 3)
   have cc0:=hI.cell c2;go_simp;exact hK _ _ (hI.y mm4 rfl)
  ·obtain⟨_,zt4,rfl⟩:=hI.v mm4 (hd 4)
   go_simp;exact hK _ _ ((hI.world ((Below.refl _ _).alloc (xgf _) _)).y mm5 (zCR hI.bel.size) (fun u=>⟨fun e=>absurd e dE,fun _ hu hl=>by obtain⟨v',q1,b',q2,q3,q4⟩:=hI.v mm2 hl;have:=q4.lt;cases q1.symm.trans hu;intro a b n m c d e1 e2;subst q2;cases e1;cases e2;omega⟩))
  ·obtain⟨vc,ztc,hcv⟩:=hI.v mm2 (hd 2)
   go_simp;exact hK _ _ (hI.y mm6 hcv (hc:=.inr (by repeat' (first|refine xgm.2 ⟨?_,?_⟩|exact xgn _|(intro e;exact absurd e dE)|(intro _;exact⟨hd 2 kR,ztc⟩)))))
  ·obtain⟨vc,ztc,hcv⟩:=hI.v mm5 (hd 5)
   go_simp;exact hK _ _ (hI.y mm7 hcv (hc:=.inr (by repeat' (first|refine xgm.2 ⟨?_,?_⟩|exact xgn _|(intro e;exact absurd e dE)|(intro _;exact⟨hd 5 kR,ztc⟩)))))
 intro T w3 hI;obtain⟨va0,q0,rfl⟩:=hI.v mm0 rfl;obtain⟨va1,q1,rfl⟩:=hI.v mm1 rfl;obtain⟨va2,q2,ha2⟩:=hI.v mm2 rfl;obtain⟨va3,q3,rfl⟩:=hI.v mm3 rfl;obtain⟨va4,q4,rfl⟩:=hI.v mm4 rfl;obtain⟨va5,q5,ha5⟩:=hI.v mm5 rfl;obtain⟨va6,q6,ha6⟩:=hI.v mm6 rfl;obtain⟨va7,q7,ha7⟩:=hI.v mm7 rfl;have hT:=zAJ [(24,.pointer (some ⟨w.heap.size,0,none⟩)),(25,.int .i64 R),(26,va2),(27,.pointer (some ⟨w.heap.size,1,none⟩)),(28,.int .i64 C),(29,va5),(7,va6),(8,va7)]
  (fun j hj=>hI.keep j (by simp only[xgm]at hj ⊢;simp[hj]))
  (by simp only[xgm];simp[q0,q1,q2,q3,q4,q5,q6,q7]) hI.size
 obtain⟨paa,pba,pua,pva,pqa⟩:=hI.pair rfl rfl;have pca:=hI.cpy;have hbw3:=hI.bel;clear hI;simp only[List.foldl_cons,List.foldl_nil,xgh,xgi,xgj,ptr]at hT;subst hT;clear q0 q1 q2 q3 q4 q5 q6 q7;have e6:va6=va2:=Option.some.inj (pca _ mm0 rfl).2;have e7:va7=va5:=Option.some.inj (pca _ mm1 rfl).2;have e8:va2=paa:=Option.some.inj pua;have e9:va5=pba:=Option.some.inj pva;subst e6 e7 e8 e9;obtain⟨qb,rfl,hq1,hq2⟩:zMG w1.heap.size R w3 va6:=ha6;obtain⟨rb,rfl,hr1,hr2⟩:zMG w1.heap.size C w3 va7:=ha7;have hqr:qb≠rb:=pqa _ _ _ _ _ _ rfl rfl;have hl01:=bx1.lt;have hb3:=nx hb hbw3;have bx1:=bx1.below hbw3;have hsz1:=hb.size;clear pca pqa ha2 ha5 hmkR hmkC hl1 hl2 c1 c2 c3 c4 c5 c6;obtain⟨c1,c2,c3,c4,c5,c6⟩:=bx1.three;have hrs:qC w3 rb (zM C (qA x (fun _=>0) 0)):=by rw[zCO];exact hr2
 clear hr2;go_wp2;go_loopw [32] (fun jv wr=>∃j:Nat,j<=C/\jv= .int .i64 j/\Below w.heap.size w wr/\Blk wr w.heap.size 28 #[.int .i64 R,.int .i64 C,.slice ao R cap]/\qC wr qb (zM R fun _=>0)/\qC wr rb (zM C (qA x (fun _=>0) j))) (fun jv _=>C-(intOf jv).toNat)
 case atStart=>exact⟨0,by omega,rfl,hb3,bx1,hq2,hrs⟩
 case round=>
  clear bx1 hq2 hrs c1 c2 c3 c4 c5 c6;obtain⟨j,hj,rfl,hbr,bx1,hq2,hrs⟩:=hrel;by_cases hlt:j<C
  ·obtain⟨bx,z,s,a,l,k,rfl,hbx,hz,p1,p2,hzv⟩:=(HX.out.below hbr).cell (k:=j) (by rw[zD];exact hlt)
   rw[zP hlt]at hz;obtain rfl:x j=z:=Option.some.inj hz;clear hz;go_upto_region 7 with(fail)
   refine zB ?_;intro W6 hW6;obtain⟨hB6,T6,hs6⟩:=zK hW6;have bx1:=bx1.below hB6;have hq2:=hq2.below hB6;have hrs:=hrs.below hB6;have hzv:=hzv.ext (lx hB6);have hbr:=nx hbr hB6;have sx:qE (Sm (x j)):=⟨hB.bsm.sm _ (HOK.out.rest 0 (Nat.zero_le _) j hlt)⟩;have sz:qE (Sm (0:Int)):=⟨hB.bsm.sm _ (by simpa using HB0.out)⟩;obtain⟨t1,t2,t3,t4⟩:=T6.two;clear p1 p2 hW6;go_wp2_with fail
   refine(zBw _ _ (x j) 0 W6 hzv.weak (zAD W6).weak sx.out sz.out).mono ?_;rintro e w7 ⟨u,rfl,hu,hb7⟩;rw[Int.add_zero]at hu;obtain⟨un,ua,ul,uc,ux,rfl,hu'⟩:=id hu;have HU:=xgw hu';have bx1:=bx1.below hb7;have hq2:=hq2.below hb7;have hrs:=hrs.below hb7;have hbr:=nx hbr hb7;clear hu' t1 t2 t3 t4;obtain⟨z0,z1,z2,z3,f1,f2,f3,f4,-⟩:=hrs.cell (zP hlt);have hset:=hrs.set (k:=j) (by rw[zD];exact hlt) hu;rw[zDI]at hset;have lb:=bx1.lt;have lq:=hq2.lt;go_wp2;go_roundw
   case rel=>
    exact⟨j+1,by omega,by simp,zO (zO hbr oM _ _) oM _ _,(zV _ _ _ _ _ _ _ oM).trans bx1,hq2.old (zV _ _ _ _ _ _ _ hqr) hset.2,hset.1⟩
   case measure=>simp[intOf];omega
  ·obtain rfl:j=C:=by omega
   rw[zDn]at hrs;obtain⟨c1,c2,c3,c4,c5,c6⟩:=bx1.three;have hqs:qC wr qb (zM R (qA (zBA j (ent M) x) (fun _=>0) 0)):=by rw[zCO];exact hq2
   clear hq2;go_wp2;go_loopw [47] (fun iv wt=>∃i:Nat,i<=R/\iv= .int .i64 i/\Below w.heap.size w wt/\qC wt qb (zM R (qA (zBA j (ent M) x) (fun _=>0) i))/\qC wt rb (zM j (zBR j (ent M) x i))) (fun iv _=>R-(intOf iv).toNat)
   case atStart=>exact⟨0,by omega,rfl,hbr,hqs,hrs⟩
   case round=>
    rename World=>wt
    clear hbr hqs hrs bx1 c1 c2 c3 c4 c5 c6;obtain⟨i,hi,rfl,hbt,hqs,hrs⟩:=hrel;by_cases hlt:i<R
    ·obtain⟨b,ra,rn,rc,zs,rfl,hbl,hz,p1,hrv0⟩:=HR.out.row (k:=i) (by rw[HF.out.1];exact hlt)
     obtain rfl:=HF.out.row_eq hz;have hrn:=hrv0.len.1;have p1:=(hbt.cell (p:=⟨b,i,none⟩) hbl).trans p1;have hrv:=hrv0.below hbt;rw[zD]at hrn;subst hrn;clear hz;go_wp2_with fail
     refine(zBI _ (zM j (ent M i)) wt hrv).mono ?_;rintro e w7 ⟨rfl,hb7⟩;obtain⟨d,hd⟩:∃d,zBn 0 (zM j (ent M i))=d:=⟨_,rfl⟩;rw[hd];have HD:=xgw (show lead j (ent M) i=d from hd);have hbt:=nx hbt hb7;have hqs:=hqs.below hb7;have hrs:=hrs.below hb7;have hrv:=hrv.below hb7;clear hd p1;by_cases hneg:d<0
     ·have hdn:decide (0<=d)=false:=decide_eq_false oM
      have HN:=xgw hneg;clear hneg;go_wp2;go_roundw
      case rel=>
       have hqz:zBA j (ent M) x i=0:=by unfold zBA quo;rw[if_pos (by rw[HD.out];exact HN.out)]
       have e1:zM R (qA (zBA j (ent M) x) (fun _=>0) i)=zM R (qA (zBA j (ent M) x) (fun _=>0) (i+1)):=zQ fun t _=>by
        unfold qA;by_cases h1:t<i
        ·rw[if_pos h1,if_pos oM]
        ·by_cases h2:t=i
         ·rw[if_neg h1,if_pos oM,h2,hqz]
         ·rw[if_neg h1,if_neg oM]
       have e2:zM j (zBR j (ent M) x i)=zM j (zBR j (ent M) x (i+1)):=zQ fun t _=>by
        show _=zBR j (ent M) x i t+-(zBA j (ent M) x i)*ent M i t;rw[hqz];omega
       rw[e1]at hqs;rw[e2]at hrs;exact⟨i+1,by omega,by simp,hbt,hqs,hrs⟩
      case measure=>simp[intOf];omega
     ·obtain⟨c,rfl⟩:=Int.eq_ofNat_of_zero_le (Int.not_lt.1 hneg)
      obtain⟨hcC,hcz⟩:=zBJ HD.out;have hqe:zBA j (ent M) x i=zBR j (ent M) x i c/ent M i c:=by unfold zBA quo;rw[HD.out,if_neg hneg];rfl
      obtain⟨y,hy⟩:∃y,zBR j (ent M) x i c=y:=⟨_,rfl⟩;obtain⟨p,hp⟩:∃p,ent M i c=p:=⟨_,rfl⟩;obtain⟨q,hq⟩:∃q,zBA j (ent M) x i=q:=⟨_,rfl⟩;have hyB:qE (Sm y):=⟨by rw[<-hy];exact hB.bsm.sm _ (HOK.out.rest i oM c hcC)⟩;have hpB:qE (Sm p):=⟨by rw[<-hp];exact hB.bsm.sm _ (HOK.out.mat i hlt c hcC)⟩;have hqB:qE (q.natAbs<B/\∀t,t<j->(-q*ent M i t).natAbs<B):=⟨by rw[<-hq];exact HOK.out.quot i hlt⟩;have hp0:qE (p≠0):=⟨by rw[<-hp];exact hcz⟩;rw[hq,hy,hp]at hqe;obtain⟨_,_,_,e1,-,g1,g2,g5⟩:=id hrv0;cases e1;obtain⟨bi,rfl,hrow⟩:=g5 (fun h=>by have:=congrArg List.length h;rw[zD]at this;simp at this;omega);have hbi:=hrow.lt;have hrow7:=hrow.below hbt;obtain⟨s,a,l,k,q1,q2,-,-,hzv⟩:=hrow7.cell (zP hcC);rw[hp]at hzv;clear g5;obtain⟨s2,a2,l2,k2,o1,o2,-,-,hov⟩:=hrs.cell (zP hcC);rw[hy]at hov;have HY:=xgw hy;have HP:=xgw hp;have HQ:=xgw hq;have HQE:=xgw hqe;have lq:=hqs.lt;have lr:=hrs.lt;have hl3:=zFV y p;have hl4:qK (fun _ _=>True):=fun _ _ _ _ _=>trivial
      clear hy hp hq hqe hcz hneg hrv hrv0;go_upto_region 14 with(fail)
      refine zE rfl (RAS ([]) 99 w7 _ [⟨0,57,fun _ v=>v= .slice (some ⟨qb,0,none⟩) R R⟩,⟨1,58,fun _ v=>v= .int .i64 i⟩,⟨2,59,fun _ v=>v= .slice (some ⟨rb,0,none⟩) j j⟩,⟨3,60,fun _ v=>v= .int .i64 c⟩,⟨4,61,fun _ v=>v= .pointer (some ⟨rb,c*2,none⟩)⟩,⟨5,62,fun _ v=>v= .agg #[.bool s2,.slice a2 l2 k2]⟩,⟨6,63,fun _ v=>v= .slice (some ⟨bi,0,none⟩) j rc⟩,⟨7,64,fun _ v=>v= .int .i64 c⟩,⟨8,65,fun _ v=>v= .pointer (some ⟨bi,c*2,none⟩)⟩,⟨9,66,fun _ v=>v= .agg #[.bool s,.slice a l k]⟩,⟨10,67,DMV y p⟩,⟨11,56,DMV y p⟩,⟨12,68,fun w v=>zH w v (y/p)⟩,⟨13,69,fun _ _=>True⟩,⟨14,70,fun _ v=>v= .int .i64 0⟩,⟨15,71,fun _ v=>v= .pointer (some ⟨qb,i*2,none⟩)⟩] 16 (zOt 71 68)) kR (RAS.start (RA.start kR (by repeat' (first|exact yL _|exact jC _|exact jD _ _ _|exact qZ _|assumption|refine xgm.2 ⟨?_,?_⟩|exact xgn _)))) ?fin2 ?steps2
      case steps2=>
       refine⟨?_,?_,?_,?_,?_,?_,?_,?_,?_,?_,?_,?_,?_,?_,?_,?_,?_,trivial⟩
       ·refine zF.liftA kR dE ?_
        intro L T wS hL hd hcl hI K hK;try refine zA rfl ?_
        have zt:T[7]?=some (.slice (some ⟨qb,0,none⟩) R R):=hI.keep 7 sI;go_simp;exact hK _ _ (hI.y mm0 rfl)
       ·refine zF.liftA kR dE ?_
        intro L T wS hL hd hcl hI K hK;try refine zA rfl ?_
        have zt:T[11]?=some (.int .i64 i):=hI.keep 11 sI;go_simp;exact hK _ _ (hI.y mm1 rfl)
       ·refine zF.liftA kR dE ?_
        intro L T wS hL hd hcl hI K hK;try refine zA rfl ?_
        have zt:T[8]?=some (.slice (some ⟨rb,0,none⟩) j j):=hI.keep 8 sI;go_simp;exact hK _ _ (hI.y mm2 rfl)
       ·refine zF.liftA kR dE ?_
        intro L T wS hL hd hcl hI K hK;try refine zA rfl ?_
        have zt:T[13]?=some (.int .i64 c):=hI.keep 13 sI;go_simp;exact hK _ _ (hI.y mm3 rfl)
       ·refine zF.liftA kR dE ?_
        intro L T wS hL hd hcl hI K hK;try refine zA rfl ?_
        obtain⟨_,zt2,rfl⟩:=hI.v mm2 (hd 2);obtain⟨_,zt3,rfl⟩:=hI.v mm3 (hd 3);go_simp;exact hK _ _ (hI.y mm4 rfl)
       ·refine zF.liftA kR dE ?_
        intro L T wS hL hd hcl hI K hK;try refine zA rfl ?_
        obtain⟨_,zt4,rfl⟩:=hI.v mm4 (hd 4);have cc0:=hI.cell (sI) oM o1;have cc1:=hI.cell (sI) oM o2;go_simp;exact hK _ _ (hI.y mm5 rfl)
       ·refine zF.liftA kR dE ?_
        intro L T wS hL hd hcl hI K hK;try refine zA rfl ?_
        have zt:T[12]?=some (.slice (some ⟨bi,0,none⟩) j rc):=hI.keep 12 sI;go_simp;exact hK _ _ (hI.y mm6 rfl)
       ·refine zF.liftA kR dE ?_
        intro L T wS hL hd hcl hI K hK;try refine zA rfl ?_
        have zt:T[13]?=some (.int .i64 c):=hI.keep 13 sI;go_simp;exact hK _ _ (hI.y mm7 rfl)
       ·refine zF.liftA kR dE ?_
        intro L T wS hL hd hcl hI K hK;try refine zA rfl ?_
        obtain⟨_,zt6,rfl⟩:=hI.v mm6 (hd 6);obtain⟨_,zt7,rfl⟩:=hI.v mm7 (hd 7);go_simp;exact hK _ _ (hI.y mm8 rfl)
       ·refine zF.liftA kR dE ?_
        intro L T wS hL hd hcl hI K hK;try refine zA rfl ?_
        obtain⟨_,zt8,rfl⟩:=hI.v mm8 (hd 8);have cc0:=hI.cell (sI) oM q1;have cc1:=hI.cell (sI) oM q2;go_simp;exact hK _ _ (hI.y mm9 rfl)
       ·refine zF.liftA kR dE ?_
        intro L T wS hL hd hcl hI K hK;try refine zA rfl ?_
        obtain⟨_,zt5,rfl⟩:=hI.v mm5 (hd 5);obtain⟨_,zt9,rfl⟩:=hI.v mm9 (hd 9);go_simp;refine(zHn _ _ y p _ (hov.ext hI.onl.lext).weak (hzv.ext hI.onl.lext).weak hyB.out hpB.out hp0.out).mono ?_;rintro e wa ⟨v,rfl,hv,hba⟩;exact hK _ _ ((hI.world hba).y zAB hv)
       ·refine zF.liftA kR dE ?_
        intro L T wS hL hd hcl hI K hK;try refine zA rfl ?_
        obtain⟨v10,zt10,h10⟩:=hI.v zAB (hd 10);go_simp;exact hK _ _ (hI.y zAG h10)
       ·refine zF.liftA kR dE ?_
        intro L T wS hL hd hcl hI K hK;try refine zA rfl ?_
        obtain⟨v11,zt11,h11⟩:=hI.v zAG (hd 11);obtain⟨qq,rr,rfl,hq,hr⟩:=h11;go_simp;exact hK _ _ (hI.y zAs hq)
       ·intro L T wS hL hd hcl hI K hK
        try refine zA rfl ?_
        obtain⟨w0,hJ,-,-⟩:=id hI;obtain⟨z11,zt11,hz11⟩:=hJ.val _ zAG (hd 11);obtain⟨qq,rr,rfl,hq,hr⟩:DMV y p w0 z11:=hz11;go_simp;exact hK _ _ (hI.pure ⟨13,69,_⟩ zCS rfl (fun _=>trivial) dE (fun _=>zEF dE dE))
       ·intro L T wS hL hd hcl hI K hK
        try refine zA rfl ?_
        obtain⟨w0,hJ,-,-⟩:=id hI;obtain⟨z11,zt11,hz11⟩:=hJ.val _ zAG (hd 11);obtain⟨qq,rr,rfl,hq,hr⟩:DMV y p w0 z11:=hz11;go_simp;exact hK _ _ (hI.pure ⟨14,70,_⟩ zBq rfl (fun _=>rfl) dE (fun _=>zEF dE dE))
       ·refine zF.liftA kR dE ?_
        intro L T wS hL hd hcl hI K hK;try refine zA rfl ?_
        obtain⟨_,zt0,rfl⟩:=hI.v mm0 (hd 0);obtain⟨_,zt1,rfl⟩:=hI.v mm1 (hd 1);go_simp;exact hK _ _ (hI.y zCV rfl)
       ·intro L T wS hL hd hcl hI K hK
        try refine zA rfl ?_
        replace hI:=hI.here hL;obtain⟨_,zt15,rfl⟩:=hI.v zCV (hd 15);obtain⟨z12,zt12,hz12⟩:=hI.v zAs (hd 12);obtain⟨vneg,vao,vlen,vcap,vls,rfl,hv'⟩:=id hz12;obtain⟨_,_,_,_,k1,k2,k3,k4,-⟩:=(hqs.only hI.onl sI).cell (zP hlt);go_simp;exact hK _ _ (RAS.store hI hL (by repeat' (first|exact xgn _|refine xgm.2 ⟨by dsimp only;decide,?_⟩)) dE (zGI zt15 zt12).symm)
      intro T w8f hJ;obtain⟨w8,hI,-,hstw8⟩:=hJ;replace hstw8:=hstw8 kR;obtain⟨vz0,q0,rfl⟩:=hI.v mm0 rfl;obtain⟨vz1,q1,rfl⟩:=hI.v mm1 rfl;obtain⟨vz2,q2,rfl⟩:=hI.v mm2 rfl;obtain⟨vz3,q3,rfl⟩:=hI.v mm3 rfl;obtain⟨vz4,q4,rfl⟩:=hI.v mm4 rfl;obtain⟨vz5,q5,rfl⟩:=hI.v mm5 rfl;obtain⟨vz6,q6,rfl⟩:=hI.v mm6 rfl;obtain⟨vz7,q7,rfl⟩:=hI.v mm7 rfl;obtain⟨vz8,q8,rfl⟩:=hI.v mm8 rfl;obtain⟨vz9,q9,rfl⟩:=hI.v mm9 rfl;obtain⟨vz10,q10,hz10⟩:=hI.v zAB rfl;obtain⟨vz11,q11,hz11⟩:=hI.v zAG rfl;obtain⟨vz12,q12,hz12⟩:=hI.v zAs rfl;replace hz12:zH w8 vz12 (y/p):=hz12;obtain⟨vz13,q13,hz13⟩:=hI.v zCS rfl;obtain⟨vz14,q14,rfl⟩:=hI.v zBq rfl;obtain⟨vz15,q15,rfl⟩:=hI.v zCV rfl;have hT:=zAJ [(57,.slice (some ⟨qb,0,none⟩) R R),(58,.int .i64 i),(59,.slice (some ⟨rb,0,none⟩) j j),(60,.int .i64 c),(61,.pointer (some ⟨rb,c*2,none⟩)),(62,.agg #[.bool s2,.slice a2 l2 k2]),(63,.slice (some ⟨bi,0,none⟩) j rc),(64,.int .i64 c),(65,.pointer (some ⟨bi,c*2,none⟩)),(66,.agg #[.bool s,.slice a l k]),(67,vz10),(56,vz11),(68,vz12),(69,vz13),(70,.int .i64 0),(71,.pointer (some ⟨qb,i*2,none⟩))]
       (fun j hj=>hI.keep j (by simp only[xgm]at hj ⊢;simp[hj]))
       (by simp only[xgm];simp[q0,q1,q2,q3,q4,q5,q6,q7,q8,q9,q10,q11,q12,q13,q14,q15]) hI.size
      have how8:=hI.onl;clear hI;simp only[List.foldl_cons,List.foldl_nil,xgh,xgi,xgj,ptr]at hT;subst hT;clear q0 q1 q2 q3 q4 q5 q6 q7 q8 q9 q10 q11 q12 q13 q14 q15;have hbw8:=zEA how8;obtain⟨qn,qa,ql,qc,qx,rfl,hqx⟩:=id hz12;have HQX:=xgw hqx;have hw9:=hstw8.trans (zGI rfl rfl);have hq8:=hqs.below hbw8;have hset:=hq8.set (k:=i) (by rw[zD];exact hlt) hz12;rw[<-hw9,show y/p=zBA j (ent M) x i from by rw[HQ.out,HQE.out],zDI]at hset;have hx9:=hset.2;have hr9:qC w8f rb (zM j (zBR j (ent M) x i)):=(hrs.below hbw8).old (by rw[hw9];exact zV _ _ _ _ _ _ _ (Ne.symm hqr)) hx9;have hrow9:qC w8f bi (zM j (ent M i)):=(hrow7.below hbw8).old (by rw[hw9];exact zV _ _ _ _ _ _ _ oM) hx9;have hb9:Below w.heap.size w w8f:=by rw[hw9];exact zO (zO (nx hbt hbw8) oM _ _) oM _ _
      have hq9:=hset.1;obtain⟨s9,a9,l9,c9,f1,f2,-,-,hv9⟩:=hq9.cell (zP hlt);rw[show qA (zBA j (ent M) x) (fun _=>0) (i+1) i=q from by unfold qA;rw[if_pos oM,HQ.out]]at hv9;have sq:qE (Sm q):=⟨hB.bsm.sm _ hqB.out.1⟩;have sq2:qE (Sm (-q)):=⟨hB.bsm.sm _ (by rw[Int.natAbs_neg];exact hqB.out.1)⟩;have hlb:rb≠bi:=by omega
      clear hset hw9 hqx hstw8 hz12 q1 q2 o1 o2 hz10 hz11 hz13 hl3 hl4 how8;go_wp2_with fail
      refine(jP _ q w8f hv9.weak sq.out).mono ?_;rintro e w10 ⟨u,rfl,hu,hb10⟩;obtain⟨un,ua,ul,uc,ux,rfl,hu'⟩:=id hu;have HU:=xgw hu';have hr9:=hr9.below hb10;have hrow9:=hrow9.below hb10;have hq9:=hq9.below hb10;have hb9:=nx hb9 hb10;clear f1 f2 hu';go_wp2_with fail
      refine(zGb rb bi j j rc (zBR j (ent M) x i) (ent M i) _ (-q) w10 hr9 hrow9 hlb hu hC (xgf _) oM oM oM (fun t ht=>⟨hB.bsm.sm _ (HOK.out.rest i oM t ht),hB.bsm.sm _ (HOK.out.mat i hlt t ht),hB.bsm.sm _ (hqB.out.2 t ht)⟩) sq2.out).mono ?_;rintro e w11 ⟨⟨u11,rfl⟩,ho,hr11⟩;have hb11:Below w.heap.size w w11:=Below.only hb9 ho (xgf _) (fun b hb=>by simp at hb;omega);have hq11:=hq9.only ho (by simpa using hqr);have hrr:zM j (fun t=>zBR j (ent M) x i t+-q*ent M i t)=zM j (zBR j (ent M) x (i+1)):=zQ fun t _=>by
       show _=zBR j (ent M) x i t+-(zBA j (ent M) x i)*ent M i t;rw[HQ.out]
      rw[hrr]at hr11;go_wp2;go_roundw
      case rel=>exact⟨i+1,by omega,by simp,hb11,hq11,hr11⟩
      case measure=>simp[intOf];omega
    ·obtain rfl:i=R:=by omega
     rw[zDn]at hqs;go_wp2;refine bodyPost_ret (zCq rfl _ _ _) rfl ?_;exact⟨_,_,rfl,hqs.vec (zD _ _) (xgf _) oM,hrs.vec (zD _ _) (xgf _) oM,hbt⟩
structure zQW(C:Nat)(F:Nat->Nat->Int)(i:Nat)(last:Int):Prop where
 ok:∀k,k<i->zLc C F k
 lst:∀c:Nat,c<C->(last<c↔∀k,k<i->0<=lead C F k/\lead C F k<c)
structure zQv(w:World)(f:Value)(hr hc:Int)(H:List (List Int))(ur uc:Int)(U:List (List Int))(vr vc:Int)(V:List (List Int)):Prop where
 ex:∃h u v,f= .agg #[.int .i64 hr,.int .i64 hc,h,.int .i64 ur,.int .i64 uc,u,.int .i64 vr,.int .i64 vc,v]/\jA w h H/\jA w u U/\jA w v V
structure zQq(R C:Nat)(A:List (List Int))(hr hc:Int)(H:List (List Int))(ur uc:Int)(U:List (List Int))(vr vc:Int)(V:List (List Int)):Prop where
 is:zP5 hr hc H
 er:hr=R
 ec:hc=C
 u:ur=R/\uc=R/\qX ur uc U
 v:vr=R/\vc=R/\qX vr vc V
 mul:zY R C (zC6 U A R)=H
 inv:zY R R (zC6 U V R)=zY R R idf
theorem zJo(v1 v2:Value)(R m C:Nat)(M1 M2:List (List Int))(w:World)(h1:jE w v1 R m M1)(h2:jE w v2 m C M2)(hF1:jT R m M1)(hF2:jT m C M2)(hR:R<=1000000)(hm:m<=1000000)(hC:C<=1000000)(hS:zCd M1 M2 R m C):
  Calls Tryz.prog 53 #[v1,v2] w fun e w'=>∃v,e= .returned v/\jE w' v R C (zY R C (zC6 M1 M2 m))/\Below w.heap.size w w':=by
 refine(zGK v1 v2 R m C M1 M2 w h1 h2 hF1 hF2 hR hm hC hS).mono ?_;rintro e w' ⟨v,bs,rfl,h,hb⟩;exact⟨_,rfl,h.mat.1,hb⟩
def zRK:List (List Op × List Op)->W5->W5
 | [],z=>z
 |p::L,z=>zRK L (rnd z p.1 p.2)
def okL(R C:Nat)(L:List (List Op × List Op)):Prop:=∀p∈L,yB R p.1/\yB C p.2
def bl(f:Nat->Int)(i j:Nat)(m0 m1 m2 m3:Int)(a:Nat):Int:=if a=i then m0*f i+m1*f j else if a=j then m2*f i+m3*f j else f a
structure Dg(R C r:Nat)(F:Nat->Nat->Int):Prop where
 off:zKY R C F
 pos:∀i,i<r->0<F i i
 zero:∀i,r<=i->i<min R C->F i i=0
 le:r<=min R C
structure zRR(M T R C Cu Cw r e:Nat)(y0 y:W5):Prop where
 dg:Dg R C r y.s
 muh:mu r y.s*2^e<=mu r y0.s
 prod:jF r (fun k=>y.s k k)=jF r (fun k=>y0.s k k)
 u:leM (M*(4*T*T)^e) R Cu y.u
 v:leM (M*(4*T*T)^e) R Cu y.v
 w:leM (M*(4*T*T)^e) C Cw y.w
 x:leM (M*(4*T*T)^e) C Cw y.x
def Chn(i n:Nat)(F:Nat->Nat->Int):Prop:=∀a b,i<=a->a<b->b<n->F a a∣F b b
def zRZ(R C r:Nat)(A F:Nat->Nat->Int):Prop:=Dg R C r F/\∃u v w x,Rel R C A ⟨F,u,v,w,x⟩
def zRW(R C k:Nat)(A:Nat->Nat->Int)(g:Int):Prop:=∀σ τ:Nat->Nat,(∀a,a<k->σ a<R)->(∀a,a<k->τ a<C)->g∣det k fun a b=>A (σ a) (τ b)
def Fac(R C:Nat)(F G:Nat->Nat->Int):Prop:=∃P Q:Nat->Nat->Int,∀a,a<R->∀b,b<C->G a b=qF R fun s=>P a s*qF C fun t=>F s t*Q t b
structure Inv(R C r:Nat)(A F:Nat->Nat->Int):Prop where
 dg:Dg R C r F
 chn:Chn 0 (min R C) F
 fwd:Fac R C A F
 bwd:Fac R C F A
theorem zP2:∃n:Nat,n=549755813888:=⟨_,rfl⟩
noncomputable def EB:Nat:=zP2.choose
noncomputable def BB:Nat:=2^EB
def zf:Nat->Nat->Int:=fun _ _=>0
def nzL(l:List Int):List Int:=l.filter (fun z=>decide (z≠0))


def zBs(w:World)(v:Value)(ls:List Int):Prop:=
 ∃ao n cap,v= .slice ao n cap/\ls.length=n/\n<=cap/\cap<=9223372036854775807/\(∀z∈ls,-9223372036854775808<=z/\z<=9223372036854775807)∧
  (ls≠ []->∃(b:Nat) (cs:Array Value),ao=some ⟨b,0,none⟩/\w.heap[b]?=some (.cells cs 2 (0,0))/\∀(k:Nat) (z:Int),ls[k]?=some z->cs[k]?=some (.int .i64 z))
theorem zBs.below{w w':World}{v:Value}{ls:List Int}(h:zBs w v ls)(hb:Below w.heap.size w w'):zBs w' v ls:=by
 obtain⟨ao,n,cap,h1,h2,h3,h4,h5,h6⟩:=h;refine⟨ao,n,cap,h1,h2,h3,h4,h5,fun hn=>?_⟩;obtain⟨b,cs,e1,e2,e3⟩:=h6 hn;exact⟨b,cs,e1,(hb.block _ (Array.getElem?_eq_some_iff.1 e2).1).trans e2,e3⟩
theorem zBs.cell{w:World}{ao:Option Addr}{n cap:Nat}{ls:List Int}(h:zBs w (.slice ao n cap) ls){k:Nat}(hk:k<ls.length):
  ∃b z,ao=some ⟨b,0,none⟩/\b<w.heap.size/\ls[k]?=some z/\w.cell? ⟨b,k,none⟩=some (.int .i64 z)/\-9223372036854775808<=z/\z<=9223372036854775807:=by
 obtain⟨ao',n',cap',h1,h2,h3,h4,h5,h6⟩:=h;injection h1 with e1 e2 e3
 subst e1;obtain⟨b,cs,e,hr,hc⟩:=h6 (by rintro rfl;simp at hk);have hz:=xga hk;have:=h5 _ (xgd hz);exact⟨b,_,e,(Array.getElem?_eq_some_iff.1 hr).1,hz,(cell_of_row w b k cs _ _ hr).trans (hc k _ hz),this.1,this.2⟩
theorem zPX{i j R C:Nat}(hi:i<R)(hj:j<C):i*C+j<R*C:=by
 have:(i+1)*C<=R*C:=Nat.mul_le_mul_right _ hi;rw[Nat.add_mul]at this;omega
theorem zMm(v:Value)(R C:Nat)(ls:List Int)(w:World)(h:zBs w v ls)(hl:ls.length=R*C)(hR:R<=1000)(hC:C<=1000):
  Calls Tryz.prog 60 #[.int .i64 R,.int .i64 C,v] w (zBB w R C (zY R C (fun i j=>ls.getD (i*C+j) 0))):=by
 obtain⟨ao,n,cap,rfl,h2,h3,h4,-,-⟩:=id h;have HL:=xgw h2;have hnR:n=R*C:=by omega
 have HN:=xgw hnR;obtain⟨f,hf⟩:∃f:Nat->Nat->Int,(fun i j=>ls.getD (i*C+j) 0)=f:=⟨_,rfl⟩;rw[hf];have HFE:qE (∀i j,f i j=ls.getD (i*C+j) 0):=⟨fun i j=>by rw[<-hf]⟩;clear hf h2 hl hnR;go_enter Tryz.func60,Tryz.ntmps60;go_upto_region 1 with(fail)
 refine zB ?_;intro W0 hW0;obtain⟨hB0,br,hs0⟩:=zK hW0;go_wp2_with fail
 refine(zCA R C W0 oM oM).mono ?_;rintro e w2 ⟨u,bs,rfl,⟨hbl,A2,rfl,ho⟩,hb2⟩;obtain⟨oo,on,oc,rfl,-,-,-,-⟩:=id ho.rows;have hlts:=ho.lts;go_upto_region 2 with(fail)
 refine zB ?_;intro W3 hW3;obtain⟨hB3,T5,hs3⟩:=zK hW3;have br:=(br.below hb2).below hB3;have ho:=ho.below hB3;rw[zDm R C f]at ho;have hBt:=nx (nx hB0 hb2) hB3;have q2:=hb2.size;clear hW3 hW0;go_wp2;go_loopw [8] (fun iv wr=>∃i:Nat,i<=R/\iv= .int .i64 i/\Below w.heap.size w wr/\Blk wr w.heap.size 28 #[.int .i64 0,.int .i64 0,.slice none 0 0]/\Blk wr w2.heap.size 28 #[.int .i64 R,.int .i64 C,.slice oo on oc]/\zT wr W0.heap.size (.slice oo on oc) C bs (zY R C (zBr f i 0))) (fun iv _=>R-(intOf iv).toNat)
 case atStart=>exact⟨0,by omega,rfl,hBt,br,T5,ho⟩
 case round=>
  obtain⟨i,hi,rfl,hb,br,T5,ho⟩:=hrel;by_cases hlt:i<R
  ·go_wp2
   go_loopw [9] (fun jv wr=>∃j:Nat,j<=C/\jv= .int .i64 j/\Below w.heap.size w wr/\Blk wr w.heap.size 28 #[.int .i64 0,.int .i64 0,.slice none 0 0]/\Blk wr w2.heap.size 28 #[.int .i64 R,.int .i64 C,.slice oo on oc]/\zT wr W0.heap.size (.slice oo on oc) C bs (zY R C (zBr f i j))) (fun jv _=>C-(intOf jv).toNat)
   case atStart=>exact⟨0,by omega,rfl,hb,br,T5,ho⟩
   case round=>
    obtain⟨j,hj,rfl,hb,br,T5,ho⟩:=hrel;by_cases hjc:j<C
    ·have hmn:i*C+j<n:=by rw[HN.out];exact zPX hlt hjc
     have hn6:n<=1000000:=by rw[HN.out];exact Nat.le_trans (Nat.mul_le_mul hR hC) oM
     obtain⟨m,hm⟩:∃m,i*C+j=m:=⟨_,rfl⟩;have hmi:(i:Int)*(C:Int)+(j:Int)=(m:Int):=by rw[<-hm,Int.natCast_add,Int.natCast_mul]
     have hp0:0<=(i:Int)*(C:Int):=by omega
     have hp1:(i:Int)*(C:Int)<=1000000:=by omega
     have hw1:IntKind.i64.wrap ((i:Int)*(C:Int))=(i:Int)*(C:Int):=IntWalk.i64_in _ oM;have hw2:IntKind.i64.wrap (m:Int)=(m:Int):=IntWalk.i64_in _ oM;have hmlt:m<n:=by omega
     have hlt3:(i:Int)*(C:Int)+(j:Int)<(n:Int):=by omega
     obtain⟨b,z,rfl,hbl1,hz,c1,z1,z2⟩:=(h.below hb).cell (k:=m) (by rw[HL.out];exact hmlt);have hent:Hid (f i j=z):=by rw[HFE.out,hm,zBQ hz];exact xgw rfl
     obtain⟨g,bo,rfl,hg,hbo,hbo2,o1,ho3⟩:=ho.at_ (i:=i) oM;obtain⟨f1,f2,f3,f4,f5,f6⟩:=T5.three;have hio:i<on:=by omega
     have HO3:=xgw ho3;have HM:=xgw hm;clear ho3 hm hz;have lt5:=T5.lt;go_upto_region 8 with(fail)
     refine zC 16 rfl (RI wr (wr.heap.size) _ 35
       [VP 0 33 w2.heap.size 2,VSl 1 34 g on oc,VN 2 35 i,VP 3 36 g i,VSl 4 37 bo C C,VN 5 38 j,VSl 6 39 b n cap,VN 7 40 i,VN 8 41 C,E 9 42 (.int .i64 ((i:Int)*(C:Int))),VN 10 43 j,VN 11 44 m,VP 12 45 b m,VN 13 46 z,EI 14 47 (z),VP 15 48 bo (j*2)] [] []) kR RI.start (RI.fin kR ?fin1) ?steps1
     case steps1=>
      (repeat' constructor)<;>(intro L T wS hL hd hcl hI K hK;try refine zA rfl ?_)
      ·exact xgs (hI.k 7 rfl kR)
      ·have zt0:=hI.e mm0 (hd 0)
       have cc0:=hI.cell f3 oM nom;exact xgu
      ·exact xgs (hI.k 8 rfl kR)
      ·exact xgt (hI.e mm1 (hd 1)) (hI.e mm2 (hd 2))
      ·have zt3:=hI.e mm3 (hd 3)
       have cc0:=hI.cell o1 oM nom;exact xgu
      ·exact xgs (hI.k 9 rfl kR)
      ·exact xgs (hI.k 2 rfl kR)
      ·exact xgs (hI.k 8 rfl kR)
      ·exact xgs (hI.k 1 rfl kR)
      ·exact xgt (hI.e mm7 (hd 7)) (hI.e mm8 (hd 8))
      ·exact xgs (hI.k 9 rfl kR)
      ·exact xgt (hI.e mm9 (hd 9)) (hI.e zAB (hd 10))
      ·exact xgt (hI.e mm6 (hd 6)) (hI.e zAG (hd 11))
      ·have zt12:=hI.e zAs (hd 12)
       have cc0:=hI.cell c1 oM nom;exact xgu
      ·have zt13:=hI.e zCS (hd 13)
       go_simp;refine(zAH z _ z1 z2).mono ?_;exact xgo
      ·exact xgt (hI.e mm4 (hd 4)) (hI.e mm5 (hd 5))
     intro w9 hlw9 hbw9 holdw9 T hT;simp only[Fin,E,EI,VP,VSl,VN,xgg,xgh,xgi,xgj]at hT;obtain⟨va14,ha14,rfl⟩:=hT;simp only[xgl,xgk];obtain⟨pn,pa,pl,pc,px,rfl,hpx⟩:=id ha14;have HPX:=xgw hpx;clear hpx;have ho9:=ho.below hbw9;obtain⟨sn,sa,sl,sc,y1,y2,y3,y4,-⟩:=ho9.cellAt hbo hjc;have hbolt:=hlts i bo hbo;have hset:=ho9.set hbo hjc ha14;clear hw1 hw2 hmi hp0 hp1 hlt3;go_wp2;go_roundw
     case rel=>
      rw[<-hent.out,zHX hlt hjc]at hset;exact⟨j+1,by omega,by simp,zO (zO (nx hb hbw9) oM _ _) oM _ _,(zV _ _ _ _ _ _ _ oM).trans (br.below hbw9),(zV _ _ _ _ _ _ _ oM).trans (T5.below hbw9),hset.1⟩
     case measure=>simp[intOf];omega
    ·obtain rfl:j=C:=by omega
     rw[zGS]at ho;go_wp2;go_roundw
     case rel=>exact⟨i+1,by omega,by simp,hb,br,T5,ho⟩
     case measure=>simp[intOf];omega
  ·obtain rfl:i=R:=by omega
   rw[zGR]at ho;obtain⟨f1,f2,f3,f4,f5,f6⟩:=T5.three;obtain⟨r1,r2,r3,r4,r5,r6⟩:=br.three;have q1:=hB0.size;go_wp2;refine yE rfl rfl rfl (br.put3 _ _ _) ⟨_,bs,rfl,⟨hbl,_,rfl,?_⟩,zO (zO (zO hb oM 0 _) oM 1 _) oM 2 _⟩;exact(ho.keep (fun k hk=>yY _ _ k _ _ _ oM) (br.lext3 dE _ _ _)).mono q1


instance (B R C Cu Cw:Nat) (z:W5):Decidable (okW B R C Cu Cw z):=by unfold okW;infer_instance
def zQN(B:Nat)(M:List (List Int)):Bool:=M.all fun r=>r.all fun z=>decide (z.natAbs<B)
def zQY(B:Nat)(X Y:List (List Int))(R m C:Nat):Prop:=∀i,i<R->∀j,j<C->∀k,k<m->(ent X i k).natAbs<B/\(ent Y k j).natAbs<B/\(ent X i k*ent Y k j).natAbs<B/\(zC6 X Y k i j).natAbs<B
instance (B:Nat) (X Y:List (List Int)) (R m C:Nat):Decidable (zQY B X Y R m C):=by unfold zQY;infer_instance

def I8V(w:World)(v:Value)(ls:List Int):Prop:=
 ∃ao n cap,v= .slice ao n cap/\ls.length=n/\n<=cap/\cap<=9223372036854775807/\(∀z∈ls,-128<=z/\z<=127)∧
  (ls≠ []->∃b off,ao=some ⟨b,off,none⟩/\b<w.heap.size/\∀(k:Nat) (z:Int),ls[k]?=some z->w.cell? ⟨b,off+k,none⟩=some (.int .i8 z))
theorem I8V.cell{w:World}{ao:Option Addr}{n cap:Nat}{ls:List Int}(h:I8V w (.slice ao n cap) ls){k:Nat}(hk:k<ls.length):
  ∃b off z,ao=some ⟨b,off,none⟩/\b<w.heap.size/\ls[k]?=some z/\w.cell? ⟨b,off+k,none⟩=some (.int .i8 z)/\-128<=z/\z<=127:=by
 obtain⟨ao',n',cap',h1,h2,h3,h4,h5,h6⟩:=h;injection h1 with e1 e2 e3
 subst e1;obtain⟨b,off,e,hb,hc⟩:=h6 (by rintro rfl;simp at hk);have hz:=xga hk;have:=h5 _ (xgd hz);exact⟨b,off,_,e,hb,hz,hc _ _ hz,this.1,this.2⟩
theorem I8V.below{w w':World}{v:Value}{ls:List Int}(h:I8V w v ls)(hb:Below w.heap.size w w'):I8V w' v ls:=by
 obtain⟨ao,n,cap,h1,h2,h3,h4,h5,h6⟩:=h;refine⟨ao,n,cap,h1,h2,h3,h4,h5,fun hne=>?_⟩;obtain⟨b,off,e,hlt,hc⟩:=h6 hne;exact⟨b,off,e,Nat.lt_of_lt_of_le hlt hb.size,fun k z hz=>(hb.cell (p:=⟨b,off+k,none⟩) hlt).trans (hc k z hz)⟩
def zHZ(C:Nat)(ls:List Int):Nat->Nat->Int:=fun i j=>(ls.getD (i*C+j) 0).tmod 10
theorem zMO{C:Nat}{ls:List Int}{i j:Nat}(h:ls.length<=i*C+j):zHZ C ls i j=0:=by
 unfold zHZ;rw[xgb,List.getElem?_eq_none h];rfl
theorem zNv{z:Int}:(Int.tmod z 10).natAbs<=9:=by
 rcases Int.le_total 0 z with h|h
 ·rw[Int.tmod_eq_emod_of_nonneg h];omega
 ·have:Int.tmod z 10=-(Int.tmod (-z) 10):=by rw[Int.neg_tmod];omega
  rw[this,Int.tmod_eq_emod_of_nonneg oM];omega
theorem zKZ(C:Nat)(ls:List Int)(i j:Nat):(zHZ C ls i j).natAbs<=9:=zNv
theorem zLv{R C:Nat}{f:Nat->Nat->Int}{i j:Nat}(h:∀b,j<=b->f i b=0):zY R C (zBr f i j)=zY R C (zBr f (i+1) 0):=
 qM fun a _ b _=>by
  unfold zBr;by_cases e:a<i∨(a=i/\b<j)
  ·rw[if_pos e,if_pos oM]
  ·rw[if_neg e]
   by_cases e2:a<i+1∨a=i+1/\b<0
   ·rw[if_pos e2]
    obtain rfl:a=i:=by omega
    exact(h b oM).symm
   ·rw[if_neg e2]
theorem zFR(v:Value)(R C:Nat)(ls:List Int)(w:World)(h:I8V w v ls)(hR:R<=16)(hC:C<=16):
  Calls Tryz.prog 66 #[.int .i64 R,.int .i64 C,v] w (zBB w R C (zY R C (zHZ C ls))):=by
 obtain⟨ao,n,cap,rfl,h2,h3,h4,-,-⟩:=id h;have HL:=xgw h2;obtain⟨f,hf⟩:∃f:Nat->Nat->Int,zHZ C ls=f:=⟨_,rfl⟩;rw[hf];have HFE:qE (∀i j,f i j=zHZ C ls i j):=⟨fun i j=>by rw[<-hf]⟩;clear hf h2;go_enter Tryz.func66,Tryz.ntmps66;go_upto_region 1 with(fail)
 refine zB ?_;intro W0 hW0;obtain⟨hB0,br,hs0⟩:=zK hW0;have e1:min (R:Int) 16=R:=by omega
 have e2:min (C:Int) 16=C:=by omega
 go_wp2_with fail
 refine(zCA R C W0 oM oM).mono ?_;rintro e w2 ⟨u,bs,rfl,⟨hbl,A2,rfl,ho⟩,hb2⟩;obtain⟨oo,on,oc,rfl,-,-,-,-⟩:=id ho.rows;have hlts:=ho.lts;go_upto_region 2 with(fail)
 refine zB ?_;intro W3 hW3;obtain⟨hB3,T7,hs3⟩:=zK hW3;have br:=(br.below hb2).below hB3;have ho:=ho.below hB3;rw[zDm R C f]at ho;have hBt:=nx (nx hB0 hb2) hB3;have q2:=hb2.size;clear hW3 hW0 e1 e2;go_wp2;go_loopw [8] (fun iv wr=>∃i:Nat,i<=R/\iv= .int .i64 i/\Below w.heap.size w wr/\Blk wr w.heap.size 28 #[.int .i64 0,.int .i64 0,.slice none 0 0]/\Blk wr w2.heap.size 28 #[.int .i64 R,.int .i64 C,.slice oo on oc]/\zT wr W0.heap.size (.slice oo on oc) C bs (zY R C (zBr f i 0))) (fun iv _=>R-(intOf iv).toNat)
 case atStart=>exact⟨0,by omega,rfl,hBt,br,T7,ho⟩
 case round=>
  obtain⟨i,hi,rfl,hb,br,T7,ho⟩:=hrel;obtain⟨f1,f2,f3,f4,f5,f6⟩:=T7.three;by_cases hlt:i<R
  ·go_wp2
   clear f1 f2 f3 f4 f5 f6;go_loopw [9] (fun jv wr=>∃j:Nat,j<=C/\jv= .int .i64 j/\Below w.heap.size w wr/\Blk wr w.heap.size 28 #[.int .i64 0,.int .i64 0,.slice none 0 0]/\Blk wr w2.heap.size 28 #[.int .i64 R,.int .i64 C,.slice oo on oc]/\zT wr W0.heap.size (.slice oo on oc) C bs (zY R C (zBr f i j))) (fun jv _=>C-(intOf jv).toNat)
   case atStart=>exact⟨0,by omega,rfl,hb,br,T7,ho⟩
   case round=>
    obtain⟨j,hj,rfl,hb,br,T7,ho⟩:=hrel;obtain⟨f1,f2,f3,f4,f5,f6⟩:=T7.three;obtain⟨m,hm⟩:∃m,i*C+j=m:=⟨_,rfl⟩;have hmi:(i:Int)*(C:Int)+(j:Int)=(m:Int):=by rw[<-hm,Int.natCast_add,Int.natCast_mul]
    have hiC:i*C<=16*16:=Nat.mul_le_mul oM hC;have hp0:0<=(i:Int)*(C:Int):=by rw[<-Int.natCast_mul];omega
    have hp1:(i:Int)*(C:Int)<=1000000:=by rw[<-Int.natCast_mul];omega
    have hw1:IntKind.i64.wrap ((i:Int)*(C:Int))=(i:Int)*(C:Int):=IntWalk.i64_in _ oM;have hw2:IntKind.i64.wrap (m:Int)=(m:Int):=IntWalk.i64_in _ oM;have hmm:IntKind.i64.wrap ((i:Int)*(C:Int)+(j:Int))=(m:Int):=by rw[hmi,hw2]
    by_cases hjc:j<C
    ·by_cases hmn:m<n
     ·obtain⟨b,off,z,rfl,hbl1,hz,c1,z1,z2⟩:=h.cell (k:=m) (by rw[HL.out];exact hmn)
      have hcell:=(hb.cell (p:=⟨b,off+m,none⟩) hbl1).trans c1;have hent:Hid (f i j=Int.tmod z 10):=xgw (by rw[HFE.out];unfold zHZ;rw[hm,zBQ hz]);have ht9:(Int.tmod z 10).natAbs<=9:=zNv;obtain⟨t,ht⟩:∃t,Int.tmod z 10=t:=⟨_,rfl⟩;rw[ht]at hent ht9;obtain⟨g,bo,rfl,hg,hbo,hbo2,o1,ho3⟩:=ho.at_ (i:=i) oM;have hio:i<on:=by omega
      have HO3:=xgw ho3;have HM:=xgw hm;have HT:=xgv ht;have lt7:=T7.lt;clear ho3 hm hz hiC c1 ht;go_upto_region 8 with(fail)
      refine zC 19 rfl (RI wr (wr.heap.size) _ 35
        [VP 0 40 w2.heap.size 2,VSl 1 41 g on oc,VN 2 42 i,VP 3 43 g i,VSl 4 44 bo C C,VN 5 45 j,E 6 46 (.slice (some ⟨b,off,none⟩) n cap),VN 7 47 i,VP 8 48 w2.heap.size 1,VN 9 49 C,E 10 50 (.int .i64 ((i:Int)*(C:Int))),VN 11 51 j,VN 12 52 m,VP 13 53 b (off+m),E 14 54 (.int .i8 z),E 15 55 (.int .i8 t),VN 16 56 t,EI 17 57 (t),VP 18 58 bo (j*2)] [] []) kR RI.start (RI.fin kR ?fin1) ?steps1
      case steps1=>
       (repeat' constructor)<;>(intro L T wS hL hd hcl hI K hK;try refine zA rfl ?_)
       ·exact xgs (hI.k 7 rfl kR)
       ·have zt0:=hI.e mm0 (hd 0)
        have cc0:=hI.cell f3 oM nom;exact xgu
       ·exact xgs (hI.k 8 rfl kR)
       ·exact xgt (hI.e mm1 (hd 1)) (hI.e mm2 (hd 2))
       ·have zt3:=hI.e mm3 (hd 3)
        have cc0:=hI.cell o1 oM nom;exact xgu
       ·exact xgs (hI.k 9 rfl kR)
       ·exact xgs (hI.k 2 rfl kR)
       ·exact xgs (hI.k 8 rfl kR)
       ·exact xgs (hI.k 7 rfl kR)
       ·have zt8:=hI.e mm8 (hd 8)
        have cc0:=hI.cell f2 oM nom;exact xgu
       ·exact xgt (hI.e mm7 (hd 7)) (hI.e mm9 (hd 9))
       ·exact xgs (hI.k 9 rfl kR)
       ·exact xgt (hI.e zAB (hd 10)) (hI.e zAG (hd 11))
       ·exact xgt (hI.e mm6 (hd 6)) (hI.e zAs (hd 12))
       ·have zt13:=hI.e zCS (hd 13)
        have cc0:=hI.cell hcell oM nom;exact xgu
       ·have zt14:=hI.e zBq (hd 14)
        go_simp;exact hK _ _ (hI.y zCV (congrArg (Value.int .i8) HT.out))
       ·have zt15:=hI.e zCV (hd 15)
        go_simp;exact hK _ _ (hI.y zDy (congrArg (Value.int .i64) (IntWalk.i64_in _ oM)))
       ·have zt16:=hI.e zDy (hd 16)
        go_simp;refine(zAH t _ oM oM).mono ?_;exact xgo
       ·exact xgt (hI.e mm4 (hd 4)) (hI.e mm5 (hd 5))
      intro w9 hlw9 hbw9 holdw9 T hT;simp only[Fin,E,EI,VP,VSl,VN,xgg,xgh,xgi,xgj]at hT;obtain⟨va17,ha17,rfl⟩:=hT;simp only[xgl,xgk];obtain⟨pn,pa,pl,pc,px,rfl,hpx⟩:=id ha17;have HPX:=xgw hpx;clear hpx;have ho9:=ho.below hbw9;obtain⟨sn,sa,sl,sc,y1,y2,y3,y4,-⟩:=ho9.cellAt hbo hjc;have hbolt:=hlts i bo hbo;have hset:=ho9.set hbo hjc ha17;clear hw1 hw2 hmi hp0 hp1 hmm ht9;go_wp2;go_roundw
      case rel=>
       rw[<-hent.out,zHX hlt hjc]at hset;exact⟨j+1,by omega,by simp,zO (zO (nx hb hbw9) oM _ _) oM _ _,(zV _ _ _ _ _ _ _ oM).trans (br.below hbw9),(zV _ _ _ _ _ _ _ oM).trans (T7.below hbw9),hset.1⟩
      case measure=>simp[intOf];omega
     ·have hrest:∀b,j<=b->f i b=0:=fun b hb=>by
       rw[HFE.out];exact zMO (by rw[HL.out];omega)
      rw[zLv hrest]at ho;clear hmi hp0 hp1 hiC hm;go_wp2;go_roundw
      case rel=>exact⟨i+1,by omega,by simp,hb,br,T7,ho⟩
      case measure=>simp[intOf];omega
    ·obtain rfl:j=C:=by omega
     rw[zGS]at ho;clear hmi hp0 hp1 hmm hw1 hw2;go_wp2;go_roundw
     case rel=>exact⟨i+1,by omega,by simp,hb,br,T7,ho⟩
     case measure=>simp[intOf];omega
  ·obtain rfl:i=R:=by omega
   rw[zGR]at ho;obtain⟨r1,r2,r3,r4,r5,r6⟩:=br.three;have q1:=hB0.size;go_wp2;refine yE rfl rfl rfl (br.put3 _ _ _) ⟨_,bs,rfl,⟨hbl,_,rfl,?_⟩,zO (zO (zO hb oM 0 _) oM 1 _) oM 2 _⟩;exact(ho.keep (fun k hk=>yY _ _ k _ _ _ oM) (br.lext3 dE _ _ _)).mono q1
theorem zIG(v:Value)(r c:Nat)(ls:List Int)(w:World)(h:I8V w v ls)(hr:r<=255)(hc:c<=255)(R C:Nat)(hR:R=r%5)(hC:C=c%5):
  Calls Tryz.prog 15 #[.agg #[.int .u8 r,.int .u8 c,v]] w (zBB w R C (zY R C (zHZ C ls))):=by
 obtain⟨ao,n,cap,rfl,-,-,-,-,-⟩:=id h;go_enter Tryz.func15,Tryz.ntmps15;go_upto_region 1 with(fail)
 refine zB ?_;intro W0 hW0;obtain⟨hB0,bx1,br,hs0⟩:=qH hW0;obtain⟨c1,c2,c3,c4,c5,c6⟩:=bx1.three;have e1:(r:Int)%5=(R:Int):=by omega
 have e2:(c:Int)%5=(C:Int):=by omega
 have hR4:R<=4:=by omega
 have hC4:C<=4:=by omega
 clear hR hC;go_wp2_with fail
 refine(zFR _ R C ls W0 (h.below hB0) oM oM).mono ?_;rintro e w2 ⟨u,bs,rfl,⟨hbl,A2,rfl,ho⟩,hb2⟩;obtain⟨oo,on,oc,rfl,-,-,-,-⟩:=id ho.rows;have br:=br.below hb2;obtain⟨r1,r2,r3,r4,r5,r6⟩:=br.three;have hBt:=nx hB0 hb2;have q1:=hB0.size;clear c1 c2 c3 c4 c5 c6;go_wp2;refine yE rfl rfl rfl (br.put3 _ _ _) ⟨_,bs,rfl,⟨hbl,_,rfl,?_⟩,zO (zO (zO hBt oM 0 _) oM 1 _) oM 2 _⟩;exact(ho.keep (fun k hk=>yY _ _ k _ _ _ oM) (br.lext3 dE _ _ _)).mono q1
theorem nxa{w W W':World}{o:Obj}(h:Below w.heap.size w W)(hb:Below (W.alloc o).heap.size (W.alloc o) W'):Below w.heap.size w W':=nx (h.alloc h.size o) hb
def zIj(ls:List Int):Array Value:=(ls.map (Value.int .i64)).toArray
theorem zBs.new(W:World)(ls:List Int)(hb:(ls.all fun z=>decide (-9223372036854775808<=z/\z<=9223372036854775807))=true)(hl:ls.length<=1000):
  zBs (W.alloc (.cells (zIj ls) 2)) (.slice (some ⟨W.heap.size,0,none⟩) ls.length ls.length) ls:=by
 refine⟨_,_,_,rfl,rfl,xgf _,by omega,fun z hz=>of_decide_eq_true (List.all_eq_true.1 hb z hz),fun _=>⟨W.heap.size,_,rfl,heap_alloc_new W _,fun k z hk=>?_⟩⟩;simp[zIj,hk]
theorem zAy(ls:List Int):qK (fun w v=>zBs w v ls):=fun _ _ _ x h=>h.below x
theorem zMl(v:Value)(ls:List Int)(R C:Nat)(r c:Int)(M:List (List Int))(w:World)(h:zBs w v ls)(hr:r=R)(hc:c=C)(hl:ls.length=R*C)(hR:R<=1000)(hC:C<=1000)(hM:zY R C (fun i j=>ls.getD (i*C+j) 0)=M):
  Calls Tryz.prog 60 #[.int .i64 r,.int .i64 c,v] w fun e w'=>∃v,e= .returned v/\jE w' v R C M/\Below w.heap.size w w':=by
 subst hr;subst hc;subst hM;exact(zMm v R C ls w h hl hR hC).mono fun e w' ⟨v,bs,he,hm,hb⟩=>⟨v,he,hm.mat.1,hb⟩
theorem zRH(R C:Nat)(r c:Int)(w:World)(hr:r=R)(hc:c=C)(hR:R<=1000000)(hC:C<=1000000):
  Calls Tryz.prog 62 #[.int .i64 r,.int .i64 c] w fun e w'=>∃v,e= .returned v/\jE w' v R C (zAP R C)/\Below w.heap.size w w':=by
 subst hr;subst hc;exact(zCA R C w hR hC).mono fun e w' ⟨v,bs,he,hm,hb⟩=>⟨v,he,hm.mat.1,hb⟩
theorem jE.agg{w:World}{v:Value}{R C:Int}{M:List (List Int)}(h:jE w v R C M):∃o n k,v= .agg #[.int .i64 R,.int .i64 C,.slice o n k]:=by
 obtain⟨A,rfl,ao,n,cap,rfl,-⟩:=h;exact⟨_,_,_,rfl⟩
theorem zDk(f:Nat->Int)(n:Nat):zLr f n=qF n f:=by
 induction n with
 |zero=>rfl
 |succ n ih=>unfold zLr qF;rw[ih]
structure Chk(R C:Nat)(A S U V W X:List (List Int)):Prop where
 fs:jT R C S
 fu:jT R R U
 fv:jT R R V
 fw:jT C C W
 fx:jT C C X
 is:zQx R C S=true
 i1:zY R R (zC6 U V R)=zY R R idf
 i2:zY C C (zC6 W X C)=zY C C idf
 ss:∀r∈S,∀z∈r,Smd z
 m1:zCd U V R R R
 m2:zCd W X C C C
 m3:zCd U A R R C
 m4:zCd (zY R C (zC6 U A R)) W R C C
 p:zY R C (zC6 (zY R C (zC6 U A R)) W C)=S
theorem zMN(R C D:Nat)(ls:List Int):leM 9 R C (zHZ D ls):=fun a _ b _=>zKZ D ls a b
theorem zOI{n R C:Nat}{F:Nat->Nat->Int}(h:leM n R C F):leM n R C (ent (zY R C F)):=fun a ha b hb=>by rw[yX ha hb];exact h a ha b hb
theorem zQO(v:Value)(r c:Nat)(ls:List Int)(w:World)(h:I8V w v ls)(hr:r<=255)(hc:c<=255)(R C:Nat)(hR:R=r%5)(hC:C=c%5):
  Calls Tryz.prog 15 #[.agg #[.int .u8 r,.int .u8 c,v]] w fun e w'=>∃v,e= .returned v/\jE w' v R C (zY R C (zHZ C ls))/\Below w.heap.size w w':=
 (zIG v r c ls w h hr hc R C hR hC).mono fun e w' ⟨v,bs,h,hm,hb⟩=>⟨v,h,hm.mat.1,hb⟩
theorem zNy{z:Int}(h:z.natAbs<BD):Sm z:=zKE.bsm.sm z h
structure zP4(R C:Nat)(A H U V:List (List Int)):Prop where
 fh:jT R C H
 fu:jT R R U
 fv:jT R R V
 chk:zQq R C A R C H R R U R R V
 lat:∃r c G,zQu R C r c (ent A) G/\H=zY R C G
 sh:∀r∈H,∀z∈r,Sm z
 m1:zCd U A R R C
 m2:zCd U V R R R
instance (C:Nat) (F:Nat->Nat->Int) (i:Nat):Decidable (zLc C F i):=
 decidable_of_iff (lead C F i<0∨(¬ lead C F i<0/\(∀k,k<i->0<=lead C F k/\lead C F k<lead C F i)/\0<F i (lead C F i).toNat/\∀k,k<i->0<=F k (lead C F i).toNat/\F k (lead C F i).toNat<F i (lead C F i).toNat)) (by
  unfold zLc
  constructor
  ·rintro(h|⟨h1,h2,h3⟩)
   ·exact .inl h
   ·exact .inr ⟨(lead C F i).toNat,by omega,fun k hk=>by have:=h2 k hk;omega,h3⟩
  ·rintro(h|⟨c,h1,h2,h3⟩)
   ·exact .inl h
   ·refine .inr ⟨by omega,fun k hk=>by rw[h1];exact h2 k hk,?_⟩
    rw[h1,Int.toNat_natCast]
    exact h3)
instance (R C:Int) (M:List (List Int)):Decidable (zP5 R C M):=inferInstanceAs (Decidable (_/\_))
def zQy(R C:Nat)(A W X Y:List (List Int)):Prop:=zP5 R C W/\(∀a,a<R->∀b,b<C->ent A a b=qF R fun t=>ent X a t*ent W t b)/\∀a,a<R->∀b,b<C->ent W a b=qF R fun t=>ent Y a t*ent A t b
instance (R C:Nat) (A W X Y:List (List Int)):Decidable (zQy R C A W X Y):=inferInstanceAs (Decidable (_/\_))
theorem zDX{M0 R C:Nat}{M:List (List Int)}(h:zQN (M0+1) M=true)(hF:jT R C M):leM M0 R C (ent M):=fun a ha b hb=>by
 have hl:a<M.length:=by rw[hF.1];exact ha
 have hr:=hF.2 M[a] (List.getElem_mem _);have hb':b<M[a].length:=by omega
 have e:ent M a b=M[a][b]:=zBE (xga hl) (xga hb');have:=of_decide_eq_true (List.all_eq_true.1 (List.all_eq_true.1 h M[a] (List.getElem_mem _)) M[a][b] (List.getElem_mem _));rw[e];omega
/- The calls of sanity. -/
def rest(R C:Nat)(H:Nat->Nat->Int)(x:Nat->Int):Nat->Int:=zBR C H x R
def zPw(r:Nat)(c:Nat->Nat)(H:Nat->Nat->Int)(y:Nat->Int):Prop:=∀s,s<r->0<=y (c s)/\y (c s)<H s (c s)
section
variable {n C r:Nat} {c:Nat->Nat} {H:Nat->Nat->Int}
theorem zLQ(hH:Hnf C n r c H){i:Nat}(hi:i<r)(y:Nat->Int):quo C H y i=y (c i)/H i (c i):=by
 unfold quo;rw[hH.ech.lead hi,if_neg oM];rfl
theorem zIC(hH:Hnf C n r c H){i:Nat}(h1:r<=i)(h2:i<n)(y:Nat->Int):quo C H y i=0:=by
 unfold quo;rw[zF9 (hH.zero i h1 h2),if_pos oM]
theorem zHF(C:Nat)(H:Nat->Nat->Int)(x:Nat->Int)(i b:Nat):zBR C H x i b=x b+qF i fun s=>-(zBA C H x s)*H s b:=by
 induction i with
 |zero=>simp[zBR,qF]
 |succ i ih=>
  show zBR C H x i b+-(zBA C H x i)*H i b=_;rw[ih];exact Int.add_assoc _ _ _
theorem zNH(hH:Hnf C n r c H)(x:Nat->Int):∀i,i<=r->zPw i c H (zBR C H x i):=by
 intro i;induction i with
 |zero=>intro _ s hs;omega
 | succ i ih=>
  intro hi s hs;have hq:zBA C H x i=zBR C H x i (c i)/H i (c i):=zLQ hH oM _;have he:zBR C H x (i+1) (c s)=zBR C H x i (c s)+-(zBA C H x i)*H i (c s):=rfl;rw[he];by_cases e:s=i
  ·subst e
   have hp:=hH.ech.pos s oM;have h1:=Int.emod_nonneg (zBR C H x s (c s)) (show H s (c s)≠0 by omega);have h2:=Int.emod_lt_of_pos (zBR C H x s (c s)) hp;have h3:=Int.emod_def (zBR C H x s (c s)) (H s (c s));rw[hq,Int.neg_mul,Int.mul_comm (zBR C H x s (c s)/H s (c s))];omega
  ·have h1:=ih oM s oM
   rw[hH.ech.zero i oM (c s) (hH.ech.inc s i oM oM),Int.mul_zero,Int.add_zero];exact h1
theorem zLX(hH:Hnf C n r c H)(x:Nat->Int):∀d b,r+d<=n->zBR C H x (r+d) b=zBR C H x r b:=by
 intro d b;induction d with
 |zero=>intro _;rfl
 |succ d ih=>
  intro hd;have hq:zBA C H x (r+d)=0:=zIC hH oM oM _;show zBR C H x (r+d) b+-(zBA C H x (r+d))*H (r+d) b=_;rw[hq,ih oM];simp
theorem zNI(hH:Hnf C n r c H)(x:Nat->Int):zPw r c H (rest n C H x):=by
 intro s hs;have h:=zNH hH x r (xgf _) s hs;have e:rest n C H x (c s)=zBR C H x r (c s):=by
  have:=zLX hH x (n-r) (c s) (by have:=hH.le;omega);rwa[show r+(n-r)=n by have:=hH.le;omega]at this
 rw[e];exact h
theorem zII(hH:Hnf C n r c H){y y' z:Nat->Int}(h1:zPw r c H y)(h2:zPw r c H y')(h:∀b,b<C->y b-y' b=qF n fun t=>z t*H t b):∀b,b<C->y b=y' b:=by
 have h':∀b,b<C->y b-y' b=qF r fun t=>z t*H t b:=fun b hb=>by
  rw[h b hb];exact zEH hH.le fun t a1 a2=>by rw[hH.zero t a1 a2 b hb,Int.mul_zero]
 have hz:∀t,t<r->z t=0:=fun t ht=>Classical.byContradiction fun hne=>by
  obtain⟨t,ht,h0,hb⟩:=zMT ⟨t,ht,hne⟩;have e:=h' (c t) (hH.ech.lt t ht);rw[zOA hH.ech ht hb]at e;have a1:=h1 t ht;have a2:=h2 t ht;have hp:=hH.ech.pos t ht;have hle:(H t (c t)).natAbs<=(z t*H t (c t)).natAbs:=by
   rw[Int.natAbs_mul];exact Nat.le_mul_of_pos_left _ (Int.natAbs_pos.2 h0)
  rw[<-e]at hle;omega
 intro b hb;have e:=h' b hb;rw[zDH fun t ht=>by rw[hz t ht,Int.zero_mul]]at e;omega
theorem zLa(hH:Hnf C n r c H){x z:Nat->Int}(h:∀b,b<C->x b=qF n fun t=>z t*H t b):∀b,b<C->rest n C H x b=0:=
 zII hH (zNI hH x) (y':=fun _=>0) (fun s hs=>⟨Int.le_refl _,hH.ech.pos s hs⟩) (z:=fun t=>z t+-(zBA C H x t)) fun b hb=>by
  have e1:rest n C H x b=_:=zHF C H x n b;rw[e1,h b hb,Int.sub_zero,<-zAe];exact zS fun t _=>by rw[Int.add_mul]
end
theorem zES(a b:Int):(a/b).natAbs<=a.natAbs:=Int.natAbs_ediv_le_natAbs a b
theorem Hnf.congr{C n r:Nat}{c:Nat->Nat}{F G:Nat->Nat->Int}(h:Hnf C n r c F)(e:∀a,a<n->∀b,b<C->F a b=G a b):Hnf C n r c G:=by
 have hl:=h.le;refine⟨h.le,⟨h.ech.lt,fun k hk=>?_,fun k hk t ht=>?_,h.ech.inc⟩,fun i j hij hj _=>?_,fun a h1 h2 t ht=>?_⟩
 ·rw[<-e k oM _ (h.ech.lt k hk)];exact h.ech.pos k hk
 ·rw[<-e k oM t (by have:=h.ech.lt k hk;omega)];exact h.ech.zero k hk t ht
 ·rw[<-e i oM _ (h.ech.lt j hj),<-e j oM _ (h.ech.lt j hj)];exact h.red i j hij hj trivial
 ·rw[<-e a h2 t ht];exact h.zero a h1 h2 t ht
theorem zLW{n C r h m:Nat}{c:Nat->Nat}{H:Nat->Nat->Int}(hH:Hnf C n r c H)(hh:leM h n C H){x:Nat->Int}(hx:∀b,b<C->(x b).natAbs<=m):
  ∀i,i<=n->∀b,b<C->(zBR C H x i b).natAbs<=m*(1+h)^i:=by
 intro i;induction i with
 |zero=>intro _ b hb;simpa[zBR]using hx b hb
 | succ i ih=>
  intro hi b hb;have h1:=ih oM b hb;have hq:(zBA C H x i).natAbs<=m*(1+h)^i:=by
   by_cases hr:i<r
   ·show(quo C H (zBR C H x i) i).natAbs<=_
    rw[zLQ hH hr];exact Nat.le_trans (zES _ _) (ih oM _ (hH.ech.lt i hr))
   ·show(quo C H (zBR C H x i) i).natAbs<=_
    rw[zIC hH oM oM];simp
  show(zBR C H x i b+-(zBA C H x i)*H i b).natAbs<=_;have h2:(-(zBA C H x i)*H i b).natAbs<=m*(1+h)^i*h:=by
   rw[Int.natAbs_mul,Int.natAbs_neg];exact Nat.mul_le_mul hq (hh i oM b hb)
  refine Nat.le_trans (Int.natAbs_add_le _ _) (Nat.le_trans (Nat.add_le_add h1 h2) ?_);rw[Nat.pow_succ,<-Nat.mul_assoc,Nat.mul_add,Nat.mul_one];exact xgf _
theorem zIH{n C r h m:Nat}{c:Nat->Nat}{H:Nat->Nat->Int}(hH:Hnf C n r c H)(hh:leM h n C H){x:Nat->Int}(hx:∀b,b<C->(x b).natAbs<=m){i:Nat}(hi:i<n):(zBA C H x i).natAbs<=m*(1+h)^i:=by
 by_cases hr:i<r
 ·show(quo C H (zBR C H x i) i).natAbs<=_
  rw[zLQ hH hr];exact Nat.le_trans (zES _ _) (zLW hH hh hx i oM _ (hH.ech.lt i hr))
 ·show(quo C H (zBR C H x i) i).natAbs<=_
  rw[zIC hH oM hi];simp
theorem zI1{a:Nat}(h:a<=2^199):a<BD:=by
 have h1:2^200<=B32^zKH:=zCK (by rw[zAR];omega);rw[zKF];exact Nat.lt_of_le_of_lt h (Nat.lt_of_lt_of_le dE h1)
theorem zJj{n C r:Nat}{c:Nat->Nat}{H:Nat->Nat->Int}(hH:Hnf C n r c H)(hn:n<=4)(hh:leM 644972544 n C H){x:Nat->Int}(hx:∀b,b<C->(x b).natAbs<=1000000):zQi BD n C H x:=by
 have hg:∀i,i<=5->1000000*(1+644972544)^i<BD:=fun i hi=>zI1 (Nat.le_trans (Nat.mul_le_mul_left _ (Nat.pow_le_pow_right oM hi)) dE)
 refine⟨fun a ha b hb=>Nat.lt_of_le_of_lt (hh a ha b hb) (zI1 dE),fun i hi b hb=>Nat.lt_of_le_of_lt (zLW hH hh hx i hi b hb) (hg i oM),fun i hi=>⟨Nat.lt_of_le_of_lt (zIH hH hh hx hi) (hg i oM),fun b hb=>Nat.lt_of_le_of_lt ?_ (hg (i+1) oM)⟩⟩;rw[Int.natAbs_mul,Int.natAbs_neg];refine Nat.le_trans (Nat.mul_le_mul (zIH hH hh hx hi) (hh i hi b hb)) ?_;rw[Nat.pow_succ,<-Nat.mul_assoc];exact Nat.mul_le_mul_left _ oM
def zJ9(R C:Nat)(A:Nat->Nat->Int)(b x:Nat->Int):Prop:=∀j,j<C->b j=qF R fun i=>x i*A i j
def zBU(C:Nat)(v:Nat->Int)(y:Nat->Rat):Rat:=jK C fun j=>(v j:Rat)*y j
def zL8(R C:Nat)(A:Nat->Nat->Int)(b:Nat->Int)(y:Nat->Rat):Prop:=(∀i,i<R->isZ (zBU C (A i) y)=true)/\isZ (zBU C b y)=false
theorem zF3(z:Int):isZ (z:Rat)=true:=zCh.2 ⟨z,rfl⟩
theorem zOT{p q:Rat}(hp:isZ p=true)(hq:isZ q=true):isZ (p+q)=true:=by
 obtain⟨a,rfl⟩:=zCh.1 hp;obtain⟨b,rfl⟩:=zCh.1 hq;exact zCh.2 ⟨a+b,(Rat.intCast_add _ _).symm⟩
theorem zKx{z:Int}{q:Rat}(hq:isZ q=true):isZ ((z:Rat)*q)=true:=by
 obtain⟨b,rfl⟩:=zCh.1 hq;exact zCh.2 ⟨z*b,(Rat.intCast_mul _ _).symm⟩
theorem zKy{n:Nat}{f:Nat->Rat}(h:∀i,i<n->isZ (f i)=true):isZ (jK n f)=true:=by
 induction n with
 |zero=>exact zF3 0
 |succ n ih=>exact zOT (ih fun i hi=>h i oM) (h n oM)
theorem zGi{n:Nat}(f:Nat->Int):((qF n f:Int):Rat)=jK n fun i=>(f i:Rat):=by
 induction n with
 |zero=>rfl
 |succ n ih=>
  show((qF n f+f n:Int):Rat)=_+_;rw[Rat.intCast_add,ih]
theorem zFy{n C:Nat}{c b:Nat->Int}{H:Nat->Nat->Int}{y:Nat->Rat}(h:∀j,j<C->b j=qF n fun t=>c t*H t j):zBU C b y=jK n fun t=>(c t:Rat)*zBU C (H t) y:=by
 unfold zBU;rw[qI (g:=fun j=>jK n fun t=>(c t:Rat)*((H t j:Rat)*y j)) fun j hj=>?_,zHS]
 ·exact qI fun t ht=>zBN _ _
 ·rw[h j hj,zGi]
  have h2:=zBN (n:=n) (y j) fun t=>((c t*H t j:Int):Rat)
  have h3:(jK n fun t=>((c t*H t j:Int):Rat))*y j=y j*jK n fun t=>((c t*H t j:Int):Rat):=by grind
  rw[h3,<-h2];exact qI fun t ht=>by rw[Rat.intCast_mul];grind
theorem zGO{R C:Nat}{A:Nat->Nat->Int}{b x:Nat->Int}{y:Nat->Rat}(h:zJ9 R C A b x)(k:zL8 R C A b y):False:=by
 have h1:isZ (zBU C b y)=true:=by
  rw[zFy h];exact zKy fun t ht=>zKx (k.1 t ht)
 rw[k.2]at h1;cases h1
theorem zMZ:isZ (1/2:Rat)=false:=by decide+kernel
theorem zLY{R C r:Nat}{A h:Nat->Nat->Int}{b:Nat->Int}{y z:Nat->Rat}(hA:∀a,a<R->∃v:Nat->Int,∀j,j<C->A a j=qF r fun t=>v t*h t j)(h0:∀a,a<r->jK C (fun t=>(h a t:Rat)*y t)=0)
  (h1:jK C (fun t=>(b t:Rat)*y t)=1) (hz:∀j,j<C->z j=y j/2):zL8 R C A b z:=by
 have hd:∀v:Nat->Int,zBU C v z=(1/2:Rat)*jK C fun j=>(v j:Rat)*y j:=fun v=>by
  unfold zBU;rw[<-zBN];exact qI fun j hj=>by rw[hz j hj];grind
 refine⟨fun i hi=>?_,?_⟩
 ·obtain⟨v,hv⟩:=hA i hi
  rw[zFy hv,zCE fun t ht=>by rw[hd,h0 t ht];grind];exact zF3 0
 ·rw[hd,h1]
  exact(congrArg isZ (by grind:(1/2:Rat)*1=1/2)).trans zMZ
theorem zLZ{R C r k:Nat}{A h:Nat->Nat->Int}{b:Nat->Int}{x y:Nat->Rat}(hA:∀a,a<R->∃v:Nat->Int,∀j,j<C->A a j=qF r fun t=>v t*h t j)(hx:∀j,j<C->jK r (fun i=>(h i j:Rat)*x i)=b j)
  (hy:∀i,i<r->jK C (fun j=>(h i j:Rat)*y j)=if i=k then 1 else 0) (hk:k<r) (hk2:isZ (x k)=false):zL8 R C A b y:=by
 refine⟨fun i hi=>?_,?_⟩
 ·obtain⟨v,hv⟩:=hA i hi
  rw[zFy hv];refine zKy fun t ht=>zKx ?_
  unfold zBU;rw[hy t ht];split
  ·exact zF3 1
  ·exact zF3 0
 ·have h1:zBU C b y=x k:=by
   unfold zBU;rw[qI (g:=fun j=>jK r fun i=>(h i j:Rat)*x i*y j) fun j hj=>by
    rw[<-hx j hj];have h2:=zBN (n:=r) (y j) fun i=>(h i j:Rat)*x i
    have h3:(jK r fun i=>(h i j:Rat)*x i)*y j=y j*jK r fun i=>(h i j:Rat)*x i:=by grind
    rw[h3,<-h2];exact qI fun i hi=>by grind]
   rw[zHS,qI (g:=fun i=>x i*(if i=k then 1 else 0)) fun i hi=>?_,zEI hk fun i hi hne=>by rw[if_neg hne];grind]
   ·rw[if_pos rfl];grind
   ·rw[<-hy i hi,<-zBN]
    exact qI fun j hj=>by grind
  rw[h1];exact hk2
theorem zLn{C r:Nat}{h:Nat->Nat->Int}{b:Nat->Int}{x:Nat->Rat}(hx:∀j,j<C->jK r (fun i=>(h i j:Rat)*x i)=b j)(hz:∀i,i<r->isZ (x i)=true):∃z:Nat->Int,∀j,j<C->b j=qF r fun t=>z t*h t j:=by
 refine⟨fun i=>(x i).num,fun j hj=>?_⟩;refine Rat.intCast_inj.1 ?_;rw[<-hx j hj,zGi];refine qI fun i hi=>?_
 obtain⟨z,hzz⟩:=zCh.1 (hz i hi);have h2:(x i).num=z:=by rw[hzz,Rat.num_intCast]
 show _=((((x i).num*h i j:Int)):Rat);rw[Rat.intCast_mul,h2,hzz];grind
structure zPJ(e R C:Nat)(L:Nat->Nat->Int):Prop where
 st:∀c,c<=R->(zAi C L c).pv.length<=C/\(zAi C L c).last≠0/\(zAi C L c).last.natAbs<2^e/\∀i,i<C->∀j,j<R+1+C->((zAi C L c).E i j).natAbs<2^e
 pv:∀k t,(zAi C L R).pv[k]?=some t->t<R/\(zAi C L R).E k t≠0
 inv:zKG C (R+1+C) R L (zAi C L R)
theorem Ech.le{C r:Nat}{pc:Nat->Nat}{h:Nat->Nat->Int}(he:Ech C r pc h):r<=C:=by
 rcases Nat.eq_zero_or_pos r with h0|h0
 ·omega
 ·have h1:=he.ge (r-1) oM
  have h2:=he.lt (r-1) oM;omega
theorem zNA{H:Nat}(hH:H<=2^30){k:Nat}(hk:k<=5):(2*H)^k<2^160:=by
 have h1:(2*H)^k<=(2^31)^k:=Nat.pow_le_pow_left oM k;have h2:(2^31)^k=2^(31*k):=(Nat.pow_mul 2 31 k).symm;have h3:2^(31*k)<=2^155:=Nat.pow_le_pow_right dE oM;have h4:2^155<2^160:=by decide
 omega
theorem zNK{C r H:Nat}{pc:Nat->Nat}{h A:Nat->Nat->Int}{y:Nat->Int}(he:Ech C r pc h)(hr:r<=4)(hH:H<=2^30)(h1:1<=H)(hhH:∀i,i<r->∀j,j<C->(h i j).natAbs<=H)(hy:∀j,j<C->(y j).natAbs<=H)(hA:∀i,i<r->∀j,j<C->A i j=h i j):
  zPJ 160 r C (eqL r A y):=by
 have hrC:=he.le;have hL:∀i,i<C->∀j,j<r->eqL r A y i j=h j i:=fun i hi j hj=>by rw[zKf hj,hA j hj i hi]
 have hLH:=zGt (R:=r) (C:=C) (H:=H) (A:=A) (b:=y) (fun i hi j hj=>by rw[hA i hi j hj];exact hhH i hi j hj) hy h1;have hI:=zL6.run (m:=r+1+C) he oM hrC hhH hL hLH;have hex:=zL6.ex (m:=r+1+C) he oM hrC hhH hL hLH;have hB:=zKG.run hex (by omega:r<=r+1+C);have hbd:∀c,c<=r->H*(2*H)^c<2^160:=fun c hc=>by
  have h2:=zNA hH (k:=c+1) oM;rw[Nat.pow_succ]at h2;refine Nat.lt_of_le_of_lt ?_ h2;rw[Nat.mul_comm];exact Nat.mul_le_mul_left _ oM
 refine⟨fun c hc=>?_,fun k t ht=>?_,hB r (xgf _)⟩
 ·have hIc:=hI c hc
  refine⟨(hB c hc).len,(hB c hc).q,?_,fun i hi j hj=>Nat.lt_of_le_of_lt (hIc.bnd i hi j hj) (hbd c hc)⟩;rw[hIc.last];refine Nat.lt_of_le_of_lt (zDh he (fun k hk=>hhH k hk _ (he.lt k hk)) c hc) (Nat.lt_of_le_of_lt ?_ (zNA hH (k:=c) oM));exact Nat.pow_le_pow_left oM c
 ·exact⟨(hB r (xgf _)).lt k t ht,((hB r (xgf _)).piv k t ht).1⟩
theorem zOG{C r:Nat}{pc:Nat->Nat}{h A:Nat->Nat->Int}{u:Nat->Int}(he:Ech C r pc h)(hA:∀i,i<r->∀j,j<C->A j i=h i j):Ech C r pc (eqL C A u):=
 ⟨he.lt,fun k hk=>by rw[zKf (he.lt k hk),hA k hk _ (he.lt k hk)];exact he.pos k hk,fun k hk t ht=>by have:=he.lt k hk;rw[zKf oM,hA k hk t oM];exact he.zero k hk t ht,he.inc⟩
theorem zNL{C r H:Nat}{pc:Nat->Nat}{h A:Nat->Nat->Int}{u:Nat->Int}(he:Ech C r pc h)(hr:r<=4)(hH:H<=2^30)(h1:1<=H)(hhH:∀i,i<r->∀j,j<C->(h i j).natAbs<=H)(hu:∀i,i<r->(u i).natAbs<=H)(hA:∀i,i<r->∀j,j<C->A j i=h i j):
  zPJ 160 C r (eqL C A u)/\(zAi r (eqL C A u) C).pv.length=r:=by
 have hE:=zOG (u:=u) he hA;have hLH:=zGt (R:=C) (C:=r) (H:=H) (A:=A) (b:=u) (fun i hi j hj=>by rw[hA j hj i hi];exact hhH j hj i hi) hu h1;have hI:=zL7.run (m:=C+1+r) hE oM hLH;have hex:=zL7.ex (m:=C+1+r) hE oM hLH;have hB:=zKG.run hex (by omega:C<=C+1+r);refine⟨⟨fun c hc=>?_,fun k t ht=>?_,hB C (xgf _)⟩,?_⟩
 ·obtain⟨k,hIc⟩:=hI c hc
  have hkr:=hIc.le;refine⟨(hB c hc).len,(hB c hc).q,?_,fun i hi j hj=>Nat.lt_of_le_of_lt (hIc.bnd i hi j hj) (zNA hH oM)⟩;rw[hIc.last];refine Nat.lt_of_le_of_lt (zDh hE (fun k hk=>hLH k hk _ (by have:=he.lt k hk;omega)) k hkr) (Nat.lt_of_le_of_lt ?_ (zNA hH (k:=k) oM));exact Nat.pow_le_pow_left oM k
 ·exact⟨(hB C (xgf _)).lt k t ht,((hB C (xgf _)).piv k t ht).1⟩
 ·obtain⟨k,hIc⟩:=hI C (xgf _)
  rw[hIc.len];have h2:=hIc.le;rcases Nat.lt_or_ge k r with h3|h3
  ·have:=hIc.aft k (xgf _) h3
   have:=he.lt k h3;omega
  ·omega
theorem zLl{e n m c R:Nat}{L:Nat->Nat->Int}{s:BE}(hB:zKG n m c L s)(he:1<=e)(hR:R<m)(hb:∀i,i<n->∀j,j<m->(s.E i j).natAbs<2^e)(hcm:c<=m)(i:Nat):∀l,l<=s.pv.length->HQ e (zE7 s R l i)
 |0,_=>⟨Nat.pow_pos dE,Nat.lt_of_lt_of_le (by decide:1<2^1) (Nat.pow_le_pow_right dE he)⟩
 | l+1,hl=>by
  show HQ e (if s.pv[l]?=some i then _ else _);split
  ·rename_i h
   have h2:=hB.piv l i h;have h3:=hB.lt l i h;have h4:=hB.len;rw[<-Rat.divInt_eq_div];exact HQ.divInt (hb l oM R hR) (hb l oM i oM) h2.1
  ·exact zLl hB he hR hb hcm i l oM
theorem HQ.half{e:Nat}{q:Rat}(h:HQ e q):HQ (e+2) (q/2):=HQ.div (b:=2) h ⟨by decide,by decide⟩ dE
def zC3(ps:List (Int × Int)):Bool:=ps.all zGV
theorem zG0{ps:List (Int × Int)}{k:Nat}{p:Int × Int}(h:zC3 (ps.take k)=true)(hk:ps[k]?=some p)(hp:zGV p=true):zC3 (ps.take (k+1))=true:=by
 unfold zC3 at*;rw[List.take_add_one,hk,List.all_append,h];simp[hp]
theorem zLy{e:Nat}(v:Value)(ps:List (Int × Int))(n:Int)(w:World)(h:jY w v ps)(hq:∀p∈ps,p.1.natAbs<2^e/\p.2.natAbs<2^e)(he:e<=1000000):
  Calls Tryz.prog 76 #[v,.int .i64 n] w fun e w'=>∃u,e= .returned u/\u= .bool (decide ((ps.length:Int)=n) && zC3 ps)/\Below w.heap.size w w':=by
 obtain⟨ao,m,cap,rfl,h2,h3,h4,-⟩:=id h;have HL:=xgw h2;have HQ:=xgv hq;have HV:=xgv h;by_cases hm:(m:Int)=n
 ·subst hm
  have hgo:(decide ((ps.length:Int)=(m:Int)) && zC3 ps)=zC3 ps:=by rw[h2];simp
  rw[hgo];clear h2 hq h hgo;go_enter Tryz.func76,Tryz.ntmps76;go_wp2;go_loopw [5] (fun i wr=>∃k:Nat,k<=m/\i= .int .i64 k/\Below w.heap.size w wr/\Hid (zC3 (ps.take k)=true)) (fun i _=>m-(intOf i).toNat)
  case atStart=>exact⟨0,by omega,rfl,Below.refl _ _,xgw rfl⟩
  case round=>
   obtain⟨k,hk,rfl,hb,hsame⟩:=hrel;by_cases hlt:k<m
   ·obtain⟨b,p,s,a,l,c,s',a',l',c',rfl,hbl,hz,c1,c2,c3,c4,i1,i2⟩:=(HV.out.below hb).cell (k:=k) (by rw[HL.out];exact hlt)
    have HZ:=xgv hz;have hbb:=HQ.out p (xgd hz);have hpv:jM wr (.agg #[.bool s,.slice a l c,.bool s',.slice a' l' c']) p:=⟨_,_,_,_,_,_,_,_,rfl,i1,i2⟩;have HPV:=xgv hpv;clear hz hpv i1 i2;go_wp2_with fail
    refine(zID _ p wr HPV.out hbb.1 hbb.2 he).mono ?_;rintro e w1 ⟨_,rfl,rfl,hb1⟩;cases hl:zGV p
    ·go_wp2
     go_ret;refine⟨_,rfl,?_,nx hb hb1⟩;have:zC3 ps=false:=by
      unfold zC3;rw[List.all_eq_false];exact⟨p,xgd HZ.out,by rw[hl];decide⟩
     rw[this];rfl
    ·go_wp2
     go_roundw
     case rel=>exact⟨k+1,by omega,by simp,nx hb hb1,xgw (zG0 hsame.out HZ.out hl)⟩
     case measure=>simp[intOf];omega
   ·obtain rfl:k=m:=by omega
    have:zC3 ps=true:=by
     have:=hsame.out;rwa[List.take_of_length_le (by rw[HL.out];omega)]at this
    go_wp2;go_ret;exact⟨_,rfl,by rw[this];rfl,hb⟩
 ·have hgo:(decide ((ps.length:Int)=n) && zC3 ps)=false:=by rw[h2];simp[hm]
  rw[hgo];clear h2 hq h hgo;go_enter Tryz.func76,Tryz.ntmps76;go_wp2;go_ret;exact⟨_,rfl,rfl,Below.refl _ _⟩
theorem HQ.dot{e h n:Nat}{x:Nat->Int}{q:Nat->Rat}(hx:∀j,j<n->(x j).natAbs<2^h)(hh:1<=h)(hq:∀j,j<n->HQ e (q j)):HQ (n*(e+h+1)+1) (jK n fun j=>(x j:Rat)*q j):=by
 induction n with
 |zero=>exact HQ.mono (a:=1) (HQ.int (z:=0) dE dE) oM
 |succ n ih=>
  have h1:=ih (fun j hj=>hx j oM) (fun j hj=>hq j oM);have h2:=HQ.mul (HQ.int (hx n oM) hh) (hq n oM);exact(HQ.add h1 h2).mono (by rw[Nat.add_mul];omega)
theorem zGH{w:World}{ao:Option Addr}{n cap:Nat}{q:Nat->Rat}(h:jY w (.slice ao n cap) (zAC n fun t=>prQ (q t))){k:Nat}(hk:k<n):
  ∃b s a l c s' a' l' c',ao=some ⟨b,0,none⟩/\b<w.heap.size/\w.cell? ⟨b,k*4,none⟩=some (.bool s)/\w.cell? ⟨b,k*4+1,none⟩=some (.slice a l c)/\w.cell? ⟨b,k*4+2,none⟩=some (.bool s')/\w.cell? ⟨b,k*4+3,none⟩=some (.slice a' l' c')∧
   jN w (.agg #[.bool s,.slice a l c,.bool s',.slice a' l' c']) (q k):=by
 obtain⟨b,p,s,a,l,c,s',a',l',c',h1,h2,h3,c1,c2,c3,c4,i1,i2⟩:=h.cell (k:=k) (by rw[qG];exact hk);rw[zAj hk]at h3;injection h3 with h3
 subst h3;exact⟨b,s,a,l,c,s',a',l',c',h1,h2,c1,c2,c3,c4,_,_,_,_,_,_,_,_,rfl,i1,i2⟩
theorem zLV{e h:Nat}(bv yv:Value)(C:Nat)(x:Nat->Int)(q:Nat->Rat)(w:World)(hx:qN w bv (zM C x))(hy:jY w yv (zAC C fun t=>prQ (q t)))(hxs:∀j,j<C->(x j).natAbs<2^h)(hh:1<=h)(hq:∀j,j<C->HQ e (q j))(hC:C<=1000)(he:e+h+1<=900):
  Calls Tryz.prog 79 #[bv,yv] w (zAT w (zBU C x q)):=by
 obtain⟨xo,xn,xc,rfl,f2,f3,f4,-⟩:=id hx;obtain rfl:C=xn:=by rw[<-f2,zD]
 obtain⟨yo,yn,yc,rfl,g2,g3,g4,-⟩:=id hy;obtain rfl:C=yn:=by rw[<-g2,qG]
 have HX:=xgv hx;have HY:=xgv hy;have HXS:=xgv hxs;have HQS:=xgv hq;have HE:qE (∀n,n<=C->n*(e+h+1)+1<=900001):=⟨fun n hn=>by
  have:n*(e+h+1)<=1000*900:=Nat.mul_le_mul oM he;omega⟩
 clear hx hy hxs hq f2 g2;go_enter Tryz.func79,Tryz.ntmps79;go_upto_region 1 with(fail)
 refine zB ?_;intro W0 hW0;obtain⟨hB0,T4,hs0⟩:=zK hW0;clear hW0;go_wp2_with fail
 refine(zB9 0 W0 dE dE).mono ?_;rintro e1 w1 ⟨rv,rfl,⟨s5,a5,l5,k5,s6,a6,l6,k6,rfl,i5,i6⟩,hb1⟩;have T4:=T4.below hb1;have hB:=nx hB0 hb1;have I:jN w1 (.agg #[.bool s5,.slice a5 l5 k5,.bool s6,.slice a6 l6 k6]) 0:=⟨_,_,_,_,_,_,_,_,rfl,i5,i6⟩;have HI:=xgv I;clear i5 i6 I;go_upto_region 2 with(fail)
 refine zB ?_;intro W2 hW2;have hb2:Below w1.heap.size w1 W2:=by rw[hW2.out];exact(Below.refl _ _).alloc (xgf _) _
 have T5:Blk W2 w1.heap.size tQ #[.bool s5,.slice a5 l5 k5,.bool s6,.slice a6 l6 k6]:=by rw[hW2.out];exact Blk.new _ _ _
 have T4:=T4.below hb2;have HI:=xgv (HI.out.below hb2);have q1:=hB.size;have q0:=hB0.size;have hB:=nx hB hb2;have hlt5:w.heap.size<w1.heap.size:=by have:=hb1.size;omega
 obtain⟨b5,hb5⟩:∃g,w1.heap.size=g:=⟨_,rfl⟩;rw[hb5]at T5 hlt5 ⊢
 clear hW2 hb5 q1 q0 hb2;go_wp2;go_loopw [6] (fun iv wr=>∃i:Nat,i<=C/\iv= .int .i64 i/\Below w.heap.size w wr/\Blk wr w.heap.size tQ #[.bool false,.slice none 0 0,.bool false,.slice none 0 0]/\∃(y1 y3:Bool) (y2 y4:Option Addr) (l2 c2 l4 c4:Nat),Blk wr b5 tQ #[.bool y1,.slice y2 l2 c2,.bool y3,.slice y4 l4 c4]/\qE (jN wr (.agg #[.bool y1,.slice y2 l2 c2,.bool y3,.slice y4 l4 c4]) (jK i fun j=>(x j:Rat)*q j))) (fun iv _=>C-(intOf iv).toNat)
 case atStart=>exact⟨0,by omega,rfl,hB,T4,_,_,_,_,_,_,_,_,T5,HI⟩
 case round=>
  clear hB T4 T5 HI;obtain⟨i,hi,rfl,hB,T4,y1,y3,y2,y4,l2,c2,l4,c4,T5,HI⟩:=hrel;have lt5:=T5.lt;by_cases hlt:i<C
  ·obtain⟨bx,z,s1,o1,n1,k1,rfl,hbx,hz,d1,d2,hv⟩:=(HX.out.below hB).cell (k:=i) (by rw[zD];exact hlt)
   obtain⟨by_,s,o,l,c,s',o',l',c',rfl,hby,e1,e2,e3,e4,hrat⟩:=zGH (HY.out.below hB) hlt;rw[zP hlt]at hz;injection hz with hz
   subst hz;have HXI:=xgv hv;have HQI:=xgv hrat;have HBX:=xgv (HXS.out i hlt);have HBQ:=xgv (HQS.out i hlt);have HSB:=xgv (HQ.dot (n:=i) (fun j hj=>HXS.out j oM) hh (fun j hj=>HQS.out j oM));have HSE:=xgv (HE.out i oM);obtain⟨SS,hSS⟩:∃SS,(jK i fun j=>(x j:Rat)*q j)=SS:=⟨_,rfl⟩;have HSS:=xgv hSS;rw[hSS]at HI HSB;obtain⟨xi,hxi⟩:∃xi,x i=xi:=⟨_,rfl⟩;obtain⟨qi,hqi⟩:∃qi,q i=qi:=⟨_,rfl⟩;have HNX:qE ((jK (i+1) fun j=>(x j:Rat)*q j)=SS+(xi:Rat)*qi):=⟨by rw[<-hSS,<-hxi,<-hqi];rfl⟩;rw[hxi]at HXI HBX;rw[hqi]at HQI HBQ;obtain⟨r1,r2,r3,r4,r5,r6,r7,r8⟩:=T5.four;have hl1:=qY (xi:Rat);have hl2:=qY ((xi:Rat)*qi);have hl3:=qY (SS+(xi:Rat)*qi);clear hv hrat hSS hxi hqi;go_upto_region 5 with(fail)
   refine zC 12 rfl (RV wr _ [E 0 20 (.agg #[.bool y1,.slice y2 l2 c2,.bool y3,.slice y4 l4 c4]),VSl 1 21 bx C xc,VN 2 22 i,VP 3 23 bx (i*2),E 4 24 (.agg #[.bool s1,.slice o1 n1 k1]),⟨5,25,fun w v=>jN w v (xi:Rat)⟩,VSl 6 26 by_ C yc,VN 7 27 i,VP 8 28 by_ (i*4),E 9 29 (.agg #[.bool s,.slice o l c,.bool s',.slice o' l' c']),⟨10,30,fun w v=>jN w v ((xi:Rat)*qi)⟩,⟨11,31,fun w v=>jN w v (SS+(xi:Rat)*qi)⟩]) kR RV.start (RV.fin kR ?fin1) ?steps1
   case steps1=>
    (repeat' constructor)<;>(intro L T wS hL hd hcl hI K hK;try refine zA rfl ?_)
    ·have zt:=hI.k 5 rfl kR
     have cc0:=hI.cell r1;have cc1:=hI.cell r2;have cc2:=hI.cell r3;have cc3:=hI.cell r4;exact xgu
    ·exact xgs (hI.k 0 rfl kR)
    ·exact xgs (hI.k 6 rfl kR)
    ·exact xgt (hI.e mm1 (hd 1)) (hI.e mm2 (hd 2))
    ·have zt3:=hI.e mm3 (hd 3)
     have cc0:=hI.cell d1;have cc1:=hI.cell d2;exact xgu
    ·have zt4:=hI.e mm4 (hd 4)
     go_simp;refine(zCp _ xi _ (HXI.out.ext (lx hI.bel))).mono ?_;rintro e wa ⟨v,rfl,hv,hba⟩;exact hK _ _ ((hI.world hba).y mm5 hv)
    ·exact xgs (hI.k 1 rfl kR)
    ·exact xgs (hI.k 6 rfl kR)
    ·exact xgt (hI.e mm6 (hd 6)) (hI.e mm7 (hd 7))
    ·have zt8:=hI.e mm8 (hd 8)
     have cc0:=hI.cell e1;have cc1:=hI.cell e2;have cc2:=hI.cell e3;have cc3:=hI.cell e4;exact xgu
    ·obtain⟨v5,zt5,h5⟩:=hI.v mm5 (hd 5)
     have zt9:=hI.e mm9 (hd 9);go_simp;refine(zHC (a:=h) (b:=e) _ _ _ qi _ h5 (HQI.out.below hI.bel) (HQ.int HBX.out hh) HBQ.out oM).mono ?_;rintro e wa ⟨v,rfl,hv,hba⟩;exact hK _ _ ((hI.world hba).y zAB hv)
    ·have zt0:=hI.e mm0 (hd 0)
     obtain⟨v10,zt10,h10⟩:=hI.v zAB (hd 10);go_simp;refine(zHB _ _ SS _ _ (HI.out.below hI.bel) h10 HSB.out (HQ.mul (HQ.int HBX.out hh) HBQ.out) (by have:=HSE.out;omega)).mono ?_;rintro e wa ⟨v,rfl,hv,hba⟩;exact hK _ _ ((hI.world hba).y zAG hv)
   intro w2 hbw2 T hT;simp only[Fin,E,EI,VP,VSl,VN,xgg,xgh,xgi,xgj]at hT;obtain⟨va5,ha5,va10,ha10,va11,ha11,rfl⟩:=hT;simp only[xgl,xgk];obtain⟨s5,a5,l5,k5,s6,a6,l6,k6,rfl,i5,i6⟩:=(show jN _ _ _ from ha11);have I:jN w2 (.agg #[.bool s5,.slice a5 l5 k5,.bool s6,.slice a6 l6 k6]) (SS+(xi:Rat)*qi):=⟨_,_,_,_,_,_,_,_,rfl,i5,i6⟩;have HI2:=xgv I;have T4:=T4.below hbw2;have T5:=T5.below hbw2;have hB:=nx hB hbw2;clear i5 i6 I r1 r2 r3 r4 r5 r6 r7 r8 d1 d2 e1 e2 e3 e4 ha5 ha10;obtain⟨r1,r2,r3,r4,r5,r6,r7,r8⟩:=T5.four;go_wp2;go_roundw
   case rel=>exact⟨i+1,by omega,by simp,jB hB oM 0 _ _ _ _,(zDG _ _ _ _ _ _ _ _ oM).trans T4,_,_,_,_,_,_,_,_,T5.put4 _ _ _ _,⟨by rw[HNX.out];exact HI2.out.ext (T5.lext4 dE 0 _ _ _ _)⟩⟩
   case measure=>simp[intOf];omega
  ·obtain rfl:i=C:=by omega
   obtain⟨r1,r2,r3,r4,r5,r6,r7,r8⟩:=T5.four;obtain⟨t1,t2,t3,t4,t5,t6,t7,t8⟩:=T4.four;go_wp2;have hx:=T4.lext4 dE 0 (.bool y1) (.slice y2 l2 c2) (.bool y3) (.slice y4 l4 c4);exact qP rfl rfl rfl (T4.put4 _ _ _ _) (HI.out.ext hx) (jB hB oM 0 _ _ _ _)
theorem zLw{R C:Nat}{g:Nat->Nat->Int}{i j:Nat}(hi:i<R)(hj:j<C):zLh (zY C R (fun a b=>zBr g i j b a)) j i (g i j)=zY C R (fun a b=>zBr g i (j+1) b a):=by
 rw[zCC _ hj hi];exact qM fun a _ b _=>by
  unfold zBr;by_cases h:a=j/\b=i
  ·obtain⟨rfl,rfl⟩:=h
   rw[if_pos ⟨rfl,rfl⟩,if_pos oM]
  ·rw[if_neg h]
   by_cases h2:b<i∨(b=i/\a<j)
   ·rw[if_pos h2,if_pos oM]
   ·rw[if_neg h2,if_neg oM]
theorem zNc{R C:Nat}{g:Nat->Nat->Int}{i:Nat}:zY C R (fun a b=>zBr g i C b a)=zY C R (fun a b=>zBr g (i+1) 0 b a):=
 qM fun a ha b hb=>by
  unfold zBr;by_cases h:b<i∨(b=i/\a<C)
  ·rw[if_pos h,if_pos oM]
  ·rw[if_neg h,if_neg oM]
theorem zJ4(R C:Nat)(g:Nat->Nat->Int):zAP C R=zY C R (fun a b=>zBr g 0 0 b a):=by
 rw[zCQ];exact qM fun i _ j _=>by unfold zBr;rw[if_neg oM]
theorem zNb{R C:Nat}{g:Nat->Nat->Int}:zY C R (fun a b=>zBr g R 0 b a)=zY C R (fun a b=>g b a):=
 qM fun a ha b hb=>by unfold zBr;rw[if_pos oM]
theorem zEn(v:Value)(R C:Nat)(M:List (List Int))(w:World)(h:jE w v R C M)(hF:jT R C M)(hR:R<=1000000)(hC:C<=1000000):
  Calls Tryz.prog 89 #[v] w (zBB w C R (zY C R (fun a b=>ent M b a))):=by
 obtain⟨A,rfl,h⟩:=h;obtain⟨ao,n,cap,rfl,e2,e3,e4,-⟩:=id h;obtain rfl:R=n:=by rw[<-e2,hF.1]
 have HF:=xgv hF;obtain⟨f,hf⟩:∃f:Nat->Nat->Int,ent M=f:=⟨_,rfl⟩;rw[hf];have HFE:qE (∀a b,f a b=ent M a b):=⟨fun a b=>by rw[<-hf]⟩;have HX:=xgw e2;clear hf hF e2;go_enter Tryz.func89,Tryz.ntmps89;go_upto_region 1 with(fail)
 refine zB ?_;intro W0 hW0;obtain⟨hB0,bx1,br,hs0⟩:=qH hW0;obtain⟨c1,c2,c3,c4,c5,c6⟩:=bx1.three;go_wp2_with fail
 refine(zCA C R W0 oM oM).mono ?_;rintro e w2 ⟨u,bs,rfl,⟨hbl,A2,rfl,ho⟩,hb2⟩;obtain⟨oo,on,oc,rfl,-,-,-,-⟩:=id ho.rows;have hlts:=ho.lts;go_upto_region 2 with(fail)
 refine zB ?_;intro W3 hW3;obtain⟨hB3,T7,hs3⟩:=zK hW3;have br:=(br.below hb2).below hB3;have bx1:=(bx1.below hb2).below hB3;have ho:=ho.below hB3;rw[zJ4 R C f]at ho;have hBt:=nx (nx hB0 hb2) hB3;have q2:=hb2.size;clear hW3 hW0 c1 c2 c3 c4 c5 c6;go_wp2;go_loopw [4] (fun iv wr=>∃i:Nat,i<=R/\iv= .int .i64 i/\Below w.heap.size w wr/\Blk wr w.heap.size 28 #[.int .i64 R,.int .i64 C,.slice ao R cap]/\Blk wr (w.heap.size+1) 28 #[.int .i64 0,.int .i64 0,.slice none 0 0]/\Blk wr w2.heap.size 28 #[.int .i64 C,.int .i64 R,.slice oo on oc]/\zT wr W0.heap.size (.slice oo on oc) R bs (zY C R (fun a b=>zBr f i 0 b a))) (fun iv _=>R-(intOf iv).toNat)
 case atStart=>exact⟨0,by omega,rfl,hBt,bx1,br,T7,ho⟩
 case round=>
  obtain⟨i,hi,rfl,hb,bx1,br,T7,ho⟩:=hrel;obtain⟨c1,c2,c3,c4,c5,c6⟩:=bx1.three;by_cases hlt:i<R
  ·go_wp2
   clear c1 c2 c3 c4 c5 c6;go_loopw [5] (fun jv wr=>∃j:Nat,j<=C/\jv= .int .i64 j/\Below w.heap.size w wr/\Blk wr w.heap.size 28 #[.int .i64 R,.int .i64 C,.slice ao R cap]/\Blk wr (w.heap.size+1) 28 #[.int .i64 0,.int .i64 0,.slice none 0 0]/\Blk wr w2.heap.size 28 #[.int .i64 C,.int .i64 R,.slice oo on oc]/\zT wr W0.heap.size (.slice oo on oc) R bs (zY C R (fun a b=>zBr f i j b a))) (fun jv _=>C-(intOf jv).toNat)
   case atStart=>exact⟨0,by omega,rfl,hb,bx1,br,T7,ho⟩
   case round=>
    obtain⟨j,hj,rfl,hb,bx1,br,T7,ho⟩:=hrel;obtain⟨c1,c2,c3,c4,c5,c6⟩:=bx1.three;by_cases hjc:j<C
    ·obtain⟨b,ra,rn,rc,zs,rfl,hbl1,hz,p1,hv⟩:=(h.below hb).row (k:=i) (by rw[HX.out];exact hlt)
     have hzl:=HF.out.2 zs (xgd hz);have hvl:=hv.len;obtain rfl:rn=C:=by omega
     obtain⟨b',z,s,a,l,c,rfl,hbl',hzk,q1,q2',hzv⟩:=hv.cell (k:=j) oM;have hent:=xgw ((HFE.out i j).trans (zBE hz hzk));clear hz hzk hzl;obtain⟨g,bo,rfl,hg,hbo,hbo2,o1,ho3⟩:=ho.at_ (i:=j) oM;obtain⟨f1,f2,f3,f4,f5,f6⟩:=T7.three;have hio:j<on:=by omega
     have HO3:=xgw ho3;clear ho3;have lt1:=bx1.lt;have lt7:=T7.lt;go_upto_region 8 with(fail)
     refine zC 15 rfl (RI wr (wr.heap.size) _ 35
       [VP 0 23 w2.heap.size 2,VSl 1 24 g on oc,VN 2 25 j,VP 3 26 g j,VSl 4 27 bo R R,VN 5 28 i,VP 6 29 w.heap.size 2,VSl 7 30 b R cap,VN 8 31 i,VP 9 32 b i,VSl 10 33 b' rn rc,VN 11 34 j,VP 12 35 b' (j*2),E 13 36 (.agg #[.bool s,.slice a l c]),VP 14 37 bo (i*2)] [] []) kR RI.start (RI.fin kR ?fin1) ?steps1
     case steps1=>
      (repeat' constructor)<;>(intro L T wS hL hd hcl hI K hK;try refine zA rfl ?_)
      ·exact xgs (hI.k 3 rfl kR)
      ·have zt0:=hI.e mm0 (hd 0)
       have cc0:=hI.cell f3 oM nom;exact xgu
      ·exact xgs (hI.k 5 rfl kR)
      ·exact xgt (hI.e mm1 (hd 1)) (hI.e mm2 (hd 2))
      ·have zt3:=hI.e mm3 (hd 3)
       have cc0:=hI.cell o1 oM nom;exact xgu
      ·exact xgs (hI.k 4 rfl kR)
      ·exact xgs (hI.k 1 rfl kR)
      ·have zt6:=hI.e mm6 (hd 6)
       have cc0:=hI.cell c3 oM nom;exact xgu
      ·exact xgs (hI.k 4 rfl kR)
      ·exact xgt (hI.e mm7 (hd 7)) (hI.e mm8 (hd 8))
      ·have zt9:=hI.e mm9 (hd 9)
       have cc0:=hI.cell p1 oM nom;exact xgu
      ·exact xgs (hI.k 5 rfl kR)
      ·exact xgt (hI.e zAB (hd 10)) (hI.e zAG (hd 11))
      ·have zt12:=hI.e zAs (hd 12)
       have cc0:=hI.cell q1 oM nom;have cc1:=hI.cell q2' oM nom;exact xgu
      ·exact xgt (hI.e mm4 (hd 4)) (hI.e mm5 (hd 5))
     intro w9 hlw9 hbw9 holdw9 T hT;simp only[Fin,E,EI,VP,VSl,VN,xgg,xgh,xgi,xgj]at hT;subst hT;simp only[xgl,xgk];have ho9:=ho.below hbw9;obtain⟨sn,sa,sl,sc,z1,z2,z3,z4,-⟩:=ho9.cellAt hbo hlt;have hbolt:=hlts j bo hbo;have hset:=ho9.set hbo hlt (hzv.ext hlw9);go_wp2;go_roundw
     case rel=>
      rw[<-hent.out,zLw hlt hjc]at hset;exact⟨j+1,by omega,by simp,zO (zO (nx hb hbw9) oM _ _) oM _ _,(zV _ _ _ _ _ _ _ oM).trans (bx1.below hbw9),(zV _ _ _ _ _ _ _ oM).trans (br.below hbw9),(zV _ _ _ _ _ _ _ oM).trans (T7.below hbw9),hset.1⟩
     case measure=>simp[intOf];omega
    ·obtain rfl:j=C:=by omega
     rw[zNc]at ho;go_wp2;go_roundw
     case rel=>exact⟨i+1,by omega,by simp,hb,bx1,br,T7,ho⟩
     case measure=>simp[intOf];omega
  ·obtain rfl:i=R:=by omega
   rw[zNb]at ho;obtain⟨f1,f2,f3,f4,f5,f6⟩:=T7.three;obtain⟨r1,r2,r3,r4,r5,r6⟩:=br.three;have q1:=hB0.size;go_wp2;refine yE rfl rfl rfl (br.put3 _ _ _) ⟨_,bs,rfl,⟨hbl,_,rfl,?_⟩,zO (zO (zO hb oM 0 _) oM 1 _) oM 2 _⟩;exact(ho.keep (fun k hk=>yY _ _ k _ _ _ oM) (br.lext3 dE _ _ _)).mono q1
theorem HQ.dotR{e h n:Nat}{q:Nat->Rat}{x:Nat->Int}(hx:∀j,j<n->(x j).natAbs<2^h)(hh:1<=h)(hq:∀j,j<n->HQ e (q j)):HQ (n*(e+h+1)+1) (jK n fun j=>q j*(x j:Rat)):=by
 rw[qI (g:=fun j=>(x j:Rat)*q j) fun j hj=>Rat.mul_comm _ _];exact HQ.dot hx hh hq
theorem zKp(n:Nat)(f:Nat->Int × Int):zAC (n+1) f=zAC n f++ [f n]:=by simp[zAC,List.range_succ]
theorem zLU{e h:Nat}(yv mv:Value)(m C:Nat)(M:List (List Int))(q:Nat->Rat)(w:World)(hy:jY w yv (zAC m fun t=>prQ (q t)))(hm:jE w mv m C M)(hF:jT m C M)(hM:∀a,a<m->∀b,b<C->(ent M a b).natAbs<2^h)(hh:1<=h)(hq:∀j,j<m->HQ e (q j))(hm1:m<=1000)(hC:C<=1000)(he:e+h+1<=900):
  Calls Tryz.prog 169 #[yv,mv] w fun e w'=>∃u,e= .returned u/\jY w' u (zAC C fun i=>prQ (jK m fun t=>q t*(ent M t i:Rat)))/\Below w.heap.size w w':=by
 obtain⟨Av,rfl,hrw⟩:=id hm;obtain⟨ao,mn,acap,rfl,e2,e3,e4,-⟩:=id hrw;obtain rfl:m=mn:=by rw[<-e2,hF.1]
 obtain⟨yo,yn,yc,rfl,g2,g3,g4,-⟩:=id hy;obtain rfl:m=yn:=by rw[<-g2,qG]
 have HR:=xgv hrw;have HF:=xgv hF;have HY:=xgv hy;have HMB:=xgv hM;have HQS:=xgv hq;have HE:qE (∀n,n<=m->n*(e+h+1)+1<=900001):=⟨fun n hn=>by
  have:n*(e+h+1)<=1000*900:=Nat.mul_le_mul oM he;omega⟩
 clear hm hrw hF hy hM hq e2 g2;go_enter Tryz.func169,Tryz.ntmps169;go_upto_region 1 with(fail)
 refine zB ?_;intro W0 hW0;obtain⟨hB0,T3,hs0⟩:=zK hW0;clear hW0;go_upto_region 2 with(fail)
 refine zB ?_;intro W1 hW1;have hb1:Below W0.heap.size W0 W1:=by rw[hW1.out];exact(Below.refl _ _).alloc (xgf _) _
 have hO:zBt W1 W0.heap.size (.slice (some ⟨W0.heap.size,0,none⟩) 0 0) []:=by rw[hW1.out];exact zBt.made W0 (xgf _)
 have T3:=T3.below hb1;have q0:=hB0.size;have hB:=nx hB0 hb1;obtain⟨base,hbase⟩:∃g,W0.heap.size=g:=⟨_,rfl⟩;rw[hbase]at hO hs0 ⊢
 have hbs:base<=W1.heap.size:=by have:=hb1.size;omega
 clear hW1 hb1 q0 hbase;go_wp2;go_loopw [5,6] (fun u iv wr=>∃i:Nat,i<=C/\iv= .int .i64 i/\zBt wr base u (zAC i fun i=>prQ (jK m fun t=>q t*(ent M t i:Rat)))/\Below w.heap.size w wr/\Blk wr w.heap.size 28 #[.int .i64 m,.int .i64 C,.slice ao m acap]/\base<=wr.heap.size) (fun _ iv _=>C-(intOf iv).toNat)
 case atStart=>exact⟨0,by omega,rfl,hO,hB,T3,hbs⟩
 case round=>
  clear hB T3 hO hbs;obtain⟨i,hi,rfl,hO,hB,T3,hbs⟩:=hrel;obtain⟨c1,c2,c3,c4,c5,c6⟩:=T3.three;by_cases hlt:i<C
  ·go_wp2_with fail
   refine(zB9 0 wr dE dE).mono ?_;rintro e1 w1 ⟨rv,rfl,⟨s5,a5,l5,k5,s6,a6,l6,k6,rfl,i5,i6⟩,hb1⟩;have T3:=T3.below hb1;have hB:=nx hB hb1;have hO:=hO.below hb1;have I:jN w1 (.agg #[.bool s5,.slice a5 l5 k5,.bool s6,.slice a6 l6 k6]) 0:=⟨_,_,_,_,_,_,_,_,rfl,i5,i6⟩;have HI:=xgv I;clear i5 i6 I c1 c2 c3 c4 c5 c6;go_upto_region 6 with(fail)
   refine zB ?_;intro W2 hW2;have hb2:Below w1.heap.size w1 W2:=by rw[hW2.out];exact(Below.refl _ _).alloc (xgf _) _
   have T7:Blk W2 w1.heap.size tQ #[.bool s5,.slice a5 l5 k5,.bool s6,.slice a6 l6 k6]:=by rw[hW2.out];exact Blk.new _ _ _
   have HI:=xgv (HI.out.below hb2);have hlt7:w.heap.size<w1.heap.size:=by have:=hB.size;have:=T3.lt;omega
   have hbs1:base<=w1.heap.size:=by have:=hb1.size;omega
   have HO:=xgv hO;have HB:=xgv hB;have HT:=xgv T3;clear hW2 hO hB T3;go_wp2;go_loopw [8] (fun jv wr=>∃j:Nat,j<=m/\jv= .int .i64 j/\Below w1.heap.size w1 wr/\∃(y1 y3:Bool) (y2 y4:Option Addr) (l2 c2 l4 c4:Nat),Blk wr w1.heap.size tQ #[.bool y1,.slice y2 l2 c2,.bool y3,.slice y4 l4 c4]/\qE (jN wr (.agg #[.bool y1,.slice y2 l2 c2,.bool y3,.slice y4 l4 c4]) (jK j fun t=>q t*(ent M t i:Rat)))) (fun jv _=>m-(intOf jv).toNat)
   case atStart=>exact⟨0,by omega,rfl,hb2,_,_,_,_,_,_,_,_,T7,HI⟩
   case round=>
    clear hb2 T7 HI;obtain⟨j,hj,rfl,hb,y1,y3,y2,y4,l2,c2,l4,c4,T7,HI⟩:=hrel;have T3:=HT.out.below hb;obtain⟨c1,x2,c3,x4,x5,x6⟩:=T3.three;have lt7:=T7.lt;by_cases hjm:j<m
    ·have hB:=nx HB.out hb
     obtain⟨by_,s,o,l,c,s',o',l',c',rfl,hby,e1,e2,e3,e4,hrat⟩:=zGH (HY.out.below hB) hjm;obtain⟨bm,ra,rn,rc,zs,rfl,hbm,hz,p1,hrv⟩:=(HR.out.below hB).row (k:=j) (by rw[HF.out.1];exact hjm);obtain rfl:=HF.out.row_eq hz;obtain⟨bv,z,s1,o1,n1,k1,rfl,hbv,hzz,d1,d2,hv⟩:=hrv.cell (k:=i) (by rw[zD];exact hlt);have hrn:=hrv.len;rw[zP hlt]at hzz;injection hzz with hzz
     subst hzz;rw[zD]at hrn;have hrn1:=hrn.1;subst hrn1;have HXI:=xgv hv;have HQI:=xgv hrat;have HBX:=xgv (HMB.out j hjm i hlt);have HBQ:=xgv (HQS.out j hjm);have HSB:=xgv (HQ.dotR (n:=j) (x:=fun t=>ent M t i) (fun t ht=>HMB.out t oM i hlt) hh (fun t ht=>HQS.out t oM));have HSE:=xgv (HE.out j oM);obtain⟨SS,hSS⟩:∃SS,(jK j fun t=>q t*(ent M t i:Rat))=SS:=⟨_,rfl⟩;rw[hSS]at HI HSB;obtain⟨xi,hxi⟩:∃xi,ent M j i=xi:=⟨_,rfl⟩;obtain⟨qi,hqi⟩:∃qi,q j=qi:=⟨_,rfl⟩;have HNX:qE ((jK (j+1) fun t=>q t*(ent M t i:Rat))=SS+qi*(xi:Rat)):=⟨by rw[<-hSS,<-hxi,<-hqi];rfl⟩;rw[hxi]at HXI HBX;rw[hqi]at HQI HBQ;obtain⟨r1,r2,r3,r4,r5,r6,r7,r8⟩:=T7.four;have hl1:=qY (xi:Rat);have hl2:=qY (qi*(xi:Rat));have hl3:=qY (SS+qi*(xi:Rat));clear hv hrat hSS hxi hqi hz hrv hrn;go_upto_region 9 with(fail)
     refine zC 16 rfl (RV wr _ [E 0 23 (.agg #[.bool y1,.slice y2 l2 c2,.bool y3,.slice y4 l4 c4]),VSl 1 24 by_ m yc,VN 2 25 j,VP 3 26 by_ (j*4),E 4 27 (.agg #[.bool s,.slice o l c,.bool s',.slice o' l' c']),VP 5 28 w.heap.size 2,VSl 6 29 bm m acap,VN 7 30 j,VP 8 31 bm j,VSl 9 32 bv C rc,VN 10 33 i,VP 11 34 bv (i*2),E 12 35 (.agg #[.bool s1,.slice o1 n1 k1]),⟨13,36,fun w v=>jN w v (xi:Rat)⟩,⟨14,37,fun w v=>jN w v (qi*(xi:Rat))⟩,⟨15,38,fun w v=>jN w v (SS+qi*(xi:Rat))⟩]) kR RV.start (RV.fin kR ?fin1) ?steps1
     case steps1=>
      (repeat' constructor)<;>(intro L T wS hL hd hcl hI K hK;try refine zA rfl ?_)
      ·have zt:=hI.k 7 rfl kR
       have cc0:=hI.cell r1;have cc1:=hI.cell r2;have cc2:=hI.cell r3;have cc3:=hI.cell r4;exact xgu
      ·exact xgs (hI.k 0 rfl kR)
      ·exact xgs (hI.k 8 rfl kR)
      ·exact xgt (hI.e mm1 (hd 1)) (hI.e mm2 (hd 2))
      ·have zt3:=hI.e mm3 (hd 3)
       have cc0:=hI.cell e1;have cc1:=hI.cell e2;have cc2:=hI.cell e3;have cc3:=hI.cell e4;exact xgu
      ·exact xgs (hI.k 3 rfl kR)
      ·have zt5:=hI.e mm5 (hd 5)
       have cc0:=hI.cell c3;exact xgu
      ·exact xgs (hI.k 8 rfl kR)
      ·exact xgt (hI.e mm6 (hd 6)) (hI.e mm7 (hd 7))
      ·have zt8:=hI.e mm8 (hd 8)
       have cc0:=hI.cell p1;exact xgu
      ·exact xgs (hI.k 6 rfl kR)
      ·exact xgt (hI.e mm9 (hd 9)) (hI.e zAB (hd 10))
      ·have zt11:=hI.e zAG (hd 11)
       have cc0:=hI.cell d1;have cc1:=hI.cell d2;exact xgu
      ·have zt12:=hI.e zAs (hd 12)
       go_simp;refine(zCp _ xi _ (HXI.out.ext (lx hI.bel))).mono ?_;rintro e wa ⟨v,rfl,hv,hba⟩;exact hK _ _ ((hI.world hba).y zCS hv)
      ·have zt4:=hI.e mm4 (hd 4)
       obtain⟨v13,zt13,h13⟩:=hI.v zCS (hd 13);go_simp;refine(zHC (a:=e) (b:=h) _ _ qi _ _ (HQI.out.below hI.bel) h13 HBQ.out (HQ.int HBX.out hh) oM).mono ?_;rintro e wa ⟨v,rfl,hv,hba⟩;exact hK _ _ ((hI.world hba).y zBq hv)
      ·have zt0:=hI.e mm0 (hd 0)
       obtain⟨v14,zt14,h14⟩:=hI.v zBq (hd 14);go_simp;refine(zHB _ _ SS _ _ (HI.out.below hI.bel) h14 HSB.out (HQ.mul HBQ.out (HQ.int HBX.out hh)) (by have:=HSE.out;omega)).mono ?_;rintro e wa ⟨v,rfl,hv,hba⟩;exact hK _ _ ((hI.world hba).y zCV hv)
     intro w2 hbw2 T hT;simp only[Fin,E,EI,VP,VSl,VN,xgg,xgh,xgi,xgj]at hT;obtain⟨va13,ha13,va14,ha14,va15,ha15,rfl⟩:=hT;simp only[xgl,xgk];obtain⟨s5,a5,l5,k5,s6,a6,l6,k6,rfl,i5,i6⟩:=(show jN _ _ _ from ha15);have I:jN w2 (.agg #[.bool s5,.slice a5 l5 k5,.bool s6,.slice a6 l6 k6]) (SS+qi*(xi:Rat)):=⟨_,_,_,_,_,_,_,_,rfl,i5,i6⟩;have HI2:=xgv I;have T7:=T7.below hbw2;have hb:=nx hb hbw2;clear i5 i6 I r1 r2 r3 r4 r5 r6 r7 r8 d1 d2 e1 e2 e3 e4 ha13 ha14 c1 x2 c3 x4 x5 x6 p1 hB;obtain⟨r1,r2,r3,r4,r5,r6,r7,r8⟩:=T7.four;go_wp2;go_roundw
     case rel=>exact⟨j+1,by omega,by simp,jB hb (xgf _) 0 _ _ _ _,_,_,_,_,_,_,_,_,T7.put4 _ _ _ _,⟨by rw[HNX.out];exact HI2.out.ext (T7.lext4 dE 0 _ _ _ _)⟩⟩
     case measure=>simp[intOf];omega
    ·obtain rfl:j=m:=by omega
     have hO:=HO.out.below hb;have hB:=nx HB.out hb;have hgl:(zAC i fun i=>prQ (jK j fun t=>q t*(ent M t i:Rat))).length=i:=qG _ _;have hsb:=hb.size;have HI:=xgv (HI.out.below ((Below.refl _ _).alloc (xgf _) (.cells #[.bool y1,.slice y2 l2 c2,.bool y3,.slice y4 l4 c4] tQ)));obtain⟨r1,r2,r3,r4,r5,r6,r7,r8⟩:=T7.four;obtain⟨z1,z2,z3,z4,z5,z6,z7,z8,zz,i5,i6⟩:=HI.out;simp only[Value.agg.injEq,Array.mk.injEq,List.cons.injEq,Value.bool.injEq,Value.slice.injEq,and_true]at zz;obtain⟨rfl,⟨rfl,rfl,rfl⟩,rfl,⟨rfl,rfl,rfl⟩⟩:=zz;have I5:=xgv i5;have I6:=xgv i6;clear i5 i6 x2 c3;go_wp2_with (at_builtin;go_loud (refine zQF rfl _ _ rfl base u5 (zAC i fun i=>prQ (jK j fun t=>q t*(ent M t i:Rat))) rfl (hO.below ((Below.refl _ _).alloc (xgf _) _)) wr.heap.size 1 _ _ _ _ _ _ _ _ (prQ (jK j fun t=>q t*(ent M t i:Rat))) rfl (Blk.new _ _ _) I5.out I6.out (by rw[hgl];omega) (by simp;omega) ?_;intro v' w' hown hgr hxg))
     have hgr:World.grownBy (wr.alloc (.cells #[.bool y1,.slice y2 l2 c2,.bool y3,.slice y4 l4 c4] tQ)) w' u5.ownBlock:=hgr;have hT3:Blk wr w.heap.size 28 #[.int .i64 j,.int .i64 C,.slice ao j acap]:=T3;have hB9:Below w.heap.size w w':=(hB.alloc hB.size _).grown hgr (by have:=hB.size;simp;omega) (fun g hg=>by have:=hO.own g hg;omega);have hgs:=hgr.size;simp at hgs;go_roundw
     case rel=>exact⟨i+1,by omega,by simp,by rw[zKp];exact hown,hB9,(hgr.block _ (by have:=hT3.lt;simp;omega) (fun e=>by have:=hO.own _ e.symm;omega)).trans (hT3.alloc _),by omega⟩
     case measure=>simp[intOf];omega
  ·obtain rfl:i=C:=by omega
   go_wp2;go_ret;exact⟨_,rfl,hO.prs,hB⟩
theorem zHD(v:Value)(R C:Nat)(M:List (List Int))(w:World)(h:jE w v R C M)(hF:jT R C M)(hR:R<=1000000)(hC:C<=1000000):
  Calls Tryz.prog 89 #[v] w fun e w'=>∃v,e= .returned v/\jE w' v C R (zY C R (fun a b=>ent M b a))/\Below w.heap.size w w':=
 (zEn v R C M w h hF hR hC).mono fun e w' ⟨v,bs,h,hm,hb⟩=>⟨v,h,hm.mat.1,hb⟩
theorem zJp{e h:Nat}(mv yv:Value)(R C:Nat)(M:List (List Int))(q:Nat->Rat)(w:World)(hm:jE w mv R C M)(hy:jY w yv (zAC C fun t=>prQ (q t)))(hF:jT R C M)(hM:∀a,a<R->∀b,b<C->(ent M a b).natAbs<2^h)(hh:1<=h)(hq:∀j,j<C->HQ e (q j))(hR:R<=1000)(hC:C<=1000)(he:e+h+1<=900):
  Calls Tryz.prog 77 #[mv,yv] w fun e w'=>∃u,e= .returned u/\jY w' u (zAC R fun i=>prQ (zBU C (ent M i) q))/\Below w.heap.size w w':=by
 have HM:=xgv hm;obtain⟨Av,rfl,hrw⟩:=id hm;obtain⟨ao,mn,acap,rfl,e2,e3,e4,-⟩:=id hrw;have HF:=xgv hF;have HY:=xgv hy;have HQS:=xgv hq;have HTB:qE (∀a,a<C->∀b,b<R->(ent (zY C R fun a b=>ent M b a) a b).natAbs<2^h):=⟨fun a ha b hb=>by rw[yX ha hb];exact hM b hb a ha⟩;have HEQ:qE ((zAC R fun i=>prQ (jK C fun t=>q t*(ent (zY C R fun a b=>ent M b a) t i:Rat)))=zAC R fun i=>prQ (zBU C (ent M i) q)):=⟨zAf fun i hi=>by
  unfold zBU;rw[qI fun t ht=>by rw[yX ht hi,Rat.mul_comm]]⟩
 obtain⟨yo,yn,yc,rfl,g2,g3,g4,-⟩:=id hy;clear hrw hy hF hm hM hq e2 g2;go_enter Tryz.func77,Tryz.ntmps77;go_upto_region 1 with(fail)
 refine zB ?_;intro W0 hW0;obtain⟨hB0,T2,hs0⟩:=zK hW0;obtain⟨c1,c2,c3,c4,c5,c6⟩:=T2.three;clear hW0;go_wp2_with fail
 refine(zHD _ R C M W0 (HM.out.below hB0) HF.out oM oM).mono ?_;rintro e1 w1 ⟨tv,rfl,ht,hb1⟩;have HT:=xgv ht;clear ht;go_wp2_with fail
 refine(zLU (e:=e) (h:=h) _ tv C R (zY C R fun a b=>ent M b a) q w1 (HY.out.below (nx hB0 hb1)) HT.out (zAm _ _ _) HTB.out hh HQS.out hC hR he).mono ?_;rintro e2 w2 ⟨u,rfl,hu,hb2⟩;rw[HEQ.out]at hu;have HU:=xgv hu;clear hu;go_wp2;go_ret;exact⟨_,rfl,HU.out,nx (nx hB0 hb1) hb2⟩
def zRY(q r:List Int):World->Value->Prop:=fun w v=>∃qv rv,v= .tuple #[qv,rv,.int .i64 0]/\qN w qv q/\qN w rv r
def zRb(xs:List Int):World->Value->Prop:=fun w v=>∃b rv,v= .pointer (some ⟨b,0,none⟩)/\b<w.heap.size/\w.cell? ⟨b,0,none⟩=some rv/\qN w rv xs
def zQ0:World->Value->Prop:=fun w v=>∃H U V,zHb w v 0 3 H U V/\zP4 0 3 [] H U V
theorem nxd{W W':World}{o:Obj}(h:Below (W.alloc o).heap.size (W.alloc o) W'):Below W.heap.size W W':=nxa (Below.refl _ _) h
abbrev zRF:=fun{α:Type}{a b c d e f g h i j k L m n o p q r s t u v w X y z a1 b1 c1 d1 e1 f1 g1 h1 i1 j1 k1 l1 m1 n1 o1 x:α}{l:List α}=>List.Mem.tail a (@zPC α b c d e f g h i j k L m n o p q r s t u v w X y z a1 b1 c1 d1 e1 f1 g1 h1 i1 j1 k1 l1 m1 n1 o1 x l)
theorem zDU(a b c:Value)(W:World):(Instr.field 28 (.agg #[a,b,c]) 2).run Tryz.prog W= .ok c W:=by kernel_rfl
theorem zJ7(v:Value)(n:Nat)(ls:List Int)(w:World)(h:I8V w v ls)(hn:n<=16):
  Calls Tryz.prog 16 #[v,.int .i64 n] w fun e w'=>∃u,e= .returned u/\qN w' u (zM n (zHZ n ls 0))/\Below w.heap.size w w':=by
 obtain⟨ao,m,cap,rfl,-⟩:=id h;go_enter Tryz.func16,Tryz.ntmps16;go_wp2_with fail
 refine(zFR _ 1 n ls w h oM hn).mono ?_;rintro e w1 ⟨u,bs,rfl,⟨hbl,A2,rfl,ho⟩,hb1⟩;have hr:=ho.rows;obtain⟨oo,on,oc,rfl,o2,o3,o4,-⟩:=id hr;obtain⟨b,ra,rn,rc,zs,rfl,hbl2,hz,p1,hrv⟩:=hr.row (k:=0) (by simp[zY]);have hF:jT 1 n (zY 1 n (zHZ n ls)):=zAm _ _ _;obtain rfl:=hF.row_eq hz;have hon:on=1:=by rw[<-o2];simp[zY]
 subst hon;have he:zM n (ent (zY 1 n (zHZ n ls)) 0)=zM n (zHZ n ls 0):=zQ fun t ht=>yX oM ht
 rw[he]at hrv;clear ho hr hz hF o2 he;have hfl:=zDU;go_wp2;go_ret;exact⟨_,rfl,hrv,hb1⟩
theorem zOz(v:Value)(C:Nat)(x:Nat->Int)(w:World)(h:qN w v (zM C x)):
  Calls Tryz.prog 23 #[v] w fun e w'=>∃u,e= .returned u/\jE w' u 1 C [zM C x]/\Below w.heap.size w w':=by
 obtain⟨ao,m,cap,rfl,h2,h3,h4,-⟩:=id h;rw[zD]at h2;subst h2;have HX:=xgv h;clear h;go_enter Tryz.func23,Tryz.ntmps23;go_upto_region 1 with(fail)
 refine zB ?_;intro W0 hW0;obtain⟨hb0,br,hs0⟩:=zK hW0;clear hW0;obtain⟨r1,r2,r3,r4,r5,r6⟩:=br.three;go_wp2;refine yE rfl rfl rfl ((br.put3 _ _ _).alloc _) ⟨_,rfl,?_,?_⟩
 ·have hV:qN ((((W0.setCell ⟨w.heap.size,0,none⟩ (.int .i64 1)).setCell ⟨w.heap.size,1,none⟩ (.int .i64 C)).setCell ⟨w.heap.size,2,none⟩ (.slice (some ⟨W0.heap.size,0,none⟩) 1 1)).alloc (.cells #[.slice ao C cap] 30)) (.slice ao C cap) (zM C x):=
   HX.out.below ((zO (zO (zO hb0 (xgf _) 0 _) (xgf _) 1 _) (xgf _) 2 _).alloc (by simp;omega) _)
  have hblk:=Blk.new (((W0.setCell ⟨w.heap.size,0,none⟩ (.int .i64 1)).setCell ⟨w.heap.size,1,none⟩ (.int .i64 C)).setCell ⟨w.heap.size,2,none⟩ (.slice (some ⟨W0.heap.size,0,none⟩) 1 1)) 30 #[.slice ao C cap];rw[show((((W0.setCell ⟨w.heap.size,0,none⟩ (.int .i64 1)).setCell ⟨w.heap.size,1,none⟩ (.int .i64 C)).setCell ⟨w.heap.size,2,none⟩ (.slice (some ⟨W0.heap.size,0,none⟩) 1 1))).heap.size=W0.heap.size by simp]at hblk;refine⟨_,rfl,_,1,1,rfl,rfl,xgf _,by omega,fun _=>⟨W0.heap.size,#[.slice ao C cap],rfl,hblk,fun k zs hk=>?_⟩⟩;have hk0:k=0:=by
   have:=(xge.1 hk).1;simp at this;omega
  subst hk0;simp at hk;subst hk;exact⟨_,rfl,hV⟩
 ·exact(zO (zO (zO hb0 (xgf _) 0 _) (xgf _) 1 _) (xgf _) 2 _).alloc (by simp;omega) _
theorem zIK{fn:Func}{a b:Tmp}(h:fn.results=#[.tmp a,.tmp b])(tmps:Array Value)(P:Program)(W:World):(results fn tmps).run P W= .ok (.tuple #[tmps.getD a undef,tmps.getD b undef]) W:=by
 simp[results,h]
theorem zIE(vv hv:Value)(R C:Nat)(M:List (List Int))(x:Nat->Int)(w:World)(hx:qN w vv (zM R x))(h:jE w hv R C M)(hF:jT R C M)(hR:R<=1000000)(hC:C<=1000000)(hS:zCd [zM R x] M 1 R C):
  Calls Tryz.prog 86 #[vv,hv] w fun e w'=>∃u,e= .returned (.tuple #[u,.int .i64 0])/\qN w' u (zM C (zC6 [zM R x] M R 0))/\Below w.heap.size w w':=by
 have h0:=h;obtain⟨A,rfl,h⟩:=h;obtain⟨mo,mn,mc,rfl,-⟩:=id h;obtain⟨ao,m,cap,rfl,h2,h3,h4,-⟩:=id hx;rw[zD]at h2;subst h2;have HF:=xgv hF;have HS:=xgv hS;have H0:=xgv h0;have HX:=xgv hx;clear hF hS h0 hx h;go_enter Tryz.func86,Tryz.ntmps86;go_upto_region 1 with(fail)
 refine zB ?_;intro W0 hW0;obtain⟨hb0,br,hs0⟩:=zK hW0;obtain⟨r1,r2,r3,r4,r5,r6⟩:=br.three;have hM:=H0.out.below hb0;have hX:=HX.out.below hb0;have hl1:qK (fun w v=>jE w v 1 R [zM R x]):=fun _ _ _ e h=>h.below e
 have hl2:qK (fun w v=>jE w v 1 C (zY 1 C (zC6 [zM R x] M R))):=fun _ _ _ e h=>h.below e
 have hFr:qE (jT 1 R [zM R x]):=⟨rfl,fun r hr=>by simp at hr;subst hr;exact zD _ _⟩;have hlt:=br.lt;clear hW0;go_upto_region 3 with(fail)
 refine zC 4 rfl (RV W0 _ [E 0 11 (.slice ao R cap),⟨1,12,fun w v=>jE w v 1 R [zM R x]⟩,E 2 13 (.agg #[.int .i64 R,.int .i64 C,.slice mo mn mc]),⟨3,14,fun w v=>jE w v 1 C (zY 1 C (zC6 [zM R x] M R))⟩]) kR RV.start (RV.fin kR ?fin1) ?steps1
 case steps1=>
  (repeat' constructor)<;>(intro L T wS hL hd hcl hI K hK;try refine zA rfl ?_)
  ·exact xgs (hI.k 0 rfl kR)
  ·have zt0:=hI.e mm0 (hd 0)
   go_simp;refine(zOz _ R x _ (hX.below hI.bel)).mono ?_;rintro e wa ⟨v,rfl,hv,hba⟩;exact hK _ _ ((hI.world hba).y mm1 hv)
  ·have zt:=hI.k 3 rfl kR
   have cc0:=hI.cell r1;have cc1:=hI.cell r2;have cc2:=hI.cell r3;exact xgu
  ·obtain⟨v1,zt1,h1⟩:=hI.v mm1 (hd 1)
   have zt2:=hI.e mm2 (hd 2);go_simp;refine(zJo _ _ 1 R C [zM R x] M _ h1 (hM.below hI.bel) hFr.out HF.out oM hR hC HS.out).mono ?_;rintro e wa ⟨v,rfl,hv,hba⟩;exact hK _ _ ((hI.world hba).y mm3 hv)
 intro w3 hbw3 T hT;simp only[Fin,E,EI,VP,VSl,VN,xgg,xgh,xgi,xgj]at hT;obtain⟨va1,ha1,va3,ha3,rfl⟩:=hT;simp only[xgl,xgk];obtain⟨A2,rfl,hr2⟩:jE w3 va3 1 C (zY 1 C (zC6 [zM R x] M R)):=ha3;obtain⟨oo,on,oc,rfl,o2,o3,o4,-⟩:=id hr2;obtain⟨b,ra,rn,rc,zs,rfl,hbl2,hz,p1,hrv⟩:=hr2.row (k:=0) (by simp[zY]);have hF2:jT 1 C (zY 1 C (zC6 [zM R x] M R)):=zAm _ _ _;obtain rfl:=hF2.row_eq hz;have hon:on=1:=by rw[<-o2];simp[zY]
 subst hon;have he:zM C (ent (zY 1 C (zC6 [zM R x] M R)) 0)=zM C (zC6 [zM R x] M R 0):=zQ fun t ht=>yX oM ht
 rw[he]at hrv;have hfl:=zDU;have hB:=nx hb0 hbw3;clear hr2 hz hF2 o2 he ha1 r1 r2 r3 r4 r5 r6 hl1 hl2;go_wp2;refine bodyPost_ret (zIK rfl _ _ _) rfl ?_;exact⟨_,rfl,hrv,hB⟩
theorem zN4(vv hv:Value)(R C:Nat)(M:List (List Int))(x:Nat->Int)(w:World)(hx:qN w vv (zM R x))(h:jE w hv R C M)(hF:jT R C M)(hR:R<=1000000)(hC:C<=1000000)(hS:zCd [zM R x] M 1 R C):
  Calls Tryz.prog 21 #[vv,hv] w fun e w'=>∃u,e= .returned u/\qN w' u (zM C (zC6 [zM R x] M R 0))/\Below w.heap.size w w':=by
 have h0:=h;obtain⟨A,rfl,h⟩:=h;obtain⟨mo,mn,mc,rfl,-⟩:=id h;obtain⟨ao,m,cap,rfl,-,-,-,-⟩:=id hx;have HF:=xgv hF;have HS:=xgv hS;have H0:=xgv h0;have HX:=xgv hx;clear hF hS h0 hx h;go_enter Tryz.func21,Tryz.ntmps21;go_upto_region 1 with(fail)
 refine zB ?_;intro W0 hW0;obtain⟨hb0,br,hs0⟩:=zK hW0;obtain⟨r1,r2,r3,r4,r5,r6⟩:=br.three;clear hW0;go_wp2_with fail
 refine(zIE _ _ R C M x W0 (HX.out.below hb0) (H0.out.below hb0) HF.out hR hC HS.out).mono ?_;rintro e w1 ⟨u,rfl,hu,hb1⟩;have hB:=nx hb0 hb1;go_wp2;go_ret;exact⟨_,rfl,hu,hB⟩
def zEx(R C:Nat)(A:Nat->Nat->Int)(y:Nat->Int)(xs:List Int)(k:Nat):Bool:=decide (xs.length=R) && decide (k=0) && decide (zM C (fun j=>qF R fun i=>xs.getD i 0*A i j)=zM C y)
def rqL(ps:List (Int × Int))(t:Nat):Rat:=Rat.divInt (ps.getD t (0,1)).1 (ps.getD t (0,1)).2
def zE2(R C:Nat)(A:Nat->Nat->Int)(y:Nat->Int)(k:Nat)(ps:List (Int × Int)):Bool:=decide (k=0) && (decide (ps.length=C) && zC3 ps) && ((List.range R).all fun i=>isZ (zBU C (A i) (rqL ps))) && !isZ (zBU C y (rqL ps))
theorem zGu(xs:List Int):zM xs.length (fun i=>xs.getD i 0)=xs:=by
 refine List.ext_getElem (by simp[zM]) fun j h1 h2=>?_
 simp[zM,xgb,h2]
theorem zIn{ps:List (Int × Int)}(h:zC3 ps=true):ps=zAC ps.length fun t=>prQ (rqL ps t):=by
 refine List.ext_getElem (by simp[zAC]) fun j h1 h2=>?_
 have h3:=List.all_eq_true.1 h ps[j] (List.getElem_mem _);unfold zGV at h3;rw[decide_eq_true_eq]at h3;obtain⟨e1,e2⟩:=zMy h3.1 h3.2;simp only[zAC,List.getElem_map,List.getElem_range,prQ,rqL,xgb,xga h1,Option.getD_some,e1,e2]
theorem zNt{e:Nat}{ps:List (Int × Int)}(h:zC3 ps=true)(hq:∀p∈ps,p.1.natAbs<2^e/\p.2.natAbs<2^e){t:Nat}(ht:t<ps.length):HQ e (rqL ps t):=by
 have hm:=List.getElem_mem ht;have h3:=List.all_eq_true.1 h _ hm;unfold zGV at h3;rw[decide_eq_true_eq]at h3;have h4:=hq _ hm;unfold rqL;rw[xgb,xga ht];exact .divInt h4.1 h4.2 (by have:=h3.1;simp only[Option.getD_some];omega)
theorem zI5(v:Value)(R C:Nat)(M:List (List Int))(w:World)(h:jE w v R C M)(hF:jT R C M):Calls Tryz.prog 74 #[v] w fun e w'=>e= .returned (.bool true)/\Below w.heap.size w w':=
 (zEo v R C M w h).mono fun e w' h=>⟨by rw[h.1,decide_eq_true hF.valid],h.2⟩
theorem zCZ(mv bv xv yv:Value)(R C:Nat)(M:List (List Int))(y:Nat->Int)(xs:List Int)(ps:List (Int × Int))(w:World)(hm:jE w mv R C M)(hF:jT R C M)(hb:qN w bv (zM C y))(hx:qN w xv xs)(hp:jY w yv ps)(hR:R<=1000)(hC:C<=1000)(hS:zCd [zM R fun i=>xs.getD i 0] M 1 R C):
  Calls Tryz.prog 19 #[mv,bv,.agg #[.bool true,xv,yv]] w fun e w'=>∃u,e= .returned u/\u= .bool (zEx R C (ent M) y xs ps.length)/\Below w.heap.size w w':=by
 have HM:=xgv hm;obtain⟨Av,rfl,hrw⟩:=id hm;obtain⟨ao,mn,acap,rfl,e2,e3,e4,-⟩:=id hrw;obtain rfl:R=mn:=by rw[<-e2,hF.1]
 have HF:=xgv hF;have HB:=xgv hb;have HX:=xgv hx;have HP:=xgv hp;have HS:=xgv hS;obtain⟨bo,bn,bc,rfl,f2,f3,f4,-⟩:=id hb;obtain rfl:C=bn:=by rw[<-f2,zD]
 obtain⟨xo,xn,xc,rfl,g2,g3,g4,-⟩:=id hx;obtain⟨yo,yn,yc,rfl,k2,k3,k4,-⟩:=id hp;have HXN:=xgv g2;have HEQ:qE (xs.length=R->zM C (zC6 [zM R fun i=>xs.getD i 0] M R 0)=zM C (fun j=>qF R fun i=>xs.getD i 0*ent M i j)):=⟨fun hl=>zQ fun j hj=>by
  unfold zC6;rw[zDk];exact zS fun i hi=>by rw[zBE rfl (zP hi)]⟩
 obtain⟨ans,hans⟩:∃ans,zEx R C (ent M) y xs ps.length=ans:=⟨_,rfl⟩;rw[hans];have HA:=xgv hans;have HYN:=xgv k2;clear hrw hF hm hb hx hp hS e2 f2 g2 k2 hans;go_enter Tryz.func19,Tryz.ntmps19;go_upto_region 1 with(fail)
 refine zB ?_;intro W0 hW0;obtain⟨hB0,T3,T5,hs0⟩:=qH hW0;obtain⟨c1,c2,c3,c4,c5,c6⟩:=T3.three;clear hW0;go_wp2_with fail
 refine(zI5 _ R C M W0 (HM.out.below hB0) HF.out).mono ?_;rintro e1 w1 ⟨rfl,hb1⟩;have T3:=T3.below hb1;have T5:=T5.below hb1;have hB:=nx hB0 hb1;clear c1 c2 c3 c4 c5 c6;go_wp2_with fail
 refine(zAq _ _ w1 (HB.out.below hB)).mono ?_;rintro e2 w2 ⟨rfl,hb2⟩;have T3:=T3.below hb2;have T5:=T5.below hb2;have hB:=nx hB hb2;obtain⟨c1,c2,c3,c4,c5,c6⟩:=T3.three;obtain⟨d1,d2,d3,d4,d5,d6⟩:=T5.three;by_cases hxl:(xn:Int)=(R:Int)
 ·obtain rfl:xn=R:=by omega
  go_wp2_with fail
  refine(zAq _ _ w2 (HX.out.below hB)).mono ?_;rintro e3 w3 ⟨rfl,hb3⟩;have T3:=T3.below hb3;have T5:=T5.below hb3;have hB:=nx hB hb3;clear c1 c2 c3 c4 c5 c6 d1 d2 d3 d4 d5 d6;obtain⟨c1,c2,c3,c4,c5,c6⟩:=T3.three;obtain⟨d1,d2,d3,d4,d5,d6⟩:=T5.three;by_cases hyl:(yn:Int)=0
  ·obtain rfl:yn=0:=by omega
   have hxv:qN w3 (.slice xo xn xc) (zM xn fun i=>xs.getD i 0):=by
    have:=zGu xs;rw[HXN.out]at this;rw[this];exact HX.out.below hB
   have HXV:=xgv hxv;clear hxv;go_wp2_with fail
   refine(zN4 _ _ xn C M _ w3 HXV.out (HM.out.below hB) HF.out oM oM HS.out).mono ?_;rintro e4 w4 ⟨u,rfl,hu,hb4⟩;rw[HEQ.out HXN.out]at hu;have hB:=nx hB hb4;have HU:=xgv hu;clear hu;go_wp2_with fail
   refine(zCr _ _ _ _ w4 HU.out (HB.out.below hB)).mono ?_;rintro e5 w5 ⟨rfl,hb5⟩;go_wp2;go_ret;refine⟨_,rfl,?_,nx hB hb5⟩;rw[<-HA.out];unfold zEx;rw[HXN.out,HYN.out];simp
  ·go_wp2
   go_ret;refine⟨_,rfl,?_,hB⟩;rw[<-HA.out];unfold zEx;rw[HXN.out,HYN.out,decide_eq_false (show ¬ yn=0 by omega)];simp
 ·go_wp2
  go_ret;refine⟨_,rfl,?_,hB⟩;rw[<-HA.out];unfold zEx;rw[HXN.out,decide_eq_false (show ¬ xn=R by omega)];simp
end Go.Proofs.YtnbmaipobhppcaaGreat
