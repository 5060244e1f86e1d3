/- hermite.Reduce. smith's run (the mirror) ends, within bounds, in a diagonal. Plain Lean. -/
import Derived.Test.YtgnmdddaiefooaaGreatF25
import Derived.Test.YtgnmdddaiefooaaGreatF33
import Derived.Test.YtgnmdddaiefooaaGreatF35
import Derived.Test.YtgnmdddaiefooaaGreatF37
set_option linter.unusedVariables false
set_option linter.unusedSimpArgs false
set_option linter.unusedSectionVars false
set_option maxHeartbeats 16000000
set_option maxRecDepth 100000
namespace Go.Proofs.YtgnmdddaiefooaaGreat
open Go.RowKit
def quo(C:Nat)(F:Nat->Nat->Int)(r:Nat->Int)(i:Nat):Int:=if lead C F i<0 then 0 else r (lead C F i).toNat/F i (lead C F i).toNat
def zF4(C:Nat)(F:Nat->Nat->Int)(x:Nat->Int):Nat->Nat->Int
 |0=>x
 |i+1=>fun t=>zF4 C F x i t+-(quo C F (zF4 C F x i) i)*F i t
def zF3(C:Nat)(F:Nat->Nat->Int)(x:Nat->Int)(i:Nat):Int:=quo C F (zF4 C F x i) i
structure zNx(B R C:Nat)(F:Nat->Nat->Int)(x:Nat->Int):Prop where
 mat:okF B R C F
 rest:∀i,i<=R->∀t,t<C->(zF4 C F x i t).natAbs<B
 quot:∀i,i<R->(zF3 C F x i).natAbs<B/\∀t,t<C->(-(zF3 C F x i)*F i t).natAbs<B
theorem mkV(m:Int)(n:Nat)(hm:m=n)(h:n<=1099511627776)(W:World):
  (Instr.makeSlice 38 (.int .i64 m) (.int .i64 m)).run Tryz.prog W= .ok (.slice (some ⟨W.heap.size,0,none⟩) n n) (W.alloc (.cells (zeroCells n) tI)):=by
 subst hm;obtain⟨i0,hi,hz0,hz1,hz2⟩:=info_parts Tryz.infoI;have:=jW (P:=Tryz.prog) 38 tI i0 _ Tryz.underlying38 hi hz0 .i64 .i64 n n (xgf _) (by rw[hz2];omega) oM W;rw[this,hz1];rfl
def zKy(lo n:Nat):World->Value->Prop:=fun w v=>∃b,v= .slice (some ⟨b,0,none⟩) n n/\lo<=b/\zZ w b (zU n fun _=>0)
theorem zDU(lo n:Nat):qQ (zKy lo n):=fun _ _ _ hb ⟨b,h1,h2,h3⟩=>⟨b,h1,h2,h3.below hb⟩
theorem zHI{w:World}{lo n:Nat}(hlo:lo<=w.heap.size):zKy lo n (w.alloc (.cells (zeroCells n) tI)) (.slice (some ⟨w.heap.size,0,none⟩) n n):=
 ⟨_,rfl,hlo,by
  have h:=zCJ w n
  rwa[show List.replicate n (0:Int)=zU n fun _=>0 from List.ext_getElem (by simp[zU]) fun i h1 h2=>by simp[zU]]at h⟩
def zNh(u v:Value):Prop:=∀a b n m c d,u= .slice (some ⟨a,0,none⟩) n c->v= .slice (some ⟨b,0,none⟩) m d->a≠b
theorem zHX(a b:Int):qQ (DMV a b):=fun _ _ _ x ⟨q,r,h1,h2,h3⟩=>⟨q,r,h1,h2.ext (lx x),h3.ext (lx x)⟩
def zMC(a b:Nat)(T:Array Value)(w:World):World:=
 match T[a]?,T[b]? with
 |some (.pointer (some ⟨g,o,none⟩)),some (.agg #[x,y])=>(w.setCell ⟨g,o,none⟩ x).setCell ⟨g,o+1,none⟩ y
 |_,_=>w
theorem zJG{a b g o:Nat}{T:Array Value}{w:World}{x y:Value}(h1:T[a]?=some (.pointer (some ⟨g,o,none⟩)))(h2:T[b]?=some (.agg #[x,y])):zMC a b T w=(w.setCell ⟨g,o,none⟩ x).setCell ⟨g,o+1,none⟩ y:=by
 unfold zMC;rw[h1,h2];rfl
theorem zG5{a b c:Nat}{T:Array Value}{w:World}{v:Value}(h1:c≠a)(h2:c≠b):zMC a b (T.setIfInBounds c v) w=zMC a b T w:=by
 unfold zMC;rw[xgc h1,xgc h2]
theorem zKS{W w:World}(h:yL [] W w):Below W.heap.size W w:=⟨h.bel.os,h.bel.tape,h.bel.output,h.bel.size,fun k hk=>h.old k hk sI⟩
theorem zEV{n:Nat}(f g:Nat->Int):zU n (zY f g n)=zU n f:=zO fun t ht=>by unfold zY;rw[if_pos ht]
theorem zEW{n:Nat}(f g:Nat->Int):zU n (zY f g 0)=zU n g:=zO fun t _=>by unfold zY;rw[if_neg oM]
theorem zFy{n j:Nat}(f g:Nat->Int):(zU n (zY f g j)).set j (f j)=zU n (zY f g (j+1)):=by
 rw[zA6];exact zO fun t _=>by
  unfold zY;by_cases h2:t=j
  ·subst h2;rw[if_pos rfl,if_pos oM]
  ·rw[if_neg h2]
   by_cases h1:t<j
   ·rw[if_pos h1,if_pos oM]
   ·rw[if_neg h1,if_neg oM]
theorem zDd{fn:Func}{a b c:Tmp}(h:fn.results=#[.tmp a,.tmp b,.tmp c])(tmps:Array Value)(P:Program)(W:World):(results fn tmps).run P W= .ok (.tuple #[tmps.getD a undef,tmps.getD b undef,tmps.getD c undef]) W:=by
 simp[results,h]
def zMM(R C:Nat)(q r:Nat->Int)(w:World)(e:Ending)(w':World):Prop:=∃qv rv,e= .returned (.tuple #[qv,rv,.int .i64 0])/\jG w' qv (zU R q)/\jG w' rv (zU C r)/\Below w.heap.size w w'
theorem zFU{B:Nat}(hB:BSd B)(hv vv:Value)(R C:Nat)(M:List (List Int))(x:Nat->Int)(w:World)(h:yG w hv R C M)(hF:yM R C M)(hx:jG w vv (zU C x))(hR:R<=1000000)(hC:C<=1000000)(hok:zNx B R C (ent M) x)(hB0:0<B):
  Calls Tryz.prog 46 #[hv,vv] w (zMM R C (zF3 C (ent M) x) (zF4 C (ent M) x R) w):=by
 have h0:=h;obtain⟨A,rfl,h⟩:=h;obtain⟨ao,n,cap,rfl,e2,e3,e4,-⟩:=id h;obtain rfl:R=n:=by rw[<-e2,hF.1]
 obtain⟨xo,xn,xcap,rfl,x2,x3,x4,-⟩:=id hx;rw[zI]at x2;subst x2;have hdv:decide (qF R C M)=true:=decide_eq_true hF.valid;have HF:=xgv hF;have HOK:=xgv hok;have H0:=xgv h0;have HR:=xgv h;have HX:=xgv hx;have HB0:=xgv hB0;clear hok h0 hF e2 h hx hB0;go_enter Tryz.func46,Tryz.ntmps46;go_upto_region 1 with(fail)
 refine zB ?_;intro W0 hW0;obtain⟨hb0,bx1,hs0⟩:=zM hW0;obtain⟨c1,c2,c3,c4,c5,c6⟩:=bx1.three;clear hW0;go_wp2_with fail
 refine(yC _ R C M W0 (H0.out.below hb0)).mono ?_;rintro e w1 ⟨rfl,hb1⟩;rw[hdv];have bx1:=bx1.below hb1;have hb:=nx hb0 hb1;clear c1 c2 c3 c4 c5 c6 hdv;obtain⟨c1,c2,c3,c4,c5,c6⟩:=bx1.three;have hmkR:=fun W=>mkV (R:Int) R rfl oM W
 have hmkC:=fun W=>mkV (C:Int) C rfl oM W
 have hl1:=zDU w1.heap.size R;have hl2:=zDU w1.heap.size C;go_upto_region 3 with(fail)
 refine zF rfl (RVP 2 26 5 29 zNh [⟨6,7,2,26⟩,⟨7,8,5,29⟩] w1 _ [⟨0,24,fun _ v=>v= .pointer (some ⟨w.heap.size,0,none⟩)⟩,⟨1,25,fun _ v=>v= .int .i64 R⟩,⟨2,26,zKy w1.heap.size R⟩,⟨3,27,fun _ v=>v= .pointer (some ⟨w.heap.size,1,none⟩)⟩,⟨4,28,fun _ v=>v= .int .i64 C⟩,⟨5,29,zKy w1.heap.size C⟩,⟨6,7,zKy w1.heap.size R⟩,⟨7,8,zKy w1.heap.size C⟩]) kR (RVP.start kR (by repeat' (first|exact zAu _|exact zBO _|exact zBa _ _ _|exact jZ _|assumption|refine xgm.2 ⟨?_,?_⟩|exact xgn _)) ⟨_,mm2⟩ ⟨_,mm5⟩ dE kR) ?fin1 ?steps1
 case steps1=>
  refine⟨?_,?_,?_,?_,?_,?_,?_,?_,trivial⟩<;>(intro L T wS hL hd hcl hI K hK;try refine zA rfl ?_)
  ·have zt:T[2]?=some (.pointer (some ⟨w.heap.size,0,none⟩)):=hI.keep 2 sI
   go_simp;exact hK _ _ (hI.y mm0 rfl)
  ·obtain⟨_,zt0,rfl⟩:=hI.v mm0 (hd 0)
   have cc0:=hI.cell c1;go_simp;exact hK _ _ (hI.y mm1 rfl)
  ·obtain⟨_,zt1,rfl⟩:=hI.v mm1 (hd 1)
   go_simp;exact hK _ _ ((hI.world ((Below.refl _ _).alloc (xgf _) _)).y mm2 (zHI hI.bel.size) (fun u=>⟨fun _ hu hl=>by obtain⟨v',q1,b',q2,q3,q4⟩:=hI.v mm5 hl;have:=q4.lt;cases q1.symm.trans hu;intro a b n m c d e1 e2;subst q2;cases e1;cases e2;omega,fun e=>absurd e dE⟩))
  ·have zt:T[2]?=some (.pointer (some ⟨w.heap.size,0,none⟩)):=hI.keep 2 sI
   go_simp;exact hK _ _ (hI.y mm3 rfl)
  ·obtain⟨_,zt3,rfl⟩:=hI.v mm3 (hd 3)
   have cc0:=hI.cell c2;go_simp;exact hK _ _ (hI.y mm4 rfl)
  ·obtain⟨_,zt4,rfl⟩:=hI.v mm4 (hd 4)
   go_simp;exact hK _ _ ((hI.world ((Below.refl _ _).alloc (xgf _) _)).y mm5 (zHI hI.bel.size) (fun u=>⟨fun e=>absurd e dE,fun _ hu hl=>by obtain⟨v',q1,b',q2,q3,q4⟩:=hI.v mm2 hl;have:=q4.lt;cases q1.symm.trans hu;intro a b n m c d e1 e2;subst q2;cases e1;cases e2;omega⟩))
  ·obtain⟨vc,ztc,hcv⟩:=hI.v mm2 (hd 2)
   go_simp;exact hK _ _ (hI.y mm6 hcv (hc:=.inr (by repeat' (first|refine xgm.2 ⟨?_,?_⟩|exact xgn _|(intro e;exact absurd e dE)|(intro _;exact⟨hd 2 kR,ztc⟩)))))
  ·obtain⟨vc,ztc,hcv⟩:=hI.v mm5 (hd 5)
   go_simp;exact hK _ _ (hI.y mm7 hcv (hc:=.inr (by repeat' (first|refine xgm.2 ⟨?_,?_⟩|exact xgn _|(intro e;exact absurd e dE)|(intro _;exact⟨hd 5 kR,ztc⟩)))))
 intro T w3 hI;obtain⟨va0,q0,rfl⟩:=hI.v mm0 rfl;obtain⟨va1,q1,rfl⟩:=hI.v mm1 rfl;obtain⟨va2,q2,ha2⟩:=hI.v mm2 rfl;obtain⟨va3,q3,rfl⟩:=hI.v mm3 rfl;obtain⟨va4,q4,rfl⟩:=hI.v mm4 rfl;obtain⟨va5,q5,ha5⟩:=hI.v mm5 rfl;obtain⟨va6,q6,ha6⟩:=hI.v mm6 rfl;obtain⟨va7,q7,ha7⟩:=hI.v mm7 rfl;have hT:=zC9 [(24,.pointer (some ⟨w.heap.size,0,none⟩)),(25,.int .i64 R),(26,va2),(27,.pointer (some ⟨w.heap.size,1,none⟩)),(28,.int .i64 C),(29,va5),(7,va6),(8,va7)]
  (fun j hj=>hI.keep j (by simp only[xgm]at hj ⊢;simp[hj]))
  (by simp only[xgm];simp[q0,q1,q2,q3,q4,q5,q6,q7]) hI.size
 obtain⟨paa,pba,pua,pva,pqa⟩:=hI.pair rfl rfl;have pca:=hI.cpy;have hbw3:=hI.bel;clear hI;simp only[List.foldl_cons,List.foldl_nil,xgh,xgi,xgj,ptr]at hT;subst hT;clear q0 q1 q2 q3 q4 q5 q6 q7;have e6:va6=va2:=Option.some.inj (pca _ mm0 rfl).2;have e7:va7=va5:=Option.some.inj (pca _ mm1 rfl).2;have e8:va2=paa:=Option.some.inj pua;have e9:va5=pba:=Option.some.inj pva;subst e6 e7 e8 e9;obtain⟨qb,rfl,hq1,hq2⟩:zKy w1.heap.size R w3 va6:=ha6;obtain⟨rb,rfl,hr1,hr2⟩:zKy w1.heap.size C w3 va7:=ha7;have hqr:qb≠rb:=pqa _ _ _ _ _ _ rfl rfl;have hl01:=bx1.lt;have hb3:=nx hb hbw3;have bx1:=bx1.below hbw3;have hsz1:=hb.size;clear pca pqa ha2 ha5 hmkR hmkC hl1 hl2 c1 c2 c3 c4 c5 c6;obtain⟨c1,c2,c3,c4,c5,c6⟩:=bx1.three;have hrs:zZ w3 rb (zU C (zY x (fun _=>0) 0)):=by rw[zEW];exact hr2
 clear hr2;go_wp2;go_loopw [32] (fun jv wr=>∃j:Nat,j<=C/\jv= .int .i64 j/\Below w.heap.size w wr/\Blk wr w.heap.size 28 #[.int .i64 R,.int .i64 C,.slice ao R cap]/\zZ wr qb (zU R fun _=>0)/\zZ wr rb (zU C (zY x (fun _=>0) j))) (fun jv _=>C-(intOf jv).toNat)
 case atStart=>exact⟨0,by omega,rfl,hb3,bx1,hq2,hrs⟩
 case round=>
  clear bx1 hq2 hrs c1 c2 c3 c4 c5 c6;obtain⟨j,hj,rfl,hbr,bx1,hq2,hrs⟩:=hrel;by_cases hlt:j<C
  ·obtain⟨bx,z,s,a,l,k,rfl,hbx,hz,p1,p2,hzv⟩:=(HX.out.below hbr).cell (k:=j) (by rw[zI];exact hlt)
   rw[zX hlt]at hz;obtain rfl:x j=z:=Option.some.inj hz;clear hz;go_upto_region 7 with(fail)
   refine zB ?_;intro W6 hW6;obtain⟨hB6,T6,hs6⟩:=zM hW6;have bx1:=bx1.below hB6;have hq2:=hq2.below hB6;have hrs:=hrs.below hB6;have hzv:=hzv.ext (lx hB6);have hbr:=nx hbr hB6;have sx:qW (Sm (x j)):=⟨hB.bsm.sm _ (HOK.out.rest 0 (Nat.zero_le _) j hlt)⟩;have sz:qW (Sm (0:Int)):=⟨hB.bsm.sm _ (by simpa using HB0.out)⟩;obtain⟨t1,t2,t3,t4⟩:=T6.two;clear p1 p2 hW6;go_wp2_with fail
   refine(zCR _ _ (x j) 0 W6 hzv.weak (zBN W6).weak sx.out sz.out).mono ?_;rintro e w7 ⟨u,rfl,hu,hb7⟩;rw[Int.add_zero]at hu;obtain⟨un,ua,ul,uc,ux,rfl,hu'⟩:=id hu;have HU:=xgw hu';have bx1:=bx1.below hb7;have hq2:=hq2.below hb7;have hrs:=hrs.below hb7;have hbr:=nx hbr hb7;clear hu' t1 t2 t3 t4;obtain⟨z0,z1,z2,z3,f1,f2,f3,f4,-⟩:=hrs.cell (zX hlt);have hset:=hrs.set (k:=j) (by rw[zI];exact hlt) hu;rw[zFy]at hset;have lb:=bx1.lt;have lq:=hq2.lt;go_wp2;go_roundw
   case rel=>
    exact⟨j+1,by omega,by simp,qC (qC hbr oM _ _) oM _ _,(qA _ _ _ _ _ _ _ oM).trans bx1,hq2.old (qA _ _ _ _ _ _ _ hqr) hset.2,hset.1⟩
   case measure=>simp[intOf];omega
  ·obtain rfl:j=C:=by omega
   rw[zEV]at hrs;obtain⟨c1,c2,c3,c4,c5,c6⟩:=bx1.three;have hqs:zZ wr qb (zU R (zY (zF3 j (ent M) x) (fun _=>0) 0)):=by rw[zEW];exact hq2
   clear hq2;go_wp2;go_loopw [47] (fun iv wt=>∃i:Nat,i<=R/\iv= .int .i64 i/\Below w.heap.size w wt/\zZ wt qb (zU R (zY (zF3 j (ent M) x) (fun _=>0) i))/\zZ wt rb (zU j (zF4 j (ent M) x i))) (fun iv _=>R-(intOf iv).toNat)
   case atStart=>exact⟨0,by omega,rfl,hbr,hqs,hrs⟩
   case round=>
    rename World=>wt
    clear hbr hqs hrs bx1 c1 c2 c3 c4 c5 c6;obtain⟨i,hi,rfl,hbt,hqs,hrs⟩:=hrel;by_cases hlt:i<R
    ·obtain⟨b,ra,rn,rc,zs,rfl,hbl,hz,p1,hrv0⟩:=HR.out.row (k:=i) (by rw[HF.out.1];exact hlt)
     obtain rfl:=HF.out.row_eq hz;have hrn:=hrv0.len.1;have p1:=(hbt.cell (p:=⟨b,i,none⟩) hbl).trans p1;have hrv:=hrv0.below hbt;rw[zI]at hrn;subst hrn;clear hz;go_wp2_with fail
     refine(zAG _ (zU j (ent M i)) wt hrv).mono ?_;rintro e w7 ⟨rfl,hb7⟩;obtain⟨d,hd⟩:∃d,jS 0 (zU j (ent M i))=d:=⟨_,rfl⟩;rw[hd];have HD:=xgw (show lead j (ent M) i=d from hd);have hbt:=nx hbt hb7;have hqs:=hqs.below hb7;have hrs:=hrs.below hb7;have hrv:=hrv.below hb7;clear hd p1;by_cases hneg:d<0
     ·have hdn:decide (0<=d)=false:=decide_eq_false oM
      have HN:=xgw hneg;clear hneg;go_wp2;go_roundw
      case rel=>
       have hqz:zF3 j (ent M) x i=0:=by unfold zF3 quo;rw[if_pos (by rw[HD.out];exact HN.out)]
       have e1:zU R (zY (zF3 j (ent M) x) (fun _=>0) i)=zU R (zY (zF3 j (ent M) x) (fun _=>0) (i+1)):=zO fun t _=>by
        unfold zY;by_cases h1:t<i
        ·rw[if_pos h1,if_pos oM]
        ·by_cases h2:t=i
         ·rw[if_neg h1,if_pos oM,h2,hqz]
         ·rw[if_neg h1,if_neg oM]
       have e2:zU j (zF4 j (ent M) x i)=zU j (zF4 j (ent M) x (i+1)):=zO fun t _=>by
        show _=zF4 j (ent M) x i t+-(zF3 j (ent M) x i)*ent M i t;rw[hqz];omega
       rw[e1]at hqs;rw[e2]at hrs;exact⟨i+1,by omega,by simp,hbt,hqs,hrs⟩
      case measure=>simp[intOf];omega
     ·obtain⟨c,rfl⟩:=Int.eq_ofNat_of_zero_le (Int.not_lt.1 hneg)
      obtain⟨hcC,hcz⟩:=yX HD.out;have hqe:zF3 j (ent M) x i=zF4 j (ent M) x i c/ent M i c:=by unfold zF3 quo;rw[HD.out,if_neg hneg];rfl
      obtain⟨y,hy⟩:∃y,zF4 j (ent M) x i c=y:=⟨_,rfl⟩;obtain⟨p,hp⟩:∃p,ent M i c=p:=⟨_,rfl⟩;obtain⟨q,hq⟩:∃q,zF3 j (ent M) x i=q:=⟨_,rfl⟩;have hyB:qW (Sm y):=⟨by rw[<-hy];exact hB.bsm.sm _ (HOK.out.rest i oM c hcC)⟩;have hpB:qW (Sm p):=⟨by rw[<-hp];exact hB.bsm.sm _ (HOK.out.mat i hlt c hcC)⟩;have hqB:qW (q.natAbs<B/\∀t,t<j->(-q*ent M i t).natAbs<B):=⟨by rw[<-hq];exact HOK.out.quot i hlt⟩;have hp0:qW (p≠0):=⟨by rw[<-hp];exact hcz⟩;rw[hq,hy,hp]at hqe;obtain⟨_,_,_,e1,-,g1,g2,g5⟩:=id hrv0;cases e1;obtain⟨bi,rfl,hrow⟩:=g5 (fun h=>by have:=congrArg List.length h;rw[zI]at this;simp at this;omega);have hbi:=hrow.lt;have hrow7:=hrow.below hbt;obtain⟨s,a,l,k,q1,q2,-,-,hzv⟩:=hrow7.cell (zX hcC);rw[hp]at hzv;clear g5;obtain⟨s2,a2,l2,k2,o1,o2,-,-,hov⟩:=hrs.cell (zX hcC);rw[hy]at hov;have HY:=xgw hy;have HP:=xgw hp;have HQ:=xgw hq;have HQE:=xgw hqe;have lq:=hqs.lt;have lr:=hrs.lt;have hl3:=zHX y p;have hl4:qQ (fun _ _=>True):=fun _ _ _ _ _=>trivial
      clear hy hp hq hqe hcz hneg hrv hrv0;go_upto_region 14 with(fail)
      refine zF rfl (RAS ([]) 99 w7 _ [⟨0,57,fun _ v=>v= .slice (some ⟨qb,0,none⟩) R R⟩,⟨1,58,fun _ v=>v= .int .i64 i⟩,⟨2,59,fun _ v=>v= .slice (some ⟨rb,0,none⟩) j j⟩,⟨3,60,fun _ v=>v= .int .i64 c⟩,⟨4,61,fun _ v=>v= .pointer (some ⟨rb,c*2,none⟩)⟩,⟨5,62,fun _ v=>v= .agg #[.bool s2,.slice a2 l2 k2]⟩,⟨6,63,fun _ v=>v= .slice (some ⟨bi,0,none⟩) j rc⟩,⟨7,64,fun _ v=>v= .int .i64 c⟩,⟨8,65,fun _ v=>v= .pointer (some ⟨bi,c*2,none⟩)⟩,⟨9,66,fun _ v=>v= .agg #[.bool s,.slice a l k]⟩,⟨10,67,DMV y p⟩,⟨11,56,DMV y p⟩,⟨12,68,fun w v=>qB w v (y/p)⟩,⟨13,69,fun _ _=>True⟩,⟨14,70,fun _ v=>v= .int .i64 0⟩,⟨15,71,fun _ v=>v= .pointer (some ⟨qb,i*2,none⟩)⟩] 16 (zMC 71 68)) kR (RAS.start (RA.start kR (by repeat' (first|exact zAu _|exact zBO _|exact zBa _ _ _|exact jZ _|assumption|refine xgm.2 ⟨?_,?_⟩|exact xgn _)))) ?fin2 ?steps2
      case steps2=>
       refine⟨?_,?_,?_,?_,?_,?_,?_,?_,?_,?_,?_,?_,?_,?_,?_,?_,?_,trivial⟩
       ·refine qU.liftA kR dE ?_
        intro L T wS hL hd hcl hI K hK;try refine zA rfl ?_
        have zt:T[7]?=some (.slice (some ⟨qb,0,none⟩) R R):=hI.keep 7 sI;go_simp;exact hK _ _ (hI.y mm0 rfl)
       ·refine qU.liftA kR dE ?_
        intro L T wS hL hd hcl hI K hK;try refine zA rfl ?_
        have zt:T[11]?=some (.int .i64 i):=hI.keep 11 sI;go_simp;exact hK _ _ (hI.y mm1 rfl)
       ·refine qU.liftA kR dE ?_
        intro L T wS hL hd hcl hI K hK;try refine zA rfl ?_
        have zt:T[8]?=some (.slice (some ⟨rb,0,none⟩) j j):=hI.keep 8 sI;go_simp;exact hK _ _ (hI.y mm2 rfl)
       ·refine qU.liftA kR dE ?_
        intro L T wS hL hd hcl hI K hK;try refine zA rfl ?_
        have zt:T[13]?=some (.int .i64 c):=hI.keep 13 sI;go_simp;exact hK _ _ (hI.y mm3 rfl)
       ·refine qU.liftA kR dE ?_
        intro L T wS hL hd hcl hI K hK;try refine zA rfl ?_
        obtain⟨_,zt2,rfl⟩:=hI.v mm2 (hd 2);obtain⟨_,zt3,rfl⟩:=hI.v mm3 (hd 3);go_simp;exact hK _ _ (hI.y mm4 rfl)
       ·refine qU.liftA kR dE ?_
        intro L T wS hL hd hcl hI K hK;try refine zA rfl ?_
        obtain⟨_,zt4,rfl⟩:=hI.v mm4 (hd 4);have cc0:=hI.cell (sI) oM o1;have cc1:=hI.cell (sI) oM o2;go_simp;exact hK _ _ (hI.y mm5 rfl)
       ·refine qU.liftA kR dE ?_
        intro L T wS hL hd hcl hI K hK;try refine zA rfl ?_
        have zt:T[12]?=some (.slice (some ⟨bi,0,none⟩) j rc):=hI.keep 12 sI;go_simp;exact hK _ _ (hI.y mm6 rfl)
       ·refine qU.liftA kR dE ?_
        intro L T wS hL hd hcl hI K hK;try refine zA rfl ?_
        have zt:T[13]?=some (.int .i64 c):=hI.keep 13 sI;go_simp;exact hK _ _ (hI.y mm7 rfl)
       ·refine qU.liftA kR dE ?_
        intro L T wS hL hd hcl hI K hK;try refine zA rfl ?_
        obtain⟨_,zt6,rfl⟩:=hI.v mm6 (hd 6);obtain⟨_,zt7,rfl⟩:=hI.v mm7 (hd 7);go_simp;exact hK _ _ (hI.y mm8 rfl)
       ·refine qU.liftA kR dE ?_
        intro L T wS hL hd hcl hI K hK;try refine zA rfl ?_
        obtain⟨_,zt8,rfl⟩:=hI.v mm8 (hd 8);have cc0:=hI.cell (sI) oM q1;have cc1:=hI.cell (sI) oM q2;go_simp;exact hK _ _ (hI.y mm9 rfl)
       ·refine qU.liftA kR dE ?_
        intro L T wS hL hd hcl hI K hK;try refine zA rfl ?_
        obtain⟨_,zt5,rfl⟩:=hI.v mm5 (hd 5);obtain⟨_,zt9,rfl⟩:=hI.v mm9 (hd 9);go_simp;refine(zIW _ _ y p _ (hov.ext hI.onl.lext).weak (hzv.ext hI.onl.lext).weak hyB.out hpB.out hp0.out).mono ?_;rintro e wa ⟨v,rfl,hv,hba⟩;exact hK _ _ ((hI.world hba).y yD hv)
       ·refine qU.liftA kR dE ?_
        intro L T wS hL hd hcl hI K hK;try refine zA rfl ?_
        obtain⟨v10,zt10,h10⟩:=hI.v yD (hd 10);go_simp;exact hK _ _ (hI.y zAH h10)
       ·refine qU.liftA kR dE ?_
        intro L T wS hL hd hcl hI K hK;try refine zA rfl ?_
        obtain⟨v11,zt11,h11⟩:=hI.v zAH (hd 11);obtain⟨qq,rr,rfl,hq,hr⟩:=h11;go_simp;exact hK _ _ (hI.y zAb hq)
       ·intro L T wS hL hd hcl hI K hK
        try refine zA rfl ?_
        obtain⟨w0,hJ,-,-⟩:=id hI;obtain⟨z11,zt11,hz11⟩:=hJ.val _ zAH (hd 11);obtain⟨qq,rr,rfl,hq,hr⟩:DMV y p w0 z11:=hz11;go_simp;exact hK _ _ (hI.pure ⟨13,69,_⟩ jK rfl (fun _=>trivial) dE (fun _=>zG5 dE dE))
       ·intro L T wS hL hd hcl hI K hK
        try refine zA rfl ?_
        obtain⟨w0,hJ,-,-⟩:=id hI;obtain⟨z11,zt11,hz11⟩:=hJ.val _ zAH (hd 11);obtain⟨qq,rr,rfl,hq,hr⟩:DMV y p w0 z11:=hz11;go_simp;exact hK _ _ (hI.pure ⟨14,70,_⟩ zCP rfl (fun _=>rfl) dE (fun _=>zG5 dE dE))
       ·refine qU.liftA kR dE ?_
        intro L T wS hL hd hcl hI K hK;try refine zA rfl ?_
        obtain⟨_,zt0,rfl⟩:=hI.v mm0 (hd 0);obtain⟨_,zt1,rfl⟩:=hI.v mm1 (hd 1);go_simp;exact hK _ _ (hI.y zB8 rfl)
       ·intro L T wS hL hd hcl hI K hK
        try refine zA rfl ?_
        replace hI:=hI.here hL;obtain⟨_,zt15,rfl⟩:=hI.v zB8 (hd 15);obtain⟨z12,zt12,hz12⟩:=hI.v zAb (hd 12);obtain⟨vneg,vao,vlen,vcap,vls,rfl,hv'⟩:=id hz12;obtain⟨_,_,_,_,k1,k2,k3,k4,-⟩:=(hqs.only hI.onl sI).cell (zX hlt);go_simp;exact hK _ _ (RAS.store hI hL (by repeat' (first|exact xgn _|refine xgm.2 ⟨by dsimp only;decide,?_⟩)) dE (zJG zt15 zt12).symm)
      intro T w8f hJ;obtain⟨w8,hI,-,hstw8⟩:=hJ;replace hstw8:=hstw8 kR;obtain⟨vz0,q0,rfl⟩:=hI.v mm0 rfl;obtain⟨vz1,q1,rfl⟩:=hI.v mm1 rfl;obtain⟨vz2,q2,rfl⟩:=hI.v mm2 rfl;obtain⟨vz3,q3,rfl⟩:=hI.v mm3 rfl;obtain⟨vz4,q4,rfl⟩:=hI.v mm4 rfl;obtain⟨vz5,q5,rfl⟩:=hI.v mm5 rfl;obtain⟨vz6,q6,rfl⟩:=hI.v mm6 rfl;obtain⟨vz7,q7,rfl⟩:=hI.v mm7 rfl;obtain⟨vz8,q8,rfl⟩:=hI.v mm8 rfl;obtain⟨vz9,q9,rfl⟩:=hI.v mm9 rfl;obtain⟨vz10,q10,hz10⟩:=hI.v yD rfl;obtain⟨vz11,q11,hz11⟩:=hI.v zAH rfl;obtain⟨vz12,q12,hz12⟩:=hI.v zAb rfl;replace hz12:qB w8 vz12 (y/p):=hz12;obtain⟨vz13,q13,hz13⟩:=hI.v jK rfl;obtain⟨vz14,q14,rfl⟩:=hI.v zCP rfl;obtain⟨vz15,q15,rfl⟩:=hI.v zB8 rfl;have hT:=zC9 [(57,.slice (some ⟨qb,0,none⟩) R R),(58,.int .i64 i),(59,.slice (some ⟨rb,0,none⟩) j j),(60,.int .i64 c),(61,.pointer (some ⟨rb,c*2,none⟩)),(62,.agg #[.bool s2,.slice a2 l2 k2]),(63,.slice (some ⟨bi,0,none⟩) j rc),(64,.int .i64 c),(65,.pointer (some ⟨bi,c*2,none⟩)),(66,.agg #[.bool s,.slice a l k]),(67,vz10),(56,vz11),(68,vz12),(69,vz13),(70,.int .i64 0),(71,.pointer (some ⟨qb,i*2,none⟩))]
       (fun j hj=>hI.keep j (by simp only[xgm]at hj ⊢;simp[hj]))
       (by simp only[xgm];simp[q0,q1,q2,q3,q4,q5,q6,q7,q8,q9,q10,q11,q12,q13,q14,q15]) hI.size
      have how8:=hI.onl;clear hI;simp only[List.foldl_cons,List.foldl_nil,xgh,xgi,xgj,ptr]at hT;subst hT;clear q0 q1 q2 q3 q4 q5 q6 q7 q8 q9 q10 q11 q12 q13 q14 q15;have hbw8:=zKS how8;obtain⟨qn,qa,ql,qc,qx,rfl,hqx⟩:=id hz12;have HQX:=xgw hqx;have hw9:=hstw8.trans (zJG rfl rfl);have hq8:=hqs.below hbw8;have hset:=hq8.set (k:=i) (by rw[zI];exact hlt) hz12;rw[<-hw9,show y/p=zF3 j (ent M) x i from by rw[HQ.out,HQE.out],zFy]at hset;have hx9:=hset.2;have hr9:zZ w8f rb (zU j (zF4 j (ent M) x i)):=(hrs.below hbw8).old (by rw[hw9];exact qA _ _ _ _ _ _ _ (Ne.symm hqr)) hx9;have hrow9:zZ w8f bi (zU j (ent M i)):=(hrow7.below hbw8).old (by rw[hw9];exact qA _ _ _ _ _ _ _ oM) hx9;have hb9:Below w.heap.size w w8f:=by rw[hw9];exact qC (qC (nx hbt hbw8) oM _ _) oM _ _
      have hq9:=hset.1;obtain⟨s9,a9,l9,c9,f1,f2,-,-,hv9⟩:=hq9.cell (zX hlt);rw[show zY (zF3 j (ent M) x) (fun _=>0) (i+1) i=q from by unfold zY;rw[if_pos oM,HQ.out]]at hv9;have sq:qW (Sm q):=⟨hB.bsm.sm _ hqB.out.1⟩;have sq2:qW (Sm (-q)):=⟨hB.bsm.sm _ (by rw[Int.natAbs_neg];exact hqB.out.1)⟩;have hlb:rb≠bi:=by omega
      clear hset hw9 hqx hstw8 hz12 q1 q2 o1 o2 hz10 hz11 hz13 hl3 hl4 how8;go_wp2_with fail
      refine(yW _ q w8f hv9.weak sq.out).mono ?_;rintro e w10 ⟨u,rfl,hu,hb10⟩;obtain⟨un,ua,ul,uc,ux,rfl,hu'⟩:=id hu;have HU:=xgw hu';have hr9:=hr9.below hb10;have hrow9:=hrow9.below hb10;have hq9:=hq9.below hb10;have hb9:=nx hb9 hb10;clear f1 f2 hu';go_wp2_with fail
      refine(zFA rb bi j j rc (zF4 j (ent M) x i) (ent M i) _ (-q) w10 hr9 hrow9 hlb hu hC (xgf _) oM oM oM (fun t ht=>⟨hB.bsm.sm _ (HOK.out.rest i oM t ht),hB.bsm.sm _ (HOK.out.mat i hlt t ht),hB.bsm.sm _ (hqB.out.2 t ht)⟩) sq2.out).mono ?_;rintro e w11 ⟨⟨u11,rfl⟩,ho,hr11⟩;have hb11:Below w.heap.size w w11:=Below.only hb9 ho (xgf _) (fun b hb=>by simp at hb;omega);have hq11:=hq9.only ho (by simpa using hqr);have hrr:zU j (fun t=>zF4 j (ent M) x i t+-q*ent M i t)=zU j (zF4 j (ent M) x (i+1)):=zO fun t _=>by
       show _=zF4 j (ent M) x i t+-(zF3 j (ent M) x i)*ent M i t;rw[HQ.out]
      rw[hrr]at hr11;go_wp2;go_roundw
      case rel=>exact⟨i+1,by omega,by simp,hb11,hq11,hr11⟩
      case measure=>simp[intOf];omega
    ·obtain rfl:i=R:=by omega
     rw[zEV]at hqs;go_wp2;refine bodyPost_ret (zDd rfl _ _ _) rfl ?_;exact⟨_,_,rfl,hqs.vec (zI _ _) (xgf _) oM,hrs.vec (zI _ _) (xgf _) oM,hbt⟩
def rnds:List (List Op × List Op)->W5->W5
 | [],z=>z
 |p::L,z=>rnds L (rnd z p.1 p.2)
def okL(R C:Nat)(L:List (List Op × List Op)):Prop:=∀p∈L,qG R p.1/\qG C p.2
theorem okL.cons{R C:Nat}{p:List Op × List Op}{L:List (List Op × List Op)}(h1:qG R p.1)(h2:qG C p.2)(h:okL R C L):okL R C (p::L):=fun q hq=>by
 rcases List.mem_cons.1 hq with rfl|hq
 ·exact⟨h1,h2⟩
 ·exact h q hq
theorem Rel.rnds{R C:Nat}{A:Nat->Nat->Int}{L:List (List Op × List Op)}(hL:okL R C L):∀{z:W5},Rel R C A z->Rel R C A (rnds L z):=by
 induction L with
 |nil=>intro z h;exact h
 |cons p L ih=>
  intro z h;exact ih (fun q hq=>hL q (List.mem_cons_of_mem _ hq)) (h.rnd (hL p (List.mem_cons_self ..)).1 (hL p (List.mem_cons_self ..)).2)
end Go.Proofs.YtgnmdddaiefooaaGreat
