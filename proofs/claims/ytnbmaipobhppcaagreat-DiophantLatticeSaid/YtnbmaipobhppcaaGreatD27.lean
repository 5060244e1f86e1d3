/- diophant.refute. diophant.Solve. What diophant.Check uses: valid, ContainsFunc, EqualFunc. diophant.dot. diophant.solves, refutes. diophant.kind, Check. -/
import Derived.Test.YtnbmaipobhppcaaGreatD16
import Derived.Test.YtnbmaipobhppcaaGreatD23
import Derived.Test.YtnbmaipobhppcaaGreatD24
import Derived.Test.YtnbmaipobhppcaaGreatD26
set_option linter.unusedVariables false
set_option linter.unusedSimpArgs false
set_option linter.unusedSectionVars false
set_option maxHeartbeats 16000000
set_option maxRecDepth 100000
namespace Go.Proofs.YtnbmaipobhppcaaGreat
open Go.RowKit
theorem jB.cut3{w:World}{ao:Option Addr}{n cap:Nat}{M:List (List Int)}(h:jB w (.slice ao n cap) M){i:Nat}(hi:i<=n):jB w (.slice ao i i) (M.take i):=by
 obtain⟨ao',n',cap',e1,e2,e3,e4,e5⟩:=h;cases e1;refine⟨_,i,i,rfl,by simp;omega,xgf _,by omega,fun hn=>?_⟩;obtain⟨b,cs,f1,f2,f3⟩:=e5 (by rintro rfl;simp at hn);refine⟨b,cs,f1,f2,fun k zs hk=>f3 k zs ?_⟩;rw[List.getElem?_take]at hk;split at hk
 ·exact hk
 ·cases hk
theorem zKW{R C r:Nat}{F:Nat->Nat->Int}(h:r<=R):(zX R C F).take r=zX r C F:=by
 refine List.ext_getElem? fun k=>?_
 rw[List.getElem?_take];by_cases hk:k<r
 ·rw[if_pos hk,zAW R C F oM,zAW r C F hk]
 ·rw[if_neg hk,List.getElem?_eq_none (by simp[zX];omega)]
theorem zKq(v:Value)(n:Nat)(f:Nat->Int)(w:World)(h:qT w v (zM n f))(b:Bool)(hb:b=true↔∀t,t<n->f t=0):
  Calls Tryz.prog 71 #[v] w fun e w'=>e= .returned (.bool b)/\Below w.heap.size w w':=by
 have e:decide (∀z∈zM n f,z=0)=b:=by
  rw[Bool.eq_iff_iff,hb,decide_eq_true_eq];constructor
  ·intro h t ht
   exact h _ (xgd (zO ht))
  ·intro h z hz
   obtain⟨t,ht⟩:=List.getElem?_of_mem hz;have htn:t<n:=by
    have:=(xge.1 ht).1;rwa[zD]at this
   rw[zO htn]at ht;injection ht with ht
   rw[<-ht];exact h t htn
 rw[<-e];exact zKr v _ w h
theorem zJZ{H0:Nat}(hv bv:Value)(RA R C r:Nat)(c:Nat->Nat)(H A:Nat->Nat->Int)(y:Nat->Int)(w:World)(hm:yP w hv R C (zX R C H))(hnf:Hnf C R r c H)(hb:qT w bv (zM C y))(hR:R<=4)(hC1:1<=C)(hC:C<=1000)(hH0:H0<=2^30)(hH1:1<=H0)
  (hh:∀i,i<R->∀j,j<C->(H i j).natAbs<=H0) (hy:∀j,j<C->(y j).natAbs<=H0) (hA:∀a,a<RA->∃v:Nat->Int,∀j,j<C->A a j=qE r fun t=>v t*H t j) (hne:¬ ∃z:Nat->Int,∀j,j<C->y j=qE r fun t=>z t*H t j):
  Calls Tryz.prog 72 #[hv,bv] w fun e w'=>∃v q,e= .returned v/\zAn w' v (jZ C fun t=>prQ (q t))/\zLt RA C A y q/\(∀t,t<C->HQ 170 (q t))/\Below w.heap.size w w':=by
 obtain⟨Av,rfl,hrw⟩:=id hm;obtain⟨ao,n,acap,rfl,e2,e3,e4,-⟩:=id hrw;obtain rfl:n=R:=by rw[<-e2];simp[zX]
 obtain⟨bo,bn,bc,rfl,f2,f3,f4,-⟩:=id hb;obtain rfl:C=bn:=by rw[<-f2,zD]
 have hle:=hnf.le;have hra:r<=acap:=by omega
 have HEN:qF (∀i,i<r->∀j,j<C->ent (zX r C H) i j=H i j):=⟨fun i hi j hj=>yU hi hj⟩;have HRC:=xgv (zM3 (A:=ent (zX r C H)) (y:=y) hnf.ech oM hH0 hH1 (fun i hi j hj=>hh i oM j hj) hy (fun i hi j hj=>yU hi hj));have HRR:=xgv (fun(u:Nat->Int) (hu:∀i,i<r->(u i).natAbs<=H0)=>zM4 (A:=ent (zX C r fun a b=>ent (zX r C H) b a)) (u:=u) hnf.ech oM hH0 hH1 (fun i hi j hj=>hh i oM j hj) hu (fun i hi j hj=>by rw[yU hj hi,yU hi hj]));have HCASE:qF ((∃b:Nat,ao=some ⟨b,0,none⟩)∨r=0):=⟨by
  rcases Nat.eq_zero_or_pos n with h|h
  ·right;omega
  ·left
   obtain⟨b,_,_,_,_,e,-⟩:=hrw.row (k:=0) (by simp[zX];omega);exact⟨b,e⟩⟩
 have HM:=xgv hm;have HRW:=xgv hrw;have HB:=xgv hb;have HN:=xgv hnf;have HA:=xgv hA;have HNE:=xgv hne;have HHB:=xgv hh;clear hm hrw hb hnf hA hne hh e2 f2 hy;go_enter Tryz.func72,Tryz.ntmps72;go_upto_region 1 with(fail)
 refine zB ?_;intro W0 hW0;obtain⟨hB0,T2,hs0⟩:=zK hW0;clear hW0;go_wp2;go_loopw [5] (fun iv wr=>∃i:Nat,i<=r/\iv= .int .i64 i/\Below w.heap.size w wr/\Blk wr w.heap.size 28 #[.int .i64 n,.int .i64 C,.slice ao n acap]) (fun iv _=>r-(intOf iv).toNat)
 case atStart=>exact⟨0,by omega,rfl,hB0,T2⟩
 case round=>
  clear hB0 T2;rename_i Q0 K0 hK0;have HK0:=xgv hK0;have body:∀{u12 u13 u14 u15 u16 u17 u18 u19 u20 u21 u22 u23 u24 u25 u26:Value} (wX:World),Below w.heap.size w wX->Blk wX w.heap.size 28 #[.int .i64 n,.int .i64 C,.slice ao n acap]->K0 {tmps:=#[.agg #[.int .i64 n,.int .i64 C,.slice ao n acap],.slice bo C bc,.pointer (some ⟨w.heap.size,0,none⟩),undef,.slice none 0 0,.int .i64 r,undef,undef,undef,undef,undef,undef,u12,u13,u14,u15,u16,u17,u18,u19,u20,u21,u22,u23,u24,u25,u26,undef,undef,undef,undef,undef,undef,undef,undef,undef,undef,undef,undef,undef,undef,undef,undef,undef,undef,undef,undef,undef,undef,undef,undef,undef,undef,undef,undef,undef,undef,undef,undef,undef,undef,undef,undef,undef,undef,undef],defers:=[]} wX:=by
   intro u12 u13 u14 u15 u16 u17 u18 u19 u20 u21 u22 u23 u24 u25 u26 wX hB T2;refine HK0.out _ _ ?_;obtain⟨c1,c2,c3,c4,c5,c6⟩:=T2.three;have hl1:=zBV 28 wX.heap.size #[.int .i64 0,.int .i64 0,.slice none 0 0];have hl2:=jD (.slice ao r r);have lt2:=T2.lt;clear HK0 hK0 hrel;go_upto_region 4 with(fail)
   refine zC 10 rfl (RV wX _ [VN 0 27 r,VP 1 28 w.heap.size 1,VN 2 29 C,VP 3 30 w.heap.size 2,E 4 31 (.slice ao n acap),VN 5 32 r,VN 6 33 r,⟨7,34,fun _ v=>v= .slice ao r r⟩,E 8 35 (.agg #[.int .i64 r,.int .i64 C,.slice ao r r]),⟨9,6,zNi 28 wX.heap.size #[.int .i64 0,.int .i64 0,.slice none 0 0]⟩]) kR RV.start (RV.fin kR ?fin1) ?steps1
   case steps1=>
    refine⟨?_,?_,?_,?_,?_,?_,?_,?_,?_,?_,trivial⟩<;>(intro L T wS hL hd hcl hI K hK;try refine zA rfl ?_)
    ·exact xgs (hI.k 5 rfl kR)
    ·exact xgs (hI.k 2 rfl kR)
    ·have zt1:=hI.e mm1 (hd 1)
     have cc0:=hI.cell c2;exact xgu
    ·exact xgs (hI.k 2 rfl kR)
    ·have zt3:=hI.e mm3 (hd 3)
     have cc0:=hI.cell c3;exact xgu
    ·exact xgs (hI.k 5 rfl kR)
    ·exact xgs (hI.k 5 rfl kR)
    ·obtain⟨_,zt4,rfl⟩:=hI.v mm4 (hd 4)
     obtain⟨_,zt5,rfl⟩:=hI.v mm5 (hd 5);obtain⟨_,zt6,rfl⟩:=hI.v mm6 (hd 6);rcases HCASE.out with⟨b0,rfl⟩|rfl
     all_goals go_simp
     all_goals exact hK _ _ (hI.y mm7 rfl)
    ·have zt0:=hI.e mm0 (hd 0)
     have zt2:=hI.e mm2 (hd 2);obtain⟨v7,zt7,h7⟩:=hI.v mm7 (hd 7);subst h7;exact xgu
    ·go_simp
     exact hK _ _ ((hI.world ((Below.refl _ _).alloc (xgf _) _)).y mm9 ⟨_,rfl,hI.bel.size,Blk.new _ _ _⟩)
   intro w1 hbw1 T hT;simp only[Fin,E,EI,VP,VSl,VN,xgg,xgh,xgi,xgj]at hT;obtain⟨va9,ha9,rfl⟩:=hT;simp only[xgl,xgk];obtain⟨b6,rfl,hb6,T6⟩:=(show zNi _ _ _ _ _ from ha9);have T2:=T2.below hbw1;have hB:=nx hB hbw1;have q6:=T6.lt;clear c1 c2 c3 c4 c5 c6 ha9;obtain⟨g1,g2,g3,g4,g5,g6⟩:=T6.three;go_upto_region 5 with(fail)
   refine zB ?_;intro W2 hW2;have T6:Blk W2 b6 28 #[.int .i64 r,.int .i64 C,.slice ao r r]:=by rw[hW2.out];exact T6.put3 _ _ _
   have qx:=hB.size;have hB:Below w.heap.size w W2:=by rw[hW2.out];exact zT (zT (zT hB oM _ _) oM _ _) oM _ _
   have HBA:qF (yP w (.agg #[.int .i64 r,.int .i64 C,.slice ao r r]) r C (zX r C H)):=⟨_,rfl,by rw[<-zKW hle];exact HRW.out.cut3 hle⟩;have hF:jK r C (zX r C H):=zAV _ _ _;clear hW2 g1 g2 g3 g4 g5 g6;obtain⟨g1,g2,g3,g4,g5,g6⟩:=T6.three;go_wp2_with fail
   refine(zE7 (e:=160) _ _ r C (zX r C H) y W2 (HBA.out.below hB) hF (HB.out.below hB) oM hC hC1 dE HRC.out.st HRC.out.pv).mono ?_;rintro e w3 ⟨hsol,hb3⟩;have T6:=T6.below hb3;have hB:=nx hB hb3;have HBN:=xgv HRC.out.inv;have HBD:=xgv ((HRC.out.st r (xgf _)).2.2.2);obtain⟨S,hS⟩:∃S,zAg C (eqL r (ent (zX r C H)) y) r=S:=⟨_,rfl⟩;rw[hS]at hsol HBN HBD;clear hS HRC g1 g2 g3 g4 g5 g6;rcases hsol with⟨i,yv,s1,s2,s3,rfl,hp⟩|⟨xv,hz,rfl,hp⟩
   ·have hrf:=zQx HBN.out s1 s2 s3
    have hq:zLt RA C A y fun t=>Rat.divInt (S.E i (r+1+t)) (S.E i r)/2:=zLH HA.out (fun a ha=>by
     rw[<-hrf.1 a ha];exact qH fun t ht=>by rw[HEN.out a ha t ht]) hrf.2 fun j hj=>by rw[Rat.divInt_eq_div]
    have hH:∀t,t<C->HQ 160 (Rat.divInt (S.E i (r+1+t)) (S.E i r)):=fun t ht=>.divInt (HBD.out i s2 _ oM) (HBD.out i s2 r oM) s3
    have HQQ:=xgv hq;have HHH:=xgv hH;clear hq hH hrf s3;go_wp2_with fail
    refine(zMG (e:=160) yv C (fun t=>Rat.divInt (S.E i (r+1+t)) (S.E i r)) w3 hp oM dE HHH.out).mono ?_;rintro e w4 ⟨hv,rfl,hp4,hb4⟩;go_wp2;go_ret;exact⟨_,_,rfl,hp4,HQQ.out,fun t ht=>(HHH.out t ht).half.mono dE,nx hB hb4⟩
   ·have hsx:=zQU HBN.out hz
    obtain⟨X,hX⟩:∃X,zEz S r S.pv.length=X:=⟨_,rfl⟩;rw[hX]at hsx hp;have HSX:qF (∀j,j<C->jJ r (fun i=>(H i j:Rat)*X i)=y j):=⟨fun j hj=>by
     rw[<-hsx j hj];exact qH fun i hi=>by rw[HEN.out i hi j hj]⟩
    have HPX:=xgv hp;have hmk:=fun W=>mkV (r:Int) r rfl oM W
    have lt6:=T6.lt;clear hz hX hsx hp;go_upto_region 9 with(fail)
    refine zB ?_;intro W4 hW4;have hb4:Below w3.heap.size w3 W4:=by rw[hW4.out];exact(Below.refl _ _).alloc (xgf _) _
    have hr:qC W4 w3.heap.size (zM r fun _=>0):=by
     rw[hW4.out];obtain⟨_,f1,-,f2⟩:=zCP (w:=w3) (lo:=0) (n:=r) (Nat.zero_le _);injection f1 with f1
     injection f1 with f1
     injection f1 with f1
     rw[f1];exact f2
    have T6:=T6.below hb4;have q3:=hB.size;have hB:=nx hB hb4;have lt3:=T6.lt;clear hW4;obtain⟨ub,hub⟩:∃g,w3.heap.size=g:=⟨_,rfl⟩;have HPX:=xgv (HPX.out.below hb4);rw[hub]at hr q3 lt6 ⊢
    clear hub hb4;go_wp2_with fail
    refine(zMS xv r X W4 HPX.out oM).mono ?_;rintro e w5 ⟨k0,rfl,hk0,hb5⟩;rcases hk0 with⟨-,hall⟩|⟨k,hkr,rfl,hkz⟩
    ·exact absurd (zLW HSX.out hall) HNE.out
    have hr:=hr.below hb5;have T6:=T6.below hb5;have hB:=nx hB hb5;have HKZ:=xgv hkz;clear hkz;go_wp2_with fail
    refine(zBF 1 w5 dE dE).mono ?_;rintro e w6 ⟨o,rfl,ho,hb6⟩;obtain⟨os,oa,ol,oc,rfl⟩:=ho.parts;have hr:=hr.below hb6;have T6:=T6.below hb6;have hB:=nx hB hb6;obtain⟨_,_,_,_,o1,o2,o3,o4,-⟩:=hr.cell (k:=k) (zO hkr);have hset:=hr.set (k:=k) (by rw[zD];exact hkr) ho;rw[zAi]at hset;have HSET:=xgv hset;clear hset ho;go_upto_region 12 with(fail)
    refine zB ?_;intro W7 hW7;have hrx:=HSET.out;rw[<-hW7.out]at hrx;have T6:Blk W7 b6 28 #[.int .i64 r,.int .i64 C,.slice ao r r]:=by
     rw[hW7.out];exact(zR w6 ub (k*2) (k*2+1) b6 _ _ oM).trans T6
    have hB:Below w.heap.size w W7:=by rw[hW7.out];exact zT (zT hB oM _ _) oM _ _
    obtain⟨g1,g2,g3,g4,g5,g6⟩:=T6.three;have HU:=xgv (hrx.1.vec (zD _ _) (xgf _) (by omega:r<=9223372036854775807));clear hrx hW7 HSET o1 o2 o3 o4;go_wp2_with fail
    refine(zCU _ r C (zX r C H) W7 (HBA.out.below hB) hF oM oM (fun row hrow z hz=>by
     obtain⟨a,ha⟩:=List.getElem?_of_mem hrow;obtain⟨b,hb⟩:=List.getElem?_of_mem hz;have har:a<r:=by
      have:=(xge.1 ha).1;simpa[zX]using this
     rw[zAW r C H har]at ha;injection ha with ha
     subst ha;have hbc:b<C:=by
      have:=(xge.1 hb).1;simpa using this
     have hb:(zM C (H a))[b]?=some z:=hb;rw[zO hbc]at hb;injection hb with hb
     rw[<-hb];exact qL (e:=31) (Nat.lt_of_le_of_lt (HHB.out a oM b hbc) (Nat.lt_of_le_of_lt hH0 dE)) dE)).mono ?_
    rintro e w8 ⟨tv,tbs,rfl,ht,hb8⟩;have ht:=ht.mat.1;have hB:=nx hB hb8;have HR2:=xgv (HRR.out (fun i=>if i=k then 1 else 0) fun i hi=>by
     show(if i=k then(1:Int)else 0).natAbs<=H0;split
     ·exact hH1
     ·exact Nat.zero_le _)
    have HTT:=xgv ht;clear ht g1 g2 g3 g4 g5 g6;go_wp2_with fail
    refine(zE7 (e:=160) _ _ C r (zX C r fun a b=>ent (zX r C H) b a) (fun i=>if i=k then 1 else 0) w8 HTT.out (zAV _ _ _) (HU.out.below hb8) hC oM oM dE HR2.out.1.st HR2.out.1.pv).mono ?_;rintro e w9 ⟨hsol,hb9⟩;have hB:=nx hB hb9;have HBN:=xgv HR2.out.1.inv;have HLN:=xgv HR2.out.2;have HBD:=xgv ((HR2.out.1.st C (xgf _)).2.2.2);obtain⟨S2,hS2⟩:∃S,zAg r (eqL C (ent (zX C r fun a b=>ent (zX r C H) b a)) fun i=>if i=k then 1 else 0) C=S:=⟨_,rfl⟩;rw[hS2]at hsol HBN HLN HBD;clear hS2 HR2;rcases hsol with⟨i,yv,s1,s2,s3,rfl,hp⟩|⟨qv,hz,rfl,hp⟩
    ·rw[HLN.out]at s1;omega
    have hsq:=zQU HBN.out hz;have hq:zLt RA C A y (zEz S2 C S2.pv.length):=zLI HA.out HSX.out (fun i hi=>by
     have h1:=hsq i hi;rw[qH (g:=fun j=>(H i j:Rat)*zEz S2 C S2.pv.length j) fun j hj=>by rw[yU hj hi,HEN.out i hi j hj]]at h1;rw[h1];split
     ·exact Rat.intCast_one
     ·exact Rat.intCast_zero) hkr HKZ.out
    have hH:∀t,t<C->HQ 170 (zEz S2 C S2.pv.length t):=fun t _=>(zLU HBN.out dE oM HBD.out oM t _ (xgf _)).mono dE
    have HQQ:=xgv hq;have HHH:=xgv hH;clear hq hH hsq hz;go_wp2;go_ret;exact⟨_,_,rfl,hp,HQQ.out,HHH.out,hB⟩
  obtain⟨i,hi,rfl,hB,T2⟩:=hrel;obtain⟨c1,c2,c3,c4,c5,c6⟩:=T2.three;by_cases hlt:i<r
  ·have hin:i<n:=by omega
   obtain⟨rb,ra,rn,rc,zs,e1,hbl,hz,p1,hvr⟩:=HRW.out.row (k:=i) (by simp[zX];omega);rw[zAW n C H hin]at hz;injection hz with hz
   subst hz;subst e1;have p1:=zI p1 hB;have HZ:=xgv (zKq _ C (H i) wr (hvr.below hB) false ⟨fun h=>(by cases h),fun h=>absurd (h (c i) (HN.out.ech.lt i hlt)) (by have:=HN.out.ech.pos i hlt;omega)⟩);clear hvr;go_wp2_with fail
   refine HZ.out.mono ?_;rintro e w1 ⟨rfl,hb1⟩;have T2:=T2.below hb1;clear c1 c2 c3 c4 c5 c6 p1;go_wp2;go_roundw
   case rel=>exact⟨i+1,by omega,by simp,nx hB hb1,T2⟩
   case measure=>simp[intOf];omega
  ·obtain rfl:i=r:=by omega
   by_cases hrn:i<n
   ·obtain⟨rb,ra,rn,rc,zs,e1,hbl,hz,p1,hvr⟩:=HRW.out.row (k:=i) (by simp[zX];omega)
    rw[zAW n C H hrn]at hz;injection hz with hz
    subst hz;subst e1;have p1:=zI p1 hB;have HZ:=xgv (zKq _ C (H i) wr (hvr.below hB) true ⟨fun _ t ht=>HN.out.zero i (xgf _) hrn t ht,fun _=>rfl⟩);have HBODY:=xgv @body;clear hvr body;go_wp2_with fail
    refine HZ.out.mono ?_;rintro e w1 ⟨rfl,hb1⟩;have T2:=T2.below hb1;have hB:=nx hB hb1;clear c1 c2 c3 c4 c5 c6 p1 hK0 HK0;go_wp2;exact HBODY.out w1 hB T2
   ·have HBODY:=xgv @body
    clear body hK0 HK0;go_wp2;exact HBODY.out wr hB T2
theorem zHB{n r:Nat}(h:r<=n){f:Nat->Int}(hz:∀i,r<=i->i<n->f i=0):qE n f=qE r f:=by
 induction n with
 |zero=>
  obtain rfl:r=0:=by omega
  rfl
 | succ n ih=>
  rcases Nat.lt_or_ge n r with g|g
  ·obtain rfl:r=n+1:=by omega
   rfl
  ·show qE n f+f n=_
   rw[hz n g oM,ih g fun i h1 h2=>hz i h1 oM,Int.add_zero]
theorem zBf.rowsr{R C r:Nat}{c:Nat->Nat}{A H U V:Nat->Nat->Int}(h:zBf R C r c A H U V):∀a,a<R->∃v:Nat->Int,∀j,j<C->A a j=qE r fun t=>v t*H t j:=fun a ha=>
 ⟨V a,fun j hj=>by rw[h.back a ha j hj,zHB h.hnf.le fun i h1 h2=>by rw[h.hnf.zero i h1 h2 j hj,Int.mul_zero]]⟩
theorem zBf.sol{R C r:Nat}{c:Nat->Nat}{A H U V:Nat->Nat->Int}(h:zBf R C r c A H U V){y:Nat->Int}(hz:∀b,b<C->zBN C H y R b=0):zJz R C A y fun i=>qE R fun t=>zA7 C H y t*U t i:=fun j hj=>by
 have h1:=hz j hj;rw[zG1]at h1;have h2:(qE R fun s=>-(zA7 C H y s)*H s j)=-1*qE R fun s=>zA7 C H y s*H s j:=by
  rw[<-yI];exact zU fun t _=>by rw[Int.neg_mul,Int.neg_one_mul]
 have h3:(qE R fun i=>(qE R fun t=>zA7 C H y t*U t i)*A i j)=qE R fun s=>zA7 C H y s*H s j:=by
  have e1:(qE R fun i=>(qE R fun t=>zA7 C H y t*U t i)*A i j)=qE R fun i=>qE R fun t=>zA7 C H y t*(U t i*A i j):=zU fun i hi=>by
   rw[Int.mul_comm,<-yI];exact zU fun t ht=>by rw[Int.mul_comm,Int.mul_assoc]
  rw[e1,zEn];exact zU fun t ht=>by rw[yI,h.mul t ht j hj]
 rw[h3];omega
theorem zBf.nosol{R C r:Nat}{c:Nat->Nat}{A H U V:Nat->Nat->Int}(h:zBf R C r c A H U V){y:Nat->Int}(hz:¬ ∀b,b<C->zBN C H y R b=0):¬ ∃z:Nat->Int,∀j,j<C->y j=qE r fun t=>z t*H t j:=by
 rintro⟨z,hy⟩;refine hz (zLJ h.hnf (z:=fun t=>if t<r then z t else 0) fun j hj=>?_);rw[hy j hj,zHB h.hnf.le fun i h1 h2=>by rw[h.hnf.zero i h1 h2 j hj,Int.mul_zero]];exact zU fun t ht=>by rw[if_pos ht]
theorem zHO.aggU{w:World}{f:Value}{R C:Nat}{H U V:List (List Int)}(h:zHO w f R C H U V):∃o1 n1 k1 o2 n2 k2 o3 n3 k3,f= .agg #[.int .i64 R,.int .i64 C,.slice o1 n1 k1,.int .i64 R,.int .i64 R,.slice o2 n2 k2,.int .i64 R,.int .i64 R,.slice o3 n3 k3]∧
  yP w (.agg #[.int .i64 R,.int .i64 C,.slice o1 n1 k1]) R C H/\yP w (.agg #[.int .i64 R,.int .i64 R,.slice o2 n2 k2]) R R U:=by
 obtain⟨a,b,c,rfl,h1,h2,h3⟩:=h.ex;obtain⟨o1,n1,k1,rfl,-⟩:=id h1;obtain⟨o2,n2,k2,rfl,-⟩:=id h2;obtain⟨o3,n3,k3,rfl,-⟩:=id h3;exact⟨_,_,_,_,_,_,_,_,_,rfl,⟨_,rfl,h1⟩,⟨_,rfl,h2⟩⟩
theorem zIx{n B:Nat}{f:Nat->Int}(h:∀i,i<n->(f i).natAbs<=B):(qE n f).natAbs<=n*B:=by
 induction n with
 |zero=>simp[qE]
 |succ n ih=>
  have h1:=ih fun i hi=>h i oM
  have h2:=h n oM;show(qE n f+f n).natAbs<=_;rw[Nat.add_mul,Nat.one_mul];omega
theorem zHA{M0:Nat}(hM1:1<=M0)(hM0:2*M0<=2^5){R C r:Nat}{c:Nat->Nat}{A:List (List Int)}{H U V:Nat->Nat->Int}(h:zBf R C r c (ent A) H U V)(hR:R<=4)(hH:leM 644972544 R C H)(hU:leM (gk 40 M0) R R U){y:Nat->Int}(hy:∀b,b<C->(y b).natAbs<=1000000):
  ∀i,i<R->∀n,n<=R->(qE n fun t=>zA7 C H y t*U t i).natAbs<2^(6*E40)/\∀t,t<R->(zA7 C H y t).natAbs<2^140/\(U t i).natAbs<2^(6*E40)/\(zA7 C H y t*U t i).natAbs<2^(6*E40):=by
 have hq:∀t,t<R->(zA7 C H y t).natAbs<=2^110:=fun t ht=>by
  refine Nat.le_trans (zH3 h.hnf hH hy ht) (Nat.le_trans (Nat.mul_le_mul_left _ (Nat.pow_le_pow_right oM (show t<=3 by omega))) dE)
 have hg:=zPC (e:=5) (M0:=M0) (xgf 40) hM1 hM0;have hE:=zFf;have hp:2^112*2^(5*E40)<=2^(6*E40):=by
  rw[<-Nat.pow_add];exact Nat.pow_le_pow_right oM oM
 obtain⟨g,hgg⟩:∃g,2^(5*E40)=g:=⟨_,rfl⟩;obtain⟨B,hB⟩:∃g,2^(6*E40)=g:=⟨_,rfl⟩;rw[hgg]at hg hp;rw[hB]at hp ⊢
 have h110:(2:Nat)^112=4*2^110:=by decide
 have h140:(2:Nat)^110<2^140:=by decide
 intro i hi n hn;have hu:∀t,t<R->(U t i).natAbs<g:=fun t ht=>Nat.lt_of_le_of_lt (hU t ht i hi) hg
 have hm:∀t,t<R->(zA7 C H y t*U t i).natAbs<=2^110*(g-1):=fun t ht=>by
  rw[Int.natAbs_mul];exact Nat.mul_le_mul (hq t ht) (by have:=hu t ht;omega)
 have hg1:1<=g:=by omega
 have hs:4*(2^110*(g-1))<B:=by
  rw[h110,Nat.mul_assoc]at hp;have:2^110*(g-1)<2^110*g:=Nat.mul_lt_mul_of_pos_left oM dE;omega
 have hgB:g<=B:=Nat.le_trans (Nat.le_mul_of_pos_left _ dE) hp;obtain⟨K,hK⟩:∃K,2^110*(g-1)=K:=⟨_,rfl⟩;rw[hK]at hm hs;refine⟨?_,fun t ht=>⟨Nat.lt_of_le_of_lt (hq t ht) h140,by have:=hu t ht;omega,by have:=hm t ht;omega⟩⟩;have h1:=zIx (n:=n) (f:=fun t=>zA7 C H y t*U t i) fun t ht=>hm t oM
 have h2:n*K<=4*K:=Nat.mul_le_mul_right _ oM;omega
theorem zJ4{z:Int}(h:z.natAbs<2^(6*E40)):Sm z:=zHN (Nat.lt_of_lt_of_le h (by
 rw[zJv]
 exact zCH (by have:=zFf;rw[zAP];omega)))
def zGH(R C:Nat)(A:Nat->Nat->Int)(y:Nat->Int)(w:World)(u:Value):Prop:=
 (∃xv x,u= .agg #[.bool true,xv,.slice none 0 0]/\qT w xv (zM R x)/\zJz R C A y x/\∀i,i<R->(x i).natAbs<2^(6*E40))∨
 (∃yv q,u= .agg #[.bool false,.slice none 0 0,yv]/\zAn w yv (jZ C fun t=>prQ (q t))/\zLt R C A y q/\∀t,t<C->HQ 170 (q t))
theorem zIo{R m C:Nat}(q:Nat->Int)(U:Nat->Nat->Int){j:Nat}(hj:j<C):∀n,n<=R->n<=m->zCY (zM m q) (zX R C U) n j=qE n fun t=>q t*U t j:=by
 intro n;induction n with
 |zero=>intro _ _;rfl
 |succ n ih=>
  intro h1 h2;rw[zDD,ih oM oM,yU oM hj];show _+(zM m q).getD n 0*_=_+_;rw[xgb,zO oM];rfl
theorem zLZ{M0:Nat}(hM1:1<=M0)(hM0:2*M0<=2^5){R C r:Nat}{c:Nat->Nat}{A:List (List Int)}{H U V:Nat->Nat->Int}(h:zBf R C r c (ent A) H U V)(hR:R<=4)(hH:leM 644972544 R C H)(hU:leM (gk 40 M0) R R U){y:Nat->Int}(hy:∀b,b<C->(y b).natAbs<=1000000):
  zCa (zM R (zA7 C H y)) (zX R R U) R R:=by
 intro j hj t ht;have h1:=zHA hM1 hM0 h hR hH hU hy j hj t oM;have h2:=h1.2 t ht;rw[xgb,zO ht,yU ht hj,zIo _ _ hj t oM oM];exact⟨zHN (zDw (Nat.le_of_lt (Nat.lt_of_lt_of_le h2.1 dE))),zJ4 h2.2.1,zJ4 h2.2.2,zJ4 h1.1⟩
theorem zGH.below{R C:Nat}{A:Nat->Nat->Int}{y:Nat->Int}{w w':World}{u:Value}(h:zGH R C A y w u)(hb:Below w.heap.size w w'):zGH R C A y w' u:=by
 rcases h with⟨xv,x,e,h1,h2⟩|⟨yv,q,e,h1,h2⟩
 ·exact .inl ⟨xv,x,e,h1.below hb,h2⟩
 ·exact .inr ⟨yv,q,e,h1.below hb,h2⟩
theorem Tryz.sizeSo:(Tryz.prog.info? 39).map (·.size)=some 3:=by kernel_rfl
theorem zH9{w:World}{r:Nat}{v:Array Value}(hb:Blk w r 39 v)(h3:v.size=3):(loadVar 39 ⟨r,0,none⟩).run Tryz.prog w= .ok (.agg v) w:=
 run_loadVar_row w r _ _ v _ _ hb Tryz.underlying39 rfl (by rw[Tryz.sizeSo,h3])
theorem zDe{fn:Func}{p u:Tmp}(h:fn.results=#[.cell p 39,.tmp u])(tmps:Array Value){W:World}{r:Nat}{v:Array Value}
  (hp:tmps.getD p undef= .pointer (some ⟨r,0,none⟩)) (hb:Blk W r 39 v) (h3:v.size=3):
  (results fn tmps).run Tryz.prog W= .ok (.tuple #[.agg v,tmps.getD u undef]) W:=by
 have hp':tmps[p]?.getD undef= .pointer (some ⟨r,0,none⟩):=by simpa using hp
 simp[results,h,hp',asAddr,zH9 hb h3]
theorem zAn.off3{w:World}{v:Value}{ps:List (Int × Int)}(h:zAn w v ps){b:Nat}{T:TypeId}{cs:Array Value}(hb:Blk w b T cs)(hT:¬ T=tQ)(hU:T≠tU)(x y z:Value):zAn (((w.setCell ⟨b,0,none⟩ x).setCell ⟨b,1,none⟩ y).setCell ⟨b,2,none⟩ z) v ps:=by
 obtain⟨ao,n,cap,h1,h2,h3,h4,h5⟩:=h;refine⟨ao,n,cap,h1,h2,h3,h4,fun hn=>?_⟩;obtain⟨g,e,hg⟩:=h5 hn;refine⟨g,e,hg.old (yN _ _ _ _ _ _ ?_) (hb.lext3 hU _ _ _)⟩;rintro rfl;obtain⟨cs',h6,-⟩:=hg;rw[hb]at h6;injection h6 with h6
 injection h6 with _ h6
 exact hT h6
theorem qT.off3{w:World}{v:Value}{zs:List Int}(h:qT w v zs){b:Nat}{T:TypeId}{cs:Array Value}(hb:Blk w b T cs)(hT:¬ T=tI)(hU:T≠tU)(x y z:Value):qT (((w.setCell ⟨b,0,none⟩ x).setCell ⟨b,1,none⟩ y).setCell ⟨b,2,none⟩ z) v zs:=
 h.gone hb hT (fun k hk hn=>yN _ _ _ _ _ _ hn) (hb.lext3 hU _ _ _)
theorem zBf.atG{R C r:Nat}{c:Nat->Nat}{A H U V:Nat->Nat->Int}(h:zBf R C r c A H U V):zBf R C r c A (ent (zX R C H)) U V:=
 ⟨h.hnf.congr fun a ha b hb=>(yU ha hb).symm,fun a ha b hb=>by rw[yU ha hb];exact h.mul a ha b hb,h.inv,fun a ha b hb=>by
  rw[h.back a ha b hb];exact zU fun t ht=>by rw[yU ht hb]⟩
theorem zFJ{M0:Nat}(hM1:1<=M0)(hM0:2*M0<=2^5)(v bv:Value)(R C:Nat)(M:List (List Int))(y:Nat->Int)(w:World)(hm:yP w v R C M)(hF:jK R C M)(hb:qT w bv (zM C y))(hR:R<=4)(hC:C<=4)(hA:leM M0 R C (ent M))(hHb:∀r c H U V,zBf R C r c (ent M) H U V->leM 644972544 R C H)(hy:∀j,j<C->(y j).natAbs<=1000000):
  Calls Tryz.prog 18 #[v,bv] w fun e w'=>∃u,e= .returned (.tuple #[u,.int .i64 0])/\zGH R C (ent M) y w' u/\Below w.heap.size w w':=by
 obtain⟨Av,rfl,hrw⟩:=id hm;obtain⟨ao,n,acap,rfl,e2,e3,e4,-⟩:=id hrw;obtain rfl:R=n:=by rw[<-e2,hF.1]
 obtain⟨bo,bn,bc,rfl,f2,f3,f4,-⟩:=id hb;obtain rfl:C=bn:=by rw[<-f2,zD]
 have hdv:decide (qX R C M)=true:=decide_eq_true hF.valid;have HM:=xgv hm;have HB:=xgv hb;have HF:=xgv hF;have HA:=xgv hA;have HY:=xgv hy;have HHB:=xgv hHb;clear hm hrw hb hF hA hy hHb e2 f2;go_enter Tryz.func18,Tryz.ntmps18;go_upto_region 1 with(fail)
 refine zB ?_;intro W0 hW0;obtain⟨hB0,T2,T4,hs0⟩:=qI hW0;obtain⟨c1,c2,c3,c4,c5,c6⟩:=T2.three;clear hW0;go_wp2_with fail
 refine(yK _ R C M W0 (HM.out.below hB0)).mono ?_;rintro e w1 ⟨rfl,hb1⟩;rw[hdv];have T2:=T2.below hb1;have T4:=T4.below hb1;have hB:=nx hB0 hb1;clear c1 c2 c3 c4 c5 c6;obtain⟨c1,c2,c3,c4,c5,c6⟩:=T2.three;go_wp2_with fail
 refine(zHg (M0:=M0) (e:=5) hM1 hM0 dE _ M R C w1 (HM.out.below hB) HF.out hR hC HA.out).mono ?_;rintro e w3 ⟨fv,r,c,H,U,V,rfl,hf,hH,hU,hV,hv,hb3⟩;obtain⟨f1,f2,f3,f4,f5,f6,f7,f8,f9,rfl,hmh,hmu⟩:=hv.aggU;have T4:=T4.below hb3;have hB:=nx hB hb3;have hf:=hf.atG;have hH:leM 644972544 R C (ent (zX R C H)):=HHB.out _ _ _ _ _ hf;have hfm:=zAV R C H;obtain⟨MH,hMH⟩:∃MH,zX R C H=MH:=⟨_,rfl⟩;rw[hMH]at hf hH hfm hmh;have hok:=zJP hf.hnf hR hH HY.out;have hts:=zLZ hM1 hM0 hf hR hH hU HY.out;have hss:∀i,i<R->(qE R fun t=>zA7 C (ent MH) y t*U t i).natAbs<2^(6*E40):=fun i hi=>(zHA hM1 hM0 hf hR hH hU HY.out i hi R (xgf _)).1
 have HFO:=xgv hf;have HHX:=xgv hH;have HFM:=xgv hfm;have HOK:=xgv hok;have HTS:=xgv hts;have HSS:=xgv hss;have HMH:=xgv hmh;have HMU:=xgv hmu;clear c1 c2 c3 c4 c5 c6 T2 hf hH hU hV hv hmh hmu hMH hfm hok hts hss;go_upto_region 4 with(fail)
 refine zB ?_;intro W5 hW5;obtain⟨hB5,T6,hs5⟩:=zK hW5;have T4:=T4.below hB5;have hB:=nx hB hB5;have HMH:=xgv (HMH.out.below hB5);have HMU:=xgv (HMU.out.below hB5);have HB:=xgv (HB.out.below hB);clear hW5;obtain⟨⟨r0,r1,r2,r3,r4,r5,r6,r7,r8⟩,⟨z0,z1,z2,z3,z4,z5,z6,z7,z8⟩⟩:=T6.all9;go_wp2_with fail
 refine(zGj zJu _ _ R C MH y W5 HMH.out HFM.out HB.out oM oM HOK.out (by have:=zDw (a:=0) dE;exact this)).mono ?_;rintro e w7 ⟨qv,rv,rfl,hq1,hs1,hb7⟩;have T4:=T4.below hb7;have T6:=T6.below hb7;have hB:=nx hB hb7;have HMH:=xgv (HMH.out.below hb7);have HMU:=xgv (HMU.out.below hb7);have HB:=xgv (HB.out.below hb7);have HQ1:=xgv hq1;clear r0 r1 r2 r3 r4 r5 r6 r7 r8 z0 z1 z2 z3 z4 z5 z6 z7 z8 hq1;obtain⟨⟨r0,r1,r2,r3,r4,r5,r6,r7,r8⟩,⟨z0,z1,z2,z3,z4,z5,z6,z7,z8⟩⟩:=T6.all9;have hzb:∃zb:Bool,zb=true↔∀t,t<C->zBN C (ent MH) y R t=0:=by
  by_cases g:∀t,t<C->zBN C (ent MH) y R t=0
  ·exact⟨true,⟨fun _=>g,fun _=>rfl⟩⟩
  ·exact⟨false,⟨fun h=>absurd h dE,fun h=>absurd h g⟩⟩
 obtain⟨zb,hzb⟩:=hzb;go_wp2_with fail
 refine(zKq _ C _ w7 hs1 zb hzb).mono ?_;rintro e w8 ⟨rfl,hb8⟩;have T4:=T4.below hb8;have T6:=T6.below hb8;have hB:=nx hB hb8;have HMH:=xgv (HMH.out.below hb8);have HMU:=xgv (HMU.out.below hb8);have HB:=xgv (HB.out.below hb8);have HQ1:=xgv (HQ1.out.below hb8);have HZ:=xgv hzb;clear r0 r1 r2 r3 r4 r5 r6 r7 r8 z0 z1 z2 z3 z4 z5 z6 z7 z8 hs1 hzb;obtain⟨⟨r0,r1,r2,r3,r4,r5,r6,r7,r8⟩,⟨z0,z1,z2,z3,z4,z5,z6,z7,z8⟩⟩:=T6.all9;have lt4:=T4.lt;have q8:=hB.size;obtain⟨d1,d2,d3,d4,d5,d6⟩:=T4.three;cases zb
 ·have hno:=HFO.out.nosol (y:=y) (fun g=>by have:=HZ.out.2 g;cases this)
  have hC1:1<=C:=by
   rcases Nat.eq_zero_or_pos C with g|g
   ·exact absurd ⟨fun _=>0,fun j hj=>by omega⟩ hno
   ·exact g
  have HNO:=xgv hno;clear hno;go_wp2_with fail
  have hmm:zX R C (ent MH)=MH:=(zKS HFM.out).symm;refine(zJZ (H0:=644972544) _ _ R R C r c (ent MH) (ent M) y w8 (by rw[hmm];exact HMH.out) HFO.out.hnf HB.out hR hC1 oM dE dE HHX.out (fun j hj=>by have:=HY.out j hj;omega) HFO.out.rowsr HNO.out).mono ?_;rintro e w9 ⟨v9,q,rfl,hp,hsn,hhq,hb9⟩;obtain⟨po,pn,pc,rfl,-⟩:=id hp;have T4:=T4.below hb9;have hB:=nx hB hb9;have HP:=xgv hp;have HSN:=xgv hsn;have HHQ:=xgv hhq;clear r0 r1 r2 r3 r4 r5 r6 r7 r8 z0 z1 z2 z3 z4 z5 z6 z7 z8 d1 d2 d3 d4 d5 d6 hp hsn hhq hmm;obtain⟨d1,d2,d3,d4,d5,d6⟩:=T4.three;go_wp2;refine bodyPost_ret (zDe rfl _ rfl (T4.put3 _ _ _) rfl) rfl ⟨_,rfl,.inr ⟨_,q,rfl,HP.out.off3 T4 dE dE _ _ _,HSN.out,HHQ.out⟩,zT (zT (zT hB oM 0 _) oM 1 _) oM 2 _⟩
 ·have hsol:=HFO.out.sol (y:=y) (HZ.out.1 rfl)
  have HSOL:=xgv hsol;clear hsol;go_wp2_with fail
  refine(zFR _ _ (zM R (zA7 C (ent MH) y)) (zX R R U) R R w8 HQ1.out HMU.out (zD _ _) (zAV _ _ _) oM oM HTS.out).mono ?_;rintro e w9 ⟨v9,rfl,hnr,hb9⟩;obtain⟨xg,rfl,hxg,hxr⟩:=hnr;have T4:=T4.below hb9;have hB:=nx hB hb9;have hxe:zM R (zCY (zM R (zA7 C (ent MH) y)) (zX R R U) R)=zM R fun i=>qE R fun t=>zA7 C (ent MH) y t*U t i:=zP fun i hi=>zIo _ _ hi R (xgf _) (xgf _)
  rw[hxe]at hxr;have HXR:=xgv hxr;clear r0 r1 r2 r3 r4 r5 r6 r7 r8 z0 z1 z2 z3 z4 z5 z6 z7 z8 d1 d2 d3 d4 d5 d6 hxr hxe;obtain⟨d1,d2,d3,d4,d5,d6⟩:=T4.three;go_wp2;have hvx:qT w9 (.slice (some ⟨xg,0,none⟩) R R) (zM R fun i=>qE R fun t=>zA7 C (ent MH) y t*U t i):=HXR.out.vec (zD _ _) (xgf _) oM;refine bodyPost_ret (zDe rfl _ rfl (T4.put3 _ _ _) rfl) rfl ⟨_,rfl,.inl ⟨_,_,rfl,hvx.off3 T4 dE dE _ _ _,HSOL.out,HSS.out⟩,zT (zT (zT hB oM 0 _) oM 1 _) oM 2 _⟩
theorem zFH(v bv:Value)(R C:Nat)(M:List (List Int))(y:Nat->Int)(w:World)(hm:yP w v R C M)(hF:jK R C M)(hb:qT w bv (zM C y))(hR:R<=4)(hC:C<=4)(hA:leM 9 R C (ent M))(hy:∀j,j<C->(y j).natAbs<=1000000):
  Calls Tryz.prog 18 #[v,bv] w fun e w'=>∃u,e= .returned (.tuple #[u,.int .i64 0])/\zGH R C (ent M) y w' u/\Below w.heap.size w w':=
 zFJ (M0:=9) dE dE v bv R C M y w hm hF hb hR hC hA (fun r c H U V h=>h.bound hR dE hA) hy
theorem zJm(v:Value)(z:Int)(w:World)(h:zH w v z):Calls Tryz.prog 173 #[v] w fun e w'=>e= .returned (.bool false)/\Below w.heap.size w w':=by
 obtain⟨s1,a1,l1,k1,rfl⟩:=h.parts;have H:=xgv h;clear h;go_enter Tryz.func173,Tryz.ntmps173;go_upto_region 1 with(fail)
 refine zB ?_;intro W0 hW0;obtain⟨hB0,T1,hs0⟩:=zK hW0;obtain⟨c1,c2,c3,c4⟩:=T1.two;clear hW0;go_wp2_with fail
 refine(zDL _ z W0 (H.out.ext (lx hB0))).mono ?_;rintro e w1 ⟨rfl,hb1⟩;go_wp2;go_ret;exact⟨rfl,nx hB0 hb1⟩
theorem zMQ(v:Value)(zs:List Int)(w:World)(h:qT w v zs):
  Calls Tryz.prog 237 #[v,.func (.func 173) #[] #[]] w fun e w'=>e= .returned (.int .i64 (-1))/\Below w.heap.size w w':=by
 obtain⟨ao,n,cap,rfl,h2,h3,h4,-⟩:=id h;have HL:=xgv h2;have H:=xgv h;clear h h2;go_enter Tryz.func237,Tryz.ntmps237;go_wp2;go_loopw [8] (fun iv wr=>∃i:Nat,i<=n/\iv= .int .i64 i/\Below w.heap.size w wr) (fun iv _=>n-(intOf iv).toNat)
 case atStart=>exact⟨0,by omega,rfl,Below.refl _ _⟩
 case round=>
  obtain⟨i,hi,rfl,hB⟩:=hrel;by_cases hlt:i<n
  ·obtain⟨b,z,s,a,l,c,rfl,hbl,-,c1,c2,hv⟩:=(H.out.below hB).cell (k:=i) (by rw[HL.out];exact hlt)
   have HV:=xgv hv;clear hv;go_wp2_with fail
   refine(zJm _ z wr HV.out).mono ?_;rintro e w1 ⟨rfl,hb1⟩;go_wp2;go_roundw
   case rel=>exact⟨i+1,by omega,by simp,nx hB hb1⟩
   case measure=>simp[intOf];omega
  ·obtain rfl:i=n:=by omega
   go_wp2;go_ret;exact⟨rfl,hB⟩
theorem zKE(v:Value)(zs:List Int)(w:World)(h:qT w v zs):
  Calls Tryz.prog 172 #[v,.func (.func 173) #[] #[]] w fun e w'=>e= .returned (.bool false)/\Below w.heap.size w w':=by
 obtain⟨ao,n,cap,rfl,h2,h3,h4,-⟩:=id h;have H:=xgv h;clear h h2;go_enter Tryz.func172,Tryz.ntmps172;go_wp2_with fail
 refine(zMQ _ zs w H.out).mono ?_;rintro e w1 ⟨rfl,hb1⟩;go_wp2;go_ret;exact⟨rfl,hb1⟩
theorem zAc(v:Value)(zs:List Int)(w:World)(h:qT w v zs):Calls Tryz.prog 80 #[v] w fun e w'=>e= .returned (.bool true)/\Below w.heap.size w w':=by
 obtain⟨ao,n,cap,rfl,h2,h3,h4,-⟩:=id h;have H:=xgv h;clear h h2;go_enter Tryz.func80,Tryz.ntmps80;go_wp2_with fail
 refine(zKE _ zs w H.out).mono ?_;rintro e w1 ⟨rfl,hb1⟩;go_wp2;go_ret;exact⟨rfl,hb1⟩
theorem zG2(v:Value)(p:Int × Int)(w:World)(h:jS w v p)(s1:Sm p.1)(s2:Sm p.2):Calls Tryz.prog 178 #[v] w fun e w'=>∃u,e= .returned u/\u= .bool (!zGI p)/\Below w.heap.size w w':=by
 have H:=xgv h;obtain⟨n1,a1,l1,k1,n2,a2,l2,k2,rfl,i1,i2⟩:=id h;obtain⟨b,hb⟩:∃b,zGI p=b:=⟨_,rfl⟩;have HI:qF (∀(v:Value) (w:World),jS w v p->Calls Tryz.prog 179 #[v] w fun e w'=>∃u,e= .returned u/\u= .bool b/\Below w.heap.size w w'):=⟨fun v w hv=>hb ▸ zJa v p w hv s1 s2⟩;rw[hb];clear h i1 i2 hb;go_enter Tryz.func178,Tryz.ntmps178;go_upto_region 1 with(fail)
 refine zB ?_;intro W0 hW0;obtain⟨hB0,T1,hs0⟩:=zK hW0;obtain⟨c1,c2,c3,c4,c5,c6,c7,c8⟩:=T1.four;clear hW0;go_wp2_with fail
 refine(HI.out _ W0 (H.out.below hB0)).mono ?_;rintro e w1 ⟨u,rfl,rfl,hb1⟩;go_wp2;go_ret;exact⟨_,rfl,rfl,nx hB0 hb1⟩
theorem zMR(v:Value)(ps:List (Int × Int))(w:World)(h:zAn w v ps)(hs:∀p∈ps,Sm p.1/\Sm p.2):
  Calls Tryz.prog 163 #[v,.func (.func 178) #[] #[]] w fun e w'=>∃k:Int,e= .returned (.int .i64 k)/\((k=-1/\zC4 ps=true)∨(0<=k/\zC4 ps=false))/\Below w.heap.size w w':=by
 obtain⟨ao,n,cap,rfl,h2,h3,h4,-⟩:=id h;have HL:=xgv h2;have H:=xgv h;have HS:=xgv hs;clear h h2 hs;go_enter Tryz.func163,Tryz.ntmps163;go_wp2;go_loopw [8] (fun iv wr=>∃i:Nat,i<=n/\iv= .int .i64 i/\Below w.heap.size w wr/\qF (zC4 (ps.take i)=true)) (fun iv _=>n-(intOf iv).toNat)
 case atStart=>exact⟨0,by omega,rfl,Below.refl _ _,⟨rfl⟩⟩
 case round=>
  obtain⟨i,hi,rfl,hB,hz⟩:=hrel;by_cases hlt:i<n
  ·obtain⟨b,p,s1,a1,l1,k1,s2,a2,l2,k2,rfl,hbl,hpk,q1,q2,q3,q4,i1,i2⟩:=(H.out.below hB).cell (k:=i) (by rw[HL.out];exact hlt)
   have HY:qF (jS wr (.agg #[.bool s1,.slice a1 l1 k1,.bool s2,.slice a2 l2 k2]) p):=⟨⟨_,_,_,_,_,_,_,_,rfl,i1,i2⟩⟩;have HPK:=xgv hpk;have HSP:=xgv (HS.out p (xgd hpk));clear i1 i2 hpk;go_wp2_with fail
   refine(zG2 _ p wr HY.out HSP.out.1 HSP.out.2).mono ?_;rintro e w1 ⟨u,rfl,rfl,hb1⟩;cases hc:zGI p with
   |true=>
    have hzz:=xgv (zGn hz.out HPK.out hc);clear hc;go_wp2;go_roundw
    case rel=>exact⟨i+1,by omega,by simp,nx hB hb1,hzz⟩
    case measure=>simp[intOf];omega
   |false=>
    have HC:qF (zC4 ps=false):=⟨List.all_eq_false.2 ⟨p,xgd HPK.out,by rw[hc];decide⟩⟩;clear hc;go_wp2;go_ret;exact⟨_,rfl,.inr ⟨by omega,HC.out⟩,nx hB hb1⟩
  ·obtain rfl:i=n:=by omega
   have HC:qF (zC4 ps=true):=⟨by
    have:=hz.out;rwa[List.take_of_length_le (by rw[HL.out];omega)]at this⟩
   go_wp2;go_ret;exact⟨_,rfl,.inl ⟨rfl,HC.out⟩,hB⟩
theorem zKF(v:Value)(ps:List (Int × Int))(w:World)(h:zAn w v ps)(hs:∀p∈ps,Sm p.1/\Sm p.2):
  Calls Tryz.prog 177 #[v,.func (.func 178) #[] #[]] w fun e w'=>∃u,e= .returned u/\u= .bool (!zC4 ps)/\Below w.heap.size w w':=by
 obtain⟨ao,n,cap,rfl,h2,h3,h4,-⟩:=id h;have H:=xgv h;have HS:=xgv hs;obtain⟨lb,hlb⟩:∃lb,zC4 ps=lb:=⟨_,rfl⟩;rw[hlb];have HLB:=xgv hlb;clear h h2 hs hlb;go_enter Tryz.func177,Tryz.ntmps177;go_wp2_with fail
 refine(zMR _ ps w H.out HS.out).mono ?_;rintro e w1 ⟨k,rfl,hk,hb1⟩;rcases hk with⟨rfl,hk⟩|⟨h0,hk⟩
 ·obtain rfl:lb=true:=by rw[<-HLB.out,hk]
  clear hk;go_wp2;go_ret;exact⟨_,rfl,rfl,hb1⟩
 ·obtain rfl:lb=false:=by rw[<-HLB.out,hk]
  clear hk;have:¬ k<0:=by omega
  go_wp2;go_ret;exact⟨_,rfl,by simp[h0],hb1⟩
theorem zIC(v1 v2:Value)(x y:Int)(w:World)(h1:zH w v1 x)(h2:zH w v2 y):Calls Tryz.prog 175 #[v1,v2] w fun e w'=>∃u,e= .returned u/\u= .bool (decide (x=y))/\Below w.heap.size w w':=by
 obtain⟨s1,a1,l1,k1,rfl⟩:=h1.parts;obtain⟨s2,a2,l2,k2,rfl⟩:=h2.parts;have H1:=xgv h1;have H2:=xgv h2;obtain⟨k,hk⟩:∃k,qJ x y=k:=⟨_,rfl⟩;obtain⟨b,hb⟩:∃b,decide (x=y)=b:=⟨_,rfl⟩;have HKB:qF (decide (k=0)=b):=⟨by
  rw[<-hk,<-hb];unfold qJ;apply decide_eq_decide.2;constructor<;>intro h<;>(split at*<;>try split at*)<;>omega⟩
 have HC:qF (∀(v1 v2:Value) (w:World),zH w v1 x->zH w v2 y->Calls Tryz.prog 176 #[v1,v2] w fun e w'=>e= .returned (.int .i64 k)/\Below w.heap.size w w'):=⟨fun v1 v2 w h1 h2=>(zHU v1 v2 _ _ w h1.weak h2.weak).mono fun e w' ⟨x,y⟩=>⟨by rw[x,hk],y⟩⟩;rw[hb];clear h1 h2 hk hb;go_enter Tryz.func175,Tryz.ntmps175;go_upto_region 1 with(fail)
 refine zB ?_;intro W0 hW0;obtain⟨hB0,T1,T2,hs0⟩:=qI hW0;obtain⟨c1,c2,c3,c4⟩:=T1.two;obtain⟨d1,d2,d3,d4⟩:=T2.two;clear hW0;go_wp2_with fail
 refine(HC.out _ _ W0 (H1.out.ext (lx hB0)) (H2.out.ext (lx hB0))).mono ?_;rintro e w1 ⟨rfl,hb1⟩;go_wp2;go_ret;refine⟨_,rfl,?_,nx hB0 hb1⟩;rw[<-HKB.out];rfl
theorem zN1(v1 v2:Value)(xs ys:List Int)(w:World)(h1:qT w v1 xs)(h2:qT w v2 ys):
  Calls Tryz.prog 174 #[v1,v2,.func (.func 175) #[] #[]] w fun e w'=>∃u,e= .returned u/\u= .bool (decide (xs=ys))/\Below w.heap.size w w':=by
 obtain⟨ao,n,cap,rfl,e2,e3,e4,-⟩:=id h1;obtain⟨bo,m,bcap,rfl,f2,f3,f4,-⟩:=id h2;have HX:=xgv e2;have HY:=xgv f2;have H1:=xgv h1;have H2:=xgv h2;obtain⟨ans,hans⟩:∃ans,decide (xs=ys)=ans:=⟨_,rfl⟩;have HA:=xgv hans;rw[hans];clear e2 f2 h1 h2 hans;by_cases hlen:(n:Int)=m
 ·obtain rfl:n=m:=by omega
  go_enter Tryz.func174,Tryz.ntmps174;go_wp2;go_loopw [17] (fun iv wr=>∃k:Nat,k<=n/\iv= .int .i64 k/\Below w.heap.size w wr/\qF (xs.take k=ys.take k)) (fun i _=>n-(intOf i).toNat)
  case atStart=>exact⟨0,by omega,rfl,Below.refl _ _,⟨by rw[List.take_zero,List.take_zero]⟩⟩
  case round=>
   obtain⟨k,hk,rfl,hB,hsame⟩:=hrel;by_cases hlt:k<n
   ·obtain⟨b,z,s,a,l,c,rfl,hbl,hz,c1,c2,hv⟩:=(H1.out.below hB).cell (k:=k) (by rw[HX.out];exact hlt)
    obtain⟨b',z',s',a',l',c',rfl,hbl',hz',d1,d2,hv'⟩:=(H2.out.below hB).cell (k:=k) (by rw[HY.out];exact hlt);have HZ:=xgv (And.intro hz hz');have HV:=xgv (And.intro hv hv');clear hz hz' hv hv';go_upto_region 6 with(fail)
    refine zB ?_;intro W1 hW1;obtain⟨hb1,T8,hs1⟩:=zK hW1;have d1:=zI d1 hb1;have d2:=zI d2 hb1;have HV:=xgv (And.intro (HV.out.1.ext (lx hb1)) (HV.out.2.ext (lx hb1)));have hB:=nx hB hb1;clear hW1 c1 c2;go_upto_region 7 with(fail)
    refine zB ?_;intro W2 hW2;obtain⟨hb2,T9,hs2⟩:=zK hW2;have T8:=T8.below hb2;have HV:=xgv (And.intro (HV.out.1.ext (lx hb2)) (HV.out.2.ext (lx hb2)));have hB:=nx hB hb2;obtain⟨c1,c2,c3,c4⟩:=T8.two;obtain⟨z1,z2,z3,z4⟩:=T9.two;clear hW2 d1 d2;go_wp2_with fail
    refine(zIC _ _ z z' W2 HV.out.1 HV.out.2).mono ?_;rintro e w1 ⟨_,rfl,rfl,hb3⟩;cases hz:decide (z=z')
    ·have hne:=zCq HZ.out.1 HZ.out.2 (of_decide_eq_false hz)
     have HN:qF (ans=false):=⟨by rw[<-HA.out];exact decide_eq_false hne⟩;clear hne hz;go_wp2;go_ret;exact⟨_,rfl,by rw[HN.out];rfl,nx hB hb3⟩
    ·have HT:=xgv (zEo hsame.out HZ.out.1 HZ.out.2 (of_decide_eq_true hz))
     clear hz;go_wp2;go_roundw
     case rel=>exact⟨k+1,by omega,by simp,nx hB hb3,HT⟩
     case measure=>simp[intOf];omega
   ·obtain rfl:k=n:=by omega
    have HT:qF (ans=true):=⟨by
     rw[<-HA.out];have:=hsame.out;rw[List.take_of_length_le (by rw[HX.out];omega),List.take_of_length_le (by rw[HY.out];omega)]at this;exact decide_eq_true this⟩
    go_wp2;go_ret;exact⟨_,rfl,by rw[HT.out];rfl,hB⟩
 ·have HN:qF (ans=false):=⟨by
   rw[<-HA.out];exact decide_eq_false fun e=>by
    have h1:=HX.out;have h2:=HY.out;rw[e]at h1;omega⟩
  go_enter Tryz.func174,Tryz.ntmps174;go_wp2;go_ret;exact⟨_,rfl,by rw[HN.out];rfl,Below.refl _ _⟩
theorem zIN{e h:Nat}(bv yv:Value)(C:Nat)(x:Nat->Int)(q:Nat->Rat)(w:World)(hx:qT w bv (zM C x))(hy:zAn w yv (jZ C fun t=>prQ (q t)))(hxs:∀j,j<C->(x j).natAbs<2^h)(hh:1<=h)(hq:∀j,j<C->HQ e (q j))(hC:C<=1000)(he:e+h+1<=900):
  Calls Tryz.prog 180 #[bv,yv] w (zAR w (zBQ C x q)):=by
 obtain⟨xo,xn,xc,rfl,f2,f3,f4,-⟩:=id hx;obtain rfl:C=xn:=by rw[<-f2,zD]
 obtain⟨yo,yn,yc,rfl,g2,g3,g4,-⟩:=id hy;obtain rfl:C=yn:=by rw[<-g2,qG]
 have HX:=xgv hx;have HY:=xgv hy;have HXS:=xgv hxs;have HQS:=xgv hq;have HE:qF (∀n,n<=C->n*(e+h+1)+1<=900001):=⟨fun n hn=>by
  have:n*(e+h+1)<=1000*900:=Nat.mul_le_mul oM he;omega⟩
 clear hx hy hxs hq f2 g2;go_enter Tryz.func180,Tryz.ntmps180;go_upto_region 1 with(fail)
 refine zB ?_;intro W0 hW0;obtain⟨hB0,T4,hs0⟩:=zK hW0;clear hW0;go_wp2_with fail
 refine(zDf _ 0 W0 (zAA W0) (qL (e:=1) dE dE)).mono ?_;rintro e1 w1 ⟨rv,rfl,⟨s5,a5,l5,k5,s6,a6,l6,k6,rfl,i5,i6⟩,hb1⟩;have T4:=T4.below hb1;have hB:=nx hB0 hb1;have I:jW w1 (.agg #[.bool s5,.slice a5 l5 k5,.bool s6,.slice a6 l6 k6]) 0:=⟨_,_,_,_,_,_,_,_,rfl,i5,i6⟩;have HI:=xgv I;clear i5 i6 I;go_upto_region 2 with(fail)
 refine zB ?_;intro W2 hW2;have hb2:Below w1.heap.size w1 W2:=by rw[hW2.out];exact(Below.refl _ _).alloc (xgf _) _
 have T5:Blk W2 w1.heap.size tQ #[.bool s5,.slice a5 l5 k5,.bool s6,.slice a6 l6 k6]:=by rw[hW2.out];exact Blk.new _ _ _
 have T4:=T4.below hb2;have HI:=xgv (HI.out.below hb2);have q1:=hB.size;have q0:=hB0.size;have hB:=nx hB hb2;have hlt5:w.heap.size<w1.heap.size:=by have:=hb1.size;omega
 obtain⟨b5,hb5⟩:∃g,w1.heap.size=g:=⟨_,rfl⟩;rw[hb5]at T5 hlt5 ⊢
 clear hW2 hb5 q1 q0 hb2;go_wp2;go_loopw [12] (fun iv wr=>∃i:Nat,i<=C/\iv= .int .i64 i/\Below w.heap.size w wr/\Blk wr w.heap.size tQ #[.bool false,.slice none 0 0,.bool false,.slice none 0 0]/\∃(y1 y3:Bool) (y2 y4:Option Addr) (l2 c2 l4 c4:Nat),Blk wr b5 tQ #[.bool y1,.slice y2 l2 c2,.bool y3,.slice y4 l4 c4]/\qF (jW wr (.agg #[.bool y1,.slice y2 l2 c2,.bool y3,.slice y4 l4 c4]) (jJ i fun j=>(x j:Rat)*q j))) (fun iv _=>C-(intOf iv).toNat)
 case atStart=>exact⟨0,by omega,rfl,hB,T4,_,_,_,_,_,_,_,_,T5,HI⟩
 case round=>
  clear hB T4 T5 HI;obtain⟨i,hi,rfl,hB,T4,y1,y3,y2,y4,l2,c2,l4,c4,T5,HI⟩:=hrel;have lt5:=T5.lt;by_cases hlt:i<C
  ·obtain⟨bx,z,s1,o1,n1,k1,rfl,hbx,hz,d1,d2,hv⟩:=(HX.out.below hB).cell (k:=i) (by rw[zD];exact hlt)
   obtain⟨by_,s,o,l,c,s',o',l',c',rfl,hby,e1,e2,e3,e4,hrat⟩:=zF8 (HY.out.below hB) hlt;rw[zO hlt]at hz;injection hz with hz
   subst hz;have HXI:=xgv hv;have HQI:=xgv hrat;have HBX:=xgv (HXS.out i hlt);have HBQ:=xgv (HQS.out i hlt);have HSB:=xgv (HQ.dot (n:=i) (fun j hj=>HXS.out j oM) hh (fun j hj=>HQS.out j oM));have HSE:=xgv (HE.out i oM);obtain⟨SS,hSS⟩:∃SS,(jJ i fun j=>(x j:Rat)*q j)=SS:=⟨_,rfl⟩;have HSS:=xgv hSS;rw[hSS]at HI HSB;obtain⟨xi,hxi⟩:∃xi,x i=xi:=⟨_,rfl⟩;obtain⟨qi,hqi⟩:∃qi,q i=qi:=⟨_,rfl⟩;have HNX:qF ((jJ (i+1) fun j=>(x j:Rat)*q j)=SS+(xi:Rat)*qi):=⟨by rw[<-hSS,<-hxi,<-hqi];rfl⟩;rw[hxi]at HXI HBX;rw[hqi]at HQI HBQ;obtain⟨r1,r2,r3,r4,r5,r6,r7,r8⟩:=T5.four;have hl1:=yD (xi:Rat);have hl2:=yD ((xi:Rat)*qi);have hl3:=yD (SS+(xi:Rat)*qi);have HXM:qF (Sm xi):=⟨qL HBX.out oM⟩;clear hv hrat hSS hxi hqi;go_upto_region 5 with(fail)
   refine zB ?_;intro W3 hW3;obtain⟨hb3,T7,hs3⟩:=zK hW3;have e1:=zI e1 hb3;have e2:=zI e2 hb3;have e3:=zI e3 hb3;have e4:=zI e4 hb3;have HXI:=xgv (HXI.out.ext (lx hb3));have HQI:=xgv (HQI.out.below hb3);have HI:=xgv (HI.out.below hb3);have T4:=T4.below hb3;have T5:=T5.below hb3;have hB:=nx hB hb3;obtain⟨b7,hb7⟩:∃g,wr.heap.size=g:=⟨_,rfl⟩;rw[hb7]at T7 lt5 ⊢
   obtain⟨z1,z2,z3,z4⟩:=T7.two;clear hW3 d1 d2 hb7 r1 r2 r3 r4 r5 r6 r7 r8 hs3;obtain⟨r1,r2,r3,r4,r5,r6,r7,r8⟩:=T5.four;refine zC 9 rfl (RV W3 _ [E 0 17 (.agg #[.bool y1,.slice y2 l2 c2,.bool y3,.slice y4 l4 c4]),E 1 18 (.agg #[.bool s1,.slice o1 n1 k1]),⟨2,19,fun w v=>jW w v (xi:Rat)⟩,VSl 3 20 by_ C yc,VN 4 21 i,VP 5 22 by_ (i*4),E 6 23 (.agg #[.bool s,.slice o l c,.bool s',.slice o' l' c']),⟨7,24,fun w v=>jW w v ((xi:Rat)*qi)⟩,⟨8,25,fun w v=>jW w v (SS+(xi:Rat)*qi)⟩]) kR RV.start (RV.fin kR ?fin1) ?steps1
   case steps1=>
    refine⟨?_,?_,?_,?_,?_,?_,?_,?_,?_,trivial⟩<;>(intro L T wS hL hd hcl hI K hK;try refine zA rfl ?_)
    ·have zt:=hI.k 5 rfl kR
     have cc0:=hI.cell r1;have cc1:=hI.cell r2;have cc2:=hI.cell r3;have cc3:=hI.cell r4;exact xgu
    ·have zt:=hI.k 7 rfl kR
     have cc0:=hI.cell z1;have cc1:=hI.cell z2;exact xgu
    ·have zt1:=hI.e mm1 (hd 1)
     go_simp;refine(zDf _ xi _ (HXI.out.ext (lx hI.bel)) HXM.out).mono ?_;rintro e wa ⟨v,rfl,hv,hba⟩;exact hK _ _ ((hI.world hba).y mm2 hv)
    ·exact xgs (hI.k 1 rfl kR)
    ·exact xgs (hI.k 6 rfl kR)
    ·exact xgt (hI.e mm3 (hd 3)) (hI.e mm4 (hd 4))
    ·have zt5:=hI.e mm5 (hd 5)
     have cc0:=hI.cell e1;have cc1:=hI.cell e2;have cc2:=hI.cell e3;have cc3:=hI.cell e4;exact xgu
    ·obtain⟨v2,zt2,h2⟩:=hI.v mm2 (hd 2)
     have zt6:=hI.e mm6 (hd 6);go_simp;refine(zM2 (a:=h) (b:=e) _ _ _ qi _ h2 (HQI.out.below hI.bel) (HQ.int HBX.out hh) HBQ.out oM).mono ?_;rintro e wa ⟨v,rfl,hv,hba⟩;exact hK _ _ ((hI.world hba).y mm7 hv)
    ·have zt0:=hI.e mm0 (hd 0)
     obtain⟨v7,zt7,h7⟩:=hI.v mm7 (hd 7);go_simp;refine(zMx _ _ SS _ _ (HI.out.below hI.bel) h7 HSB.out (HQ.mul (HQ.int HBX.out hh) HBQ.out) (by have:=HSE.out;omega)).mono ?_;rintro e wa ⟨v,rfl,hv,hba⟩;exact hK _ _ ((hI.world hba).y mm8 hv)
   intro w2 hbw2 T hT;simp only[Fin,E,EI,VP,VSl,VN,xgg,xgh,xgi,xgj]at hT;obtain⟨va2,ha2,va7,ha7,va8,ha8,rfl⟩:=hT;simp only[xgl,xgk];obtain⟨s5,a5,l5,k5,s6,a6,l6,k6,rfl,i5,i6⟩:=(show jW _ _ _ from ha8);have I:jW w2 (.agg #[.bool s5,.slice a5 l5 k5,.bool s6,.slice a6 l6 k6]) (SS+(xi:Rat)*qi):=⟨_,_,_,_,_,_,_,_,rfl,i5,i6⟩;have HI2:=xgv I;have T4:=T4.below hbw2;have T5:=T5.below hbw2;have hB:=nx hB hbw2;clear i5 i6 I r1 r2 r3 r4 r5 r6 r7 r8 e1 e2 e3 e4 ha2 ha7 z1 z2 z3 z4;obtain⟨r1,r2,r3,r4,r5,r6,r7,r8⟩:=T5.four;go_wp2;go_roundw
   case rel=>exact⟨i+1,by omega,by simp,jC hB oM 0 _ _ _ _,(zEA _ _ _ _ _ _ _ _ oM).trans T4,_,_,_,_,_,_,_,_,T5.put4 _ _ _ _,⟨by rw[HNX.out];exact HI2.out.ext (T5.lext4 dE 0 _ _ _ _)⟩⟩
   case measure=>simp[intOf];omega
  ·obtain rfl:i=C:=by omega
   obtain⟨r1,r2,r3,r4,r5,r6,r7,r8⟩:=T5.four;obtain⟨t1,t2,t3,t4,t5,t6,t7,t8⟩:=T4.four;go_wp2;have hx:=T4.lext4 dE 0 (.bool y1) (.slice y2 l2 c2) (.bool y3) (.slice y4 l4 c4);exact qN rfl rfl rfl (T4.put4 _ _ _ _) (HI.out.ext hx) (jC hB oM 0 _ _ _ _)
theorem zIp(zs:List Int)(M:List (List Int))(m j:Nat):zCY zs M m j=qE m fun i=>zs.getD i 0*ent M i j:=by
 unfold zCY;rw[zCL]
theorem zJg(xv mv bv:Value)(zs:List Int)(M:List (List Int))(R C:Nat)(y:Nat->Int)(w:World)(hx:qT w xv zs)(hm:yP w mv R C M)(hb:qT w bv (zM C y))(hl:zs.length=R)(hF:jK R C M)(hR:R<=1000000)(hC:C<=1000000)(hS:zCa zs M R C):
  Calls Tryz.prog 83 #[xv,mv,bv] w fun e w'=>∃u,e= .returned u/\u= .bool (decide (zM C (fun j=>qE R fun i=>zs.getD i 0*ent M i j)=zM C y))/\Below w.heap.size w w':=by
 have HM:=xgv hm;obtain⟨Av,rfl,hrw⟩:=id hm;obtain⟨ao,mn,acap,rfl,e2,e3,e4,-⟩:=id hrw;have HX:=xgv hx;have HB:=xgv hb;have HF:=xgv hF;have HS:=xgv hS;have HL:=xgv hl;have he:zM C (fun j=>qE R fun i=>zs.getD i 0*ent M i j)=zM C (zCY zs M R):=zP fun j _=>(zIp zs M R j).symm
 rw[he];obtain⟨xo,xn,xc,rfl,g2,g3,g4,-⟩:=id hx;obtain⟨bo,bn,bc,rfl,f2,f3,f4,-⟩:=id hb;clear hm hrw hx hb hF hS hl he e2 g2 f2;go_enter Tryz.func83,Tryz.ntmps83;go_upto_region 1 with(fail)
 refine zB ?_;intro W0 hW0;obtain⟨hB0,T4,hs0⟩:=zK hW0;clear hW0;go_wp2_with fail
 refine(zAc _ zs W0 (HX.out.below hB0)).mono ?_;rintro e w1 ⟨rfl,hb1⟩;have T4:=T4.below hb1;have hB:=nx hB0 hb1;obtain⟨c1,c2,c3,c4,c5,c6⟩:=T4.three;go_wp2_with fail
 refine(zFR _ _ zs M R C w1 (HX.out.below hB) (HM.out.below hB) HL.out HF.out hR hC HS.out).mono ?_;rintro e w2 ⟨u,rfl,⟨g,rfl,hg,hr⟩,hb2⟩;have hB:=nx hB hb2;have HU:=xgv (hr.vec (zD _ _) (xgf _) oM);clear hr c1 c2 c3 c4 c5 c6;go_wp2_with fail
 refine(zN1 _ _ _ _ w2 HU.out (HB.out.below hB)).mono ?_;rintro e w3 ⟨_,rfl,rfl,hb3⟩;go_wp2;go_ret;exact⟨_,rfl,rfl,nx hB hb3⟩
theorem zH5{e h:Nat}(yv mv bv:Value)(R C:Nat)(M:List (List Int))(y:Nat->Int)(ps:List (Int × Int))(w:World)(hm:yP w mv R C M)(hF:jK R C M)(hb:qT w bv (zM C y))(hp:zAn w yv ps)(hl:ps.length=C)(hC:C<=1000)
  (hps:∀p∈ps,p.1.natAbs<2^e/\p.2.natAbs<2^e) (hM:∀a,a<R->∀b,b<C->(ent M a b).natAbs<2^h) (hy:∀j,j<C->(y j).natAbs<2^h) (hh:1<=h) (he:e+h+1<=900):
  Calls Tryz.prog 85 #[yv,mv,bv] w fun e w'=>∃u,e= .returned u/\u= .bool (zC4 ps && ((List.range R).all fun i=>isZ (zBQ C (ent M i) (rqL ps))) && !isZ (zBQ C y (rqL ps)))/\Below w.heap.size w w':=by
 have HM:=xgv hm;obtain⟨Av,rfl,hrw⟩:=id hm;obtain⟨ao,mn,acap,rfl,e2,e3,e4,-⟩:=id hrw;obtain rfl:R=mn:=by rw[<-e2,hF.1]
 have HRW:=xgv hrw;have HF:=xgv hF;have HB:=xgv hb;have HP:=xgv hp;have HPB:=xgv hps;have HMB:=xgv hM;have HYB:=xgv hy;obtain⟨bo,bn,bc,rfl,f2,f3,f4,-⟩:=id hb;obtain rfl:C=bn:=by rw[<-f2,zD]
 obtain⟨yo,yn,yc,rfl,k2,k3,k4,-⟩:=id hp;obtain rfl:C=yn:=by omega
 have HLN:=xgv hl;have HSM:qF (∀p∈ps,Sm p.1/\Sm p.2):=⟨fun p hp=>⟨qL (hps p hp).1 oM,qL (hps p hp).2 oM⟩⟩;obtain⟨ans,hans⟩:∃ans,(zC4 ps && ((List.range R).all fun i=>isZ (zBQ C (ent M i) (rqL ps))) && !isZ (zBQ C y (rqL ps)))=ans:=⟨_,rfl⟩;rw[hans];have HA:=xgv hans;have hcp:=fun w h=>zKF (.slice yo C yc) ps w h HSM.out
 obtain⟨lb,hlb⟩:∃lb,zC4 ps=lb:=⟨_,rfl⟩;rw[hlb]at hcp;have HCP:=xgv hcp;have HLB:=xgv hlb;clear hrw hF hm hb hp e2 f2 k2 hans hps hM hy hl hcp hlb;go_enter Tryz.func85,Tryz.ntmps85;go_upto_region 1 with(fail)
 refine zB ?_;intro W0 hW0;obtain⟨hB0,T4,hs0⟩:=zK hW0;clear hW0;go_wp2_with fail
 refine(HCP.out W0 (HP.out.below hB0)).mono ?_;rintro e1 w1 ⟨_,rfl,rfl,hb1⟩;have T4:=T4.below hb1;have hB:=nx hB0 hb1;obtain⟨c1,c2,c3,c4,c5,c6⟩:=T4.three;cases lb
 ·go_wp2
  go_ret;refine⟨_,rfl,?_,hB⟩;rw[<-HA.out,HLB.out];rfl
 ·have hpe:=zIV HLB.out
  rw[HLN.out]at hpe;have hq:∀j,j<C->HQ e (rqL ps j):=fun j hj=>zNa HLB.out HPB.out (by have:=HLN.out;omega)
  have hpv:zAn w1 (.slice yo C yc) (jZ C fun t=>prQ (rqL ps t)):=by rw[<-hpe];exact HP.out.below hB
  have HPV:=xgv hpv;have HQS:=xgv hq;have HA2:qF ((((List.range R).all fun i=>isZ (zBQ C (ent M i) (rqL ps))) && !isZ (zBQ C y (rqL ps)))=ans):=⟨by rw[<-HA.out,HLB.out];simp⟩;obtain⟨q,hqq⟩:∃q,rqL ps=q:=⟨_,rfl⟩;rw[hqq]at HPV HQS HA2;clear hpe hq hpv hqq HLB HCP;go_wp2;go_loopw [14] (fun iv wr=>∃i:Nat,i<=R/\iv= .int .i64 i/\Below w1.heap.size w1 wr/\qF (∀k,k<i->isZ (zBQ C (ent M k) q)=true)) (fun iv _=>R-(intOf iv).toNat)
  case atStart=>exact⟨0,by omega,rfl,Below.refl _ _,⟨fun k hk=>by omega⟩⟩
  case round=>
   obtain⟨i,hi,rfl,hb,hall⟩:=hrel;by_cases hlt:i<R
   ·obtain⟨bm,ra,rn,rc,zs,rfl,hbm,hz,p1,hrv⟩:=(HRW.out.below (nx hB hb)).row (k:=i) (by rw[HF.out.1];exact hlt)
    obtain rfl:=HF.out.row_eq hz;have HRV:=xgv hrv;clear hz hrv;go_wp2_with fail
    refine(zIN (e:=e) (h:=h) _ _ C (ent M i) q wr HRV.out (HPV.out.below hb) (fun j hj=>HMB.out i hlt j hj) hh HQS.out hC he).mono ?_;rintro e5 w5 ⟨rv,rfl,hrat,hb5⟩;have HRAT:=xgv hrat;clear hrat;go_wp2_with fail
    refine(zBn _ _ w5 HRAT.out).mono ?_;rintro e6 w6 ⟨_,rfl,rfl,hb6⟩;cases hz:isZ (zBQ C (ent M i) q)
    ·go_wp2
     go_ret;refine⟨_,rfl,?_,nx hB (nx (nx hb hb5) hb6)⟩;rw[<-HA2.out];have:((List.range R).all fun i=>isZ (zBQ C (ent M i) q))=false:=List.all_eq_false.2 ⟨i,List.mem_range.2 hlt,by rw[hz];decide⟩;rw[this];rfl
    ·go_wp2
     go_roundw
     case rel=>exact⟨i+1,by omega,by simp,nx (nx hb hb5) hb6,⟨fun k hk=>by
      rcases Nat.lt_or_ge k i with g|g
      ·exact hall.out k g
      ·obtain rfl:k=i:=by omega
       exact hz⟩⟩
     case measure=>simp[intOf];omega
   ·obtain rfl:i=R:=by omega
    have hB:=nx hB hb;go_wp2_with fail
    refine(zIN (e:=e) (h:=h) _ _ C y q wr (HB.out.below hB) (HPV.out.below hb) HYB.out hh HQS.out hC he).mono ?_;rintro e5 w5 ⟨rv,rfl,hrv,hb5⟩;have HRV:=xgv hrv;clear hrv;go_wp2_with fail
    refine(zBn _ _ w5 HRV.out).mono ?_;rintro e6 w6 ⟨_,rfl,rfl,hb6⟩;go_wp2;go_ret;refine⟨_,rfl,?_,nx (nx hB hb5) hb6⟩;rw[<-HA2.out];have:((List.range i).all fun i=>isZ (zBQ C (ent M i) q))=true:=List.all_eq_true.2 fun k hk=>hall.out k (List.mem_range.1 hk)
    rw[this];rfl
theorem zDT(xo yo:Option Addr)(xn xc yn yc:Nat)(w:World):
  Calls Tryz.prog 81 #[.agg #[.bool true,.slice xo xn xc,.slice yo yn yc]] w fun e w'=>e= .returned (if yn=0 then .iface 148 (.slice xo xn xc)else .nilIface)/\Below w.heap.size w w':=by
 by_cases hy:(yn:Int)=0
 ·rw[if_pos oM]
  go_enter Tryz.func81,Tryz.ntmps81;go_upto_region 1 with(fail)
  refine zB ?_;intro W0 hW0;obtain⟨hB0,T1,hs0⟩:=zK hW0;obtain⟨c1,c2,c3,c4,c5,c6⟩:=T1.three;clear hW0;go_wp2;go_ret;exact⟨rfl,hB0⟩
 ·rw[if_neg oM]
  go_enter Tryz.func81,Tryz.ntmps81;go_upto_region 1 with(fail)
  refine zB ?_;intro W0 hW0;obtain⟨hB0,T1,hs0⟩:=zK hW0;obtain⟨c1,c2,c3,c4,c5,c6⟩:=T1.three;clear hW0;go_wp2;go_ret;exact⟨rfl,hB0⟩
theorem zFw(xo yo:Option Addr)(xn xc yn yc:Nat)(w:World):
  Calls Tryz.prog 81 #[.agg #[.bool false,.slice xo xn xc,.slice yo yn yc]] w fun e w'=>e= .returned (if xn=0 then .iface 137 (.slice yo yn yc)else .nilIface)/\Below w.heap.size w w':=by
 by_cases hx:(xn:Int)=0
 ·rw[if_pos oM]
  go_enter Tryz.func81,Tryz.ntmps81;go_upto_region 1 with(fail)
  refine zB ?_;intro W0 hW0;obtain⟨hB0,T1,hs0⟩:=zK hW0;obtain⟨c1,c2,c3,c4,c5,c6⟩:=T1.three;clear hW0;go_wp2;go_ret;exact⟨rfl,hB0⟩
 ·rw[if_neg oM]
  go_enter Tryz.func81,Tryz.ntmps81;go_upto_region 1 with(fail)
  refine zB ?_;intro W0 hW0;obtain⟨hB0,T1,hs0⟩:=zK hW0;obtain⟨c1,c2,c3,c4,c5,c6⟩:=T1.three;clear hW0;go_wp2;go_ret;exact⟨rfl,hB0⟩
end Go.Proofs.YtnbmaipobhppcaaGreat
