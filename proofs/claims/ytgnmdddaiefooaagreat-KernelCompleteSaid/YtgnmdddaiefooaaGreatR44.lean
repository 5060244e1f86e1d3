/- torsionref12: Pivot, Is. torsionref12.Check. The law for regions that draw (RegV), where two values stand in a relation, and some values are copies of others. hermite.Reduce. -/
import Derived.Test.YtgnmdddaiefooaaGreatR16
import Derived.Test.YtgnmdddaiefooaaGreatR25
import Derived.Test.YtgnmdddaiefooaaGreatR26
import Derived.Test.YtgnmdddaiefooaaGreatR38
import Derived.Test.YtgnmdddaiefooaaGreatR39
set_option linter.unusedVariables false
set_option linter.unusedSimpArgs false
set_option linter.unusedSectionVars false
set_option maxHeartbeats 16000000
set_option maxRecDepth 100000
namespace Go.Proofs.YtgnmdddaiefooaaGreat
open Go.RowKit
theorem zEk(v:Value)(zs:List Int)(w:World)(h:zAZ w v zs):
  Calls Tryz.prog 75 #[v] w fun e w'=>e= .returned (.int .i64 (zAN 0 zs))/\Below w.heap.size w w':=by
 obtain⟨ao,n,cap,rfl,h2,h3,h4,h5⟩:=id h;have HL:=xgw h2;clear h2 h5;go_enter Tryz.func75,Tryz.ntmps75;go_wp2;go_loopw [3] (fun i wr=>∃k:Nat,k<=n/\i= .int .i64 k/\Below w.heap.size w wr/\Hid (zAN 0 zs=zAN k (zs.drop k))) (fun i _=>n-(intOf i).toNat)
 case atStart=>exact⟨0,by omega,rfl,Below.refl _ _,by rw[xgk];exact xgw rfl⟩
 case round=>
  obtain⟨k,hk,rfl,hb,hgo⟩:=hrel;by_cases hlt:k<n
  ·obtain⟨b,z,s,a,l,c,rfl,hbl,hz,c1,c2,hv⟩:=(h.below hb).cell (k:=k) (by rw[HL.out];exact hlt)
   have HZ:=xgw hz;clear hz;go_wp2_with fail
   refine(yH _ z wr hv).mono ?_;rintro e w7 ⟨rfl,hb7⟩;have hb9:=nx hb hb7;by_cases hz0:z=0
   ·rw[jT hz0]
    go_wp2;go_roundw
    case rel=>
     refine⟨k+1,by omega,by simp,hb9,xgw ?_⟩;rw[hgo.out,zBL HZ.out];conv=>lhs;unfold zAN
     rw[if_neg (by simp[hz0])]
    case measure=>simp[intOf];omega
   ·have hc:=zBp hz0
    obtain⟨k0,hk0⟩:∃k0,qO z 0=k0:=⟨_,rfl⟩;rw[hk0]at hc ⊢
    have hc2:(k0 !=0)=true:=by simpa using hc
    go_wp2;go_ret;refine⟨?_,hb9⟩;rw[hgo.out,zBL HZ.out];conv=>rhs;unfold zAN
    rw[if_pos hz0];rfl
  ·obtain rfl:k=n:=by omega
   go_wp2;go_ret;refine⟨?_,hb⟩;rw[hgo.out,List.drop_eq_nil_of_le (Nat.le_of_eq HL.out)];rfl
structure zBi(C:Nat)(F:Nat->Nat->Int)(i:Nat)(last:Int):Prop where
 ok:∀k,k<i->zBU C F k
 lst:∀c:Nat,c<C->(last<c↔∀k,k<i->0<=lead C F k/\lead C F k<c)
theorem zBi.start(C:Nat)(F:Nat->Nat->Int):zBi C F 0 (-1):=
 ⟨fun k hk=>by omega,fun c hc=>⟨fun _ k hk=>by omega,fun _=>by omega⟩⟩
theorem zBi.zero{C:Nat}{F:Nat->Nat->Int}{i:Nat}{last:Int}(h:zBi C F i last)(hl:lead C F i<0):zBi C F (i+1) C:=
 ⟨fun k hk=>by
  by_cases e:k=i
  ·rw[e];exact .inl hl
  ·exact h.ok k oM,fun c hc=>⟨fun h=>by omega,fun h=>by have:=h i oM;omega⟩⟩
theorem zBi.row{C:Nat}{F:Nat->Nat->Int}{i c:Nat}{last:Int}(h:zBi C F i last)(hl:lead C F i=(c:Int)):
  zBU C F i↔last<c/\0<F i c/\∀k,k<i->0<=F k c/\F k c<F i c:=by
 have hz:=zAA hl;constructor
 ·rintro(h1|⟨c',h1,h2,h3,h4⟩)
  ·omega
  ·obtain rfl:c'=c:=by omega
   exact⟨(h.lst c' hz.1).2 h2,h3,h4⟩
 ·rintro⟨h2,h3,h4⟩
  exact .inr ⟨c,hl,(h.lst c hz.1).1 h2,h3,h4⟩
theorem zBi.step{C:Nat}{F:Nat->Nat->Int}{i c:Nat}{last:Int}(h:zBi C F i last)(hl:lead C F i=(c:Int))(hr:zBU C F i):zBi C F (i+1) c:=by
 refine⟨fun k hk=>?_,fun d hd=>⟨fun hlt k hk=>?_,fun hk=>by have:=(hk i oM).2;omega⟩⟩
 ·by_cases e:k=i
  ·rw[e];exact hr
  ·exact h.ok k oM
 ·by_cases e:k=i
  ·rw[e];omega
  ·rcases hr with h1|⟨c',h1,h2,-⟩
   ·omega
   ·have:=h2 k oM;omega
theorem zK3 (v:Value)(R C:Int)(M:List (List Int))(w:World)(h:qL w v R C M)(hS:∀r∈M,∀z∈r,Sm z):
  Calls Tryz.prog 29 #[v] w (zIr (zLl R C M) w):=by
 have h0:=h;obtain⟨A,rfl,h⟩:=h;obtain⟨ao,n,cap,rfl,e2,e3,e4,-⟩:=id h;have HX:=xgw e2;have HS:=xgv hS;clear e2 hS;by_cases hv:qR R C M
 ·have hdv:=decide_eq_true hv
  have hv':=hv;obtain⟨v1,v2,v3,v4⟩:=hv;obtain⟨C',rfl⟩:=Int.eq_ofNat_of_zero_le v2;obtain rfl:R=(n:Int):=by rw[<-v3,HX.out]
  have hF:yG n C' M:=⟨HX.out,fun r hr=>by have:=v4 r hr;omega⟩;have HF:=xgv hF;have hiff:Hid (zLl n C' M↔∀i,i<n->zBU C' (ent M) i):=xgw ⟨fun h=>by have:=h.2;rw[HX.out,Int.toNat_natCast]at this;exact this,fun h=>⟨hv',by rw[HX.out,Int.toNat_natCast];exact h⟩⟩;clear v1 v2 v3 v4 hv' hF;go_enter Tryz.func29,Tryz.ntmps29;go_upto_region 1 with(fail)
  refine zC ?_;intro W0 hW0;obtain⟨hB0,bx1,hs0⟩:=zN hW0;obtain⟨c1,c2,c3,c4,c5,c6⟩:=bx1.three;clear hW0;go_wp2_with fail
  refine(zBh _ n C' M W0 (h0.below hB0)).mono ?_;rintro e w1 ⟨rfl,hb1⟩;rw[hdv];have bx1:=bx1.below hb1;have hB1:=nx hB0 hb1;clear c1 c2 c3 c4 c5 c6 hdv;obtain⟨c1,c2,c3,c4,c5,c6⟩:=bx1.three;go_wp2;go_loopw [4,5] (fun lv iv wr=>∃(i:Nat) (last:Int),i<=n/\lv= .int .i64 last/\iv= .int .i64 i/\Below w.heap.size w wr/\Blk wr w.heap.size 28 #[.int .i64 n,.int .i64 C',.slice ao n cap]/\qM (zBi C' (ent M) i last)) (fun _ iv _=>n-(intOf iv).toNat)
  case atStart=>exact⟨0,-1,by omega,rfl,rfl,hB1,bx1,⟨zBi.start _ _⟩⟩
  case round=>
   clear bx1 c1 c2 c3 c4 c5 c6;obtain⟨i,last,hi,rfl,rfl,hb,bx1,hinv⟩:=hrel;obtain⟨c1,c2,c3,c4,c5,c6⟩:=bx1.three;by_cases hlt:i<n
   ·obtain ⟨b,ra,rn,rc,zs,rfl,hbl,hz,p1,hrv⟩:=(h.below hb).row (k:=i) (by rw[HX.out];exact hlt)
    obtain rfl:=HF.out.row_eq hz;have hrn:=hrv.len.1;rw[zE]at hrn;subst hrn;have HZ:=xgw hz;clear hz;go_wp2_with fail
    refine(zEk _ (zQ C' (ent M i)) wr hrv).mono ?_;rintro e w7 ⟨rfl,hb7⟩;obtain⟨L,hL⟩:∃L,zAN 0 (zQ C' (ent M i))=L:=⟨_,rfl⟩;rw[hL];have HL:=xgw (show lead C' (ent M) i=L from hL);have hb8:=nx hb hb7;have bx1:=bx1.below hb7;have hrv:=hrv.below hb7;have hrw:=h.below hb8;have p1:=(hb7.cell (p:=⟨b,i,none⟩) hbl).trans p1;have hbl:=Nat.lt_of_lt_of_le hbl hb7.size;clear hL c1 c2 c3 c4 c5 c6;obtain⟨c1,c2,c3,c4,c5,c6⟩:=bx1.three;by_cases hneg:L<0
    ·have hd:decide (L<0)=true:=decide_eq_true hneg
     have HN:=xgw hneg;clear hneg;go_wp2;go_roundw
     case rel=>
      exact⟨i+1,C',by omega,rfl,by simp,hb8,bx1,⟨hinv.out.zero (by rw[HL.out];exact HN.out)⟩⟩
     case measure=>simp[intOf];omega
    ·obtain ⟨c,rfl⟩:=Int.eq_ofNat_of_zero_le (Int.not_lt.1 hneg)
     have hcC:c<C':=(zAA HL.out).1;have HR:=xgw (hinv.out.row HL.out);have hno:¬ zBU C' (ent M) i->¬ zLl n C' M:=fun hr h=>hr (hiff.out.1 h i hlt)
     have HNO:=xgv hno;clear hno hneg;by_cases hle:(c:Int)<=last
     ·have HLE:=xgw hle
      have hd:decide ((c:Int)<=last)=true:=decide_eq_true hle;clear hle;go_wp2;go_ret;exact zIr.no (HNO.out (fun hr=>by have h1:=(HR.out.1 hr).1;have h2:=HLE.out;omega)) hb8
     ·have HLE:=xgw hle
      have hd:decide ((c:Int)<=last)=false:=decide_eq_false hle;clear hle;obtain⟨bi,z,s,a,l,kz,rfl,hbi,hzk,q1,q2,hzv⟩:=hrv.cell (k:=c) (by rw[zE];exact hcC);have hze:z=ent M i c:=by
       rw[zW hcC]at hzk;exact(Option.some.inj hzk).symm
      have HZE:=xgw hze;have hzS:qM (Sm z):=⟨HS.out _ (xgd HZ.out) z (xgd hzk)⟩;clear hzk hze;go_wp2_with fail
      refine(yH _ z w7 hzv).mono ?_;rintro e w9 ⟨rfl,hb9⟩;have bx1:=bx1.below hb9;have p1:=(hb9.cell (p:=⟨b,i,none⟩) hbl).trans p1;have q1:=(hb9.cell (p:=⟨bi,c*2,none⟩) hbi).trans q1;have q2:=(hb9.cell (p:=⟨bi,c*2+1,none⟩) hbi).trans q2;have hbl:=Nat.lt_of_lt_of_le hbl hb9.size;have hbi:=Nat.lt_of_lt_of_le hbi hb9.size;have hzv:=hzv.ext (lx hb9);have hrw:=hrw.below hb9;have hb9':=nx hb8 hb9;clear c1 c2 c3 c4 c5 c6 hrv;obtain⟨c1,c2,c3,c4,c5,c6⟩:=bx1.three;by_cases hx:z<=0
      ·obtain⟨k0,hk0⟩:∃k0,qO z 0=k0:=⟨_,rfl⟩
       have n1:decide (k0<=0)=true:=decide_eq_true (by
        rw[<-hk0];rcases Int.lt_or_eq_of_le hx with h|h
        ·rw[yE h];decide
        ·rw[jC h];decide)
       rw[hk0];have HXX:=xgw hx;clear hx hk0;go_wp2;go_ret;exact zIr.no (HNO.out (fun hr=>by have h1:=(HR.out.1 hr).2.1;have h2:=HXX.out;have h3:=HZE.out;omega)) hb9'
      ·rw [yV oM]
       have HXX:=xgw hx;clear hx;go_wp2;go_loopw [7] (fun kv wt=>∃k:Nat,k<=i/\kv= .int .i64 k/\Below w9.heap.size w9 wt/\Hid (∀j,j<k->0<=ent M j c/\ent M j c<z)) (fun kv _=>i-(intOf kv).toNat)
       case atStart=>exact⟨0,by omega,rfl,Below.refl _ _,xgw fun j h=>absurd h oM⟩
       case round=>
        rename World=>wt
        obtain⟨k,hk,rfl,hbt,hin⟩:=hrel;have bx1:=bx1.below hbt;clear c1 c2 c3 c4 c5 c6;obtain⟨c1,c2,c3,c4,c5,c6⟩:=bx1.three;have hbT:=nx hb9' hbt;by_cases hki:k<i
        ·have hkn:k<n:=by omega
         have p1:=(hbt.cell (p:=⟨b,i,none⟩) hbl).trans p1;have q1:=(hbt.cell (p:=⟨bi,c*2,none⟩) hbi).trans q1;have q2:=(hbt.cell (p:=⟨bi,c*2+1,none⟩) hbi).trans q2;have hzv:=hzv.ext (lx hbt);obtain⟨b',rb,rbn,rbc,zs,e1,hbl',hz',p3,hrk⟩:=(hrw.below hbt).row (k:=k) (by rw[HX.out];omega);cases e1;obtain rfl:=HF.out.row_eq hz';have hrn:=hrk.len.1;rw[zE]at hrn;subst hrn;obtain⟨bk,zk,sk,ak,lk,kk,rfl,hbk,hzk,o1,o2,hkv⟩:=hrk.cell (k:=c) (by rw[zE];exact hcC);have hke:zk=ent M k c:=by
          rw[zW hcC]at hzk;exact(Option.some.inj hzk).symm
         have HKE:=xgw hke;have hkS:qM (Sm zk):=⟨HS.out _ (xgd hz') zk (xgd hzk)⟩;have hci:c<C':=hcC;clear hzk hke hz' hrk;by_cases h0:zk<0
         ·have hs:∀Q,zR Q (.agg #[.bool sk,.slice ak lk kk]) zk->Calls Tryz.prog 76 #[.agg #[.bool sk,.slice ak lk kk]] Q fun e w'=>e= .returned (.int .i64 (-1))/\Below Q.heap.size Q w':=fun Q hq=>by
           have:=yH _ zk Q hq;rwa[yE h0]at this
          have H0:=xgw h0;clear h0;go_upto_region 16 with(fail)
          refine zF rfl (RV wt _ [VP 0 48 w.heap.size 2,VSl 1 49 b n cap,VN 2 50 k,VP 3 51 b k,E 4 52 (.slice (some ⟨bk,0,none⟩) C' rbc),VN 5 53 c,VP 6 54 bk (c*2),E 7 55 (.agg #[.bool sk,.slice ak lk kk]),E 8 56 (.int .i64 (-1)),E 9 57 (.bool true),E 10 58 (.bool true),E 11 59 (undef),E 12 60 (undef),E 13 61 (undef),E 14 62 (undef),E 15 63 (undef),E 16 64 (undef),E 17 65 (undef),E 18 66 (undef),E 19 67 (undef),E 20 68 (undef),E 21 69 (undef),E 22 70 (undef),E 23 71 (undef),E 24 72 (undef),E 25 73 (undef),E 26 74 (undef),E 27 75 (undef),E 28 76 (undef),E 29 77 (.bool true)]) kR RV.start (RV.fin kR ?fin1) ?steps1
          case steps1=>
           refine⟨?_,?_,?_,?_,?_,?_,?_,?_,?_,?_,?_,?_,?_,?_,?_,?_,?_,?_,?_,?_,?_,?_,?_,?_,?_,?_,?_,?_,?_,?_,trivial⟩<;>(intro L T wS hL hd hcl hI K hK;try refine zA rfl ?_)
           ·exact xgs (hI.k 1 rfl kR)
           ·have zt0:=hI.e mm0 (hd 0)
            have cc0:=hI.cell c3;exact xgu
           ·exact xgs (hI.k 7 rfl kR)
           ·exact xgt (hI.e mm1 (hd 1)) (hI.e mm2 (hd 2))
           ·have zt3:=hI.e mm3 (hd 3)
            have cc0:=hI.cell p3;exact xgu
           ·exact xgs (hI.k 6 rfl kR)
           ·exact xgt (hI.e mm4 (hd 4)) (hI.e mm5 (hd 5))
           ·have zt6:=hI.e mm6 (hd 6)
            have cc0:=hI.cell o1;have cc1:=hI.cell o2;exact xgu
           ·have zt7:=hI.e mm7 (hd 7)
            go_simp;refine(hs _ (hkv.ext (lx hI.bel))).mono ?_
            (rintro e wa ⟨rfl,hba⟩;have hv:(Value.int .i64 (-1))= .int .i64 (-1):=rfl)
            exact hK _ _ ((hI.world hba).y mm8 hv)
           ·exact xgs (hI.e mm8 (hd 8))
           ·exact xgs (hI.e mm9 (hd 9))
           ·have zg:=hI.e yD (hd 10)
            refine qE xgp ?_;exact hK _ _ (hI.y zAB rfl)
           ·have zg:=hI.e yD (hd 10)
            refine qE xgp ?_;exact hK _ _ (hI.y zAh rfl)
           ·have zg:=hI.e yD (hd 10)
            refine qE xgp ?_;exact hK _ _ (hI.y zBv rfl)
           ·have zg:=hI.e yD (hd 10)
            refine qE xgp ?_;exact hK _ _ (hI.y zBF rfl)
           ·have zg:=hI.e yD (hd 10)
            refine qE xgp ?_;exact hK _ _ (hI.y zCN rfl)
           ·have zg:=hI.e yD (hd 10)
            refine qE xgp ?_;exact hK _ _ (hI.y zCf rfl)
           ·have zg:=hI.e yD (hd 10)
            refine qE xgp ?_;exact hK _ _ (hI.y zCg rfl)
           ·have zg:=hI.e yD (hd 10)
            refine qE xgp ?_;exact hK _ _ (hI.y zCh rfl)
           ·have zg:=hI.e yD (hd 10)
            refine qE xgp ?_;exact hK _ _ (hI.y zDW rfl)
           ·have zg:=hI.e yD (hd 10)
            refine qE xgp ?_;exact hK _ _ (hI.y zD6 rfl)
           ·have zg:=hI.e yD (hd 10)
            refine qE xgp ?_;exact hK _ _ (hI.y zEf rfl)
           ·have zg:=hI.e yD (hd 10)
            refine qE xgp ?_;exact hK _ _ (hI.y zEg rfl)
           ·have zg:=hI.e yD (hd 10)
            refine qE xgp ?_;exact hK _ _ (hI.y zEh rfl)
           ·have zg:=hI.e yD (hd 10)
            refine qE xgp ?_;exact hK _ _ (hI.y zGC rfl)
           ·have zg:=hI.e yD (hd 10)
            refine qE xgp ?_;exact hK _ _ (hI.y zGD rfl)
           ·have zg:=hI.e yD (hd 10)
            refine qE xgp ?_;exact hK _ _ (hI.y zHd rfl)
           ·have zg:=hI.e yD (hd 10)
            refine qE xgp ?_;exact hK _ _ (hI.y zGE rfl)
           ·have zg:=hI.e yD (hd 10)
            refine qE xgp ?_;exact hK _ _ (hI.y zIS rfl)
           ·exact xgs (hI.e yD (hd 10))
          intro w2 hbw2 T hT;simp only[Fin,E,EI,VP,VSl,VN,xgg,xgh,xgi,xgj]at hT;subst hT;have hbE:=nx hbT hbw2;go_wp2;go_ret;exact zIr.no (HNO.out (fun hr=>by have h1:=((HR.out.1 hr).2.2 k hki).1;have h2:=H0.out;have h3:=HKE.out;omega)) hbE
         ·obtain⟨k1,hk1⟩:∃k,qO zk 0=k:=⟨_,rfl⟩
          obtain⟨k2,hk2⟩:∃k,qO zk z=k:=⟨_,rfl⟩;have hs:∀Q,zR Q (.agg #[.bool sk,.slice ak lk kk]) zk->Calls Tryz.prog 76 #[.agg #[.bool sk,.slice ak lk kk]] Q fun e w'=>e= .returned (.int .i64 k1)/\Below Q.heap.size Q w':=fun Q hq=>by
           have:=yH _ zk Q hq;rwa[hk1]at this
          have hc:∀Q,zR Q (.agg #[.bool sk,.slice ak lk kk]) zk->zR Q (.agg #[.bool s,.slice a l kz]) z->Calls Tryz.prog 77 #[.agg #[.bool sk,.slice ak lk kk],.agg #[.bool s,.slice a l kz]] Q fun e w'=>e= .returned (.int .i64 k2)/\Below Q.heap.size Q w':=fun Q h1 h2=>by
           have:=zK4 _ _ zk z Q h1 h2 hkS.out hzS.out;rwa[hk2]at this
          have n1:decide (k1<0)=false:=decide_eq_false (by rw[<-hk1];have:=zJz h0;omega);have n2:decide (0<=k2)=decide (z<=zk):=decide_eq_decide.2 (by
           rw[<-hk2];constructor
           ·intro h
            rcases Int.lt_or_le zk z with h1|h1
            ·rw[yE h1]at h;omega
            ·exact h1
           ·intro h
            exact zAU oM)
          obtain⟨d,hd⟩:∃d,decide (0<=k2)=d:=⟨_,rfl⟩;have HD:=xgw (hd.symm.trans n2);have H0:=xgw h0;clear n2 h0 hk1 hk2;go_upto_region 16 with(fail)
          refine zF rfl (RV wt _ [VP 0 48 w.heap.size 2,VSl 1 49 b n cap,VN 2 50 k,VP 3 51 b k,E 4 52 (.slice (some ⟨bk,0,none⟩) C' rbc),VN 5 53 c,VP 6 54 bk (c*2),E 7 55 (.agg #[.bool sk,.slice ak lk kk]),VN 8 56 k1,E 9 57 (.bool false),E 10 58 (.bool false),VP 11 59 w.heap.size 2,VSl 12 60 b n cap,VN 13 61 k,VP 14 62 b k,E 15 63 (.slice (some ⟨bk,0,none⟩) C' rbc),VN 16 64 c,VP 17 65 bk (c*2),E 18 66 (.agg #[.bool sk,.slice ak lk kk]),VP 19 67 w.heap.size 2,VSl 20 68 b n cap,VN 21 69 i,VP 22 70 b i,E 23 71 (.slice (some ⟨bi,0,none⟩) C' rc),VN 24 72 c,VP 25 73 bi (c*2),E 26 74 (.agg #[.bool s,.slice a l kz]),VN 27 75 k2,E 28 76 (.bool d),E 29 77 (.bool d)]) kR RV.start (RV.fin kR ?fin2) ?steps2
          case steps2=>
           refine⟨?_,?_,?_,?_,?_,?_,?_,?_,?_,?_,?_,?_,?_,?_,?_,?_,?_,?_,?_,?_,?_,?_,?_,?_,?_,?_,?_,?_,?_,?_,trivial⟩<;>(intro L T wS hL hd hcl hI K hK;try refine zA rfl ?_)
           ·exact xgs (hI.k 1 rfl kR)
           ·have zt0:=hI.e mm0 (hd 0)
            have cc0:=hI.cell c3;exact xgu
           ·exact xgs (hI.k 7 rfl kR)
           ·exact xgt (hI.e mm1 (hd 1)) (hI.e mm2 (hd 2))
           ·have zt3:=hI.e mm3 (hd 3)
            have cc0:=hI.cell p3;exact xgu
           ·exact xgs (hI.k 6 rfl kR)
           ·exact xgt (hI.e mm4 (hd 4)) (hI.e mm5 (hd 5))
           ·have zt6:=hI.e mm6 (hd 6)
            have cc0:=hI.cell o1;have cc1:=hI.cell o2;exact xgu
           ·have zt7:=hI.e mm7 (hd 7)
            go_simp;refine(hs _ (hkv.ext (lx hI.bel))).mono ?_
            (rintro e wa ⟨rfl,hba⟩;have hv:(Value.int .i64 k1)= .int .i64 k1:=rfl)
            exact hK _ _ ((hI.world hba).y mm8 hv)
           ·exact xgs (hI.e mm8 (hd 8))
           ·exact xgs (hI.e mm9 (hd 9))
           ·have zg:=hI.e yD (hd 10)
            refine zA xgp ?_;exact xgs (hI.k 1 rfl kR)
           ·have zg:=hI.e yD (hd 10)
            refine zA xgp ?_;have zt11:=hI.e zAB (hd 11);have cc0:=hI.cell c3;exact xgu
           ·have zg:=hI.e yD (hd 10)
            refine zA xgp ?_;exact xgs (hI.k 7 rfl kR)
           ·have zg:=hI.e yD (hd 10)
            refine zA xgp ?_;exact xgt (hI.e zAh (hd 12)) (hI.e zBv (hd 13))
           ·have zg:=hI.e yD (hd 10)
            refine zA xgp ?_;have zt14:=hI.e zBF (hd 14);have cc0:=hI.cell p3;exact xgu
           ·have zg:=hI.e yD (hd 10)
            refine zA xgp ?_;exact xgs (hI.k 6 rfl kR)
           ·have zg:=hI.e yD (hd 10)
            refine zA xgp ?_;exact xgt (hI.e zCN (hd 15)) (hI.e zCf (hd 16))
           ·have zg:=hI.e yD (hd 10)
            refine zA xgp ?_;have zt17:=hI.e zCg (hd 17);have cc0:=hI.cell o1;have cc1:=hI.cell o2;exact xgu
           ·have zg:=hI.e yD (hd 10)
            refine zA xgp ?_;exact xgs (hI.k 1 rfl kR)
           ·have zg:=hI.e yD (hd 10)
            refine zA xgp ?_;have zt19:=hI.e zDW (hd 19);have cc0:=hI.cell c3;exact xgu
           ·have zg:=hI.e yD (hd 10)
            refine zA xgp ?_;exact xgs (hI.k 5 rfl kR)
           ·have zg:=hI.e yD (hd 10)
            refine zA xgp ?_;exact xgt (hI.e zD6 (hd 20)) (hI.e zEf (hd 21))
           ·have zg:=hI.e yD (hd 10)
            refine zA xgp ?_;have zt22:=hI.e zEg (hd 22);have cc0:=hI.cell p1;exact xgu
           ·have zg:=hI.e yD (hd 10)
            refine zA xgp ?_;exact xgs (hI.k 6 rfl kR)
           ·have zg:=hI.e yD (hd 10)
            refine zA xgp ?_;exact xgt (hI.e zEh (hd 23)) (hI.e zGC (hd 24))
           ·have zg:=hI.e yD (hd 10)
            refine zA xgp ?_;have zt25:=hI.e zGD (hd 25);have cc0:=hI.cell q1;have cc1:=hI.cell q2;exact xgu
           ·have zg:=hI.e yD (hd 10)
            refine zA xgp ?_;have zt18:=hI.e zCh (hd 18);have zt26:=hI.e zHd (hd 26);go_simp;refine(hc _ (hkv.ext (lx hI.bel)) (hzv.ext (lx hI.bel))).mono ?_
            (rintro e wa ⟨rfl,hba⟩;have hv:(Value.int .i64 k2)= .int .i64 k2:=rfl)
            exact hK _ _ ((hI.world hba).y zGE hv)
           ·have zg:=hI.e yD (hd 10)
            refine zA xgp ?_;exact xgs (hI.e zGE (hd 27))
           ·exact xgt (hI.e yD (hd 10)) (hI.e zIS (hd 28))
          intro w2 hbw2 T hT;simp only[Fin,E,EI,VP,VSl,VN,xgg,xgh,xgi,xgj]at hT;subst hT;have hbE:=nx hbT hbw2;cases d
          ·go_wp2
           go_roundw
           case rel=>
            refine⟨k+1,by omega,by simp,nx hbt hbw2,xgw fun j hj=>?_⟩;by_cases e:j=k
            ·subst e
             rw[<-HKE.out];have h1:=of_decide_eq_false HD.out.symm;have h2:=H0.out;omega
            ·exact hin.out j oM
           case measure=>simp[intOf];omega
          ·go_wp2
           go_ret;exact zIr.no (HNO.out (fun hr=>by have h1:=((HR.out.1 hr).2.2 k hki).2;have h2:=of_decide_eq_true HD.out.symm;have h3:=HKE.out;have h4:=HZE.out;omega)) hbE
        ·obtain rfl:k=i:=by omega
         go_wp2;go_roundw
         case rel=>
          exact⟨k+1,c,by omega,rfl,by simp,hbT,bx1,⟨hinv.out.step HL.out (HR.out.2 ⟨by have:=HLE.out;omega,by have h1:=HXX.out;have h2:=HZE.out;omega,fun j hj=>by rw[<-HZE.out];exact hin.out j hj⟩)⟩⟩
         case measure=>simp[intOf];omega
   ·obtain rfl:i=n:=by omega
    go_wp2;go_ret;exact zIr.yes (hiff.out.2 fun k hk=>hinv.out.ok k hk) hb
 ·have hdv:=decide_eq_false hv
  have hno:¬ zLl R C M:=fun h=>hv h.1
  have HNO:=xgv hno;clear hv hno;go_enter Tryz.func29,Tryz.ntmps29;go_upto_region 1 with(fail)
  refine zC ?_;intro W0 hW0;obtain⟨hB0,bx1,hs0⟩:=zN hW0;obtain⟨c1,c2,c3,c4,c5,c6⟩:=bx1.three;clear hW0;go_wp2_with fail
  refine(zBh _ R C M W0 (h0.below hB0)).mono ?_;rintro e w1 ⟨rfl,hb1⟩;rw[hdv];go_wp2;go_ret;exact zIr.no HNO.out (nx hB0 hb1)
theorem zJQ(v1 v2:Value)(R m C:Nat)(M1 M2:List (List Int))(w:World)(h1:qL w v1 R m M1)(h2:qL w v2 m C M2)(hF1:yG R m M1)(hF2:yG m C M2)(hR:R<=1000000)(hm:m<=1000000)(hC:C<=1000000)(hS:zCM M1 M2 R m C):
  Calls Tryz.prog 32 #[v1,v2] w fun e w'=>∃v,e= .returned v/\qL w' v R C (genM R C (zAT M1 M2 m))/\Below w.heap.size w w':=by
 refine(zDB v1 v2 R m C M1 M2 w h1 h2 hF1 hF2 hR hm hC hS).mono ?_;rintro e w' ⟨v,bs,rfl,h,hb⟩;exact⟨_,rfl,h.mat.1,hb⟩
structure Cpy where
 k:Nat
 s:Nat
 d:Nat
 t:Nat
def Cpy.fine(vs:List VS)(c:Cpy):Bool:=vs.any (fun a=>a.op==c.k && a.slot==c.s) && vs.any (fun a=>a.op==c.d && a.slot==c.t) && !(c.k==c.d)
theorem zJw{vs:List VS}{k s:Nat}(h:vs.any (fun a=>a.op==k && a.slot==s)=true):∃P,(⟨k,s,P⟩:VS)∈vs:=by
 obtain⟨a,ha,e⟩:=List.any_eq_true.1 h;simp only[Bool.and_eq_true,beq_iff_eq]at e;obtain⟨rfl,rfl⟩:=e;exact⟨a.P,ha⟩
theorem Cpy.fine_all{vs:List VS}{cp:List Cpy}(h:cp.all (Cpy.fine vs)=true){c:Cpy}(hc:c∈cp):(∃P,(⟨c.k,c.s,P⟩:VS)∈vs)/\(∃P,(⟨c.d,c.t,P⟩:VS)∈vs)/\c.k≠c.d:=by
 have:=List.all_eq_true.1 h c hc;unfold Cpy.fine at this;simp only[Bool.and_eq_true]at this;exact⟨zJw this.1.1,zJw this.1.2,by have:=this.2;simpa using this⟩
structure RVP(ka sa kb sb:Nat)(Q:Value->Value->Prop)(cp:List Cpy)(W:World)(T0:Array Value)(vs:List VS)(L:Array Bool)(T:Array Value)(w:World):Prop where
 rv:RV W T0 vs L T w
 ma:∃P,(⟨ka,sa,P⟩:VS)∈vs
 mb:∃P,(⟨kb,sb,P⟩:VS)∈vs
 ne:ka≠kb
 mc:cp.all (Cpy.fine vs)=true
 pair:L[ka]?=some true->L[kb]?=some true->∃u v,T[sa]?=some u/\T[sb]?=some v/\Q u v
 cpy:∀c∈cp,L[c.k]?=some true->L[c.d]?=some true/\T[c.s]?=T[c.t]?
section
variable {ka sa kb sb:Nat} {Q:Value->Value->Prop} {cp:List Cpy} {W:World} {T0:Array Value} {vs:List VS} {L:Array Bool} {T:Array Value} {w w':World}
theorem RVP.start(hwf:zBY T0.size vs=true)(hv:∀s∈vs,qQ s.P)(ma:∃P,(⟨ka,sa,P⟩:VS)∈vs)(mb:∃P,(⟨kb,sb,P⟩:VS)∈vs)(ne:ka≠kb)(mc:cp.all (Cpy.fine vs)=true){n:Nat}:RVP ka sa kb sb Q cp W T0 vs (Array.replicate n false) T0 W.drew:=
 have no:∀k,¬ (Array.replicate n false)[k]?=some true:=fun k h=>by
  rw[Array.getElem?_replicate]at h;split at h<;>simp at h
 ⟨RV.start hwf hv,ma,mb,ne,mc,fun h _=>absurd h (no _),fun _ _ h=>absurd h (no _)⟩
theorem RVP.world(h:RVP ka sa kb sb Q cp W T0 vs L T w)(hb:Below w.heap.size w w'):RVP ka sa kb sb Q cp W T0 vs L T w':=⟨h.rv.world hb,h.ma,h.mb,h.ne,h.mc,h.pair,h.cpy⟩
theorem RVP.cell(h:RVP ka sa kb sb Q cp W T0 vs L T w){b o:Nat}{v:Value}(hc:W.cell? ⟨b,o,none⟩=some v):w.cell? ⟨b,o,none⟩=some v:=h.rv.cell hc
theorem RVP.bel(h:RVP ka sa kb sb Q cp W T0 vs L T w):Below W.heap.size W w:=h.rv.bel
theorem RVP.size(h:RVP ka sa kb sb Q cp W T0 vs L T w):T.size=T0.size:=h.rv.size
theorem RVP.keep(h:RVP ka sa kb sb Q cp W T0 vs L T w):∀j,(∀s∈vs,s.slot≠j)->T[j]?=T0[j]?:=h.rv.keep
theorem RVP.val(h:RVP ka sa kb sb Q cp W T0 vs L T w):∀s∈vs,L[s.op]?=some true->∃v,T[s.slot]?=some v/\s.P w v:=h.rv.val
theorem RVP.value{k:Nat}{v:Value}(h:RVP ka sa kb sb Q cp W T0 vs L T w)(s:VS)(hs:s∈vs)(hk:s.op=k)(hP:s.P w v)
  (hq:∀u,(k=ka->T[sb]?=some u->L[kb]?=some true->Q v u)/\(k=kb->T[sa]?=some u->L[ka]?=some true->Q u v):=by intro u;exact⟨fun e=>absurd e dE,fun e=>absurd e dE⟩)
  (hL:L[k]?=some false:=by assumption) (hc:cp.all (fun c=>!(c.k==k))=true∨∀c∈cp,c.k=k->L[c.d]?=some true/\T[c.t]?=some v:=by first|exact .inl rfl|exact .inl dE):
  RVP ka sa kb sb Q cp W T0 vs (L.setIfInBounds k true) (T.setIfInBounds s.slot v) w:=by
 have hr:=h.rv.value s hs hk hP;subst hk;obtain⟨Pa,ma⟩:=h.ma;obtain⟨Pb,mb⟩:=h.mb;have hwf:=h.rv.wf;unfold zBY at hwf;simp only[Bool.and_eq_true,decide_eq_true_eq,List.all_eq_true]at hwf;obtain⟨⟨w1,w2⟩,w3⟩:=hwf;have hslot:s.slot<T.size:=by rw[h.rv.size];exact w3 _ (List.mem_map.2 ⟨s,hs,rfl⟩)
 have hab:sb≠sa:=fun e=>h.ne (congrArg VS.op (zL w1 ma mb e.symm))
 have hkeep:∀{j:Nat},L[j]?=some true->j≠s.op:=fun hj e=>by rw[e,hL]at hj;cases hj
 have hset:∀{j:Nat},L[j]?=some true->(L.setIfInBounds s.op true)[j]?=some true:=fun {j} hj=>by rw[xgc (Ne.symm (hkeep hj))];exact hj
 refine⟨hr,h.ma,h.mb,h.ne,h.mc,fun h1 h2=>?_,fun c hcm h1=>?_⟩
 ·by_cases e1:s.op=ka
  ·have es:s=⟨ka,sa,Pa⟩:=zL w2 hs ma e1
   have e2:s.slot=sa:=by rw[es]
   have hlb:L[kb]?=some true:=zK h2 (by rw[e1];exact h.ne);obtain⟨u,hu,-⟩:=h.rv.val _ mb hlb;exact⟨v,u,by rw[e2,Array.getElem?_setIfInBounds_self_of_lt (by rw[<-e2];exact hslot)],by rw[e2,xgc (Ne.symm hab)];exact hu,(hq u).1 e1 hu hlb⟩
  ·have hla:L[ka]?=some true:=zK h1 e1
   obtain⟨u,hu,-⟩:=h.rv.val _ ma hla;by_cases e3:s.op=kb
   ·have es:s=⟨kb,sb,Pb⟩:=zL w2 hs mb e3
    have e2:s.slot=sb:=by rw[es]
    exact⟨u,v,by rw[e2,xgc hab];exact hu,by rw[e2,Array.getElem?_setIfInBounds_self_of_lt (by rw[<-e2];exact hslot)],(hq u).2 e3 hu hla⟩
   ·obtain⟨x,y,g1,g2,g3⟩:=h.pair hla (zK h2 e3)
    have n1:s.slot≠sa:=fun e=>e1 (congrArg VS.op (zL w1 hs ma e))
    have n2:s.slot≠sb:=fun e=>e3 (congrArg VS.op (zL w1 hs mb e))
    exact⟨x,y,by rw[xgc n1];exact g1,by rw[xgc n2];exact g2,g3⟩
 ·obtain⟨⟨Pk,mk⟩,⟨Pd,md⟩,hne⟩:=Cpy.fine_all h.mc hcm
  by_cases e1:c.k=s.op
  ·rcases hc with hc|hc
   ·have:=List.all_eq_true.1 hc c hcm
    simp[e1]at this
   ·obtain⟨g1,g2⟩:=hc c hcm e1
    have es:s=⟨c.k,c.s,Pk⟩:=zL w2 hs mk e1.symm;have e2:s.slot=c.s:=by rw[es]
    have n2:s.slot≠c.t:=fun e=>hne (by rw[e1];exact congrArg VS.op (zL w1 hs md e))
    exact⟨hset g1,by rw[<-e2,Array.getElem?_setIfInBounds_self_of_lt hslot,xgc n2,g2]⟩
  ·obtain⟨g1,g2⟩:=h.cpy c hcm (zK h1 (Ne.symm e1))
   have n1:s.slot≠c.s:=fun e=>e1 (congrArg VS.op (zL w1 hs mk e)).symm
   have n2:s.slot≠c.t:=fun e=>hkeep g1 (congrArg VS.op (zL w1 hs md e)).symm
   exact⟨hset g1,by rw[xgc n1,xgc n2];exact g2⟩
theorem RVP.v{s:VS}(h:RVP ka sa kb sb Q cp W T0 vs L T w)(hs:s∈vs)(hl:L[s.op]?=some true):∃v,T[s.slot]?=some v/\s.P w v:=h.val s hs hl
theorem RVP.y{k:Nat}{v:Value}(h:RVP ka sa kb sb Q cp W T0 vs L T w){s:VS}(hs:s∈vs)(hP:s.P w v)
  (hq:∀u,(k=ka->T[sb]?=some u->L[kb]?=some true->Q v u)/\(k=kb->T[sa]?=some u->L[ka]?=some true->Q u v):=by intro u;exact⟨fun e=>absurd e dE,fun e=>absurd e dE⟩)
  (hL:L[k]?=some false:=by assumption) (hc:cp.all (fun c=>!(c.k==k))=true∨∀c∈cp,c.k=k->L[c.d]?=some true/\T[c.t]?=some v:=by first|exact .inl rfl|exact .inl dE) (hk:s.op=k:=by rfl):
  RVP ka sa kb sb Q cp W T0 vs (L.setIfInBounds k true) (T.setIfInBounds s.slot v) w:=h.value s hs hk hP hq hL hc
end
def quo(C:Nat)(F:Nat->Nat->Int)(r:Nat->Int)(i:Nat):Int:=if lead C F i<0 then 0 else r (lead C F i).toNat/F i (lead C F i).toNat
def zCO(C:Nat)(F:Nat->Nat->Int)(x:Nat->Int):Nat->Nat->Int
 |0=>x
 |i+1=>fun t=>zCO C F x i t+-(quo C F (zCO C F x i) i)*F i t
def zEA(C:Nat)(F:Nat->Nat->Int)(x:Nat->Int)(i:Nat):Int:=quo C F (zCO C F x i) i
structure zPK(B R C:Nat)(F:Nat->Nat->Int)(x:Nat->Int):Prop where
 mat:okF B R C F
 rest:∀i,i<=R->∀t,t<C->(zCO C F x i t).natAbs<B
 quot:∀i,i<R->(zEA C F x i).natAbs<B/\∀t,t<C->(-(zEA C F x i)*F i t).natAbs<B
def zQu(lo n:Nat):World->Value->Prop:=fun w v=>∃b,v= .slice (some ⟨b,0,none⟩) n n/\lo<=b/\qF w b (zQ n fun _=>0)
def zQm(u v:Value):Prop:=∀a b n m c d,u= .slice (some ⟨a,0,none⟩) n c->v= .slice (some ⟨b,0,none⟩) m d->a≠b
def zQz(a b:Nat)(T:Array Value)(w:World):World:=
 match T[a]?,T[b]? with
 |some (.pointer (some ⟨g,o,none⟩)),some (.agg #[x,y])=>(w.setCell ⟨g,o,none⟩ x).setCell ⟨g,o+1,none⟩ y
 |_,_=>w
theorem zJg{n:Nat}(f g:Nat->Int):zQ n (qI f g n)=zQ n f:=qA fun t ht=>by unfold qI;rw[if_pos ht]
theorem zJh{n:Nat}(f g:Nat->Int):zQ n (qI f g 0)=zQ n g:=qA fun t _=>by unfold qI;rw[if_neg oM]
theorem zLd{n j:Nat}(f g:Nat->Int):(zQ n (qI f g j)).set j (f j)=zQ n (qI f g (j+1)):=by
 rw[zA8];exact qA fun t _=>by
  unfold qI;by_cases h2:t=j
  ·subst h2;rw[if_pos rfl,if_pos oM]
  ·rw[if_neg h2]
   by_cases h1:t<j
   ·rw[if_pos h1,if_pos oM]
   ·rw[if_neg h1,if_neg oM]
theorem zHw{fn:Func}{a b c:Tmp}(h:fn.results=#[.tmp a,.tmp b,.tmp c])(tmps:Array Value)(P:Program)(W:World):(results fn tmps).run P W= .ok (.tuple #[tmps.getD a undef,tmps.getD b undef,tmps.getD c undef]) W:=by
 simp[results,h]
def zOd(R C:Nat)(q r:Nat->Int)(w:World)(e:Ending)(w':World):Prop:=∃qv rv,e= .returned (.tuple #[qv,rv,.int .i64 0])/\zAZ w' qv (zQ R q)/\zAZ w' rv (zQ C r)/\Below w.heap.size w w'
end Go.Proofs.YtgnmdddaiefooaaGreat
