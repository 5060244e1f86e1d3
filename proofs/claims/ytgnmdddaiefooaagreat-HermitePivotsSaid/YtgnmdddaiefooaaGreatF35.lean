/- hermite.Is. torsionref12: Pivot, Is. -/
import Derived.Test.YtgnmdddaiefooaaGreatF15
import Derived.Test.YtgnmdddaiefooaaGreatF34
set_option linter.unusedVariables false
set_option linter.unusedSimpArgs false
set_option linter.unusedSectionVars false
set_option maxHeartbeats 16000000
set_option maxRecDepth 100000
namespace Go.Proofs.YtgnmdddaiefooaaGreat
open Go.RowKit
theorem zJb{R C:Nat}{M:List (List Int)}(hF:yM R C M){i c:Nat}(hi:i<=R)(P:Int->Prop):(∃r∈M.take i,P (r.getD c 0))↔∃k,k<i/\P (ent M k c):=by
 constructor
 ·rintro⟨r,hr,hp⟩
  obtain⟨k,hk,e⟩:=List.getElem_of_mem hr;rw[List.getElem_take]at e;have hk1:k<i:=by simp at hk;omega
  have hk2:k<M.length:=by simp at hk;omega
  refine⟨k,hk1,?_⟩;have e2:ent M k c=r.getD c 0:=by unfold ent;rw[xgb (l:=M),xga hk2,e];rfl
  rw[e2];exact hp
 ·rintro⟨k,hk,hp⟩
  have hk2:k<M.length:=by rw[hF.1];omega
  refine⟨M[k],?_,?_⟩
  ·rw[List.mem_iff_getElem]
   exact⟨k,by simp;omega,by rw[List.getElem_take]⟩
  ·have e2:ent M k c=M[k].getD c 0:=by unfold ent;rw[xgb (l:=M),xga hk2];rfl
   rw[<-e2];exact hp
theorem zIh(v:Value)(R C:Int)(M:List (List Int))(w:World)(h:yG w v R C M):
  Calls Tryz.prog 53 #[v] w (zA1 (zF0 R C M) w):=by
 have h0:=h;obtain⟨A,rfl,h⟩:=h;obtain⟨ao,n,cap,rfl,e2,e3,e4,-⟩:=id h;have HX:=xgw e2;clear e2;by_cases hv:qF R C M
 ·have hdv:=decide_eq_true hv
  have hv':=hv;obtain⟨v1,v2,v3,v4⟩:=hv;obtain⟨C',rfl⟩:=Int.eq_ofNat_of_zero_le v2;obtain rfl:R=(n:Int):=by rw[<-v3,HX.out]
  have hF:yM n C' M:=⟨HX.out,fun r hr=>by have:=v4 r hr;omega⟩;have HF:=xgv hF;have hiff:Hid (zF0 n C' M↔∀i,i<n->zAc C' (ent M) i):=xgw ⟨fun h=>by have:=h.2;rw[HX.out,Int.toNat_natCast]at this;exact this,fun h=>⟨hv',by rw[HX.out,Int.toNat_natCast];exact h⟩⟩;clear v1 v2 v3 v4 hv' hF;go_enter Tryz.func53,Tryz.ntmps53;go_upto_region 1 with(fail)
  refine zB ?_;intro W0 hW0;obtain⟨hB0,bx1,hs0⟩:=zM hW0;obtain⟨c1,c2,c3,c4,c5,c6⟩:=bx1.three;clear hW0;go_wp2_with fail
  refine(yC _ n C' M W0 (h0.below hB0)).mono ?_;rintro e w1 ⟨rfl,hb1⟩;rw[hdv];have bx1:=bx1.below hb1;have hB1:=nx hB0 hb1;clear c1 c2 c3 c4 c5 c6 hdv;obtain⟨c1,c2,c3,c4,c5,c6⟩:=bx1.three;go_wp2;go_loopw [3,4,15] (fun lv ev iv wr=>∃(i:Nat) (last:Int) (en:Bool),i<=n/\lv= .int .i64 last/\ev= .bool en/\iv= .int .i64 i/\Below w.heap.size w wr/\Blk wr w.heap.size 28 #[.int .i64 n,.int .i64 C',.slice ao n cap]/\qW (zCv C' (ent M) i last en)) (fun _ _ iv _=>n-(intOf iv).toNat)
  case atStart=>exact⟨0,-1,false,by omega,rfl,rfl,rfl,hB1,bx1,⟨zCv.start _ _⟩⟩
  case round=>
   clear bx1 c1 c2 c3 c4 c5 c6;obtain⟨i,last,en,hi,rfl,rfl,rfl,hb,bx1,hinv⟩:=hrel;by_cases hlt:i<n
   ·obtain⟨b,ra,rn,rc,zs,rfl,hbl,hz,p1,hrv⟩:=(h.below hb).row (k:=i) (by rw[HX.out];exact hlt)
    obtain rfl:=HF.out.row_eq hz;have hrn:=hrv.len.1;rw[zI]at hrn;subst hrn;clear hz;go_upto_region 7 with(fail)
    refine zB ?_;intro W6 hW6;obtain⟨hB6,T6,hs6⟩:=zM hW6;have f1:W6.cell? ⟨wr.heap.size,0,none⟩=some (.slice ra C' rc):=T6.cell 0;clear hW6 p1;go_wp2_with fail
    refine(zAG _ (zU C' (ent M i)) W6 (hrv.below hB6)).mono ?_;rintro e w7 ⟨rfl,hb7⟩;obtain⟨L,hL⟩:∃L,jS 0 (zU C' (ent M i))=L:=⟨_,rfl⟩;rw[hL];have HL:=xgw (show lead C' (ent M) i=L from hL);clear hL f1;go_upto_region 8 with(fail)
    refine zB ?_;intro W8 hW8;obtain⟨hB8,T8,hs8⟩:=zM hW8;have hB78:=nx hB6 hb7;have hB68:=nx hB78 hB8;have T6:=(T6.below hb7).below hB8;have hb8:=nx hb hB68;have bx1:=bx1.below hB68;have hrv:=hrv.below hB68;have hrw:=h.below hb8;have g1:W8.cell? ⟨w7.heap.size,0,none⟩=some (.int .i64 L):=T8.cell 0;have f1:W8.cell? ⟨wr.heap.size,0,none⟩=some (.slice ra C' rc):=T6.cell 0;obtain⟨c1,c2,c3,c4,c5,c6⟩:=bx1.three;clear hW8;by_cases hneg:L<0
    ·have hd:decide (L<0)=true:=decide_eq_true hneg
     have HN:=xgw hneg;clear hneg;go_wp2;go_roundw
     case rel=>
      exact⟨i+1,last,true,by omega,rfl,rfl,by simp,hb8,bx1,⟨hinv.out.zero (by rw[HL.out];exact HN.out)⟩⟩
     case measure=>simp[intOf];omega
    ·obtain⟨c,rfl⟩:=Int.eq_ofNat_of_zero_le (Int.not_lt.1 hneg)
     have hcC:c<C':=(yX HL.out).1;have HR:=xgw (hinv.out.row HL.out);have hno:¬ zAc C' (ent M) i->¬ zF0 n C' M:=fun hr h=>hr (hiff.out.1 h i hlt)
     have HNO:=xgv hno;clear hno hneg;cases en
     ·by_cases hle:(c:Int)<=last
      ·have HLE:=xgw hle
       have hd:decide ((c:Int)<=last)=true:=decide_eq_true hle;clear hle;go_wp2;go_ret;exact zA1.no (HNO.out (fun hr=>by have h1:=(HR.out.1 hr).2.1;have h2:=HLE.out;omega)) hb8
      ·have HLE:=xgw hle
       have hd:decide ((c:Int)<=last)=false:=decide_eq_false hle;clear hle;obtain⟨bi,z,s,a,l,k,rfl,hbi,hzk,q1,q2,hzv⟩:=hrv.cell (k:=c) (by rw[zI];exact hcC);have hze:z=ent M i c:=by
        rw[zX hcC]at hzk;exact(Option.some.inj hzk).symm
       have HZE:=xgw hze;have HZK:=xgw hzk;clear hze hzk;go_wp2_with fail
       refine(qY _ z W8 hzv.weak).mono ?_;rintro e w9 ⟨rfl,hb9⟩;have bx1:=bx1.below hb9;have T6:=T6.below hb9;have T8:=T8.below hb9;have hrv:=hrv.below hb9;have hb9':=nx hb8 hb9;have hrw:=hrw.below hb9;clear c1 c2 c3 c4 c5 c6 f1 g1 q1 q2;obtain⟨c1,c2,c3,c4,c5,c6⟩:=bx1.three;have g1:w9.cell? ⟨w7.heap.size,0,none⟩=some (.int .i64 c):=T8.cell 0;by_cases hx:z<0
       ·rw[qR hx]
        have HXX:=xgw hx;clear hx;go_wp2;go_ret;exact zA1.no (HNO.out (fun hr=>by have h1:=(HR.out.1 hr).2.2.1;have h2:=HXX.out;have h3:=HZE.out;omega)) hb9'
       ·obtain⟨k0,hk0⟩:∃k0,qO z 0=k0:=⟨_,rfl⟩
        have n1:decide (k0<0)=false:=decide_eq_false (by rw[<-hk0];have:=zDF hx;omega);rw[hk0];have HXX:=xgw hx;clear hx hk0;go_wp2_with fail
        refine(zDI (some ⟨b,0,none⟩) i cap w7.heap.size wr.heap.size c (M.take i) _ (zU C' (ent M i)) z w9 (hrw.take hi) hrv HZK.out (fun r hr=>by rw[HF.out.2 r (List.mem_of_mem_take hr)];exact hcC) T8 T6).mono ?_;rintro e w10 ⟨bb,rfl,hbb,hb10⟩;have HBB:=xgw (hbb.trans (zJb HF.out hi fun t=>t<0∨z<=t));have bx1:=bx1.below hb10;have T8:=T8.below hb10;have hb10':=nx hb9' hb10;clear c1 c2 c3 c4 c5 c6 g1 hbb;have g1:w10.cell? ⟨w7.heap.size,0,none⟩=some (.int .i64 c):=T8.cell 0;cases bb
        ·go_wp2
         go_roundw
         case rel=>
          refine⟨i+1,c,false,by omega,rfl,rfl,by simp,hb10',bx1,⟨hinv.out.step HL.out (HR.out.2 ⟨trivial,by have:=HLE.out;omega,by rw[<-HZE.out];exact HXX.out,fun hex=>?_⟩)⟩⟩;rw[<-HZE.out]at hex;have:=HBB.out.2 hex;cases this
         case measure=>simp[intOf];omega
        ·go_wp2
         go_ret;refine zA1.no (HNO.out (fun hr=>?_)) hb10';have h1:=(HR.out.1 hr).2.2.2;rw[<-HZE.out]at h1;exact h1 (HBB.out.1 trivial)
     ·go_wp2
      go_ret;exact zA1.no (HNO.out (fun hr=>by have h1:=(HR.out.1 hr).1;cases h1)) hb8
   ·obtain rfl:i=n:=by omega
    go_wp2;go_ret;exact zA1.yes (hiff.out.2 fun k hk=>hinv.out.ok k hk) hb
 ·have hdv:=decide_eq_false hv
  have hno:¬ zF0 R C M:=fun h=>hv h.1
  have HNO:=xgv hno;clear hv hno;go_enter Tryz.func53,Tryz.ntmps53;go_upto_region 1 with(fail)
  refine zB ?_;intro W0 hW0;obtain⟨hB0,bx1,hs0⟩:=zM hW0;obtain⟨c1,c2,c3,c4,c5,c6⟩:=bx1.three;clear hW0;go_wp2_with fail
  refine(yC _ R C M W0 (h0.below hB0)).mono ?_;rintro e w1 ⟨rfl,hb1⟩;rw[hdv];go_wp2;go_ret;exact zA1.no HNO.out (nx hB0 hb1)
theorem zJE(v:Value)(zs:List Int)(w:World)(h:jG w v zs):
  Calls Tryz.prog 75 #[v] w fun e w'=>e= .returned (.int .i64 (jS 0 zs))/\Below w.heap.size w w':=by
 obtain⟨ao,n,cap,rfl,h2,h3,h4,h5⟩:=id h;have HL:=xgw h2;clear h2 h5;go_enter Tryz.func75,Tryz.ntmps75;go_wp2;go_loopw [3] (fun i wr=>∃k:Nat,k<=n/\i= .int .i64 k/\Below w.heap.size w wr/\Hid (jS 0 zs=jS k (zs.drop k))) (fun i _=>n-(intOf i).toNat)
 case atStart=>exact⟨0,by omega,rfl,Below.refl _ _,by rw[xgk];exact xgw rfl⟩
 case round=>
  obtain⟨k,hk,rfl,hb,hgo⟩:=hrel;by_cases hlt:k<n
  ·obtain⟨b,z,s,a,l,c,rfl,hbl,hz,c1,c2,hv⟩:=(h.below hb).cell (k:=k) (by rw[HL.out];exact hlt)
   have HZ:=xgw hz;clear hz;go_wp2_with fail
   refine(zAx _ z wr hv).mono ?_;rintro e w7 ⟨rfl,hb7⟩;have hb9:=nx hb hb7;by_cases hz0:z=0
   ·rw[zAD hz0]
    go_wp2;go_roundw
    case rel=>
     refine⟨k+1,by omega,by simp,hb9,xgw ?_⟩;rw[hgo.out,zAs HZ.out];conv=>lhs;unfold jS
     rw[if_neg (by simp[hz0])]
    case measure=>simp[intOf];omega
   ·have hc:=zBG hz0
    obtain⟨k0,hk0⟩:∃k0,qO z 0=k0:=⟨_,rfl⟩;rw[hk0]at hc ⊢
    have hc2:(k0 !=0)=true:=by simpa using hc
    go_wp2;go_ret;refine⟨?_,hb9⟩;rw[hgo.out,zAs HZ.out];conv=>rhs;unfold jS
    rw[if_pos hz0];rfl
  ·obtain rfl:k=n:=by omega
   go_wp2;go_ret;refine⟨?_,hb⟩;rw[hgo.out,List.drop_eq_nil_of_le (Nat.le_of_eq HL.out)];rfl
structure zBD(C:Nat)(F:Nat->Nat->Int)(i:Nat)(last:Int):Prop where
 ok:∀k,k<i->zAc C F k
 lst:∀c:Nat,c<C->(last<c↔∀k,k<i->0<=lead C F k/\lead C F k<c)
theorem zBD.start(C:Nat)(F:Nat->Nat->Int):zBD C F 0 (-1):=
 ⟨fun k hk=>by omega,fun c hc=>⟨fun _ k hk=>by omega,fun _=>by omega⟩⟩
theorem zBD.zero{C:Nat}{F:Nat->Nat->Int}{i:Nat}{last:Int}(h:zBD C F i last)(hl:lead C F i<0):zBD C F (i+1) C:=
 ⟨fun k hk=>by
  by_cases e:k=i
  ·rw[e];exact .inl hl
  ·exact h.ok k oM,fun c hc=>⟨fun h=>by omega,fun h=>by have:=h i oM;omega⟩⟩
theorem zBD.row{C:Nat}{F:Nat->Nat->Int}{i c:Nat}{last:Int}(h:zBD C F i last)(hl:lead C F i=(c:Int)):
  zAc C F i↔last<c/\0<F i c/\∀k,k<i->0<=F k c/\F k c<F i c:=by
 have hz:=yX hl;constructor
 ·rintro(h1|⟨c',h1,h2,h3,h4⟩)
  ·omega
  ·obtain rfl:c'=c:=by omega
   exact⟨(h.lst c' hz.1).2 h2,h3,h4⟩
 ·rintro⟨h2,h3,h4⟩
  exact .inr ⟨c,hl,(h.lst c hz.1).1 h2,h3,h4⟩
theorem zBD.step{C:Nat}{F:Nat->Nat->Int}{i c:Nat}{last:Int}(h:zBD C F i last)(hl:lead C F i=(c:Int))(hr:zAc C F i):zBD C F (i+1) c:=by
 refine⟨fun k hk=>?_,fun d hd=>⟨fun hlt k hk=>?_,fun hk=>by have:=(hk i oM).2;omega⟩⟩
 ·by_cases e:k=i
  ·rw[e];exact hr
  ·exact h.ok k oM
 ·by_cases e:k=i
  ·rw[e];omega
  ·rcases hr with h1|⟨c',h1,h2,-⟩
   ·omega
   ·have:=h2 k oM;omega
theorem zFg (v:Value)(R C:Int)(M:List (List Int))(w:World)(h:yG w v R C M)(hS:∀r∈M,∀z∈r,Sm z):
  Calls Tryz.prog 29 #[v] w (zA1 (zF0 R C M) w):=by
 have h0:=h;obtain⟨A,rfl,h⟩:=h;obtain⟨ao,n,cap,rfl,e2,e3,e4,-⟩:=id h;have HX:=xgw e2;have HS:=xgv hS;clear e2 hS;by_cases hv:qF R C M
 ·have hdv:=decide_eq_true hv
  have hv':=hv;obtain⟨v1,v2,v3,v4⟩:=hv;obtain⟨C',rfl⟩:=Int.eq_ofNat_of_zero_le v2;obtain rfl:R=(n:Int):=by rw[<-v3,HX.out]
  have hF:yM n C' M:=⟨HX.out,fun r hr=>by have:=v4 r hr;omega⟩;have HF:=xgv hF;have hiff:Hid (zF0 n C' M↔∀i,i<n->zAc C' (ent M) i):=xgw ⟨fun h=>by have:=h.2;rw[HX.out,Int.toNat_natCast]at this;exact this,fun h=>⟨hv',by rw[HX.out,Int.toNat_natCast];exact h⟩⟩;clear v1 v2 v3 v4 hv' hF;go_enter Tryz.func29,Tryz.ntmps29;go_upto_region 1 with(fail)
  refine zB ?_;intro W0 hW0;obtain⟨hB0,bx1,hs0⟩:=zM hW0;obtain⟨c1,c2,c3,c4,c5,c6⟩:=bx1.three;clear hW0;go_wp2_with fail
  refine(zBB _ n C' M W0 (h0.below hB0)).mono ?_;rintro e w1 ⟨rfl,hb1⟩;rw[hdv];have bx1:=bx1.below hb1;have hB1:=nx hB0 hb1;clear c1 c2 c3 c4 c5 c6 hdv;obtain⟨c1,c2,c3,c4,c5,c6⟩:=bx1.three;go_wp2;go_loopw [4,5] (fun lv iv wr=>∃(i:Nat) (last:Int),i<=n/\lv= .int .i64 last/\iv= .int .i64 i/\Below w.heap.size w wr/\Blk wr w.heap.size 28 #[.int .i64 n,.int .i64 C',.slice ao n cap]/\qW (zBD C' (ent M) i last)) (fun _ iv _=>n-(intOf iv).toNat)
  case atStart=>exact⟨0,-1,by omega,rfl,rfl,hB1,bx1,⟨zBD.start _ _⟩⟩
  case round=>
   clear bx1 c1 c2 c3 c4 c5 c6;obtain⟨i,last,hi,rfl,rfl,hb,bx1,hinv⟩:=hrel;obtain⟨c1,c2,c3,c4,c5,c6⟩:=bx1.three;by_cases hlt:i<n
   ·obtain ⟨b,ra,rn,rc,zs,rfl,hbl,hz,p1,hrv⟩:=(h.below hb).row (k:=i) (by rw[HX.out];exact hlt)
    obtain rfl:=HF.out.row_eq hz;have hrn:=hrv.len.1;rw[zI]at hrn;subst hrn;have HZ:=xgw hz;clear hz;go_wp2_with fail
    refine(zJE _ (zU C' (ent M i)) wr hrv).mono ?_;rintro e w7 ⟨rfl,hb7⟩;obtain⟨L,hL⟩:∃L,jS 0 (zU C' (ent M i))=L:=⟨_,rfl⟩;rw[hL];have HL:=xgw (show lead C' (ent M) i=L from hL);have hb8:=nx hb hb7;have bx1:=bx1.below hb7;have hrv:=hrv.below hb7;have hrw:=h.below hb8;have p1:=(hb7.cell (p:=⟨b,i,none⟩) hbl).trans p1;have hbl:=Nat.lt_of_lt_of_le hbl hb7.size;clear hL c1 c2 c3 c4 c5 c6;obtain⟨c1,c2,c3,c4,c5,c6⟩:=bx1.three;by_cases hneg:L<0
    ·have hd:decide (L<0)=true:=decide_eq_true hneg
     have HN:=xgw hneg;clear hneg;go_wp2;go_roundw
     case rel=>
      exact⟨i+1,C',by omega,rfl,by simp,hb8,bx1,⟨hinv.out.zero (by rw[HL.out];exact HN.out)⟩⟩
     case measure=>simp[intOf];omega
    ·obtain ⟨c,rfl⟩:=Int.eq_ofNat_of_zero_le (Int.not_lt.1 hneg)
     have hcC:c<C':=(yX HL.out).1;have HR:=xgw (hinv.out.row HL.out);have hno:¬ zAc C' (ent M) i->¬ zF0 n C' M:=fun hr h=>hr (hiff.out.1 h i hlt)
     have HNO:=xgv hno;clear hno hneg;by_cases hle:(c:Int)<=last
     ·have HLE:=xgw hle
      have hd:decide ((c:Int)<=last)=true:=decide_eq_true hle;clear hle;go_wp2;go_ret;exact zA1.no (HNO.out (fun hr=>by have h1:=(HR.out.1 hr).1;have h2:=HLE.out;omega)) hb8
     ·have HLE:=xgw hle
      have hd:decide ((c:Int)<=last)=false:=decide_eq_false hle;clear hle;obtain⟨bi,z,s,a,l,kz,rfl,hbi,hzk,q1,q2,hzv⟩:=hrv.cell (k:=c) (by rw[zI];exact hcC);have hze:z=ent M i c:=by
       rw[zX hcC]at hzk;exact(Option.some.inj hzk).symm
      have HZE:=xgw hze;have hzS:qW (Sm z):=⟨HS.out _ (xgd HZ.out) z (xgd hzk)⟩;clear hzk hze;go_wp2_with fail
      refine(zAx _ z w7 hzv).mono ?_;rintro e w9 ⟨rfl,hb9⟩;have bx1:=bx1.below hb9;have p1:=(hb9.cell (p:=⟨b,i,none⟩) hbl).trans p1;have q1:=(hb9.cell (p:=⟨bi,c*2,none⟩) hbi).trans q1;have q2:=(hb9.cell (p:=⟨bi,c*2+1,none⟩) hbi).trans q2;have hbl:=Nat.lt_of_lt_of_le hbl hb9.size;have hbi:=Nat.lt_of_lt_of_le hbi hb9.size;have hzv:=hzv.ext (lx hb9);have hrw:=hrw.below hb9;have hb9':=nx hb8 hb9;clear c1 c2 c3 c4 c5 c6 hrv;obtain⟨c1,c2,c3,c4,c5,c6⟩:=bx1.three;by_cases hx:z<=0
      ·obtain⟨k0,hk0⟩:∃k0,qO z 0=k0:=⟨_,rfl⟩
       have n1:decide (k0<=0)=true:=decide_eq_true (by
        rw[<-hk0];rcases Int.lt_or_eq_of_le hx with h|h
        ·rw[qR h];decide
        ·rw[yQ h];decide)
       rw[hk0];have HXX:=xgw hx;clear hx hk0;go_wp2;go_ret;exact zA1.no (HNO.out (fun hr=>by have h1:=(HR.out.1 hr).2.1;have h2:=HXX.out;have h3:=HZE.out;omega)) hb9'
      ·rw [yJ oM]
       have HXX:=xgw hx;clear hx;go_wp2;go_loopw [7] (fun kv wt=>∃k:Nat,k<=i/\kv= .int .i64 k/\Below w9.heap.size w9 wt/\Hid (∀j,j<k->0<=ent M j c/\ent M j c<z)) (fun kv _=>i-(intOf kv).toNat)
       case atStart=>exact⟨0,by omega,rfl,Below.refl _ _,xgw fun j h=>absurd h oM⟩
       case round=>
        rename World=>wt
        obtain⟨k,hk,rfl,hbt,hin⟩:=hrel;have bx1:=bx1.below hbt;clear c1 c2 c3 c4 c5 c6;obtain⟨c1,c2,c3,c4,c5,c6⟩:=bx1.three;have hbT:=nx hb9' hbt;by_cases hki:k<i
        ·have hkn:k<n:=by omega
         have p1:=(hbt.cell (p:=⟨b,i,none⟩) hbl).trans p1;have q1:=(hbt.cell (p:=⟨bi,c*2,none⟩) hbi).trans q1;have q2:=(hbt.cell (p:=⟨bi,c*2+1,none⟩) hbi).trans q2;have hzv:=hzv.ext (lx hbt);obtain⟨b',rb,rbn,rbc,zs,e1,hbl',hz',p3,hrk⟩:=(hrw.below hbt).row (k:=k) (by rw[HX.out];omega);cases e1;obtain rfl:=HF.out.row_eq hz';have hrn:=hrk.len.1;rw[zI]at hrn;subst hrn;obtain⟨bk,zk,sk,ak,lk,kk,rfl,hbk,hzk,o1,o2,hkv⟩:=hrk.cell (k:=c) (by rw[zI];exact hcC);have hke:zk=ent M k c:=by
          rw[zX hcC]at hzk;exact(Option.some.inj hzk).symm
         have HKE:=xgw hke;have hkS:qW (Sm zk):=⟨HS.out _ (xgd hz') zk (xgd hzk)⟩;have hci:c<C':=hcC;clear hzk hke hz' hrk;by_cases h0:zk<0
         ·have hs:∀Q,qB Q (.agg #[.bool sk,.slice ak lk kk]) zk->Calls Tryz.prog 76 #[.agg #[.bool sk,.slice ak lk kk]] Q fun e w'=>e= .returned (.int .i64 (-1))/\Below Q.heap.size Q w':=fun Q hq=>by
           have:=zAx _ zk Q hq;rwa[qR h0]at this
          have H0:=xgw h0;clear h0;go_upto_region 16 with(fail)
          refine zF rfl (RV wt _ [VP 0 48 w.heap.size 2,VSl 1 49 b n cap,VN 2 50 k,VP 3 51 b k,E 4 52 (.slice (some ⟨bk,0,none⟩) C' rbc),VN 5 53 c,VP 6 54 bk (c*2),E 7 55 (.agg #[.bool sk,.slice ak lk kk]),E 8 56 (.int .i64 (-1)),E 9 57 (.bool true),E 10 58 (.bool true),E 11 59 (undef),E 12 60 (undef),E 13 61 (undef),E 14 62 (undef),E 15 63 (undef),E 16 64 (undef),E 17 65 (undef),E 18 66 (undef),E 19 67 (undef),E 20 68 (undef),E 21 69 (undef),E 22 70 (undef),E 23 71 (undef),E 24 72 (undef),E 25 73 (undef),E 26 74 (undef),E 27 75 (undef),E 28 76 (undef),E 29 77 (.bool true)]) kR RV.start (RV.fin kR ?fin1) ?steps1
          case steps1=>
           refine⟨?_,?_,?_,?_,?_,?_,?_,?_,?_,?_,?_,?_,?_,?_,?_,?_,?_,?_,?_,?_,?_,?_,?_,?_,?_,?_,?_,?_,?_,?_,trivial⟩<;>(intro L T wS hL hd hcl hI K hK;try refine zA rfl ?_)
           ·exact xgs (hI.k 1 rfl kR)
           ·have zt0:=hI.e mm0 (hd 0)
            have cc0:=hI.cell c3;exact xgu
           ·exact xgs (hI.k 7 rfl kR)
           ·exact xgt (hI.e mm1 (hd 1)) (hI.e mm2 (hd 2))
           ·have zt3:=hI.e mm3 (hd 3)
            have cc0:=hI.cell p3;exact xgu
           ·exact xgs (hI.k 6 rfl kR)
           ·exact xgt (hI.e mm4 (hd 4)) (hI.e mm5 (hd 5))
           ·have zt6:=hI.e mm6 (hd 6)
            have cc0:=hI.cell o1;have cc1:=hI.cell o2;exact xgu
           ·have zt7:=hI.e mm7 (hd 7)
            go_simp;refine(hs _ (hkv.ext (lx hI.bel))).mono ?_
            (rintro e wa ⟨rfl,hba⟩;have hv:(Value.int .i64 (-1))= .int .i64 (-1):=rfl)
            exact hK _ _ ((hI.world hba).y mm8 hv)
           ·exact xgs (hI.e mm8 (hd 8))
           ·exact xgs (hI.e mm9 (hd 9))
           ·have zg:=hI.e yD (hd 10)
            refine zC xgp ?_;exact hK _ _ (hI.y zAH rfl)
           ·have zg:=hI.e yD (hd 10)
            refine zC xgp ?_;exact hK _ _ (hI.y zAb rfl)
           ·have zg:=hI.e yD (hd 10)
            refine zC xgp ?_;exact hK _ _ (hI.y jK rfl)
           ·have zg:=hI.e yD (hd 10)
            refine zC xgp ?_;exact hK _ _ (hI.y zCP rfl)
           ·have zg:=hI.e yD (hd 10)
            refine zC xgp ?_;exact hK _ _ (hI.y zB8 rfl)
           ·have zg:=hI.e yD (hd 10)
            refine zC xgp ?_;exact hK _ _ (hI.y zCx rfl)
           ·have zg:=hI.e yD (hd 10)
            refine zC xgp ?_;exact hK _ _ (hI.y zCa rfl)
           ·have zg:=hI.e yD (hd 10)
            refine zC xgp ?_;exact hK _ _ (hI.y zDX rfl)
           ·have zg:=hI.e yD (hd 10)
            refine zC xgp ?_;exact hK _ _ (hI.y zEJ rfl)
           ·have zg:=hI.e yD (hd 10)
            refine zC xgp ?_;exact hK _ _ (hI.y zDs rfl)
           ·have zg:=hI.e yD (hd 10)
            refine zC xgp ?_;exact hK _ _ (hI.y zDn rfl)
           ·have zg:=hI.e yD (hd 10)
            refine zC xgp ?_;exact hK _ _ (hI.y zDt rfl)
           ·have zg:=hI.e yD (hd 10)
            refine zC xgp ?_;exact hK _ _ (hI.y zF2 rfl)
           ·have zg:=hI.e yD (hd 10)
            refine zC xgp ?_;exact hK _ _ (hI.y zGO rfl)
           ·have zg:=hI.e yD (hd 10)
            refine zC xgp ?_;exact hK _ _ (hI.y zIx rfl)
           ·have zg:=hI.e yD (hd 10)
            refine zC xgp ?_;exact hK _ _ (hI.y zH6 rfl)
           ·have zg:=hI.e yD (hd 10)
            refine zC xgp ?_;exact hK _ _ (hI.y zHh rfl)
           ·have zg:=hI.e yD (hd 10)
            refine zC xgp ?_;exact hK _ _ (hI.y zH7 rfl)
           ·exact xgs (hI.e yD (hd 10))
          intro w2 hbw2 T hT;simp only[Fin,E,EI,VP,VSl,VN,xgg,xgh,xgi,xgj]at hT;subst hT;have hbE:=nx hbT hbw2;go_wp2;go_ret;exact zA1.no (HNO.out (fun hr=>by have h1:=((HR.out.1 hr).2.2 k hki).1;have h2:=H0.out;have h3:=HKE.out;omega)) hbE
         ·obtain⟨k1,hk1⟩:∃k,qO zk 0=k:=⟨_,rfl⟩
          obtain⟨k2,hk2⟩:∃k,qO zk z=k:=⟨_,rfl⟩;have hs:∀Q,qB Q (.agg #[.bool sk,.slice ak lk kk]) zk->Calls Tryz.prog 76 #[.agg #[.bool sk,.slice ak lk kk]] Q fun e w'=>e= .returned (.int .i64 k1)/\Below Q.heap.size Q w':=fun Q hq=>by
           have:=zAx _ zk Q hq;rwa[hk1]at this
          have hc:∀Q,qB Q (.agg #[.bool sk,.slice ak lk kk]) zk->qB Q (.agg #[.bool s,.slice a l kz]) z->Calls Tryz.prog 77 #[.agg #[.bool sk,.slice ak lk kk],.agg #[.bool s,.slice a l kz]] Q fun e w'=>e= .returned (.int .i64 k2)/\Below Q.heap.size Q w':=fun Q h1 h2=>by
           have:=zJL _ _ zk z Q h1 h2 hkS.out hzS.out;rwa[hk2]at this
          have n1:decide (k1<0)=false:=decide_eq_false (by rw[<-hk1];have:=zDF h0;omega);have n2:decide (0<=k2)=decide (z<=zk):=decide_eq_decide.2 (by
           rw[<-hk2];constructor
           ·intro h
            rcases Int.lt_or_le zk z with h1|h1
            ·rw[qR h1]at h;omega
            ·exact h1
           ·intro h
            exact jH oM)
          obtain⟨d,hd⟩:∃d,decide (0<=k2)=d:=⟨_,rfl⟩;have HD:=xgw (hd.symm.trans n2);have H0:=xgw h0;clear n2 h0 hk1 hk2;go_upto_region 16 with(fail)
          refine zF rfl (RV wt _ [VP 0 48 w.heap.size 2,VSl 1 49 b n cap,VN 2 50 k,VP 3 51 b k,E 4 52 (.slice (some ⟨bk,0,none⟩) C' rbc),VN 5 53 c,VP 6 54 bk (c*2),E 7 55 (.agg #[.bool sk,.slice ak lk kk]),VN 8 56 k1,E 9 57 (.bool false),E 10 58 (.bool false),VP 11 59 w.heap.size 2,VSl 12 60 b n cap,VN 13 61 k,VP 14 62 b k,E 15 63 (.slice (some ⟨bk,0,none⟩) C' rbc),VN 16 64 c,VP 17 65 bk (c*2),E 18 66 (.agg #[.bool sk,.slice ak lk kk]),VP 19 67 w.heap.size 2,VSl 20 68 b n cap,VN 21 69 i,VP 22 70 b i,E 23 71 (.slice (some ⟨bi,0,none⟩) C' rc),VN 24 72 c,VP 25 73 bi (c*2),E 26 74 (.agg #[.bool s,.slice a l kz]),VN 27 75 k2,E 28 76 (.bool d),E 29 77 (.bool d)]) kR RV.start (RV.fin kR ?fin2) ?steps2
          case steps2=>
           refine⟨?_,?_,?_,?_,?_,?_,?_,?_,?_,?_,?_,?_,?_,?_,?_,?_,?_,?_,?_,?_,?_,?_,?_,?_,?_,?_,?_,?_,?_,?_,trivial⟩<;>(intro L T wS hL hd hcl hI K hK;try refine zA rfl ?_)
           ·exact xgs (hI.k 1 rfl kR)
           ·have zt0:=hI.e mm0 (hd 0)
            have cc0:=hI.cell c3;exact xgu
           ·exact xgs (hI.k 7 rfl kR)
           ·exact xgt (hI.e mm1 (hd 1)) (hI.e mm2 (hd 2))
           ·have zt3:=hI.e mm3 (hd 3)
            have cc0:=hI.cell p3;exact xgu
           ·exact xgs (hI.k 6 rfl kR)
           ·exact xgt (hI.e mm4 (hd 4)) (hI.e mm5 (hd 5))
           ·have zt6:=hI.e mm6 (hd 6)
            have cc0:=hI.cell o1;have cc1:=hI.cell o2;exact xgu
           ·have zt7:=hI.e mm7 (hd 7)
            go_simp;refine(hs _ (hkv.ext (lx hI.bel))).mono ?_
            (rintro e wa ⟨rfl,hba⟩;have hv:(Value.int .i64 k1)= .int .i64 k1:=rfl)
            exact hK _ _ ((hI.world hba).y mm8 hv)
           ·exact xgs (hI.e mm8 (hd 8))
           ·exact xgs (hI.e mm9 (hd 9))
           ·have zg:=hI.e yD (hd 10)
            refine zA xgp ?_;exact xgs (hI.k 1 rfl kR)
           ·have zg:=hI.e yD (hd 10)
            refine zA xgp ?_;have zt11:=hI.e zAH (hd 11);have cc0:=hI.cell c3;exact xgu
           ·have zg:=hI.e yD (hd 10)
            refine zA xgp ?_;exact xgs (hI.k 7 rfl kR)
           ·have zg:=hI.e yD (hd 10)
            refine zA xgp ?_;exact xgt (hI.e zAb (hd 12)) (hI.e jK (hd 13))
           ·have zg:=hI.e yD (hd 10)
            refine zA xgp ?_;have zt14:=hI.e zCP (hd 14);have cc0:=hI.cell p3;exact xgu
           ·have zg:=hI.e yD (hd 10)
            refine zA xgp ?_;exact xgs (hI.k 6 rfl kR)
           ·have zg:=hI.e yD (hd 10)
            refine zA xgp ?_;exact xgt (hI.e zB8 (hd 15)) (hI.e zCx (hd 16))
           ·have zg:=hI.e yD (hd 10)
            refine zA xgp ?_;have zt17:=hI.e zCa (hd 17);have cc0:=hI.cell o1;have cc1:=hI.cell o2;exact xgu
           ·have zg:=hI.e yD (hd 10)
            refine zA xgp ?_;exact xgs (hI.k 1 rfl kR)
           ·have zg:=hI.e yD (hd 10)
            refine zA xgp ?_;have zt19:=hI.e zEJ (hd 19);have cc0:=hI.cell c3;exact xgu
           ·have zg:=hI.e yD (hd 10)
            refine zA xgp ?_;exact xgs (hI.k 5 rfl kR)
           ·have zg:=hI.e yD (hd 10)
            refine zA xgp ?_;exact xgt (hI.e zDs (hd 20)) (hI.e zDn (hd 21))
           ·have zg:=hI.e yD (hd 10)
            refine zA xgp ?_;have zt22:=hI.e zDt (hd 22);have cc0:=hI.cell p1;exact xgu
           ·have zg:=hI.e yD (hd 10)
            refine zA xgp ?_;exact xgs (hI.k 6 rfl kR)
           ·have zg:=hI.e yD (hd 10)
            refine zA xgp ?_;exact xgt (hI.e zF2 (hd 23)) (hI.e zGO (hd 24))
           ·have zg:=hI.e yD (hd 10)
            refine zA xgp ?_;have zt25:=hI.e zIx (hd 25);have cc0:=hI.cell q1;have cc1:=hI.cell q2;exact xgu
           ·have zg:=hI.e yD (hd 10)
            refine zA xgp ?_;have zt18:=hI.e zDX (hd 18);have zt26:=hI.e zH6 (hd 26);go_simp;refine(hc _ (hkv.ext (lx hI.bel)) (hzv.ext (lx hI.bel))).mono ?_
            (rintro e wa ⟨rfl,hba⟩;have hv:(Value.int .i64 k2)= .int .i64 k2:=rfl)
            exact hK _ _ ((hI.world hba).y zHh hv)
           ·have zg:=hI.e yD (hd 10)
            refine zA xgp ?_;exact xgs (hI.e zHh (hd 27))
           ·exact xgt (hI.e yD (hd 10)) (hI.e zH7 (hd 28))
          intro w2 hbw2 T hT;simp only[Fin,E,EI,VP,VSl,VN,xgg,xgh,xgi,xgj]at hT;subst hT;have hbE:=nx hbT hbw2;cases d
          ·go_wp2
           go_roundw
           case rel=>
            refine⟨k+1,by omega,by simp,nx hbt hbw2,xgw fun j hj=>?_⟩;by_cases e:j=k
            ·subst e
             rw[<-HKE.out];have h1:=of_decide_eq_false HD.out.symm;have h2:=H0.out;omega
            ·exact hin.out j oM
           case measure=>simp[intOf];omega
          ·go_wp2
           go_ret;exact zA1.no (HNO.out (fun hr=>by have h1:=((HR.out.1 hr).2.2 k hki).2;have h2:=of_decide_eq_true HD.out.symm;have h3:=HKE.out;have h4:=HZE.out;omega)) hbE
        ·obtain rfl:k=i:=by omega
         go_wp2;go_roundw
         case rel=>
          exact⟨k+1,c,by omega,rfl,by simp,hbT,bx1,⟨hinv.out.step HL.out (HR.out.2 ⟨by have:=HLE.out;omega,by have h1:=HXX.out;have h2:=HZE.out;omega,fun j hj=>by rw[<-HZE.out];exact hin.out j hj⟩)⟩⟩
         case measure=>simp[intOf];omega
   ·obtain rfl:i=n:=by omega
    go_wp2;go_ret;exact zA1.yes (hiff.out.2 fun k hk=>hinv.out.ok k hk) hb
 ·have hdv:=decide_eq_false hv
  have hno:¬ zF0 R C M:=fun h=>hv h.1
  have HNO:=xgv hno;clear hv hno;go_enter Tryz.func29,Tryz.ntmps29;go_upto_region 1 with(fail)
  refine zB ?_;intro W0 hW0;obtain⟨hB0,bx1,hs0⟩:=zM hW0;obtain⟨c1,c2,c3,c4,c5,c6⟩:=bx1.three;clear hW0;go_wp2_with fail
  refine(zBB _ R C M W0 (h0.below hB0)).mono ?_;rintro e w1 ⟨rfl,hb1⟩;rw[hdv];go_wp2;go_ret;exact zA1.no HNO.out (nx hB0 hb1)
end Go.Proofs.YtgnmdddaiefooaaGreat
