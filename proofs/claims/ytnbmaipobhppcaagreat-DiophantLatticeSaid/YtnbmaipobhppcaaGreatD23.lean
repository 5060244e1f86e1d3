/- torsionref05.Ints. torsionref13.Same. The two definitions of a Smith form agree. The fixed examples of torsionlaw13.sanity: Form and Invariants at them. smith.Invariants and smith.Form of small matrices, with what they yield. torsionref05.Filled. torsionref05: Made, Square. torsionlaw13.sanity. What the Checks ask for; Invariants of a small matrix as a list. hermite.Form at matrices of one digit: what Check asks for; the fixed examples of torsionlaw12.sanity. The rest that Reduce leaves: plain Lean. Diophantine equations, plain: a column that refutes. What the two calls of bareiss.Solve in diophant.refute need, plain. torsionref02.ValidList, torsionref08.Dot. torsionref05.Transpose; torsionref13: combine, combineColumns. -/
import Derived.Test.YtnbmaipobhppcaaGreatD09
import Derived.Test.YtnbmaipobhppcaaGreatD11
import Derived.Test.YtnbmaipobhppcaaGreatD12
import Derived.Test.YtnbmaipobhppcaaGreatD14
import Derived.Test.YtnbmaipobhppcaaGreatD21
import Derived.Test.YtnbmaipobhppcaaGreatD22
set_option linter.unusedVariables false
set_option linter.unusedSimpArgs false
set_option linter.unusedSectionVars false
set_option maxHeartbeats 16000000
set_option maxRecDepth 100000
namespace Go.Proofs.YtnbmaipobhppcaaGreat
open Go.RowKit
theorem zPD{i j R C:Nat}(hi:i<R)(hj:j<C):i*C+j<R*C:=by
 have:(i+1)*C<=R*C:=Nat.mul_le_mul_right _ hi;rw[Nat.add_mul]at this;omega
theorem zMU(v:Value)(R C:Nat)(ls:List Int)(w:World)(h:zBu w v ls)(hl:ls.length=R*C)(hR:R<=1000)(hC:C<=1000):
  Calls Tryz.prog 60 #[.int .i64 R,.int .i64 C,v] w (zAs w R C (zX R C (fun i j=>ls.getD (i*C+j) 0))):=by
 obtain⟨ao,n,cap,rfl,h2,h3,h4,-,-⟩:=id h;have HL:=xgw h2;have hnR:n=R*C:=by omega
 have HN:=xgw hnR;obtain⟨f,hf⟩:∃f:Nat->Nat->Int,(fun i j=>ls.getD (i*C+j) 0)=f:=⟨_,rfl⟩;rw[hf];have HFE:qF (∀i j,f i j=ls.getD (i*C+j) 0):=⟨fun i j=>by rw[<-hf]⟩;clear hf h2 hl hnR;go_enter Tryz.func60,Tryz.ntmps60;go_upto_region 1 with(fail)
 refine zB ?_;intro W0 hW0;obtain⟨hB0,br,hs0⟩:=zK hW0;go_wp2_with fail
 refine(zA4 R C W0 oM oM).mono ?_;rintro e w2 ⟨u,bs,rfl,⟨hbl,A2,rfl,ho⟩,hb2⟩;obtain⟨oo,on,oc,rfl,-,-,-,-⟩:=id ho.rows;have hlts:=ho.lts;go_upto_region 2 with(fail)
 refine zB ?_;intro W3 hW3;obtain⟨hB3,T5,hs3⟩:=zK hW3;have br:=(br.below hb2).below hB3;have ho:=ho.below hB3;rw[zBd R C f]at ho;have hBt:=nx (nx hB0 hb2) hB3;have q2:=hb2.size;clear hW3 hW0;go_wp2;go_loopw [8] (fun iv wr=>∃i:Nat,i<=R/\iv= .int .i64 i/\Below w.heap.size w wr/\Blk wr w.heap.size 28 #[.int .i64 0,.int .i64 0,.slice none 0 0]/\Blk wr w2.heap.size 28 #[.int .i64 R,.int .i64 C,.slice oo on oc]/\zS wr W0.heap.size (.slice oo on oc) C bs (zX R C (zBc f i 0))) (fun iv _=>R-(intOf iv).toNat)
 case atStart=>exact⟨0,by omega,rfl,hBt,br,T5,ho⟩
 case round=>
  obtain⟨i,hi,rfl,hb,br,T5,ho⟩:=hrel;by_cases hlt:i<R
  ·go_wp2
   go_loopw [9] (fun jv wr=>∃j:Nat,j<=C/\jv= .int .i64 j/\Below w.heap.size w wr/\Blk wr w.heap.size 28 #[.int .i64 0,.int .i64 0,.slice none 0 0]/\Blk wr w2.heap.size 28 #[.int .i64 R,.int .i64 C,.slice oo on oc]/\zS wr W0.heap.size (.slice oo on oc) C bs (zX R C (zBc f i j))) (fun jv _=>C-(intOf jv).toNat)
   case atStart=>exact⟨0,by omega,rfl,hb,br,T5,ho⟩
   case round=>
    obtain⟨j,hj,rfl,hb,br,T5,ho⟩:=hrel;by_cases hjc:j<C
    ·have hmn:i*C+j<n:=by rw[HN.out];exact zPD hlt hjc
     have hn6:n<=1000000:=by rw[HN.out];exact Nat.le_trans (Nat.mul_le_mul hR hC) oM
     obtain⟨m,hm⟩:∃m,i*C+j=m:=⟨_,rfl⟩;have hmi:(i:Int)*(C:Int)+(j:Int)=(m:Int):=by rw[<-hm,Int.natCast_add,Int.natCast_mul]
     have hp0:0<=(i:Int)*(C:Int):=by omega
     have hp1:(i:Int)*(C:Int)<=1000000:=by omega
     have hw1:IntKind.i64.wrap ((i:Int)*(C:Int))=(i:Int)*(C:Int):=IntWalk.i64_in _ oM;have hw2:IntKind.i64.wrap (m:Int)=(m:Int):=IntWalk.i64_in _ oM;have hmlt:m<n:=by omega
     have hlt3:(i:Int)*(C:Int)+(j:Int)<(n:Int):=by omega
     obtain⟨b,z,rfl,hbl1,hz,c1,z1,z2⟩:=(h.below hb).cell (k:=m) (by rw[HL.out];exact hmlt);have hent:Hid (f i j=z):=by rw[HFE.out,hm,zBM hz];exact xgw rfl
     obtain⟨g,bo,rfl,hg,hbo,hbo2,o1,ho3⟩:=ho.at_ (i:=i) oM;obtain⟨f1,f2,f3,f4,f5,f6⟩:=T5.three;have hio:i<on:=by omega
     have HO3:=xgw ho3;have HM:=xgw hm;clear ho3 hm hz;have lt5:=T5.lt;go_upto_region 8 with(fail)
     refine zC 16 rfl (RI wr (wr.heap.size) _ 35
       [VP 0 33 w2.heap.size 2,VSl 1 34 g on oc,VN 2 35 i,VP 3 36 g i,VSl 4 37 bo C C,VN 5 38 j,VSl 6 39 b n cap,VN 7 40 i,VN 8 41 C,E 9 42 (.int .i64 ((i:Int)*(C:Int))),VN 10 43 j,VN 11 44 m,VP 12 45 b m,VN 13 46 z,EI 14 47 (z),VP 15 48 bo (j*2)] [] []) kR RI.start (RI.fin kR ?fin1) ?steps1
     case steps1=>
      refine⟨?_,?_,?_,?_,?_,?_,?_,?_,?_,?_,?_,?_,?_,?_,?_,?_,trivial⟩<;>(intro L T wS hL hd hcl hI K hK;try refine zA rfl ?_)
      ·exact xgs (hI.k 7 rfl kR)
      ·have zt0:=hI.e mm0 (hd 0)
       have cc0:=hI.cell f3 oM nom;exact xgu
      ·exact xgs (hI.k 8 rfl kR)
      ·exact xgt (hI.e mm1 (hd 1)) (hI.e mm2 (hd 2))
      ·have zt3:=hI.e mm3 (hd 3)
       have cc0:=hI.cell o1 oM nom;exact xgu
      ·exact xgs (hI.k 9 rfl kR)
      ·exact xgs (hI.k 2 rfl kR)
      ·exact xgs (hI.k 8 rfl kR)
      ·exact xgs (hI.k 1 rfl kR)
      ·exact xgt (hI.e mm7 (hd 7)) (hI.e mm8 (hd 8))
      ·exact xgs (hI.k 9 rfl kR)
      ·exact xgt (hI.e mm9 (hd 9)) (hI.e zAC (hd 10))
      ·exact xgt (hI.e mm6 (hd 6)) (hI.e zAJ (hd 11))
      ·have zt12:=hI.e zAo (hd 12)
       have cc0:=hI.cell c1 oM nom;exact xgu
      ·have zt13:=hI.e zCF (hd 13)
       go_simp;refine(zAF z _ z1 z2).mono ?_;exact xgo
      ·exact xgt (hI.e mm4 (hd 4)) (hI.e mm5 (hd 5))
     intro w9 hlw9 hbw9 holdw9 T hT;simp only[Fin,E,EI,VP,VSl,VN,xgg,xgh,xgi,xgj]at hT;obtain⟨va14,ha14,rfl⟩:=hT;simp only[xgl,xgk];obtain⟨pn,pa,pl,pc,px,rfl,hpx⟩:=id ha14;have HPX:=xgw hpx;clear hpx;have ho9:=ho.below hbw9;obtain⟨sn,sa,sl,sc,y1,y2,y3,y4,-⟩:=ho9.cellAt hbo hjc;have hbolt:=hlts i bo hbo;have hset:=ho9.set hbo hjc ha14;clear hw1 hw2 hmi hp0 hp1 hlt3;go_wp2;go_roundw
     case rel=>
      rw[<-hent.out,zDJ hlt hjc]at hset;exact⟨j+1,by omega,by simp,zT (zT (nx hb hbw9) oM _ _) oM _ _,(zR _ _ _ _ _ _ _ oM).trans (br.below hbw9),(zR _ _ _ _ _ _ _ oM).trans (T5.below hbw9),hset.1⟩
     case measure=>simp[intOf];omega
    ·obtain rfl:j=C:=by omega
     rw[zDI]at ho;go_wp2;go_roundw
     case rel=>exact⟨i+1,by omega,by simp,hb,br,T5,ho⟩
     case measure=>simp[intOf];omega
  ·obtain rfl:i=R:=by omega
   rw[zDH]at ho;obtain⟨f1,f2,f3,f4,f5,f6⟩:=T5.three;obtain⟨r1,r2,r3,r4,r5,r6⟩:=br.three;have q1:=hB0.size;go_wp2;refine qY rfl rfl rfl (br.put3 _ _ _) ⟨_,bs,rfl,⟨hbl,_,rfl,?_⟩,zT (zT (zT hb oM 0 _) oM 1 _) oM 2 _⟩;exact(ho.keep (fun k hk=>yN _ _ k _ _ _ oM) (br.lext3 dE _ _ _)).mono q1


instance (B R C Cu Cw:Nat) (z:W5):Decidable (okW B R C Cu Cw z):=by unfold okW;infer_instance
def zP4(B:Nat)(M:List (List Int)):Bool:=M.all fun r=>r.all fun z=>decide (z.natAbs<B)
def zQD(B:Nat)(X Y:List (List Int))(R m C:Nat):Prop:=∀i,i<R->∀j,j<C->∀k,k<m->(ent X i k).natAbs<B/\(ent Y k j).natAbs<B/\(ent X i k*ent Y k j).natAbs<B/\(zCj X Y k i j).natAbs<B
instance (B:Nat) (X Y:List (List Int)) (R m C:Nat):Decidable (zQD B X Y R m C):=by unfold zQD;infer_instance

def I8V(w:World)(v:Value)(ls:List Int):Prop:=
 ∃ao n cap,v= .slice ao n cap/\ls.length=n/\n<=cap/\cap<=9223372036854775807/\(∀z∈ls,-128<=z/\z<=127)∧
  (ls≠ []->∃b off,ao=some ⟨b,off,none⟩/\b<w.heap.size/\∀(k:Nat) (z:Int),ls[k]?=some z->w.cell? ⟨b,off+k,none⟩=some (.int .i8 z))
theorem I8V.cell{w:World}{ao:Option Addr}{n cap:Nat}{ls:List Int}(h:I8V w (.slice ao n cap) ls){k:Nat}(hk:k<ls.length):
  ∃b off z,ao=some ⟨b,off,none⟩/\b<w.heap.size/\ls[k]?=some z/\w.cell? ⟨b,off+k,none⟩=some (.int .i8 z)/\-128<=z/\z<=127:=by
 obtain⟨ao',n',cap',h1,h2,h3,h4,h5,h6⟩:=h;injection h1 with e1 e2 e3
 subst e1;obtain⟨b,off,e,hb,hc⟩:=h6 (by rintro rfl;simp at hk);have hz:=xga hk;have:=h5 _ (xgd hz);exact⟨b,off,_,e,hb,hz,hc _ _ hz,this.1,this.2⟩
theorem I8V.below{w w':World}{v:Value}{ls:List Int}(h:I8V w v ls)(hb:Below w.heap.size w w'):I8V w' v ls:=by
 obtain⟨ao,n,cap,h1,h2,h3,h4,h5,h6⟩:=h;refine⟨ao,n,cap,h1,h2,h3,h4,h5,fun hne=>?_⟩;obtain⟨b,off,e,hlt,hc⟩:=h6 hne;exact⟨b,off,e,Nat.lt_of_lt_of_le hlt hb.size,fun k z hz=>(hb.cell (p:=⟨b,off+k,none⟩) hlt).trans (hc k z hz)⟩
def zHL(C:Nat)(ls:List Int):Nat->Nat->Int:=fun i j=>(ls.getD (i*C+j) 0).tmod 10
theorem zL7{C:Nat}{ls:List Int}{i j:Nat}(h:ls.length<=i*C+j):zHL C ls i j=0:=by
 unfold zHL;rw[xgb,List.getElem?_eq_none h];rfl
theorem zNc{z:Int}:(Int.tmod z 10).natAbs<=9:=by
 rcases Int.le_total 0 z with h|h
 ·rw[Int.tmod_eq_emod_of_nonneg h];omega
 ·have:Int.tmod z 10=-(Int.tmod (-z) 10):=by rw[Int.neg_tmod];omega
  rw[this,Int.tmod_eq_emod_of_nonneg oM];omega
theorem zKH(C:Nat)(ls:List Int)(i j:Nat):(zHL C ls i j).natAbs<=9:=zNc
theorem zLg{R C:Nat}{f:Nat->Nat->Int}{i j:Nat}(h:∀b,j<=b->f i b=0):zX R C (zBc f i j)=zX R C (zBc f (i+1) 0):=
 qK fun a _ b _=>by
  unfold zBc;by_cases e:a<i∨(a=i/\b<j)
  ·rw[if_pos e,if_pos oM]
  ·rw[if_neg e]
   by_cases e2:a<i+1∨a=i+1/\b<0
   ·rw[if_pos e2]
    obtain rfl:a=i:=by omega
    exact(h b oM).symm
   ·rw[if_neg e2]
theorem zFK(v:Value)(R C:Nat)(ls:List Int)(w:World)(h:I8V w v ls)(hR:R<=16)(hC:C<=16):
  Calls Tryz.prog 66 #[.int .i64 R,.int .i64 C,v] w (zAs w R C (zX R C (zHL C ls))):=by
 obtain⟨ao,n,cap,rfl,h2,h3,h4,-,-⟩:=id h;have HL:=xgw h2;obtain⟨f,hf⟩:∃f:Nat->Nat->Int,zHL C ls=f:=⟨_,rfl⟩;rw[hf];have HFE:qF (∀i j,f i j=zHL C ls i j):=⟨fun i j=>by rw[<-hf]⟩;clear hf h2;go_enter Tryz.func66,Tryz.ntmps66;go_upto_region 1 with(fail)
 refine zB ?_;intro W0 hW0;obtain⟨hB0,br,hs0⟩:=zK hW0;have e1:min (R:Int) 16=R:=by omega
 have e2:min (C:Int) 16=C:=by omega
 go_wp2_with fail
 refine(zA4 R C W0 oM oM).mono ?_;rintro e w2 ⟨u,bs,rfl,⟨hbl,A2,rfl,ho⟩,hb2⟩;obtain⟨oo,on,oc,rfl,-,-,-,-⟩:=id ho.rows;have hlts:=ho.lts;go_upto_region 2 with(fail)
 refine zB ?_;intro W3 hW3;obtain⟨hB3,T7,hs3⟩:=zK hW3;have br:=(br.below hb2).below hB3;have ho:=ho.below hB3;rw[zBd R C f]at ho;have hBt:=nx (nx hB0 hb2) hB3;have q2:=hb2.size;clear hW3 hW0 e1 e2;go_wp2;go_loopw [8] (fun iv wr=>∃i:Nat,i<=R/\iv= .int .i64 i/\Below w.heap.size w wr/\Blk wr w.heap.size 28 #[.int .i64 0,.int .i64 0,.slice none 0 0]/\Blk wr w2.heap.size 28 #[.int .i64 R,.int .i64 C,.slice oo on oc]/\zS wr W0.heap.size (.slice oo on oc) C bs (zX R C (zBc f i 0))) (fun iv _=>R-(intOf iv).toNat)
 case atStart=>exact⟨0,by omega,rfl,hBt,br,T7,ho⟩
 case round=>
  obtain⟨i,hi,rfl,hb,br,T7,ho⟩:=hrel;obtain⟨f1,f2,f3,f4,f5,f6⟩:=T7.three;by_cases hlt:i<R
  ·go_wp2
   clear f1 f2 f3 f4 f5 f6;go_loopw [9] (fun jv wr=>∃j:Nat,j<=C/\jv= .int .i64 j/\Below w.heap.size w wr/\Blk wr w.heap.size 28 #[.int .i64 0,.int .i64 0,.slice none 0 0]/\Blk wr w2.heap.size 28 #[.int .i64 R,.int .i64 C,.slice oo on oc]/\zS wr W0.heap.size (.slice oo on oc) C bs (zX R C (zBc f i j))) (fun jv _=>C-(intOf jv).toNat)
   case atStart=>exact⟨0,by omega,rfl,hb,br,T7,ho⟩
   case round=>
    obtain⟨j,hj,rfl,hb,br,T7,ho⟩:=hrel;obtain⟨f1,f2,f3,f4,f5,f6⟩:=T7.three;obtain⟨m,hm⟩:∃m,i*C+j=m:=⟨_,rfl⟩;have hmi:(i:Int)*(C:Int)+(j:Int)=(m:Int):=by rw[<-hm,Int.natCast_add,Int.natCast_mul]
    have hiC:i*C<=16*16:=Nat.mul_le_mul oM hC;have hp0:0<=(i:Int)*(C:Int):=by rw[<-Int.natCast_mul];omega
    have hp1:(i:Int)*(C:Int)<=1000000:=by rw[<-Int.natCast_mul];omega
    have hw1:IntKind.i64.wrap ((i:Int)*(C:Int))=(i:Int)*(C:Int):=IntWalk.i64_in _ oM;have hw2:IntKind.i64.wrap (m:Int)=(m:Int):=IntWalk.i64_in _ oM;have hmm:IntKind.i64.wrap ((i:Int)*(C:Int)+(j:Int))=(m:Int):=by rw[hmi,hw2]
    by_cases hjc:j<C
    ·by_cases hmn:m<n
     ·obtain⟨b,off,z,rfl,hbl1,hz,c1,z1,z2⟩:=h.cell (k:=m) (by rw[HL.out];exact hmn)
      have hcell:=(hb.cell (p:=⟨b,off+m,none⟩) hbl1).trans c1;have hent:Hid (f i j=Int.tmod z 10):=xgw (by rw[HFE.out];unfold zHL;rw[hm,zBM hz]);have ht9:(Int.tmod z 10).natAbs<=9:=zNc;obtain⟨t,ht⟩:∃t,Int.tmod z 10=t:=⟨_,rfl⟩;rw[ht]at hent ht9;obtain⟨g,bo,rfl,hg,hbo,hbo2,o1,ho3⟩:=ho.at_ (i:=i) oM;have hio:i<on:=by omega
      have HO3:=xgw ho3;have HM:=xgw hm;have HT:=xgv ht;have lt7:=T7.lt;clear ho3 hm hz hiC c1 ht;go_upto_region 8 with(fail)
      refine zC 19 rfl (RI wr (wr.heap.size) _ 35
        [VP 0 40 w2.heap.size 2,VSl 1 41 g on oc,VN 2 42 i,VP 3 43 g i,VSl 4 44 bo C C,VN 5 45 j,E 6 46 (.slice (some ⟨b,off,none⟩) n cap),VN 7 47 i,VP 8 48 w2.heap.size 1,VN 9 49 C,E 10 50 (.int .i64 ((i:Int)*(C:Int))),VN 11 51 j,VN 12 52 m,VP 13 53 b (off+m),E 14 54 (.int .i8 z),E 15 55 (.int .i8 t),VN 16 56 t,EI 17 57 (t),VP 18 58 bo (j*2)] [] []) kR RI.start (RI.fin kR ?fin1) ?steps1
      case steps1=>
       refine⟨?_,?_,?_,?_,?_,?_,?_,?_,?_,?_,?_,?_,?_,?_,?_,?_,?_,?_,?_,trivial⟩<;>(intro L T wS hL hd hcl hI K hK;try refine zA rfl ?_)
       ·exact xgs (hI.k 7 rfl kR)
       ·have zt0:=hI.e mm0 (hd 0)
        have cc0:=hI.cell f3 oM nom;exact xgu
       ·exact xgs (hI.k 8 rfl kR)
       ·exact xgt (hI.e mm1 (hd 1)) (hI.e mm2 (hd 2))
       ·have zt3:=hI.e mm3 (hd 3)
        have cc0:=hI.cell o1 oM nom;exact xgu
       ·exact xgs (hI.k 9 rfl kR)
       ·exact xgs (hI.k 2 rfl kR)
       ·exact xgs (hI.k 8 rfl kR)
       ·exact xgs (hI.k 7 rfl kR)
       ·have zt8:=hI.e mm8 (hd 8)
        have cc0:=hI.cell f2 oM nom;exact xgu
       ·exact xgt (hI.e mm7 (hd 7)) (hI.e mm9 (hd 9))
       ·exact xgs (hI.k 9 rfl kR)
       ·exact xgt (hI.e zAC (hd 10)) (hI.e zAJ (hd 11))
       ·exact xgt (hI.e mm6 (hd 6)) (hI.e zAo (hd 12))
       ·have zt13:=hI.e zCF (hd 13)
        have cc0:=hI.cell hcell oM nom;exact xgu
       ·have zt14:=hI.e zBp (hd 14)
        go_simp;exact hK _ _ (hI.y zCS (congrArg (Value.int .i8) HT.out))
       ·have zt15:=hI.e zCS (hd 15)
        go_simp;exact hK _ _ (hI.y zDs (congrArg (Value.int .i64) (IntWalk.i64_in _ oM)))
       ·have zt16:=hI.e zDs (hd 16)
        go_simp;refine(zAF t _ oM oM).mono ?_;exact xgo
       ·exact xgt (hI.e mm4 (hd 4)) (hI.e mm5 (hd 5))
      intro w9 hlw9 hbw9 holdw9 T hT;simp only[Fin,E,EI,VP,VSl,VN,xgg,xgh,xgi,xgj]at hT;obtain⟨va17,ha17,rfl⟩:=hT;simp only[xgl,xgk];obtain⟨pn,pa,pl,pc,px,rfl,hpx⟩:=id ha17;have HPX:=xgw hpx;clear hpx;have ho9:=ho.below hbw9;obtain⟨sn,sa,sl,sc,y1,y2,y3,y4,-⟩:=ho9.cellAt hbo hjc;have hbolt:=hlts i bo hbo;have hset:=ho9.set hbo hjc ha17;clear hw1 hw2 hmi hp0 hp1 hmm ht9;go_wp2;go_roundw
      case rel=>
       rw[<-hent.out,zDJ hlt hjc]at hset;exact⟨j+1,by omega,by simp,zT (zT (nx hb hbw9) oM _ _) oM _ _,(zR _ _ _ _ _ _ _ oM).trans (br.below hbw9),(zR _ _ _ _ _ _ _ oM).trans (T7.below hbw9),hset.1⟩
      case measure=>simp[intOf];omega
     ·have hrest:∀b,j<=b->f i b=0:=fun b hb=>by
       rw[HFE.out];exact zL7 (by rw[HL.out];omega)
      rw[zLg hrest]at ho;clear hmi hp0 hp1 hiC hm;go_wp2;go_roundw
      case rel=>exact⟨i+1,by omega,by simp,hb,br,T7,ho⟩
      case measure=>simp[intOf];omega
    ·obtain rfl:j=C:=by omega
     rw[zDI]at ho;clear hmi hp0 hp1 hmm hw1 hw2;go_wp2;go_roundw
     case rel=>exact⟨i+1,by omega,by simp,hb,br,T7,ho⟩
     case measure=>simp[intOf];omega
  ·obtain rfl:i=R:=by omega
   rw[zDH]at ho;obtain⟨r1,r2,r3,r4,r5,r6⟩:=br.three;have q1:=hB0.size;go_wp2;refine qY rfl rfl rfl (br.put3 _ _ _) ⟨_,bs,rfl,⟨hbl,_,rfl,?_⟩,zT (zT (zT hb oM 0 _) oM 1 _) oM 2 _⟩;exact(ho.keep (fun k hk=>yN _ _ k _ _ _ oM) (br.lext3 dE _ _ _)).mono q1
theorem zH2(v:Value)(r c:Nat)(ls:List Int)(w:World)(h:I8V w v ls)(hr:r<=255)(hc:c<=255)(R C:Nat)(hR:R=r%5)(hC:C=c%5):
  Calls Tryz.prog 15 #[.agg #[.int .u8 r,.int .u8 c,v]] w (zAs w R C (zX R C (zHL C ls))):=by
 obtain⟨ao,n,cap,rfl,-,-,-,-,-⟩:=id h;go_enter Tryz.func15,Tryz.ntmps15;go_upto_region 1 with(fail)
 refine zB ?_;intro W0 hW0;obtain⟨hB0,bx1,br,hs0⟩:=qI hW0;obtain⟨c1,c2,c3,c4,c5,c6⟩:=bx1.three;have e1:(r:Int)%5=(R:Int):=by omega
 have e2:(c:Int)%5=(C:Int):=by omega
 have hR4:R<=4:=by omega
 have hC4:C<=4:=by omega
 clear hR hC;go_wp2_with fail
 refine(zFK _ R C ls W0 (h.below hB0) oM oM).mono ?_;rintro e w2 ⟨u,bs,rfl,⟨hbl,A2,rfl,ho⟩,hb2⟩;obtain⟨oo,on,oc,rfl,-,-,-,-⟩:=id ho.rows;have br:=br.below hb2;obtain⟨r1,r2,r3,r4,r5,r6⟩:=br.three;have hBt:=nx hB0 hb2;have q1:=hB0.size;clear c1 c2 c3 c4 c5 c6;go_wp2;refine qY rfl rfl rfl (br.put3 _ _ _) ⟨_,bs,rfl,⟨hbl,_,rfl,?_⟩,zT (zT (zT hBt oM 0 _) oM 1 _) oM 2 _⟩;exact(ho.keep (fun k hk=>yN _ _ k _ _ _ oM) (br.lext3 dE _ _ _)).mono q1
theorem nxa{w W W':World}{o:Obj}(h:Below w.heap.size w W)(hb:Below (W.alloc o).heap.size (W.alloc o) W'):Below w.heap.size w W':=nx (h.alloc h.size o) hb
def zIQ(ls:List Int):Array Value:=(ls.map (Value.int .i64)).toArray
theorem zBu.new(W:World)(ls:List Int)(hb:(ls.all fun z=>decide (-9223372036854775808<=z/\z<=9223372036854775807))=true)(hl:ls.length<=1000):
  zBu (W.alloc (.cells (zIQ ls) 2)) (.slice (some ⟨W.heap.size,0,none⟩) ls.length ls.length) ls:=by
 refine⟨_,_,_,rfl,rfl,xgf _,by omega,fun z hz=>of_decide_eq_true (List.all_eq_true.1 hb z hz),fun _=>⟨W.heap.size,_,rfl,heap_alloc_new W _,fun k z hk=>?_⟩⟩;simp[zIQ,hk]
theorem zAw(ls:List Int):qS (fun w v=>zBu w v ls):=fun _ _ _ x h=>h.below x
theorem zMT(v:Value)(ls:List Int)(R C:Nat)(r c:Int)(M:List (List Int))(w:World)(h:zBu w v ls)(hr:r=R)(hc:c=C)(hl:ls.length=R*C)(hR:R<=1000)(hC:C<=1000)(hM:zX R C (fun i j=>ls.getD (i*C+j) 0)=M):
  Calls Tryz.prog 60 #[.int .i64 r,.int .i64 c,v] w fun e w'=>∃v,e= .returned v/\yP w' v R C M/\Below w.heap.size w w':=by
 subst hr;subst hc;subst hM;exact(zMU v R C ls w h hl hR hC).mono fun e w' ⟨v,bs,he,hm,hb⟩=>⟨v,he,hm.mat.1,hb⟩
theorem zQv(R C:Nat)(r c:Int)(w:World)(hr:r=R)(hc:c=C)(hR:R<=1000000)(hC:C<=1000000):
  Calls Tryz.prog 62 #[.int .i64 r,.int .i64 c] w fun e w'=>∃v,e= .returned v/\yP w' v R C (zAN R C)/\Below w.heap.size w w':=by
 subst hr;subst hc;exact(zA4 R C w hR hC).mono fun e w' ⟨v,bs,he,hm,hb⟩=>⟨v,he,hm.mat.1,hb⟩
theorem yP.agg{w:World}{v:Value}{R C:Int}{M:List (List Int)}(h:yP w v R C M):∃o n k,v= .agg #[.int .i64 R,.int .i64 C,.slice o n k]:=by
 obtain⟨A,rfl,ao,n,cap,rfl,-⟩:=h;exact⟨_,_,_,rfl⟩
theorem zCL(f:Nat->Int)(n:Nat):zLc f n=qE n f:=by
 induction n with
 |zero=>rfl
 |succ n ih=>unfold zLc qE;rw[ih]
structure Chk(R C:Nat)(A S U V W X:List (List Int)):Prop where
 fs:jK R C S
 fu:jK R R U
 fv:jK R R V
 fw:jK C C W
 fx:jK C C X
 is:zQc R C S=true
 i1:zX R R (zCj U V R)=zX R R idf
 i2:zX C C (zCj W X C)=zX C C idf
 ss:∀r∈S,∀z∈r,Smd z
 m1:zCt U V R R R
 m2:zCt W X C C C
 m3:zCt U A R R C
 m4:zCt (zX R C (zCj U A R)) W R C C
 p:zX R C (zCj (zX R C (zCj U A R)) W C)=S
theorem zL6(R C D:Nat)(ls:List Int):leM 9 R C (zHL D ls):=fun a _ b _=>zKH D ls a b
theorem zNz{n R C:Nat}{F:Nat->Nat->Int}(h:leM n R C F):leM n R C (ent (zX R C F)):=fun a ha b hb=>by rw[yU ha hb];exact h a ha b hb
theorem zP5(v:Value)(r c:Nat)(ls:List Int)(w:World)(h:I8V w v ls)(hr:r<=255)(hc:c<=255)(R C:Nat)(hR:R=r%5)(hC:C=c%5):
  Calls Tryz.prog 15 #[.agg #[.int .u8 r,.int .u8 c,v]] w fun e w'=>∃v,e= .returned v/\yP w' v R C (zX R C (zHL C ls))/\Below w.heap.size w w':=
 (zH2 v r c ls w h hr hc R C hR hC).mono fun e w' ⟨v,bs,h,hm,hb⟩=>⟨v,h,hm.mat.1,hb⟩
theorem zHN{z:Int}(h:z.natAbs<BD):Sm z:=zJu.bsm.sm z h
structure zPn(R C:Nat)(A H U V:List (List Int)):Prop where
 fh:jK R C H
 fu:jK R R U
 fv:jK R R V
 chk:zQW R C A R C H R R U R R V
 lat:∃r c G,zQZ R C r c (ent A) G/\H=zX R C G
 sh:∀r∈H,∀z∈r,Sm z
 m1:zCt U A R R C
 m2:zCt U V R R R
instance (C:Nat) (F:Nat->Nat->Int) (i:Nat):Decidable (zLL C F i):=
 decidable_of_iff (lead C F i<0∨(¬ lead C F i<0/\(∀k,k<i->0<=lead C F k/\lead C F k<lead C F i)/\0<F i (lead C F i).toNat/\∀k,k<i->0<=F k (lead C F i).toNat/\F k (lead C F i).toNat<F i (lead C F i).toNat)) (by
  unfold zLL
  constructor
  ·rintro(h|⟨h1,h2,h3⟩)
   ·exact .inl h
   ·exact .inr ⟨(lead C F i).toNat,by omega,fun k hk=>by have:=h2 k hk;omega,h3⟩
  ·rintro(h|⟨c,h1,h2,h3⟩)
   ·exact .inl h
   ·refine .inr ⟨by omega,fun k hk=>by rw[h1];exact h2 k hk,?_⟩
    rw[h1,Int.toNat_natCast]
    exact h3)
instance (R C:Int) (M:List (List Int)):Decidable (zPo R C M):=inferInstanceAs (Decidable (_/\_))
def zQd(R C:Nat)(A W X Y:List (List Int)):Prop:=zPo R C W/\(∀a,a<R->∀b,b<C->ent A a b=qE R fun t=>ent X a t*ent W t b)/\∀a,a<R->∀b,b<C->ent W a b=qE R fun t=>ent Y a t*ent A t b
instance (R C:Nat) (A W X Y:List (List Int)):Decidable (zQd R C A W X Y):=inferInstanceAs (Decidable (_/\_))
theorem zDV{M0 R C:Nat}{M:List (List Int)}(h:zP4 (M0+1) M=true)(hF:jK R C M):leM M0 R C (ent M):=fun a ha b hb=>by
 have hl:a<M.length:=by rw[hF.1];exact ha
 have hr:=hF.2 M[a] (List.getElem_mem _);have hb':b<M[a].length:=by omega
 have e:ent M a b=M[a][b]:=zAU (xga hl) (xga hb');have:=of_decide_eq_true (List.all_eq_true.1 (List.all_eq_true.1 h M[a] (List.getElem_mem _)) M[a][b] (List.getElem_mem _));rw[e];omega
/- The calls of sanity. -/
def rest(R C:Nat)(H:Nat->Nat->Int)(x:Nat->Int):Nat->Int:=zBN C H x R
def zPf(r:Nat)(c:Nat->Nat)(H:Nat->Nat->Int)(y:Nat->Int):Prop:=∀s,s<r->0<=y (c s)/\y (c s)<H s (c s)
section
variable {n C r:Nat} {c:Nat->Nat} {H:Nat->Nat->Int}
theorem zK8(hH:Hnf C n r c H){i:Nat}(hi:i<r)(y:Nat->Int):quo C H y i=y (c i)/H i (c i):=by
 unfold quo;rw[hH.ech.lead hi,if_neg oM];rfl
theorem zHv(hH:Hnf C n r c H){i:Nat}(h1:r<=i)(h2:i<n)(y:Nat->Int):quo C H y i=0:=by
 unfold quo;rw[zF1 (hH.zero i h1 h2),if_pos oM]
theorem zG1(C:Nat)(H:Nat->Nat->Int)(x:Nat->Int)(i b:Nat):zBN C H x i b=x b+qE i fun s=>-(zA7 C H x s)*H s b:=by
 induction i with
 |zero=>simp[zBN,qE]
 |succ i ih=>
  show zBN C H x i b+-(zA7 C H x i)*H i b=_;rw[ih];exact Int.add_assoc _ _ _
theorem zM0(hH:Hnf C n r c H)(x:Nat->Int):∀i,i<=r->zPf i c H (zBN C H x i):=by
 intro i;induction i with
 |zero=>intro _ s hs;omega
 | succ i ih=>
  intro hi s hs;have hq:zA7 C H x i=zBN C H x i (c i)/H i (c i):=zK8 hH oM _;have he:zBN C H x (i+1) (c s)=zBN C H x i (c s)+-(zA7 C H x i)*H i (c s):=rfl;rw[he];by_cases e:s=i
  ·subst e
   have hp:=hH.ech.pos s oM;have h1:=Int.emod_nonneg (zBN C H x s (c s)) (show H s (c s)≠0 by omega);have h2:=Int.emod_lt_of_pos (zBN C H x s (c s)) hp;have h3:=Int.emod_def (zBN C H x s (c s)) (H s (c s));rw[hq,Int.neg_mul,Int.mul_comm (zBN C H x s (c s)/H s (c s))];omega
  ·have h1:=ih oM s oM
   rw[hH.ech.zero i oM (c s) (hH.ech.inc s i oM oM),Int.mul_zero,Int.add_zero];exact h1
theorem zLG(hH:Hnf C n r c H)(x:Nat->Int):∀d b,r+d<=n->zBN C H x (r+d) b=zBN C H x r b:=by
 intro d b;induction d with
 |zero=>intro _;rfl
 |succ d ih=>
  intro hd;have hq:zA7 C H x (r+d)=0:=zHv hH oM oM _;show zBN C H x (r+d) b+-(zA7 C H x (r+d))*H (r+d) b=_;rw[hq,ih oM];simp
theorem zM1(hH:Hnf C n r c H)(x:Nat->Int):zPf r c H (rest n C H x):=by
 intro s hs;have h:=zM0 hH x r (xgf _) s hs;have e:rest n C H x (c s)=zBN C H x r (c s):=by
  have:=zLG hH x (n-r) (c s) (by have:=hH.le;omega);rwa[show r+(n-r)=n by have:=hH.le;omega]at this
 rw[e];exact h
theorem zH4(hH:Hnf C n r c H){y y' z:Nat->Int}(h1:zPf r c H y)(h2:zPf r c H y')(h:∀b,b<C->y b-y' b=qE n fun t=>z t*H t b):∀b,b<C->y b=y' b:=by
 have h':∀b,b<C->y b-y' b=qE r fun t=>z t*H t b:=fun b hb=>by
  rw[h b hb];exact zEC hH.le fun t a1 a2=>by rw[hH.zero t a1 a2 b hb,Int.mul_zero]
 have hz:∀t,t<r->z t=0:=fun t ht=>Classical.byContradiction fun hne=>by
  obtain⟨t,ht,h0,hb⟩:=zMC ⟨t,ht,hne⟩;have e:=h' (c t) (hH.ech.lt t ht);rw[zNr hH.ech ht hb]at e;have a1:=h1 t ht;have a2:=h2 t ht;have hp:=hH.ech.pos t ht;have hle:(H t (c t)).natAbs<=(z t*H t (c t)).natAbs:=by
   rw[Int.natAbs_mul];exact Nat.le_mul_of_pos_left _ (Int.natAbs_pos.2 h0)
  rw[<-e]at hle;omega
 intro b hb;have e:=h' b hb;rw[zDG fun t ht=>by rw[hz t ht,Int.zero_mul]]at e;omega
theorem zLJ(hH:Hnf C n r c H){x z:Nat->Int}(h:∀b,b<C->x b=qE n fun t=>z t*H t b):∀b,b<C->rest n C H x b=0:=
 zH4 hH (zM1 hH x) (y':=fun _=>0) (fun s hs=>⟨Int.le_refl _,hH.ech.pos s hs⟩) (z:=fun t=>z t+-(zA7 C H x t)) fun b hb=>by
  have e1:rest n C H x b=_:=zG1 C H x n b;rw[e1,h b hb,Int.sub_zero,<-zAb];exact zU fun t _=>by rw[Int.add_mul]
end
theorem zEL(a b:Int):(a/b).natAbs<=a.natAbs:=Int.natAbs_ediv_le_natAbs a b
theorem Hnf.congr{C n r:Nat}{c:Nat->Nat}{F G:Nat->Nat->Int}(h:Hnf C n r c F)(e:∀a,a<n->∀b,b<C->F a b=G a b):Hnf C n r c G:=by
 have hl:=h.le;refine⟨h.le,⟨h.ech.lt,fun k hk=>?_,fun k hk t ht=>?_,h.ech.inc⟩,fun i j hij hj _=>?_,fun a h1 h2 t ht=>?_⟩
 ·rw[<-e k oM _ (h.ech.lt k hk)];exact h.ech.pos k hk
 ·rw[<-e k oM t (by have:=h.ech.lt k hk;omega)];exact h.ech.zero k hk t ht
 ·rw[<-e i oM _ (h.ech.lt j hj),<-e j oM _ (h.ech.lt j hj)];exact h.red i j hij hj trivial
 ·rw[<-e a h2 t ht];exact h.zero a h1 h2 t ht
theorem zLF{n C r h m:Nat}{c:Nat->Nat}{H:Nat->Nat->Int}(hH:Hnf C n r c H)(hh:leM h n C H){x:Nat->Int}(hx:∀b,b<C->(x b).natAbs<=m):
  ∀i,i<=n->∀b,b<C->(zBN C H x i b).natAbs<=m*(1+h)^i:=by
 intro i;induction i with
 |zero=>intro _ b hb;simpa[zBN]using hx b hb
 | succ i ih=>
  intro hi b hb;have h1:=ih oM b hb;have hq:(zA7 C H x i).natAbs<=m*(1+h)^i:=by
   by_cases hr:i<r
   ·show(quo C H (zBN C H x i) i).natAbs<=_
    rw[zK8 hH hr];exact Nat.le_trans (zEL _ _) (ih oM _ (hH.ech.lt i hr))
   ·show(quo C H (zBN C H x i) i).natAbs<=_
    rw[zHv hH oM oM];simp
  show(zBN C H x i b+-(zA7 C H x i)*H i b).natAbs<=_;have h2:(-(zA7 C H x i)*H i b).natAbs<=m*(1+h)^i*h:=by
   rw[Int.natAbs_mul,Int.natAbs_neg];exact Nat.mul_le_mul hq (hh i oM b hb)
  refine Nat.le_trans (Int.natAbs_add_le _ _) (Nat.le_trans (Nat.add_le_add h1 h2) ?_);rw[Nat.pow_succ,<-Nat.mul_assoc,Nat.mul_add,Nat.mul_one];exact xgf _
theorem zH3{n C r h m:Nat}{c:Nat->Nat}{H:Nat->Nat->Int}(hH:Hnf C n r c H)(hh:leM h n C H){x:Nat->Int}(hx:∀b,b<C->(x b).natAbs<=m){i:Nat}(hi:i<n):(zA7 C H x i).natAbs<=m*(1+h)^i:=by
 by_cases hr:i<r
 ·show(quo C H (zBN C H x i) i).natAbs<=_
  rw[zK8 hH hr];exact Nat.le_trans (zEL _ _) (zLF hH hh hx i oM _ (hH.ech.lt i hr))
 ·show(quo C H (zBN C H x i) i).natAbs<=_
  rw[zHv hH oM hi];simp
theorem zDw{a:Nat}(h:a<=2^199):a<BD:=by
 have h1:2^200<=B32^zJx:=zCH (by rw[zAP];omega);rw[zJv];exact Nat.lt_of_le_of_lt h (Nat.lt_of_lt_of_le dE h1)
theorem zJP{n C r:Nat}{c:Nat->Nat}{H:Nat->Nat->Int}(hH:Hnf C n r c H)(hn:n<=4)(hh:leM 644972544 n C H){x:Nat->Int}(hx:∀b,b<C->(x b).natAbs<=1000000):zQO BD n C H x:=by
 have hg:∀i,i<=5->1000000*(1+644972544)^i<BD:=fun i hi=>zDw (Nat.le_trans (Nat.mul_le_mul_left _ (Nat.pow_le_pow_right oM hi)) dE)
 refine⟨fun a ha b hb=>Nat.lt_of_le_of_lt (hh a ha b hb) (zDw dE),fun i hi b hb=>Nat.lt_of_le_of_lt (zLF hH hh hx i hi b hb) (hg i oM),fun i hi=>⟨Nat.lt_of_le_of_lt (zH3 hH hh hx hi) (hg i oM),fun b hb=>Nat.lt_of_le_of_lt ?_ (hg (i+1) oM)⟩⟩;rw[Int.natAbs_mul,Int.natAbs_neg];refine Nat.le_trans (Nat.mul_le_mul (zH3 hH hh hx hi) (hh i hi b hb)) ?_;rw[Nat.pow_succ,<-Nat.mul_assoc];exact Nat.mul_le_mul_left _ oM
def zJz(R C:Nat)(A:Nat->Nat->Int)(b x:Nat->Int):Prop:=∀j,j<C->b j=qE R fun i=>x i*A i j
def zBQ(C:Nat)(v:Nat->Int)(y:Nat->Rat):Rat:=jJ C fun j=>(v j:Rat)*y j
def zLt(R C:Nat)(A:Nat->Nat->Int)(b:Nat->Int)(y:Nat->Rat):Prop:=(∀i,i<R->isZ (zBQ C (A i) y)=true)/\isZ (zBQ C b y)=false
theorem zFv(z:Int):isZ (z:Rat)=true:=zCf.2 ⟨z,rfl⟩
theorem zOA{p q:Rat}(hp:isZ p=true)(hq:isZ q=true):isZ (p+q)=true:=by
 obtain⟨a,rfl⟩:=zCf.1 hp;obtain⟨b,rfl⟩:=zCf.1 hq;exact zCf.2 ⟨a+b,(Rat.intCast_add _ _).symm⟩
theorem zKf{z:Int}{q:Rat}(hq:isZ q=true):isZ ((z:Rat)*q)=true:=by
 obtain⟨b,rfl⟩:=zCf.1 hq;exact zCf.2 ⟨z*b,(Rat.intCast_mul _ _).symm⟩
theorem zKg{n:Nat}{f:Nat->Rat}(h:∀i,i<n->isZ (f i)=true):isZ (jJ n f)=true:=by
 induction n with
 |zero=>exact zFv 0
 |succ n ih=>exact zOA (ih fun i hi=>h i oM) (h n oM)
theorem zGW{n:Nat}(f:Nat->Int):((qE n f:Int):Rat)=jJ n fun i=>(f i:Rat):=by
 induction n with
 |zero=>rfl
 |succ n ih=>
  show((qE n f+f n:Int):Rat)=_+_;rw[Rat.intCast_add,ih]
theorem zFq{n C:Nat}{c b:Nat->Int}{H:Nat->Nat->Int}{y:Nat->Rat}(h:∀j,j<C->b j=qE n fun t=>c t*H t j):zBQ C b y=jJ n fun t=>(c t:Rat)*zBQ C (H t) y:=by
 unfold zBQ;rw[qH (g:=fun j=>jJ n fun t=>(c t:Rat)*((H t j:Rat)*y j)) fun j hj=>?_,zHD]
 ·exact qH fun t ht=>zBI _ _
 ·rw[h j hj,zGW]
  have h2:=zBI (n:=n) (y j) fun t=>((c t*H t j:Int):Rat)
  have h3:(jJ n fun t=>((c t*H t j:Int):Rat))*y j=y j*jJ n fun t=>((c t*H t j:Int):Rat):=by grind
  rw[h3,<-h2];exact qH fun t ht=>by rw[Rat.intCast_mul];grind
theorem zIv{R C:Nat}{A:Nat->Nat->Int}{b x:Nat->Int}{y:Nat->Rat}(h:zJz R C A b x)(k:zLt R C A b y):False:=by
 have h1:isZ (zBQ C b y)=true:=by
  rw[zFq h];exact zKg fun t ht=>zKf (k.1 t ht)
 rw[k.2]at h1;cases h1
theorem zMH:isZ (1/2:Rat)=false:=by decide+kernel
theorem zLH{R C r:Nat}{A h:Nat->Nat->Int}{b:Nat->Int}{y z:Nat->Rat}(hA:∀a,a<R->∃v:Nat->Int,∀j,j<C->A a j=qE r fun t=>v t*h t j)(h0:∀a,a<r->jJ C (fun t=>(h a t:Rat)*y t)=0)
  (h1:jJ C (fun t=>(b t:Rat)*y t)=1) (hz:∀j,j<C->z j=y j/2):zLt R C A b z:=by
 have hd:∀v:Nat->Int,zBQ C v z=(1/2:Rat)*jJ C fun j=>(v j:Rat)*y j:=fun v=>by
  unfold zBQ;rw[<-zBI];exact qH fun j hj=>by rw[hz j hj];grind
 refine⟨fun i hi=>?_,?_⟩
 ·obtain⟨v,hv⟩:=hA i hi
  rw[zFq hv,zCA fun t ht=>by rw[hd,h0 t ht];grind];exact zFv 0
 ·rw[hd,h1]
  exact(congrArg isZ (by grind:(1/2:Rat)*1=1/2)).trans zMH
theorem zLI{R C r k:Nat}{A h:Nat->Nat->Int}{b:Nat->Int}{x y:Nat->Rat}(hA:∀a,a<R->∃v:Nat->Int,∀j,j<C->A a j=qE r fun t=>v t*h t j)(hx:∀j,j<C->jJ r (fun i=>(h i j:Rat)*x i)=b j)
  (hy:∀i,i<r->jJ C (fun j=>(h i j:Rat)*y j)=if i=k then 1 else 0) (hk:k<r) (hk2:isZ (x k)=false):zLt R C A b y:=by
 refine⟨fun i hi=>?_,?_⟩
 ·obtain⟨v,hv⟩:=hA i hi
  rw[zFq hv];refine zKg fun t ht=>zKf ?_
  unfold zBQ;rw[hy t ht];split
  ·exact zFv 1
  ·exact zFv 0
 ·have h1:zBQ C b y=x k:=by
   unfold zBQ;rw[qH (g:=fun j=>jJ r fun i=>(h i j:Rat)*x i*y j) fun j hj=>by
    rw[<-hx j hj];have h2:=zBI (n:=r) (y j) fun i=>(h i j:Rat)*x i
    have h3:(jJ r fun i=>(h i j:Rat)*x i)*y j=y j*jJ r fun i=>(h i j:Rat)*x i:=by grind
    rw[h3,<-h2];exact qH fun i hi=>by grind]
   rw[zHD,qH (g:=fun i=>x i*(if i=k then 1 else 0)) fun i hi=>?_,zED hk fun i hi hne=>by rw[if_neg hne];grind]
   ·rw[if_pos rfl];grind
   ·rw[<-hy i hi,<-zBI]
    exact qH fun j hj=>by grind
  rw[h1];exact hk2
theorem zLW{C r:Nat}{h:Nat->Nat->Int}{b:Nat->Int}{x:Nat->Rat}(hx:∀j,j<C->jJ r (fun i=>(h i j:Rat)*x i)=b j)(hz:∀i,i<r->isZ (x i)=true):∃z:Nat->Int,∀j,j<C->b j=qE r fun t=>z t*h t j:=by
 refine⟨fun i=>(x i).num,fun j hj=>?_⟩;refine Rat.intCast_inj.1 ?_;rw[<-hx j hj,zGW];refine qH fun i hi=>?_
 obtain⟨z,hzz⟩:=zCf.1 (hz i hi);have h2:(x i).num=z:=by rw[hzz,Rat.num_intCast]
 show _=((((x i).num*h i j:Int)):Rat);rw[Rat.intCast_mul,h2,hzz];grind
structure zOz(e R C:Nat)(L:Nat->Nat->Int):Prop where
 st:∀c,c<=R->(zAg C L c).pv.length<=C/\(zAg C L c).last≠0/\(zAg C L c).last.natAbs<2^e/\∀i,i<C->∀j,j<R+1+C->((zAg C L c).E i j).natAbs<2^e
 pv:∀k t,(zAg C L R).pv[k]?=some t->t<R/\(zAg C L R).E k t≠0
 inv:zJw C (R+1+C) R L (zAg C L R)
theorem Ech.le{C r:Nat}{pc:Nat->Nat}{h:Nat->Nat->Int}(he:Ech C r pc h):r<=C:=by
 rcases Nat.eq_zero_or_pos r with h0|h0
 ·omega
 ·have h1:=he.ge (r-1) oM
  have h2:=he.lt (r-1) oM;omega
theorem zMs{H:Nat}(hH:H<=2^30){k:Nat}(hk:k<=5):(2*H)^k<2^160:=by
 have h1:(2*H)^k<=(2^31)^k:=Nat.pow_le_pow_left oM k;have h2:(2^31)^k=2^(31*k):=(Nat.pow_mul 2 31 k).symm;have h3:2^(31*k)<=2^155:=Nat.pow_le_pow_right dE oM;have h4:2^155<2^160:=by decide
 omega
theorem zM3{C r H:Nat}{pc:Nat->Nat}{h A:Nat->Nat->Int}{y:Nat->Int}(he:Ech C r pc h)(hr:r<=4)(hH:H<=2^30)(h1:1<=H)(hhH:∀i,i<r->∀j,j<C->(h i j).natAbs<=H)(hy:∀j,j<C->(y j).natAbs<=H)(hA:∀i,i<r->∀j,j<C->A i j=h i j):
  zOz 160 r C (eqL r A y):=by
 have hrC:=he.le;have hL:∀i,i<C->∀j,j<r->eqL r A y i j=h j i:=fun i hi j hj=>by rw[zKN hj,hA j hj i hi]
 have hLH:=zGh (R:=r) (C:=C) (H:=H) (A:=A) (b:=y) (fun i hi j hj=>by rw[hA i hi j hj];exact hhH i hi j hj) hy h1;have hI:=zLr.run (m:=r+1+C) he oM hrC hhH hL hLH;have hex:=zLr.ex (m:=r+1+C) he oM hrC hhH hL hLH;have hB:=zJw.run hex (by omega:r<=r+1+C);have hbd:∀c,c<=r->H*(2*H)^c<2^160:=fun c hc=>by
  have h2:=zMs hH (k:=c+1) oM;rw[Nat.pow_succ]at h2;refine Nat.lt_of_le_of_lt ?_ h2;rw[Nat.mul_comm];exact Nat.mul_le_mul_left _ oM
 refine⟨fun c hc=>?_,fun k t ht=>?_,hB r (xgf _)⟩
 ·have hIc:=hI c hc
  refine⟨(hB c hc).len,(hB c hc).q,?_,fun i hi j hj=>Nat.lt_of_le_of_lt (hIc.bnd i hi j hj) (hbd c hc)⟩;rw[hIc.last];refine Nat.lt_of_le_of_lt (zDd he (fun k hk=>hhH k hk _ (he.lt k hk)) c hc) (Nat.lt_of_le_of_lt ?_ (zMs hH (k:=c) oM));exact Nat.pow_le_pow_left oM c
 ·exact⟨(hB r (xgf _)).lt k t ht,((hB r (xgf _)).piv k t ht).1⟩
theorem zNx{C r:Nat}{pc:Nat->Nat}{h A:Nat->Nat->Int}{u:Nat->Int}(he:Ech C r pc h)(hA:∀i,i<r->∀j,j<C->A j i=h i j):Ech C r pc (eqL C A u):=
 ⟨he.lt,fun k hk=>by rw[zKN (he.lt k hk),hA k hk _ (he.lt k hk)];exact he.pos k hk,fun k hk t ht=>by have:=he.lt k hk;rw[zKN oM,hA k hk t oM];exact he.zero k hk t ht,he.inc⟩
theorem zM4{C r H:Nat}{pc:Nat->Nat}{h A:Nat->Nat->Int}{u:Nat->Int}(he:Ech C r pc h)(hr:r<=4)(hH:H<=2^30)(h1:1<=H)(hhH:∀i,i<r->∀j,j<C->(h i j).natAbs<=H)(hu:∀i,i<r->(u i).natAbs<=H)(hA:∀i,i<r->∀j,j<C->A j i=h i j):
  zOz 160 C r (eqL C A u)/\(zAg r (eqL C A u) C).pv.length=r:=by
 have hE:=zNx (u:=u) he hA;have hLH:=zGh (R:=C) (C:=r) (H:=H) (A:=A) (b:=u) (fun i hi j hj=>by rw[hA j hj i hi];exact hhH j hj i hi) hu h1;have hI:=zLs.run (m:=C+1+r) hE oM hLH;have hex:=zLs.ex (m:=C+1+r) hE oM hLH;have hB:=zJw.run hex (by omega:C<=C+1+r);refine⟨⟨fun c hc=>?_,fun k t ht=>?_,hB C (xgf _)⟩,?_⟩
 ·obtain⟨k,hIc⟩:=hI c hc
  have hkr:=hIc.le;refine⟨(hB c hc).len,(hB c hc).q,?_,fun i hi j hj=>Nat.lt_of_le_of_lt (hIc.bnd i hi j hj) (zMs hH oM)⟩;rw[hIc.last];refine Nat.lt_of_le_of_lt (zDd hE (fun k hk=>hLH k hk _ (by have:=he.lt k hk;omega)) k hkr) (Nat.lt_of_le_of_lt ?_ (zMs hH (k:=k) oM));exact Nat.pow_le_pow_left oM k
 ·exact⟨(hB C (xgf _)).lt k t ht,((hB C (xgf _)).piv k t ht).1⟩
 ·obtain⟨k,hIc⟩:=hI C (xgf _)
  rw[hIc.len];have h2:=hIc.le;rcases Nat.lt_or_ge k r with h3|h3
  ·have:=hIc.aft k (xgf _) h3
   have:=he.lt k h3;omega
  ·omega
theorem zLU{e n m c R:Nat}{L:Nat->Nat->Int}{s:BE}(hB:zJw n m c L s)(he:1<=e)(hR:R<m)(hb:∀i,i<n->∀j,j<m->(s.E i j).natAbs<2^e)(hcm:c<=m)(i:Nat):∀l,l<=s.pv.length->HQ e (zEz s R l i)
 |0,_=>⟨Nat.pow_pos dE,Nat.lt_of_lt_of_le (by decide:1<2^1) (Nat.pow_le_pow_right dE he)⟩
 | l+1,hl=>by
  show HQ e (if s.pv[l]?=some i then _ else _);split
  ·rename_i h
   have h2:=hB.piv l i h;have h3:=hB.lt l i h;have h4:=hB.len;rw[<-Rat.divInt_eq_div];exact HQ.divInt (hb l oM R hR) (hb l oM i oM) h2.1
  ·exact zLU hB he hR hb hcm i l oM
theorem HQ.half{e:Nat}{q:Rat}(h:HQ e q):HQ (e+2) (q/2):=HQ.div (b:=2) h ⟨by decide,by decide⟩ dE
def zC4(ps:List (Int × Int)):Bool:=ps.all zGI
theorem zGn{ps:List (Int × Int)}{k:Nat}{p:Int × Int}(h:zC4 (ps.take k)=true)(hk:ps[k]?=some p)(hp:zGI p=true):zC4 (ps.take (k+1))=true:=by
 unfold zC4 at*;rw[List.take_add_one,hk,List.all_append,h];simp[hp]
theorem zLj{e:Nat}(v:Value)(ps:List (Int × Int))(n:Int)(w:World)(h:zAn w v ps)(hq:∀p∈ps,p.1.natAbs<2^e/\p.2.natAbs<2^e)(he:e<=1000000):
  Calls Tryz.prog 76 #[v,.int .i64 n] w fun e w'=>∃u,e= .returned u/\u= .bool (decide ((ps.length:Int)=n) && zC4 ps)/\Below w.heap.size w w':=by
 obtain⟨ao,m,cap,rfl,h2,h3,h4,-⟩:=id h;have HL:=xgw h2;have HQ:=xgv hq;have HV:=xgv h;by_cases hm:(m:Int)=n
 ·subst hm
  have hgo:(decide ((ps.length:Int)=(m:Int)) && zC4 ps)=zC4 ps:=by rw[h2];simp
  rw[hgo];clear h2 hq h hgo;go_enter Tryz.func76,Tryz.ntmps76;go_wp2;go_loopw [5] (fun i wr=>∃k:Nat,k<=m/\i= .int .i64 k/\Below w.heap.size w wr/\Hid (zC4 (ps.take k)=true)) (fun i _=>m-(intOf i).toNat)
  case atStart=>exact⟨0,by omega,rfl,Below.refl _ _,xgw rfl⟩
  case round=>
   obtain⟨k,hk,rfl,hb,hsame⟩:=hrel;by_cases hlt:k<m
   ·obtain⟨b,p,s,a,l,c,s',a',l',c',rfl,hbl,hz,c1,c2,c3,c4,i1,i2⟩:=(HV.out.below hb).cell (k:=k) (by rw[HL.out];exact hlt)
    have HZ:=xgv hz;have hbb:=HQ.out p (xgd hz);have hpv:jS wr (.agg #[.bool s,.slice a l c,.bool s',.slice a' l' c']) p:=⟨_,_,_,_,_,_,_,_,rfl,i1,i2⟩;have HPV:=xgv hpv;clear hz hpv i1 i2;go_wp2_with fail
    refine(zHw _ p wr HPV.out hbb.1 hbb.2 he).mono ?_;rintro e w1 ⟨_,rfl,rfl,hb1⟩;cases hl:zGI p
    ·go_wp2
     go_ret;refine⟨_,rfl,?_,nx hb hb1⟩;have:zC4 ps=false:=by
      unfold zC4;rw[List.all_eq_false];exact⟨p,xgd HZ.out,by rw[hl];decide⟩
     rw[this];rfl
    ·go_wp2
     go_roundw
     case rel=>exact⟨k+1,by omega,by simp,nx hb hb1,xgw (zGn hsame.out HZ.out hl)⟩
     case measure=>simp[intOf];omega
   ·obtain rfl:k=m:=by omega
    have:zC4 ps=true:=by
     have:=hsame.out;rwa[List.take_of_length_le (by rw[HL.out];omega)]at this
    go_wp2;go_ret;exact⟨_,rfl,by rw[this];rfl,hb⟩
 ·have hgo:(decide ((ps.length:Int)=n) && zC4 ps)=false:=by rw[h2];simp[hm]
  rw[hgo];clear h2 hq h hgo;go_enter Tryz.func76,Tryz.ntmps76;go_wp2;go_ret;exact⟨_,rfl,rfl,Below.refl _ _⟩
theorem HQ.dot{e h n:Nat}{x:Nat->Int}{q:Nat->Rat}(hx:∀j,j<n->(x j).natAbs<2^h)(hh:1<=h)(hq:∀j,j<n->HQ e (q j)):HQ (n*(e+h+1)+1) (jJ n fun j=>(x j:Rat)*q j):=by
 induction n with
 |zero=>exact HQ.mono (a:=1) (HQ.int (z:=0) dE dE) oM
 |succ n ih=>
  have h1:=ih (fun j hj=>hx j oM) (fun j hj=>hq j oM);have h2:=HQ.mul (HQ.int (hx n oM) hh) (hq n oM);exact(HQ.add h1 h2).mono (by rw[Nat.add_mul];omega)
theorem zF8{w:World}{ao:Option Addr}{n cap:Nat}{q:Nat->Rat}(h:zAn w (.slice ao n cap) (jZ n fun t=>prQ (q t))){k:Nat}(hk:k<n):
  ∃b s a l c s' a' l' c',ao=some ⟨b,0,none⟩/\b<w.heap.size/\w.cell? ⟨b,k*4,none⟩=some (.bool s)/\w.cell? ⟨b,k*4+1,none⟩=some (.slice a l c)/\w.cell? ⟨b,k*4+2,none⟩=some (.bool s')/\w.cell? ⟨b,k*4+3,none⟩=some (.slice a' l' c')∧
   jW w (.agg #[.bool s,.slice a l c,.bool s',.slice a' l' c']) (q k):=by
 obtain⟨b,p,s,a,l,c,s',a',l',c',h1,h2,h3,c1,c2,c3,c4,i1,i2⟩:=h.cell (k:=k) (by rw[qG];exact hk);rw[zAh hk]at h3;injection h3 with h3
 subst h3;exact⟨b,s,a,l,c,s',a',l',c',h1,h2,c1,c2,c3,c4,_,_,_,_,_,_,_,_,rfl,i1,i2⟩
theorem zLE{e h:Nat}(bv yv:Value)(C:Nat)(x:Nat->Int)(q:Nat->Rat)(w:World)(hx:qT w bv (zM C x))(hy:zAn w yv (jZ C fun t=>prQ (q t)))(hxs:∀j,j<C->(x j).natAbs<2^h)(hh:1<=h)(hq:∀j,j<C->HQ e (q j))(hC:C<=1000)(he:e+h+1<=900):
  Calls Tryz.prog 79 #[bv,yv] w (zAR w (zBQ C x q)):=by
 obtain⟨xo,xn,xc,rfl,f2,f3,f4,-⟩:=id hx;obtain rfl:C=xn:=by rw[<-f2,zD]
 obtain⟨yo,yn,yc,rfl,g2,g3,g4,-⟩:=id hy;obtain rfl:C=yn:=by rw[<-g2,qG]
 have HX:=xgv hx;have HY:=xgv hy;have HXS:=xgv hxs;have HQS:=xgv hq;have HE:qF (∀n,n<=C->n*(e+h+1)+1<=900001):=⟨fun n hn=>by
  have:n*(e+h+1)<=1000*900:=Nat.mul_le_mul oM he;omega⟩
 clear hx hy hxs hq f2 g2;go_enter Tryz.func79,Tryz.ntmps79;go_upto_region 1 with(fail)
 refine zB ?_;intro W0 hW0;obtain⟨hB0,T4,hs0⟩:=zK hW0;clear hW0;go_wp2_with fail
 refine(zB5 0 W0 dE dE).mono ?_;rintro e1 w1 ⟨rv,rfl,⟨s5,a5,l5,k5,s6,a6,l6,k6,rfl,i5,i6⟩,hb1⟩;have T4:=T4.below hb1;have hB:=nx hB0 hb1;have I:jW w1 (.agg #[.bool s5,.slice a5 l5 k5,.bool s6,.slice a6 l6 k6]) 0:=⟨_,_,_,_,_,_,_,_,rfl,i5,i6⟩;have HI:=xgv I;clear i5 i6 I;go_upto_region 2 with(fail)
 refine zB ?_;intro W2 hW2;have hb2:Below w1.heap.size w1 W2:=by rw[hW2.out];exact(Below.refl _ _).alloc (xgf _) _
 have T5:Blk W2 w1.heap.size tQ #[.bool s5,.slice a5 l5 k5,.bool s6,.slice a6 l6 k6]:=by rw[hW2.out];exact Blk.new _ _ _
 have T4:=T4.below hb2;have HI:=xgv (HI.out.below hb2);have q1:=hB.size;have q0:=hB0.size;have hB:=nx hB hb2;have hlt5:w.heap.size<w1.heap.size:=by have:=hb1.size;omega
 obtain⟨b5,hb5⟩:∃g,w1.heap.size=g:=⟨_,rfl⟩;rw[hb5]at T5 hlt5 ⊢
 clear hW2 hb5 q1 q0 hb2;go_wp2;go_loopw [6] (fun iv wr=>∃i:Nat,i<=C/\iv= .int .i64 i/\Below w.heap.size w wr/\Blk wr w.heap.size tQ #[.bool false,.slice none 0 0,.bool false,.slice none 0 0]/\∃(y1 y3:Bool) (y2 y4:Option Addr) (l2 c2 l4 c4:Nat),Blk wr b5 tQ #[.bool y1,.slice y2 l2 c2,.bool y3,.slice y4 l4 c4]/\qF (jW wr (.agg #[.bool y1,.slice y2 l2 c2,.bool y3,.slice y4 l4 c4]) (jJ i fun j=>(x j:Rat)*q j))) (fun iv _=>C-(intOf iv).toNat)
 case atStart=>exact⟨0,by omega,rfl,hB,T4,_,_,_,_,_,_,_,_,T5,HI⟩
 case round=>
  clear hB T4 T5 HI;obtain⟨i,hi,rfl,hB,T4,y1,y3,y2,y4,l2,c2,l4,c4,T5,HI⟩:=hrel;have lt5:=T5.lt;by_cases hlt:i<C
  ·obtain⟨bx,z,s1,o1,n1,k1,rfl,hbx,hz,d1,d2,hv⟩:=(HX.out.below hB).cell (k:=i) (by rw[zD];exact hlt)
   obtain⟨by_,s,o,l,c,s',o',l',c',rfl,hby,e1,e2,e3,e4,hrat⟩:=zF8 (HY.out.below hB) hlt;rw[zO hlt]at hz;injection hz with hz
   subst hz;have HXI:=xgv hv;have HQI:=xgv hrat;have HBX:=xgv (HXS.out i hlt);have HBQ:=xgv (HQS.out i hlt);have HSB:=xgv (HQ.dot (n:=i) (fun j hj=>HXS.out j oM) hh (fun j hj=>HQS.out j oM));have HSE:=xgv (HE.out i oM);obtain⟨SS,hSS⟩:∃SS,(jJ i fun j=>(x j:Rat)*q j)=SS:=⟨_,rfl⟩;have HSS:=xgv hSS;rw[hSS]at HI HSB;obtain⟨xi,hxi⟩:∃xi,x i=xi:=⟨_,rfl⟩;obtain⟨qi,hqi⟩:∃qi,q i=qi:=⟨_,rfl⟩;have HNX:qF ((jJ (i+1) fun j=>(x j:Rat)*q j)=SS+(xi:Rat)*qi):=⟨by rw[<-hSS,<-hxi,<-hqi];rfl⟩;rw[hxi]at HXI HBX;rw[hqi]at HQI HBQ;obtain⟨r1,r2,r3,r4,r5,r6,r7,r8⟩:=T5.four;have hl1:=yD (xi:Rat);have hl2:=yD ((xi:Rat)*qi);have hl3:=yD (SS+(xi:Rat)*qi);clear hv hrat hSS hxi hqi;go_upto_region 5 with(fail)
   refine zC 12 rfl (RV wr _ [E 0 20 (.agg #[.bool y1,.slice y2 l2 c2,.bool y3,.slice y4 l4 c4]),VSl 1 21 bx C xc,VN 2 22 i,VP 3 23 bx (i*2),E 4 24 (.agg #[.bool s1,.slice o1 n1 k1]),⟨5,25,fun w v=>jW w v (xi:Rat)⟩,VSl 6 26 by_ C yc,VN 7 27 i,VP 8 28 by_ (i*4),E 9 29 (.agg #[.bool s,.slice o l c,.bool s',.slice o' l' c']),⟨10,30,fun w v=>jW w v ((xi:Rat)*qi)⟩,⟨11,31,fun w v=>jW w v (SS+(xi:Rat)*qi)⟩]) kR RV.start (RV.fin kR ?fin1) ?steps1
   case steps1=>
    refine⟨?_,?_,?_,?_,?_,?_,?_,?_,?_,?_,?_,?_,trivial⟩<;>(intro L T wS hL hd hcl hI K hK;try refine zA rfl ?_)
    ·have zt:=hI.k 5 rfl kR
     have cc0:=hI.cell r1;have cc1:=hI.cell r2;have cc2:=hI.cell r3;have cc3:=hI.cell r4;exact xgu
    ·exact xgs (hI.k 0 rfl kR)
    ·exact xgs (hI.k 6 rfl kR)
    ·exact xgt (hI.e mm1 (hd 1)) (hI.e mm2 (hd 2))
    ·have zt3:=hI.e mm3 (hd 3)
     have cc0:=hI.cell d1;have cc1:=hI.cell d2;exact xgu
    ·have zt4:=hI.e mm4 (hd 4)
     go_simp;refine(zCn _ xi _ (HXI.out.ext (lx hI.bel))).mono ?_;rintro e wa ⟨v,rfl,hv,hba⟩;exact hK _ _ ((hI.world hba).y mm5 hv)
    ·exact xgs (hI.k 1 rfl kR)
    ·exact xgs (hI.k 6 rfl kR)
    ·exact xgt (hI.e mm6 (hd 6)) (hI.e mm7 (hd 7))
    ·have zt8:=hI.e mm8 (hd 8)
     have cc0:=hI.cell e1;have cc1:=hI.cell e2;have cc2:=hI.cell e3;have cc3:=hI.cell e4;exact xgu
    ·obtain⟨v5,zt5,h5⟩:=hI.v mm5 (hd 5)
     have zt9:=hI.e mm9 (hd 9);go_simp;refine(zGy (a:=h) (b:=e) _ _ _ qi _ h5 (HQI.out.below hI.bel) (HQ.int HBX.out hh) HBQ.out oM).mono ?_;rintro e wa ⟨v,rfl,hv,hba⟩;exact hK _ _ ((hI.world hba).y zAC hv)
    ·have zt0:=hI.e mm0 (hd 0)
     obtain⟨v10,zt10,h10⟩:=hI.v zAC (hd 10);go_simp;refine(zGx _ _ SS _ _ (HI.out.below hI.bel) h10 HSB.out (HQ.mul (HQ.int HBX.out hh) HBQ.out) (by have:=HSE.out;omega)).mono ?_;rintro e wa ⟨v,rfl,hv,hba⟩;exact hK _ _ ((hI.world hba).y zAJ hv)
   intro w2 hbw2 T hT;simp only[Fin,E,EI,VP,VSl,VN,xgg,xgh,xgi,xgj]at hT;obtain⟨va5,ha5,va10,ha10,va11,ha11,rfl⟩:=hT;simp only[xgl,xgk];obtain⟨s5,a5,l5,k5,s6,a6,l6,k6,rfl,i5,i6⟩:=(show jW _ _ _ from ha11);have I:jW w2 (.agg #[.bool s5,.slice a5 l5 k5,.bool s6,.slice a6 l6 k6]) (SS+(xi:Rat)*qi):=⟨_,_,_,_,_,_,_,_,rfl,i5,i6⟩;have HI2:=xgv I;have T4:=T4.below hbw2;have T5:=T5.below hbw2;have hB:=nx hB hbw2;clear i5 i6 I r1 r2 r3 r4 r5 r6 r7 r8 d1 d2 e1 e2 e3 e4 ha5 ha10;obtain⟨r1,r2,r3,r4,r5,r6,r7,r8⟩:=T5.four;go_wp2;go_roundw
   case rel=>exact⟨i+1,by omega,by simp,jC hB oM 0 _ _ _ _,(zEA _ _ _ _ _ _ _ _ oM).trans T4,_,_,_,_,_,_,_,_,T5.put4 _ _ _ _,⟨by rw[HNX.out];exact HI2.out.ext (T5.lext4 dE 0 _ _ _ _)⟩⟩
   case measure=>simp[intOf];omega
  ·obtain rfl:i=C:=by omega
   obtain⟨r1,r2,r3,r4,r5,r6,r7,r8⟩:=T5.four;obtain⟨t1,t2,t3,t4,t5,t6,t7,t8⟩:=T4.four;go_wp2;have hx:=T4.lext4 dE 0 (.bool y1) (.slice y2 l2 c2) (.bool y3) (.slice y4 l4 c4);exact qN rfl rfl rfl (T4.put4 _ _ _ _) (HI.out.ext hx) (jC hB oM 0 _ _ _ _)
theorem zLh{R C:Nat}{g:Nat->Nat->Int}{i j:Nat}(hi:i<R)(hj:j<C):zLQ (zX C R (fun a b=>zBc g i j b a)) j i (g i j)=zX C R (fun a b=>zBc g i (j+1) b a):=by
 rw[zB8 _ hj hi];exact qK fun a _ b _=>by
  unfold zBc;by_cases h:a=j/\b=i
  ·obtain⟨rfl,rfl⟩:=h
   rw[if_pos ⟨rfl,rfl⟩,if_pos oM]
  ·rw[if_neg h]
   by_cases h2:b<i∨(b=i/\a<j)
   ·rw[if_pos h2,if_pos oM]
   ·rw[if_neg h2,if_neg oM]
theorem zNK{R C:Nat}{g:Nat->Nat->Int}{i:Nat}:zX C R (fun a b=>zBc g i C b a)=zX C R (fun a b=>zBc g (i+1) 0 b a):=
 qK fun a ha b hb=>by
  unfold zBc;by_cases h:b<i∨(b=i/\a<C)
  ·rw[if_pos h,if_pos oM]
  ·rw[if_neg h,if_neg oM]
theorem zJl(R C:Nat)(g:Nat->Nat->Int):zAN C R=zX C R (fun a b=>zBc g 0 0 b a):=by
 rw[zCO];exact qK fun i _ j _=>by unfold zBc;rw[if_neg oM]
theorem zNJ{R C:Nat}{g:Nat->Nat->Int}:zX C R (fun a b=>zBc g R 0 b a)=zX C R (fun a b=>g b a):=
 qK fun a ha b hb=>by unfold zBc;rw[if_pos oM]
theorem zEh(v:Value)(R C:Nat)(M:List (List Int))(w:World)(h:yP w v R C M)(hF:jK R C M)(hR:R<=1000000)(hC:C<=1000000):
  Calls Tryz.prog 89 #[v] w (zAs w C R (zX C R (fun a b=>ent M b a))):=by
 obtain⟨A,rfl,h⟩:=h;obtain⟨ao,n,cap,rfl,e2,e3,e4,-⟩:=id h;obtain rfl:R=n:=by rw[<-e2,hF.1]
 have HF:=xgv hF;obtain⟨f,hf⟩:∃f:Nat->Nat->Int,ent M=f:=⟨_,rfl⟩;rw[hf];have HFE:qF (∀a b,f a b=ent M a b):=⟨fun a b=>by rw[<-hf]⟩;have HX:=xgw e2;clear hf hF e2;go_enter Tryz.func89,Tryz.ntmps89;go_upto_region 1 with(fail)
 refine zB ?_;intro W0 hW0;obtain⟨hB0,bx1,br,hs0⟩:=qI hW0;obtain⟨c1,c2,c3,c4,c5,c6⟩:=bx1.three;go_wp2_with fail
 refine(zA4 C R W0 oM oM).mono ?_;rintro e w2 ⟨u,bs,rfl,⟨hbl,A2,rfl,ho⟩,hb2⟩;obtain⟨oo,on,oc,rfl,-,-,-,-⟩:=id ho.rows;have hlts:=ho.lts;go_upto_region 2 with(fail)
 refine zB ?_;intro W3 hW3;obtain⟨hB3,T7,hs3⟩:=zK hW3;have br:=(br.below hb2).below hB3;have bx1:=(bx1.below hb2).below hB3;have ho:=ho.below hB3;rw[zJl R C f]at ho;have hBt:=nx (nx hB0 hb2) hB3;have q2:=hb2.size;clear hW3 hW0 c1 c2 c3 c4 c5 c6;go_wp2;go_loopw [4] (fun iv wr=>∃i:Nat,i<=R/\iv= .int .i64 i/\Below w.heap.size w wr/\Blk wr w.heap.size 28 #[.int .i64 R,.int .i64 C,.slice ao R cap]/\Blk wr (w.heap.size+1) 28 #[.int .i64 0,.int .i64 0,.slice none 0 0]/\Blk wr w2.heap.size 28 #[.int .i64 C,.int .i64 R,.slice oo on oc]/\zS wr W0.heap.size (.slice oo on oc) R bs (zX C R (fun a b=>zBc f i 0 b a))) (fun iv _=>R-(intOf iv).toNat)
 case atStart=>exact⟨0,by omega,rfl,hBt,bx1,br,T7,ho⟩
 case round=>
  obtain⟨i,hi,rfl,hb,bx1,br,T7,ho⟩:=hrel;obtain⟨c1,c2,c3,c4,c5,c6⟩:=bx1.three;by_cases hlt:i<R
  ·go_wp2
   clear c1 c2 c3 c4 c5 c6;go_loopw [5] (fun jv wr=>∃j:Nat,j<=C/\jv= .int .i64 j/\Below w.heap.size w wr/\Blk wr w.heap.size 28 #[.int .i64 R,.int .i64 C,.slice ao R cap]/\Blk wr (w.heap.size+1) 28 #[.int .i64 0,.int .i64 0,.slice none 0 0]/\Blk wr w2.heap.size 28 #[.int .i64 C,.int .i64 R,.slice oo on oc]/\zS wr W0.heap.size (.slice oo on oc) R bs (zX C R (fun a b=>zBc f i j b a))) (fun jv _=>C-(intOf jv).toNat)
   case atStart=>exact⟨0,by omega,rfl,hb,bx1,br,T7,ho⟩
   case round=>
    obtain⟨j,hj,rfl,hb,bx1,br,T7,ho⟩:=hrel;obtain⟨c1,c2,c3,c4,c5,c6⟩:=bx1.three;by_cases hjc:j<C
    ·obtain⟨b,ra,rn,rc,zs,rfl,hbl1,hz,p1,hv⟩:=(h.below hb).row (k:=i) (by rw[HX.out];exact hlt)
     have hzl:=HF.out.2 zs (xgd hz);have hvl:=hv.len;obtain rfl:rn=C:=by omega
     obtain⟨b',z,s,a,l,c,rfl,hbl',hzk,q1,q2',hzv⟩:=hv.cell (k:=j) oM;have hent:=xgw ((HFE.out i j).trans (zAU hz hzk));clear hz hzk hzl;obtain⟨g,bo,rfl,hg,hbo,hbo2,o1,ho3⟩:=ho.at_ (i:=j) oM;obtain⟨f1,f2,f3,f4,f5,f6⟩:=T7.three;have hio:j<on:=by omega
     have HO3:=xgw ho3;clear ho3;have lt1:=bx1.lt;have lt7:=T7.lt;go_upto_region 8 with(fail)
     refine zC 15 rfl (RI wr (wr.heap.size) _ 35
       [VP 0 23 w2.heap.size 2,VSl 1 24 g on oc,VN 2 25 j,VP 3 26 g j,VSl 4 27 bo R R,VN 5 28 i,VP 6 29 w.heap.size 2,VSl 7 30 b R cap,VN 8 31 i,VP 9 32 b i,VSl 10 33 b' rn rc,VN 11 34 j,VP 12 35 b' (j*2),E 13 36 (.agg #[.bool s,.slice a l c]),VP 14 37 bo (i*2)] [] []) kR RI.start (RI.fin kR ?fin1) ?steps1
     case steps1=>
      refine⟨?_,?_,?_,?_,?_,?_,?_,?_,?_,?_,?_,?_,?_,?_,?_,trivial⟩<;>(intro L T wS hL hd hcl hI K hK;try refine zA rfl ?_)
      ·exact xgs (hI.k 3 rfl kR)
      ·have zt0:=hI.e mm0 (hd 0)
       have cc0:=hI.cell f3 oM nom;exact xgu
      ·exact xgs (hI.k 5 rfl kR)
      ·exact xgt (hI.e mm1 (hd 1)) (hI.e mm2 (hd 2))
      ·have zt3:=hI.e mm3 (hd 3)
       have cc0:=hI.cell o1 oM nom;exact xgu
      ·exact xgs (hI.k 4 rfl kR)
      ·exact xgs (hI.k 1 rfl kR)
      ·have zt6:=hI.e mm6 (hd 6)
       have cc0:=hI.cell c3 oM nom;exact xgu
      ·exact xgs (hI.k 4 rfl kR)
      ·exact xgt (hI.e mm7 (hd 7)) (hI.e mm8 (hd 8))
      ·have zt9:=hI.e mm9 (hd 9)
       have cc0:=hI.cell p1 oM nom;exact xgu
      ·exact xgs (hI.k 5 rfl kR)
      ·exact xgt (hI.e zAC (hd 10)) (hI.e zAJ (hd 11))
      ·have zt12:=hI.e zAo (hd 12)
       have cc0:=hI.cell q1 oM nom;have cc1:=hI.cell q2' oM nom;exact xgu
      ·exact xgt (hI.e mm4 (hd 4)) (hI.e mm5 (hd 5))
     intro w9 hlw9 hbw9 holdw9 T hT;simp only[Fin,E,EI,VP,VSl,VN,xgg,xgh,xgi,xgj]at hT;subst hT;simp only[xgl,xgk];have ho9:=ho.below hbw9;obtain⟨sn,sa,sl,sc,z1,z2,z3,z4,-⟩:=ho9.cellAt hbo hlt;have hbolt:=hlts j bo hbo;have hset:=ho9.set hbo hlt (hzv.ext hlw9);go_wp2;go_roundw
     case rel=>
      rw[<-hent.out,zLh hlt hjc]at hset;exact⟨j+1,by omega,by simp,zT (zT (nx hb hbw9) oM _ _) oM _ _,(zR _ _ _ _ _ _ _ oM).trans (bx1.below hbw9),(zR _ _ _ _ _ _ _ oM).trans (br.below hbw9),(zR _ _ _ _ _ _ _ oM).trans (T7.below hbw9),hset.1⟩
     case measure=>simp[intOf];omega
    ·obtain rfl:j=C:=by omega
     rw[zNK]at ho;go_wp2;go_roundw
     case rel=>exact⟨i+1,by omega,by simp,hb,bx1,br,T7,ho⟩
     case measure=>simp[intOf];omega
  ·obtain rfl:i=R:=by omega
   rw[zNJ]at ho;obtain⟨f1,f2,f3,f4,f5,f6⟩:=T7.three;obtain⟨r1,r2,r3,r4,r5,r6⟩:=br.three;have q1:=hB0.size;go_wp2;refine qY rfl rfl rfl (br.put3 _ _ _) ⟨_,bs,rfl,⟨hbl,_,rfl,?_⟩,zT (zT (zT hb oM 0 _) oM 1 _) oM 2 _⟩;exact(ho.keep (fun k hk=>yN _ _ k _ _ _ oM) (br.lext3 dE _ _ _)).mono q1
end Go.Proofs.YtnbmaipobhppcaaGreat
