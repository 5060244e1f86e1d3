/- torsionref05: Mul, Product. torsionref05: Sized. torsionref13: Inverse. smith: leading, quotient. smith: addTo. smith: rows of matrices are written. smith: band.add. -/
import Derived.Test.YtgnmdddaiefooaaGreatR15
set_option linter.unusedVariables false
set_option linter.unusedSimpArgs false
set_option linter.unusedSectionVars false
set_option maxHeartbeats 16000000
set_option maxRecDepth 100000
namespace Go.Proofs.YtgnmdddaiefooaaGreat
open Go.RowKit
def zLR(f:Nat->Int):Nat->Int
 |0=>0
 |k+1=>zLR f k+f k
def zAT(A B:List (List Int))(m i j:Nat):Int:=zLR (fun t=>ent A i t*ent B t j) m
def zCM(A B:List (List Int))(R m C:Nat):Prop:=
 ∀i,i<R->∀j,j<C->∀k,k<m->Sm (ent A i k)/\Sm (ent B k j)/\Sm (ent A i k*ent B k j)/\Sm (zAT A B k i j)
def zLp(f:Nat->Nat->Int)(i j:Nat)(x:Int):Nat->Nat->Int:=fun a b=>if a=i/\b=j then x else zDe f i j a b
theorem zJe{R C:Nat}{f:Nat->Nat->Int}{i j:Nat}:genM R C (zDe f i j)=genM R C (zLp f i j 0):=
 zS fun a _ b _=>by
  unfold zLp;by_cases h:a=i/\b=j
  ·obtain⟨rfl,rfl⟩:=h
   rw[if_pos ⟨rfl,rfl⟩];unfold zDe;rw[if_neg oM]
  ·rw[if_neg h]
theorem zMk{R C:Nat}{f:Nat->Nat->Int}{i j:Nat}{x y:Int}(hi:i<R)(hj:j<C):zLH (genM R C (zLp f i j x)) i j y=genM R C (zLp f i j y):=by
 rw[zBV _ hi hj];exact zS fun a _ b _=>by
  unfold zLp;by_cases h:a=i/\b=j
  ·rw[if_pos h,if_pos h]
  ·rw[if_neg h,if_neg h,if_neg h]
theorem zMj{R C:Nat}{f:Nat->Nat->Int}{i j:Nat}:genM R C (zLp f i j (f i j))=genM R C (zDe f i (j+1)):=
 zS fun a _ b _=>by
  unfold zLp;by_cases h:a=i/\b=j
  ·obtain⟨rfl,rfl⟩:=h
   rw[if_pos ⟨rfl,rfl⟩];unfold zDe;rw[if_pos oM]
  ·rw[if_neg h]
   unfold zDe;by_cases h2:a<i∨(a=i/\b<j)
   ·rw[if_pos h2,if_pos oM]
   ·rw[if_neg h2,if_neg oM]
theorem zLa{f:Nat->Nat->Int}{i j:Nat}{x:Int}:zLp f i j x i j=x:=by unfold zLp;rw[if_pos ⟨rfl,rfl⟩]
theorem zHy{W:World}{r:Nat}{v:Array Value}(hb:Blk W r 28 v)(h3:v.size=3):(loadVar 28 ⟨r,0,none⟩).run Tryz.prog W= .ok (.agg v) W:=
 run_loadVar_row W r _ _ v _ _ hb Tryz.underlying28 rfl (by rw[Tryz.sizeM,h3])
theorem zAo{fn:Func}{p u:Tmp}(h:fn.results=#[.cell p 28,.tmp u])(tmps:Array Value){W:World}{r:Nat}{v:Array Value}
  (hp:tmps.getD p undef= .pointer (some ⟨r,0,none⟩)) (hb:Blk W r 28 v) (h3:v.size=3):
  (results fn tmps).run Tryz.prog W= .ok (.tuple #[.agg v,tmps.getD u undef]) W:=by
 have hp':tmps[p]?.getD undef= .pointer (some ⟨r,0,none⟩):=by simpa using hp
 simp[results,h,hp',asAddr,zHy hb h3]
theorem zK8(v1 v2:Value)(R m C:Nat)(M1 M2:List (List Int))(w:World)(h1:qL w v1 R m M1)(h2:qL w v2 m C M2)(hF1:yG R m M1)(hF2:yG m C M2)(hR:R<=1000000)(hm:m<=1000000)(hC:C<=1000000)(hS:zCM M1 M2 R m C):
  Calls Tryz.prog 78 #[v1,v2] w fun e w'=>∃v bs,e= .returned (.tuple #[v,.int .i64 0])/\zMt w' w.heap.size v R C bs (genM R C (zAT M1 M2 m))/\Below w.heap.size w w':=by
 obtain⟨A1,rfl,h1⟩:=h1;obtain⟨A2,rfl,h2⟩:=h2;obtain⟨ao,n,cap,rfl,e2,e3,e4,-⟩:=id h1;obtain⟨bo,q,bcap,rfl,g2,g3,g4,-⟩:=id h2;have HX:=xgw e2;have HY:=xgw g2;have HS:=xgv hS;have HF1:=xgv hF1;have HF2:=xgv hF2;obtain rfl:n=R:=by rw[<-e2,hF1.1]
 obtain rfl:q=m:=by rw[<-g2,hF2.1]
 clear e2 g2 hS hF1 hF2;obtain⟨f,hf⟩:∃f:Nat->Nat->Int,zAT M1 M2 q=f:=⟨_,rfl⟩;rw[hf];have HFE:qM (∀i j,f i j=zAT M1 M2 q i j):=⟨fun i j=>by rw[<-hf]⟩;clear hf;go_enter Tryz.func78,Tryz.ntmps78;go_upto_region 1 with(fail)
 refine zC ?_;intro W0 hW0;obtain⟨hB0,bx1,bx2,br,hs0⟩:=zAS hW0;obtain⟨c1,c2,c3,c4,c5,c6⟩:=bx1.three;obtain⟨d1,d2,d3,d4,d5,d6⟩:=bx2.three;go_wp2_with fail
 refine(zBS n C W0 hR hC).mono ?_;rintro e w2 ⟨u,bs,rfl,⟨hbl,A3,rfl,ho⟩,hb2⟩;obtain⟨oo,on,oc,rfl,-,-,-,-⟩:=id ho.rows;have hlts:=ho.lts;go_upto_region 4 with(fail)
 refine zC ?_;intro W3 hW3;obtain⟨hB3,T5,hs3⟩:=zN hW3;have bx1:=(bx1.below hb2).below hB3;have bx2:=(bx2.below hb2).below hB3;have br:=(br.below hb2).below hB3;have ho:=ho.below hB3;rw[zCK n C f]at ho;have hBt:=nx (nx hB0 hb2) hB3;have q2:=hb2.size;clear hW3 hW0 c1 c2 c3 c4 c5 c6 d1 d2 d3 d4 d5 d6;go_wp2;go_loopw [7] (fun iv wr=>∃i:Nat,i<=n/\iv= .int .i64 i/\Below w.heap.size w wr/\Blk wr w.heap.size 28 #[.int .i64 n,.int .i64 q,.slice ao n cap]/\Blk wr (w.heap.size+1) 28 #[.int .i64 q,.int .i64 C,.slice bo q bcap]∧
  Blk wr (w.heap.size+1+1) 28 #[.int .i64 0,.int .i64 0,.slice none 0 0]/\Blk wr w2.heap.size 28 #[.int .i64 n,.int .i64 C,.slice oo on oc]/\zJ wr W0.heap.size (.slice oo on oc) C bs (genM n C (zDe f i 0))) (fun iv _=>n-(intOf iv).toNat)
 case atStart=>exact⟨0,by omega,rfl,hBt,bx1,bx2,br,T5,ho⟩
 case round=>
  obtain⟨i,hi,rfl,hb,bx1,bx2,br,T5,ho⟩:=hrel;obtain⟨c1,c2,c3,c4,c5,c6⟩:=bx1.three;by_cases hlt:i<n
  ·go_wp2
   clear c1 c2 c3 c4 c5 c6;go_loopw [8] (fun jv wr=>∃j:Nat,j<=C/\jv= .int .i64 j/\Below w.heap.size w wr/\Blk wr w.heap.size 28 #[.int .i64 n,.int .i64 q,.slice ao n cap]/\Blk wr (w.heap.size+1) 28 #[.int .i64 q,.int .i64 C,.slice bo q bcap]∧
    Blk wr (w.heap.size+1+1) 28 #[.int .i64 0,.int .i64 0,.slice none 0 0]/\Blk wr w2.heap.size 28 #[.int .i64 n,.int .i64 C,.slice oo on oc]/\zJ wr W0.heap.size (.slice oo on oc) C bs (genM n C (zDe f i j))) (fun jv _=>C-(intOf jv).toNat)
   case atStart=>exact⟨0,by omega,rfl,hb,bx1,bx2,br,T5,ho⟩
   case round=>
    obtain⟨j,hj,rfl,hb,bx1,bx2,br,T5,ho⟩:=hrel;obtain⟨d1,d2,d3,d4,d5,d6⟩:=bx2.three;by_cases hjc:j<C
    ·go_wp2
     clear d1 d2 d3 d4 d5 d6;rw[zJe]at ho;go_loopw [9] (fun kv wr=>∃k:Nat,k<=q/\kv= .int .i64 k/\Below w.heap.size w wr/\Blk wr w.heap.size 28 #[.int .i64 n,.int .i64 q,.slice ao n cap]/\Blk wr (w.heap.size+1) 28 #[.int .i64 q,.int .i64 C,.slice bo q bcap]∧
      Blk wr (w.heap.size+1+1) 28 #[.int .i64 0,.int .i64 0,.slice none 0 0]/\Blk wr w2.heap.size 28 #[.int .i64 n,.int .i64 C,.slice oo on oc]/\zJ wr W0.heap.size (.slice oo on oc) C bs (genM n C (zLp f i j (zAT M1 M2 k i j)))) (fun kv _=>q-(intOf kv).toNat)
     case atStart=>exact⟨0,by omega,rfl,hb,bx1,bx2,br,T5,ho⟩
     case round=>
      obtain⟨k,hk,rfl,hb,bx1,bx2,br,T5,ho⟩:=hrel;obtain⟨c1,c2,c3,c4,c5,c6⟩:=bx1.three;by_cases hkq:k<q
      ·obtain⟨d1,d2,d3,d4,d5,d6⟩:=bx2.three
       obtain⟨b,ra,rn,rc,zs,rfl,hbl1,hz,p1,hv⟩:=(h1.below hb).row (k:=i) (by rw[HX.out];exact hlt);have hzl:=HF1.out.2 zs (xgd hz);have hvl:=hv.len;obtain⟨b',z,s,a,l,c,rfl,hbl',hzk,q1,q2',hzv⟩:=hv.cell (k:=k) oM;have hkrn:k<rn:=by omega
       obtain⟨y,ya,yn,yc,ys,rfl,hyl1,hy,y1,hyv⟩:=(h2.below hb).row (k:=k) (by rw[HY.out];exact hkq);have hyl:=HF2.out.2 ys (xgd hy);have hyvl:=hyv.len;obtain⟨y',x,xs,xa,xl,xc,rfl,hyl',hyk,x1,x2,hxv⟩:=hyv.cell (k:=j) oM;have hjyn:j<yn:=by omega
       have he1:=xgw (zA7 hz hzk);have he2:=xgw (zA7 hy hyk);have HSM:=xgv (HS.out i hlt j hjc k hkq);clear hz hzk hzl hy hyk hyl hvl hyvl;obtain⟨g,bo',rfl,hg,hbo,hbo2,o1,ho3⟩:=ho.at_ (i:=i) oM;obtain⟨us,ua,ul,uc,u1,u2,u3,u4,uv⟩:=ho.cellAt hbo hjc;rw[qG hlt hjc,zLa]at uv;obtain⟨f1,f2,f3,f4,f5,f6⟩:=T5.three;have hio:i<on:=by omega
       have HO3:=xgw ho3;clear ho3;have lt1:=bx1.lt;have lt2:=bx2.lt;have lt5:=T5.lt;rw[<-he1.out]at hzv;rw[<-he2.out]at hxv;go_upto_region 13 with(fail)
       refine zB 33 rfl (RI wr (wr.heap.size) _ 51
         [VP 0 39 w2.heap.size 2,VSl 1 40 g on oc,VN 2 41 i,VP 3 42 g i,VSl 4 43 bo' C C,VN 5 44 j,VP 6 45 w2.heap.size 2,VSl 7 46 g on oc,VN 8 47 i,VP 9 48 g i,VSl 10 49 bo' C C,VN 11 50 j,VP 12 51 bo' (j*2),E 13 52 (.agg #[.bool us,.slice ua ul uc]),VP 14 53 w.heap.size 2,VSl 15 54 b n cap,VN 16 55 i,VP 17 56 b i,VSl 18 57 b' rn rc,VN 19 58 k,VP 20 59 b' (k*2),E 21 60 (.agg #[.bool s,.slice a l c]),VP 22 61 (w.heap.size+1) 2,VSl 23 62 y q bcap,VN 24 63 k,VP 25 64 y k,VSl 26 65 y' yn yc,VN 27 66 j,VP 28 67 y' (j*2),E 29 68 (.agg #[.bool xs,.slice xa xl xc]),EI 30 69 (ent M1 i k*ent M2 k j),EI 31 70 (zAT M1 M2 k i j+ent M1 i k*ent M2 k j),VP 32 71 bo' (j*2)] [] []) kR RI.start (RI.fin kR ?fin1) ?steps1
       case steps1=>
        refine⟨?_,?_,?_,?_,?_,?_,?_,?_,?_,?_,?_,?_,?_,?_,?_,?_,?_,?_,?_,?_,?_,?_,?_,?_,?_,?_,?_,?_,?_,?_,?_,?_,?_,trivial⟩<;>(intro L T wS hL hd hcl hI K hK;try refine zA rfl ?_)
        ·exact xgs (hI.k 6 rfl kR)
        ·have zt0:=hI.e mm0 (hd 0)
         have cc0:=hI.cell f3 oM nom;exact xgu
        ·exact xgs (hI.k 7 rfl kR)
        ·exact xgt (hI.e mm1 (hd 1)) (hI.e mm2 (hd 2))
        ·have zt3:=hI.e mm3 (hd 3)
         have cc0:=hI.cell o1 oM nom;exact xgu
        ·exact xgs (hI.k 8 rfl kR)
        ·exact xgs (hI.k 6 rfl kR)
        ·have zt6:=hI.e mm6 (hd 6)
         have cc0:=hI.cell f3 oM nom;exact xgu
        ·exact xgs (hI.k 7 rfl kR)
        ·exact xgt (hI.e mm7 (hd 7)) (hI.e mm8 (hd 8))
        ·have zt9:=hI.e mm9 (hd 9)
         have cc0:=hI.cell o1 oM nom;exact xgu
        ·exact xgs (hI.k 8 rfl kR)
        ·exact xgt (hI.e yD (hd 10)) (hI.e zAB (hd 11))
        ·have zt12:=hI.e zAh (hd 12)
         have cc0:=hI.cell u1 oM nom;have cc1:=hI.cell u2 oM nom;exact xgu
        ·exact xgs (hI.k 2 rfl kR)
        ·have zt14:=hI.e zBF (hd 14)
         have cc0:=hI.cell c3 oM nom;exact xgu
        ·exact xgs (hI.k 7 rfl kR)
        ·exact xgt (hI.e zCN (hd 15)) (hI.e zCf (hd 16))
        ·have zt17:=hI.e zCg (hd 17)
         have cc0:=hI.cell p1 oM nom;exact xgu
        ·exact xgs (hI.k 9 rfl kR)
        ·exact xgt (hI.e zCh (hd 18)) (hI.e zDW (hd 19))
        ·have zt20:=hI.e zD6 (hd 20)
         have cc0:=hI.cell q1 oM nom;have cc1:=hI.cell q2' oM nom;exact xgu
        ·exact xgs (hI.k 3 rfl kR)
        ·have zt22:=hI.e zEg (hd 22)
         have cc0:=hI.cell d3 oM nom;exact xgu
        ·exact xgs (hI.k 9 rfl kR)
        ·exact xgt (hI.e zEh (hd 23)) (hI.e zGC (hd 24))
        ·have zt25:=hI.e zGD (hd 25)
         have cc0:=hI.cell y1 oM nom;exact xgu
        ·exact xgs (hI.k 8 rfl kR)
        ·exact xgt (hI.e zHd (hd 26)) (hI.e zGE (hd 27))
        ·have zt28:=hI.e zIS (hd 28)
         have cc0:=hI.cell x1 oM nom;have cc1:=hI.cell x2 oM nom;exact xgu
        ·have zt21:=hI.e zEf (hd 21)
         have zt29:=hI.e zIT (hd 29);go_simp;refine(zAQ _ _ (ent M1 i k) (ent M2 k j) _ (hzv.ext hI.lext) (hxv.ext hI.lext) HSM.out.1 HSM.out.2.1).mono ?_;exact xgo
        ·have zt13:=hI.e zBv (hd 13)
         obtain⟨v30,zt30,h30⟩:=hI.vi zJD (hd 30);go_simp;refine(zBR _ _ (zAT M1 M2 k i j) (ent M1 i k*ent M2 k j) _ (uv.ext hI.lext) h30 HSM.out.2.2.2 HSM.out.2.2.1).mono ?_;exact xgo
        ·exact xgt (hI.e mm4 (hd 4)) (hI.e mm5 (hd 5))
       intro w9 hlw9 hbw9 holdw9 T hT;simp only[Fin,E,EI,VP,VSl,VN,xgg,xgh,xgi,xgj]at hT;obtain⟨va30,ha30,va31,ha31,rfl⟩:=hT;simp only[xgl,xgk];obtain⟨pn,pa,pl,pc,px,rfl,hpx⟩:=id ha31;have HPX:=xgw hpx;clear hpx;have ho9:=ho.below hbw9;obtain⟨sn,sa,sl,sc,z1,z2,z3,z4,-⟩:=ho9.cellAt hbo hjc;have hbolt:=hlts i bo' hbo;have hset:=ho9.set hbo hjc ha31;go_wp2;go_roundw
       case rel=>
        rw[zMk hlt hjc]at hset;exact⟨k+1,by omega,by simp,zP (zP (nx hb hbw9) oM _ _) oM _ _,(qH _ _ _ _ _ _ _ oM).trans (bx1.below hbw9),(qH _ _ _ _ _ _ _ oM).trans (bx2.below hbw9),(qH _ _ _ _ _ _ _ oM).trans (br.below hbw9),(qH _ _ _ _ _ _ _ oM).trans (T5.below hbw9),hset.1⟩
       case measure=>simp[intOf];omega
      ·obtain rfl:k=q:=by omega
       rw[<-HFE.out,zMj]at ho;go_wp2;go_roundw
       case rel=>exact⟨j+1,by omega,by simp,hb,bx1,bx2,br,T5,ho⟩
       case measure=>simp[intOf];omega
    ·obtain rfl:j=C:=by omega
     rw[zEF]at ho;go_wp2;go_roundw
     case rel=>exact⟨i+1,by omega,by simp,hb,bx1,bx2,br,T5,ho⟩
     case measure=>simp[intOf];omega
  ·obtain rfl:i=n:=by omega
   rw[zEE]at ho;obtain⟨f1,f2,f3,f4,f5,f6⟩:=T5.three;obtain⟨r1,r2,r3,r4,r5,r6⟩:=br.three;have q1:=hB0.size;go_wp2;refine bodyPost_ret (zAo rfl _ rfl (br.put3 _ _ _) rfl) rfl ⟨_,bs,rfl,⟨hbl,_,rfl,?_⟩,zP (zP (zP hb oM 0 _) oM 1 _) oM 2 _⟩;exact(ho.keep (fun k hk=>qZ _ _ k _ _ _ oM) (br.lext3 dE _ _ _)).mono q1
theorem zDB(v1 v2:Value)(R m C:Nat)(M1 M2:List (List Int))(w:World)(h1:qL w v1 R m M1)(h2:qL w v2 m C M2)(hF1:yG R m M1)(hF2:yG m C M2)(hR:R<=1000000)(hm:m<=1000000)(hC:C<=1000000)(hS:zCM M1 M2 R m C):
  Calls Tryz.prog 32 #[v1,v2] w (zAc w R C (genM R C (zAT M1 M2 m))):=by
 have h1':=h1;have h2':=h2;obtain⟨A1,rfl,h1⟩:=h1;obtain⟨A2,rfl,h2⟩:=h2;obtain⟨ao,n,cap,rfl,-⟩:=id h1;obtain⟨bo,q,bcap,rfl,-⟩:=id h2;have HS:=xgv hS;have HF1:=xgv hF1;have HF2:=xgv hF2;clear hS hF1 hF2;go_enter Tryz.func32,Tryz.ntmps32;go_upto_region 1 with(fail)
 refine zC ?_;intro W0 hW0;obtain⟨hB0,bx1,bx2,br,hs0⟩:=zAS hW0;obtain⟨c1,c2,c3,c4,c5,c6⟩:=bx1.three;obtain⟨d1,d2,d3,d4,d5,d6⟩:=bx2.three;go_wp2_with fail
 refine(zK8 _ _ R m C M1 M2 W0 (h1'.below hB0) (h2'.below hB0) HF1.out HF2.out hR hm hC HS.out).mono ?_;rintro e w2 ⟨u,bs,rfl,⟨hbl,A3,rfl,ho⟩,hb2⟩;obtain⟨oo,on,oc,rfl,-,-,-,-⟩:=id ho.rows;go_upto_region 2 with(fail)
 refine zC ?_;intro W3 hW3;obtain⟨hB3,T5,hs3⟩:=zN hW3;have br:=(br.below hb2).below hB3;have ho:=ho.below hB3;have hBt:=nx (nx hB0 hb2) hB3;have q2:=hB0.size;clear hW3 hW0 c1 c2 c3 c4 c5 c6 d1 d2 d3 d4 d5 d6;obtain⟨f1,f2,f3,f4,f5,f6⟩:=T5.three;obtain⟨r1,r2,r3,r4,r5,r6⟩:=br.three;go_wp2;refine zX rfl rfl rfl (br.put3 _ _ _) ⟨_,bs,rfl,⟨hbl,_,rfl,?_⟩,zP (zP (zP hBt oM 0 _) oM 1 _) oM 2 _⟩;exact(ho.keep (fun k hk=>qZ _ _ k _ _ _ oM) (br.lext3 dE _ _ _)).mono q2
theorem zLN(v:Value)(R C R' C':Int)(M:List (List Int))(w:World)(h:qL w v R C M):
  Calls Tryz.prog 28 #[v,.int .i64 R',.int .i64 C'] w fun e w'=>e= .returned (.bool (decide (R=R'/\C=C'/\qR R C M)))/\Below w.heap.size w w':=by
 have h0:=h;obtain⟨A,rfl,h⟩:=h;obtain⟨ao,n,cap,rfl,-⟩:=id h;by_cases hR:R=R'
 ·by_cases hC:C=C'
  ·subst hR
   subst hC;have hd:decide (R=R/\C=C/\qR R C M)=decide (qR R C M):=by simp
   rw[hd];clear hd;obtain⟨ans,ha⟩:∃ans,decide (qR R C M)=ans:=⟨_,rfl⟩;rw[ha];go_enter Tryz.func28,Tryz.ntmps28;go_upto_region 1 with(fail)
   refine zC ?_;intro W0 hW0;obtain⟨hB0,bx1,hs0⟩:=zN hW0;obtain⟨c1,c2,c3,c4,c5,c6⟩:=bx1.three;go_wp2_with fail
   refine(zBh _ R C M W0 (h0.below hB0)).mono ?_;rintro e w1 ⟨rfl,hb1⟩;rw[ha];go_wp2;go_ret;exact⟨rfl,nx hB0 hb1⟩
  ·have hd:decide (R=R'/\C=C'/\qR R C M)=false:=decide_eq_false (fun hh=>hC hh.2.1)
   rw[hd];go_enter Tryz.func28,Tryz.ntmps28;go_upto_region 1 with(fail)
   refine zC ?_;intro W0 hW0;obtain⟨hB0,bx1,hs0⟩:=zN hW0;obtain⟨c1,c2,c3,c4,c5,c6⟩:=bx1.three;go_wp2;go_ret;exact⟨rfl,hB0⟩
 ·have hd:decide (R=R'/\C=C'/\qR R C M)=false:=decide_eq_false (fun hh=>hR hh.1)
  rw[hd];go_enter Tryz.func28,Tryz.ntmps28;go_upto_region 1 with(fail)
  refine zC ?_;intro W0 hW0;obtain⟨hB0,bx1,hs0⟩:=zN hW0;obtain⟨c1,c2,c3,c4,c5,c6⟩:=bx1.three;go_wp2;go_ret;exact⟨rfl,hB0⟩
theorem qR.fits{R C:Nat}{M:List (List Int)}(h:qR R C M):yG R C M:=by
 obtain⟨-,-,h1,h2⟩:=h;exact⟨by omega,fun r hr=>by have:=h2 r hr;omega⟩
def zQn(n:Nat)(R1 C1 R2 C2:Int)(M1 M2:List (List Int)):Bool:=
 decide (R1=n/\C1=n/\qR R1 C1 M1) && (decide (R2=n/\C2=n/\qR R2 C2 M2) && decide (genM n n (zAT M1 M2 n)=genM n n idf))
def zAN:Nat->List Int->Int
 |_,[]=>-1
 |k,z::zs=>if z≠0 then(k:Int)else zAN (k+1) zs
structure yQ(S:List Nat)(w w':World):Prop where
 bel:Below 0 w w'
 lext:yI w w'
 old:∀k,k<w.heap.size->k ∉ S->w'.heap[k]?=w.heap[k]?
theorem yQ.refl(S:List Nat)(w:World):yQ S w w:=⟨Below.refl _ _,yI.refl _,fun _ _ _=>rfl⟩
theorem yQ.of{w w':World}(S:List Nat)(h:Below w.heap.size w w'):yQ S w w':=⟨h.mono (Nat.zero_le _),lx h,fun k hk _=>h.block k hk⟩
theorem yQ.trans{S:List Nat}{a b c:World}(h:yQ S a b)(k:yQ S b c):yQ S a c:=
 ⟨h.bel.trans k.bel,h.lext.trans k.lext,fun i hi hn=>(k.old i (Nat.lt_of_lt_of_le hi h.bel.size) hn).trans (h.old i hi hn)⟩
theorem yQ.mono{S S':List Nat}{w w':World}(h:yQ S w w')(hs:∀k,k∈S->k∈S'):yQ S' w w':=⟨h.bel,h.lext,fun k hk hn=>h.old k hk (fun hh=>hn (hs k hh))⟩
theorem qF.only{S:List Nat}{w w':World}{b:Nat}{zs:List Int}(h:qF w b zs)(k:yQ S w w')(hb:b ∉ S):qF w' b zs:=h.old (k.old b h.lt hb) k.lext
theorem qF.vec{w:World}{b n cap:Nat}{zs:List Int}(h:qF w b zs)(hn:zs.length=n)(hc:n<=cap)(hc2:cap<=9223372036854775807):zAZ w (.slice (some ⟨b,0,none⟩) n cap) zs:=
 ⟨_,_,_,rfl,hn,hc,hc2,fun _=>⟨b,rfl,h⟩⟩
def zQ(n:Nat)(f:Nat->Int):List Int:=(List.range n).map f
theorem zE(n:Nat)(f:Nat->Int):(zQ n f).length=n:=by simp[zQ]
theorem zW{n:Nat}{f:Nat->Int}{j:Nat}(h:j<n):(zQ n f)[j]?=some (f j):=by simp[zQ,h]
theorem zA8{n:Nat}{f:Nat->Int}{j:Nat}(z:Int):(zQ n f).set j z=zQ n (fun t=>if t=j then z else f t):=by
 apply List.ext_getElem
 ·simp[zQ]
 ·intro a h1 h2
  by_cases e:a=j
  ·subst e;simp[zQ]
  ·have:j≠a:=fun h=>e h.symm
   simp[zQ,this,e]
theorem qA{n:Nat}{f g:Nat->Int}(h:∀t,t<n->f t=g t):zQ n f=zQ n g:=by
 unfold zQ;exact List.map_congr_left fun t ht=>h t (List.mem_range.1 ht)
def qI(f g:Nat->Int)(j:Nat):Nat->Int:=fun t=>if t<j then f t else g t
theorem zJv(bv bw n capv capw:Nat)(f g:Nat->Int)(kv:Value)(k:Int)(w:World)(hv:qF w bv (zQ n f))(hw:qF w bw (zQ n g))(hne:bv≠bw)(hk:zR w kv k)
  (hn:n<=1000000) (hcv:n<=capv) (hcv2:capv<=9223372036854775807) (hcw:n<=capw) (hcw2:capw<=9223372036854775807)
  (hS:∀t,t<n->Sm (f t)/\Sm (g t)/\Sm (k*g t)) (hks:Sm k):
  Calls Tryz.prog 94 #[.slice (some ⟨bv,0,none⟩) n capv,.slice (some ⟨bw,0,none⟩) n capw,kv] w fun e w'=>(∃u,e= .returned u)/\yQ [bv] w w'/\qF w' bv (zQ n (fun t=>f t+k*g t)):=by
 have HS:=xgv hS;have HK:=xgv hks;obtain⟨kn,ka,kl,kc,kx,rfl,hkx⟩:=id hk;have HKX:=xgw hkx;clear hS hks hkx;have hlv:=hv.lt;have hlw:=hw.lt;obtain⟨F,hF⟩:∃F:Nat->Int,(fun t=>f t+k*g t)=F:=⟨_,rfl⟩;rw[hF];have HF:qM (∀t,F t=f t+k*g t):=⟨fun t=>by rw[<-hF]⟩;clear hF;go_enter Tryz.func94,Tryz.ntmps94;go_upto_region 1 with(fail)
 refine zC ?_;intro W0 hW0;obtain⟨hB0,bx,hs0⟩:=zN hW0;have hv0:=hv.below hB0;have hw0:=hw.below hB0;have hk0:=hk.ext (lx hB0);have hst:zQ n f=zQ n (qI F f 0):=qA fun t _=>by unfold qI;rw[if_neg oM]
 rw[hst]at hv0;have hO:=yQ.of [bv] hB0;clear hW0 hst hv hw hk;go_wp2;go_loopw [10] (fun jv wr=>∃j:Nat,j<=n/\jv= .int .i64 j/\yQ [bv] w wr/\Blk wr w.heap.size 51 #[.bool kn,.slice ka kl kc]/\zR wr (.agg #[.bool kn,.slice ka kl kc]) k/\qF wr bw (zQ n g)/\qF wr bv (zQ n (qI F f j))) (fun jv _=>n-(intOf jv).toNat)
 case atStart=>exact⟨0,by omega,rfl,hO,bx,hk0,hw0,hv0⟩
 case round=>
  obtain⟨j,hj,rfl,hO,bx,hk,hw,hv⟩:=hrel;by_cases hlt:j<n
  ·obtain⟨xs,xa,xl,xc,p1,p2,-,-,hx⟩:=hw.cell (zW hlt)
   have hlw':=hw.lt;have hlb:=bx.lt;go_upto_region 4 with(fail)
   refine zC ?_;intro W6 hW6;obtain⟨hB6,T7,hs6⟩:=zN hW6;obtain⟨d1,d2,d3,d4⟩:=T7.two;have hO:=hO.trans (yQ.of [bv] hB6);have bx:=bx.below hB6;have hk:=hk.ext (lx hB6);have hw:=hw.below hB6;have hv:=hv.below hB6;have hx:=hx.ext (lx hB6);clear p1 p2 hW6;go_wp2_with fail
   refine(jE _ (g j) W6 hx.weak).mono ?_;rintro e w7 ⟨rfl,hb7⟩;have hO:=hO.trans (yQ.of [bv] hb7);have bx:=bx.below hb7;have hk:=hk.ext (lx hb7);have hw:=hw.below hb7;have hv:=hv.below hb7;have hx:=hx.ext (lx hb7);have T7:=T7.below hb7;clear d1 d2 d3 d4;by_cases hz0:g j=0
   ·rw [jT hz0]
    go_wp2;go_roundw
    case rel=>
     have hq:zQ n (qI F f j)=zQ n (qI F f (j+1)):=qA fun t _=>by
      unfold qI;by_cases h1:t<j
      ·rw[if_pos h1,if_pos oM]
      ·by_cases h2:t=j
       ·subst h2
        rw[if_neg h1,if_pos oM,HF.out,hz0,Int.mul_zero,Int.add_zero]
       ·rw[if_neg h1,if_neg oM]
     rw[hq]at hv;exact⟨j+1,by omega,by simp,hO,bx,hk,hw,hv⟩
    case measure=>simp[intOf];omega
   ·have hc:=zBp hz0
    obtain⟨k0,hk0⟩:∃k0,qO (g j) 0=k0:=⟨_,rfl⟩;rw[hk0]at hc ⊢
    clear hk0;obtain⟨ys,ya,yl,yc,v1,v2,-,-,hy⟩:=hv.cell (zW hlt);have hyf:qI F f j j=f j:=by unfold qI;rw[if_neg oM]
    rw[hyf]at hy;obtain⟨d1,d2,d3,d4⟩:=T7.two;obtain⟨k1,k2,k3,k4⟩:=bx.two;have lv:=hv.lt;have lb:=bx.lt;have l7:=T7.lt;have HSJ:=xgv (HS.out j hlt);go_upto_region 5 with(fail)
    refine zB 11 rfl (RI w7 (w7.heap.size) _ 51
      [VSl 0 18 bv n capv,VN 1 19 j,VSl 2 20 bv n capv,VN 3 21 j,VP 4 22 bv (j*2),E 5 23 (.agg #[.bool ys,.slice ya yl yc]),E 6 24 (.agg #[.bool kn,.slice ka kl kc]),E 7 25 (.agg #[.bool xs,.slice xa xl xc]),EI 8 26 (k*g j),EI 9 27 (f j+k*g j),VP 10 28 bv (j*2)] [] []) kR RI.start (RI.fin kR ?fin1) ?steps1
    case steps1=>
     refine⟨?_,?_,?_,?_,?_,?_,?_,?_,?_,?_,?_,trivial⟩<;>(intro L T wS hL hd hcl hI K hK;try refine zA rfl ?_)
     ·exact xgs (hI.k 0 rfl kR)
     ·exact xgs (hI.k 6 rfl kR)
     ·exact xgs (hI.k 0 rfl kR)
     ·exact xgs (hI.k 6 rfl kR)
     ·exact xgt (hI.e mm2 (hd 2)) (hI.e mm3 (hd 3))
     ·have zt4:=hI.e mm4 (hd 4)
      have cc0:=hI.cell v1 oM nom;have cc1:=hI.cell v2 oM nom;exact xgu
     ·have zt:=hI.k 5 rfl kR
      have cc0:=hI.cell k1 oM nom;have cc1:=hI.cell k2 oM nom;exact xgu
     ·have zt:=hI.k 7 rfl kR
      have cc0:=hI.cell d1 oM nom;have cc1:=hI.cell d2 oM nom;exact xgu
     ·have zt6:=hI.e mm6 (hd 6)
      have zt7:=hI.e mm7 (hd 7);go_simp;refine(zBw _ _ k (g j) _ (hk.ext hI.lext).weak (hx.ext hI.lext).weak HK.out HSJ.out.2.1).mono ?_;exact xgo
     ·have zt5:=hI.e mm5 (hd 5)
      obtain⟨v8,zt8,h8⟩:=hI.vi mm8 (hd 8);go_simp;refine(zFg _ _ (f j) (k*g j) _ (hy.ext hI.lext).weak h8.weak HSJ.out.1 HSJ.out.2.2).mono ?_;exact xgo
     ·exact xgt (hI.e mm0 (hd 0)) (hI.e mm1 (hd 1))
    intro w9 hlw9 hbw9 holdw9 T hT;simp only[Fin,E,EI,VP,VSl,VN,xgg,xgh,xgi,xgj]at hT;obtain⟨va8,ha8,va9,ha9,rfl⟩:=hT;simp only[xgl,xgk];obtain⟨pn,pa,pl,pc,px,rfl,hpx⟩:=id ha9;have HPX:=xgw hpx;clear hpx;have hv9:=hv.below hbw9;obtain⟨zs,za,zl,zc,z1,z2,z3,z4,-⟩:=hv9.cell (zW hlt);have hset:=hv9.set (k:=j) (by rw[zE];exact hlt) ha9;have hO:=hO.trans (yQ.of [bv] hbw9);have hk:=hk.ext (lx hbw9);have bx:=bx.below hbw9;have hw:=hw.below hbw9;have hsz:=hO.bel.size;go_wp2;go_roundw
    case rel=>
     have hq:(zQ n (qI F f j)).set j (f j+k*g j)=zQ n (qI F f (j+1)):=by
      rw[zA8];exact qA fun t _=>by
       unfold qI;by_cases h2:t=j
       ·subst h2
        rw[if_pos rfl,if_pos oM,HF.out]
       ·rw[if_neg h2]
        by_cases h1:t<j
        ·rw[if_pos h1,if_pos oM]
        ·rw[if_neg h1,if_neg oM]
     rw[hq]at hset;refine⟨j+1,by omega,by simp,hO.trans ⟨zP (zP (Below.refl _ _) (Nat.zero_le _) _ _) (Nat.zero_le _) _ _,hset.2,fun i _ hi=>qH _ _ _ _ _ _ _ (by simpa using hi)⟩,(qH _ _ _ _ _ _ _ oM).trans bx,hk.ext hset.2,hw.old (qH _ _ _ _ _ _ _ (Ne.symm hne)) hset.2,hset.1⟩
    case measure=>simp[intOf];omega
  ·obtain rfl:j=n:=by omega
   have hq:zQ j (qI F f j)=zQ j F:=qA fun t ht=>by unfold qI;rw[if_pos ht]
   rw[hq]at hv;go_wp2;exact bodyPost_end (results_none rfl _ _ _) rfl ⟨⟨_,rfl⟩,hO,hv⟩
theorem zJ.only{w w':World}{base:Nat}{A:Value}{C:Nat}{bs:List Nat}{M:List (List Int)}{S:List Nat}(h:zJ w base A C bs M)(ho:yQ S w w')(hd:∀b∈bs,b ∉ S)(hr:∀g∈S,∃r,qF w g r):zJ w' base A C bs M:=by
 refine⟨⟨h.own.1,?_⟩,h.len,fun k b r h1 h2=>by
  obtain⟨e1,e2,e3⟩:=h.row k b r h1 h2;exact⟨e1,e2,e3.only ho (hd b (xgd h1))⟩,h.nodup,h.cb⟩
 rcases h.own.2 with h1|⟨g,cap,cur,e1,e2,e3,e4⟩
 ·exact .inl h1
 ·refine .inr ⟨g,cap,cur,e1,e2,?_,e4⟩
  refine(ho.old g (Array.getElem?_eq_some_iff.1 e3).1 ?_).trans e3;intro hg;obtain⟨r,hr⟩:=hr g hg;have:=zCU h.own hr;rw[e1]at this;exact this rfl
theorem zJ.setRow{w w':World}{base:Nat}{A:Value}{C:Nat}{bs:List Nat}{M:List (List Int)}{i b:Nat}{r:List Int}(h:zJ w base A C bs M)(hb:bs[i]?=some b)(ho:yQ [b] w w')(hr:qF w' b r)(hl:r.length=C):
  zJ w' base A C bs (M.set i r):=by
 have hib:=(xge.1 hb).1;have hiM:i<M.length:=by rw[h.len];exact hib
 obtain⟨r1,r2,r3⟩:=h.row i b M[i] hb (xga hiM);refine⟨⟨h.own.1,?_⟩,by simp[h.len],?_,h.nodup,h.cb⟩
 ·rcases h.own.2 with h1|⟨g,cap,cur,e1,e2,e3,e4⟩
  ·exact .inl h1
  ·refine .inr ⟨g,cap,cur,e1,e2,?_,e4⟩
   refine(ho.old g (Array.getElem?_eq_some_iff.1 e3).1 ?_).trans e3;intro hg;have:=zCU h.own r3;rw[e1]at this;simp at hg;exact this (by rw[hg];rfl)
 ·intro k b' r' hk hr'
  by_cases e:k=i
  ·subst e
   rw[hb]at hk;injection hk with hk
   subst hk;rw[List.getElem?_set_self hiM]at hr';injection hr' with hr'
   subst hr';exact⟨r1,hl,hr⟩
  ·rw[List.getElem?_set_ne (Ne.symm e)]at hr'
   obtain⟨f1,f2,f3⟩:=h.row k b' r' hk hr';have hkb:=(xge.1 hk).1;have hne:b'≠b:=by
    intro hh;subst hh;have h1:=(xge.1 hk).2;have h2:=(xge.1 hb).2;exact e ((List.getElem_inj h.nodup).1 (h1.trans h2.symm))
   exact⟨f1,f2,f3.only ho (by simpa using hne)⟩
def jL(F:Nat->Nat->Int)(i j:Nat)(k:Int):Nat->Nat->Int:=fun a b=>if a=i then F i b+k*F j b else F a b
theorem zJV{R C:Nat}{F:Nat->Nat->Int}{i j:Nat}{k:Int}(hi:i<R):(genM R C F).set i (zQ C (fun t=>F i t+k*F j t))=genM R C (jL F i j k):=by
 apply List.ext_getElem
 ·simp[genM]
 ·intro a h1 h2
  by_cases e:a=i
  ·subst e
   rw[List.getElem_set_self];simp[genM,zQ,jL]
  ·have e3:i≠a:=fun h=>e h.symm
   rw[List.getElem_set_ne e3];simp[genM,jL,e]
theorem zJ.rowAt{w:World}{base:Nat}{A:Value}{R C:Nat}{bs:List Nat}{F:Nat->Nat->Int}(h:zJ w base A C bs (genM R C F)){i:Nat}(hi:i<R):∃b,bs[i]?=some b/\qF w b (zQ C (F i)):=by
 have hl:bs.length=R:=by rw[<-h.len];simp[genM]
 refine⟨bs[i],xga oM,?_⟩;exact(h.row i bs[i] (zQ C (F i)) (xga oM) (zAL R C F hi)).2.2
theorem zFf{w:World}{base:Nat}{A:Value}{R C:Nat}{bs:List Nat}{F:Nat->Nat->Int}(h:zJ w base A C bs (genM R C F)){i j bi bj:Nat}(hi:i<R)(hj:j<R)(hij:i≠j)(hbi:bs[i]?=some bi)(hbj:bs[j]?=some bj)(kv:Value)(k:Int)
  (hk:zR w kv k) (hC:C<=1000000) (hS:∀t,t<C->Sm (F i t)/\Sm (F j t)/\Sm (k*F j t)) (hks:Sm k):
  Calls Tryz.prog 94 #[.slice (some ⟨bi,0,none⟩) C C,.slice (some ⟨bj,0,none⟩) C C,kv] w fun e w'=>(∃u,e= .returned u)/\yQ [bi] w w'/\zJ w' base A C bs (genM R C (jL F i j k)):=by
 obtain⟨b1,e1,r1⟩:=h.rowAt hi;obtain⟨b2,e2,r2⟩:=h.rowAt hj;obtain rfl:b1=bi:=Option.some.inj (e1.symm.trans hbi);obtain rfl:b2=bj:=Option.some.inj (e2.symm.trans hbj);have hne:b1≠b2:=by
  intro hh;subst hh;obtain⟨f1,f2⟩:=xge.1 e1;obtain⟨g1,g2⟩:=xge.1 e2;exact hij ((List.getElem_inj h.nodup).1 (f2.trans g2.symm))
 refine(zJv b1 b2 C C C (F i) (F j) kv k w r1 r2 hne hk hC (xgf _) oM (xgf _) oM hS hks).mono ?_;rintro e w' ⟨hu,ho,hr⟩;refine⟨hu,ho,?_⟩;rw[<-zJV hi];exact h.setRow e1 ho hr (zE _ _)
def Wri(w:World)(A:Value)(R C:Nat)(bs:List Nat)(F:Nat->Nat->Int):Prop:=zJ w 0 A C bs (genM R C F)
theorem Wri.below{w w':World}{A:Value}{R C:Nat}{bs:List Nat}{F:Nat->Nat->Int}(h:Wri w A R C bs F)(hb:Below w.heap.size w w'):Wri w' A R C bs F:=zJ.below h hb
theorem Wri.len{w:World}{A:Value}{R C:Nat}{bs:List Nat}{F:Nat->Nat->Int}(h:Wri w A R C bs F):bs.length=R:=by rw[<-zJ.len h];simp[genM]
theorem Wri.blk{w:World}{A:Value}{R C:Nat}{bs:List Nat}{F:Nat->Nat->Int}(h:Wri w A R C bs F){b:Nat}(hb:b∈bs):∃r,qF w b r:=by
 obtain⟨k,hk,e⟩:=List.getElem_of_mem hb;have hl:=h.len;obtain⟨b',e1,e2⟩:=zJ.rowAt h (i:=k) oM;rw[xga hk,e]at e1;injection e1 with e1
 subst e1;exact⟨_,e2⟩
theorem Wri.only{w w':World}{A:Value}{R C:Nat}{bs:List Nat}{F:Nat->Nat->Int}{b:Nat}{r:List Int}(h:Wri w A R C bs F)(ho:yQ [b] w w')(hn:b ∉ bs)(hr:qF w b r):Wri w' A R C bs F:=
 zJ.only h ho (fun x hx=>by
  intro hh;simp at hh;subst hh;exact hn hx) (fun g hg=>by
  simp at hg;subst hg;exact⟨_,hr⟩)
def Far(xs ys:List Nat):Prop:=∀b,b∈xs->b ∉ ys
structure zDu(w:World)(As At Ai:Value)(n Cs Ct:Nat)(bss bst bsi:List Nat)(S T I:Nat->Nat->Int):Prop where
 s:Wri w As n Cs bss S
 t:Wri w At n Ct bst T
 i:Wri w Ai n Ct bsi I
 st:Far bss bst
 si:Far bss bsi
 ti:Far bst bsi
 ast:∀g,As.ownBlock=some g->At.ownBlock≠some g
 asi:∀g,As.ownBlock=some g->Ai.ownBlock≠some g
 ati:∀g,At.ownBlock=some g->Ai.ownBlock≠some g
abbrev tRR:TypeId:=26
def zJq(C:Nat)(F:Nat->Nat->Int)(i j:Nat)(k:Int):Prop:=∀t,t<C->Sm (F i t)/\Sm (F j t)/\Sm (k*F j t)
end Go.Proofs.YtgnmdddaiefooaaGreat
