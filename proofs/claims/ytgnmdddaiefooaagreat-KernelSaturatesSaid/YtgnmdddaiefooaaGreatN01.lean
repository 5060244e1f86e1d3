/- torsionlaw15.KernelMatchesReference: the walk. torsionlaw15.KernelComplements: the walk. torsionref15.Multiplied. The rest that Reduce leaves: plain Lean. torsionref05: Vector, Row, Times, Act, Zero; hermite.Reduce of a row of another length. Appending a whole slice of integers. -/
import Derived.Test.YtgnmdddaiefooaaGreatK34
import Derived.Test.YtgnmdddaiefooaaGreatK40
import Derived.Test.YtgnmdddaiefooaaGreatK42
import Derived.Test.YtgnmdddaiefooaaGreatK43
import Derived.Test.YtgnmdddaiefooaaGreatK44
import Derived.Test.YtgnmdddaiefooaaGreatK51
set_option linter.unusedVariables false
set_option linter.unusedSimpArgs false
set_option linter.unusedSectionVars false
set_option maxHeartbeats 16000000
set_option maxRecDepth 100000
namespace Go.Proofs.YtgnmdddaiefooaaGreat
open Go.RowKit
theorem zKk{h e:Nat}(h1:1<=h)(he:2*h<=2^e)(he2:e<=35000000)(v:Value)(M:List (List Int))(R C:Nat)(w:World)(hm:qX w v R C M)(hF:yI R C M)(hR:R<=4)(hC:C<=1000000)(hA:leM h R C (ent M)):
  Calls Tryz.prog 18 #[v] w fun e w'=>∃v,e= .returned v/\zNi R C (ent M) w' v/\Below w.heap.size w w':=
 (zBc h1 v M R C w hm.off hF oM hC hA (Nat.lt_of_le_of_lt (jJ h1 (zFh hR)) (zH5 he dE (by rw[yP];omega)))).mono fun e w' ⟨v,r,c,H,U,V,h2,hf,hm,hb⟩=>⟨v,h2,⟨r,c,H,hf.lat,hm⟩,hb⟩
theorem zJi.congr{R C:Nat}{A B:Nat->Nat->Int}(h:zJi R C A)(e:∀a,a<R->∀b,b<C->A a b=B a b):zJi R C B:=by
 refine⟨fun x hx=>(zAE.congr e x).1 (h.sat x ((zBp.congr e x).2 hx)),?_⟩;obtain⟨σ,τ,a,b,d⟩:=h.full;exact⟨σ,τ,a,b,by rwa[<-qU (F:=fun x y=>A (σ x) (τ y)) fun x hx y hy=>e _ (a x hx) _ (b y hy)]⟩
def CompM(R C:Nat)(A:Nat->Nat->Int)(w:World)(v:Value):Prop:=∃(o:Option Addr) (n k:Nat) (B eb:Nat),v= .tuple #[.agg #[.int .i64 ((C-R:Nat):Int),.int .i64 C,.slice o n k],.int .i64 0]∧
 qL (1<=B/\2*B<=2^eb/\eb<=35000000/\R<=C/\zBq B R C A w (.agg #[.int .i64 ((C-R:Nat):Int),.int .i64 C,.slice o n k]))
def facF(ls:List Int)(i:Nat):Int:=if(ls.getD i 0).tmod 5=0 then 1 else(ls.getD i 0).tmod 5
theorem tmod5{z:Int}:(Int.tmod z 5).natAbs<=4:=by
 rcases Int.le_total 0 z with h|h
 ·rw[Int.tmod_eq_emod_of_nonneg h];omega
 ·have:Int.tmod z 5=-(Int.tmod (-z) 5):=by rw[Int.neg_tmod];omega
  rw[this,Int.tmod_eq_emod_of_nonneg oM];omega
theorem facF_le(ls:List Int)(i:Nat):(facF ls i).natAbs<=4:=by
 unfold facF;have:=@tmod5 (ls.getD i 0);split<;>omega
theorem facF_ne(ls:List Int)(i:Nat):facF ls i≠0:=by
 unfold facF;split
 ·decide
 ·assumption
theorem facF_out{ls:List Int}{i:Nat}(h:ls.length<=i):facF ls i=1:=by
 unfold facF;rw[xgb,List.getElem?_eq_none h];rfl
def mulF(f:Nat->Int)(M:Nat->Nat->Int):Nat->Nat->Int:=fun a b=>M a b*f a
def mulTo(f:Nat->Int)(M:Nat->Nat->Int)(i j:Nat):Nat->Nat->Int:=fun a b=>if a<i∨(a=i/\b<j)then M a b*f a else M a b
theorem mulTo_start{R C:Nat}{M:List (List Int)}(f:Nat->Int)(hF:yI R C M):M=genM R C (mulTo f (ent M) 0 0):=by
 have h:=jR hF;rw[h];exact zR fun a ha b hb=>by
  unfold mulTo;rw[if_neg oM,<-h]
theorem mulTo_row{R C:Nat}{f:Nat->Int}{M:Nat->Nat->Int}{i:Nat}:genM R C (mulTo f M i C)=genM R C (mulTo f M (i+1) 0):=
 zR fun a _ b hb=>by
  unfold mulTo;by_cases h:a<i∨(a=i/\b<C)
  ·rw[if_pos h,if_pos oM]
  ·rw[if_neg h,if_neg oM]
theorem mulTo_end{R C:Nat}{f:Nat->Int}{M:Nat->Nat->Int}{i:Nat}(h:∀a,i<=a->a<R->f a=1):genM R C (mulTo f M i 0)=genM R C (mulF f M):=
 zR fun a ha b _=>by
  unfold mulTo mulF;by_cases e:a<i∨(a=i/\b<0)
  ·rw[if_pos e]
  ·rw[if_neg e,h a oM ha,Int.mul_one]
theorem mulTo_step{R C:Nat}{f:Nat->Int}{M:Nat->Nat->Int}{i j:Nat}(hi:i<R)(hj:j<C):zJe (genM R C (mulTo f M i j)) i j (M i j*f i)=genM R C (mulTo f M i (j+1)):=by
 rw[zAv _ hi hj];exact zR fun a _ b _=>by
  unfold mulTo;by_cases h:a=i/\b=j
  ·obtain⟨rfl,rfl⟩:=h
   rw[if_pos ⟨rfl,rfl⟩,if_pos oM]
  ·rw[if_neg h]
   by_cases h2:a<i∨(a=i/\b<j)
   ·rw[if_pos h2,if_pos oM]
   ·rw[if_neg h2,if_neg oM]
theorem mulTo_at{R C:Nat}{f:Nat->Int}{M:Nat->Nat->Int}{i j:Nat}(hi:i<R)(hj:j<C):ent (genM R C (mulTo f M i j)) i j=M i j:=by
 rw[qK hi hj];unfold mulTo;rw[if_neg oM]
theorem multiplied_any(v lv:Value)(R C:Nat)(M:List (List Int))(ls:List Int)(w:World)(h:qX w v R C M)(hF:yI R C M)(hl:I8V w lv ls)(hR:R<=1000000)(hC:C<=1000000)(hS:∀r∈M,∀z∈r,Sm z):
  Calls Tryz.prog 36 #[v,lv] w (zAQ w R C (genM R C (mulF (facF ls) (ent M)))):=by
 have h0:=h;obtain⟨A',rfl,h⟩:=h;obtain⟨ao,n,cap,rfl,e2,e3,e4,-⟩:=id h;obtain⟨lo,ln,lc,rfl,l2,l3,l4,-,-⟩:=id hl;have H0:=xgv h0;have HS:=xgv hS;have HF:=xgv hF;have HL:=xgv hl;have HLN:=xgv l2;have HST:=xgv (mulTo_start (facF ls) hF);obtain⟨f,hf⟩:∃f:Nat->Int,facF ls=f:=⟨_,rfl⟩;obtain⟨A,hA⟩:∃A:Nat->Nat->Int,ent M=A:=⟨_,rfl⟩;have HSA:qL (∀i j,i<R->j<C->Sm (A i j)):=⟨fun i j hi hj=>by
  rw[<-hA];have hiM:i<M.length:=by rw[hF.1];exact hi
  have h1:=xga hiM;have hjM:j<M[i].length:=by rw[hF.2 _ (xgd h1)];exact hj
  have h2:=xga hjM;rw[zBj h1 h2];exact hS _ (xgd h1) _ (xgd h2)⟩
 rw[hf,hA]at HST;rw[hf,hA];have HFE:qL (∀i,f i=facF ls i):=⟨fun i=>by rw[<-hf]⟩;clear hf hA h0 h hS hF hl l2 e2;go_enter Tryz.func36,Tryz.ntmps36;go_upto_region 1 with(fail)
 refine zB ?_;intro W0 hW0;obtain⟨hB0,bx,br,hs0⟩:=qI hW0;obtain⟨c1,c2,c3,c4,c5,c6⟩:=bx.three;go_wp2_with fail
 refine(zB1 _ R C M W0 (H0.out.below hB0).off HF.out hR hC HS.out).mono ?_;rintro e w2 ⟨u,bs,rfl,⟨hbl,A2,rfl,ho⟩,hb2⟩;obtain⟨oo,on,oc,rfl,-,-,-,-⟩:=id ho.rows;have hlts:=ho.lts;rw[HST.out]at ho;go_upto_region 2 with(fail)
 refine zB ?_;intro W3 hW3;obtain⟨hB3,T5,hs3⟩:=zO hW3;have bx:=(bx.below hb2).below hB3;have br:=(br.below hb2).below hB3;have ho:=ho.below hB3;have hBt:=nx (nx hB0 hb2) hB3;have q2:=hb2.size;clear hW3 hW0 c1 c2 c3 c4 c5 c6;go_wp2;go_loopw [6] (fun iv wr=>∃i:Nat,i<=R/\iv= .int .i64 i/\Below w.heap.size w wr/\Blk wr w.heap.size 28 #[.int .i64 R,.int .i64 C,.slice ao n cap]/\Blk wr (w.heap.size+1) 28 #[.int .i64 0,.int .i64 0,.slice none 0 0]/\Blk wr w2.heap.size 28 #[.int .i64 R,.int .i64 C,.slice oo on oc]/\zH wr W0.heap.size (.slice oo on oc) C bs (genM R C (mulTo f A i 0))) (fun iv _=>R-(intOf iv).toNat)
 case atStart=>exact⟨0,by omega,rfl,hBt,bx,br,T5,ho⟩
 case round=>
  obtain⟨i,hi,rfl,hb,bx,br,T5,ho⟩:=hrel;obtain⟨c1,c2,c3,c4,c5,c6⟩:=bx.three;by_cases hlt:i<R
  ·by_cases hln:i<ln
   ·obtain⟨b,off,z,rfl,hbl1,hz,k1,z1,z2⟩:=HL.out.cell (k:=i) (by rw[HLN.out];exact hln)
    have hcell:=(hb.cell (p:=⟨b,off+i,none⟩) hbl1).trans k1;have hfi:f i=if z.tmod 5=0 then 1 else z.tmod 5:=by rw[HFE.out];unfold facF;rw[jN hz]
    have ht4:(Int.tmod z 5).natAbs<=4:=tmod5;obtain⟨t,ht⟩:∃t,Int.tmod z 5=t:=⟨_,rfl⟩;rw[ht]at hfi ht4;have w8:IntKind.i8.wrap t=t:=IntWalk.i8_in _ oM;have w64:IntKind.i64.wrap t=t:=IntWalk.i64_in _ oM;clear hz k1;by_cases ht0:t=0
    ·have HFI:qL (f i=1):=⟨by rw[hfi,if_pos ht0]⟩
     clear hfi;have hte:(t==0)=true:=by simp[ht0]
     go_upto_region 8 with(fail)
     have HSX:qL (Sm 1):=⟨zBP (Nat.lt_of_le_of_lt (by decide:Int.natAbs 1<=4) (zId (h:=4) (e:=3) dE dE))⟩;go_wp2;go_loopw [8] (fun jv wr=>∃j:Nat,j<=C/\jv= .int .i64 j/\Below w.heap.size w wr/\Blk wr w.heap.size 28 #[.int .i64 R,.int .i64 C,.slice ao n cap]/\Blk wr (w.heap.size+1) 28 #[.int .i64 0,.int .i64 0,.slice none 0 0]/\Blk wr w2.heap.size 28 #[.int .i64 R,.int .i64 C,.slice oo on oc]/\zH wr W0.heap.size (.slice oo on oc) C bs (genM R C (mulTo f A i j))) (fun jv _=>C-(intOf jv).toNat)
     case atStart=>exact⟨0,by omega,rfl,hb,bx,br,T5,ho⟩
     case round=>
      clear hb bx br T5 ho c1 c2 c3 c4 c5 c6;obtain⟨j,hj,rfl,hb,bx,br,T5,ho⟩:=hrel;obtain⟨c1,c2,c3,c4,c5,c6⟩:=bx.three;obtain⟨f1,f2,f3,f4,f5,f6⟩:=T5.three;by_cases hjc:j<C
      ·obtain⟨g,bo,rfl,hg,hbo,hbo2,o1,ho3⟩:=ho.at_ (i:=i) oM
       obtain⟨sn,sa,sl,sc,y1,y2,y3,y4,hv⟩:=ho.cellAt hbo hjc;rw[mulTo_at hlt hjc]at hv;have hio:i<on:=by omega
       have HO3:=xgw ho3;have lt5:=T5.lt;clear ho3;go_upto_region 11 with(fail)
       refine zC 17 rfl (RI wr (wr.heap.size) _ 51
         [VP 0 37 w2.heap.size 2,VSl 1 38 g on oc,VN 2 39 i,VP 3 40 g i,VSl 4 41 bo C C,VN 5 42 j,VP 6 43 w2.heap.size 2,VSl 7 44 g on oc,VN 8 45 i,VP 9 46 g i,VSl 10 47 bo C C,VN 11 48 j,VP 12 49 bo (j*2),E 13 50 (.agg #[.bool sn,.slice sa sl sc]),E 14 51 (.int .i64 (1)),EI 15 52 ((1)),EI 16 53 ((A i j*(1)))] [] []) kR RI.start (RI.fin kR ?fin1) ?steps1
       case steps1=>
        refine⟨?_,?_,?_,?_,?_,?_,?_,?_,?_,?_,?_,?_,?_,?_,?_,?_,?_,trivial⟩<;>(intro L T wS hL hd hcl hI K hK;try refine zA rfl ?_)
        ·exact xgs (hI.k 5 rfl kR)
        ·have zt0:=hI.e mm0 (hd 0)
         have cc0:=hI.cell f3 oM nom;exact xgu
        ·exact xgs (hI.k 6 rfl kR)
        ·exact xgt (hI.e mm1 (hd 1)) (hI.e mm2 (hd 2))
        ·have zt3:=hI.e mm3 (hd 3)
         have cc0:=hI.cell o1 oM nom;exact xgu
        ·exact xgs (hI.k 8 rfl kR)
        ·exact xgs (hI.k 5 rfl kR)
        ·have zt6:=hI.e mm6 (hd 6)
         have cc0:=hI.cell f3 oM nom;exact xgu
        ·exact xgs (hI.k 6 rfl kR)
        ·exact xgt (hI.e mm7 (hd 7)) (hI.e mm8 (hd 8))
        ·have zt9:=hI.e mm9 (hd 9)
         have cc0:=hI.cell o1 oM nom;exact xgu
        ·exact xgs (hI.k 8 rfl kR)
        ·exact xgt (hI.e yC (hd 10)) (hI.e jQ (hd 11))
        ·have zt12:=hI.e zAY (hd 12)
         have cc0:=hI.cell y1 oM nom;have cc1:=hI.cell y2 oM nom;exact xgu
        ·exact xgs (hI.k 7 rfl kR)
        ·have zt14:=hI.e zCB (hd 14)
         go_simp;refine(zBd _ _ oM oM).mono ?_;exact xgo
        ·have zt13:=hI.e zBk (hd 13)
         obtain⟨v15,zt15,h15⟩:=hI.vi zCH (hd 15);go_simp;refine(zAe _ _ _ _ _ (hv.ext hI.lext) h15 (HSA.out i j hlt hjc) HSX.out).mono ?_;exact xgo
       intro w9 hlw9 hbw9 holdw9 T hT;simp only[Fin,E,EI,VP,VSl,VN,xgg,xgh,xgi,xgj]at hT;obtain⟨va15,ha15,va16,ha16,rfl⟩:=hT;simp only[xgl,xgk];obtain⟨pn,pa,pl,pc,px,rfl,hpx⟩:=id ha16;have HPX:=xgw hpx;clear hpx;have ho9:=ho.below hbw9;obtain⟨sn',sa',sl',sc',z1,z2,z3,z4,-⟩:=ho9.cellAt hbo hjc;have hbolt:=hlts i bo hbo;have hset:=ho9.set hbo hjc ha16;have f3':=(T5.below hbw9).three.2.2.1;have o1':=(ho9.at_ (i:=i) oM);go_wp2;go_roundw
       case rel=>
        rw[<-HFI.out,mulTo_step hlt hjc]at hset;exact⟨j+1,by omega,by simp,zN (zN (nx hb hbw9) oM _ _) oM _ _,(qA _ _ _ _ _ _ _ oM).trans (bx.below hbw9),(qA _ _ _ _ _ _ _ oM).trans (br.below hbw9),(qA _ _ _ _ _ _ _ oM).trans (T5.below hbw9),hset.1⟩
       case measure=>simp[intOf];omega
      ·obtain rfl:j=C:=by omega
       rw[mulTo_row]at ho;go_wp2;go_roundw
       case rel=>exact⟨i+1,by omega,by simp,hb,bx,br,T5,ho⟩
       case measure=>simp[intOf];omega
    ·have HFI:qL (f i=t):=⟨by rw[hfi,if_neg ht0]⟩
     clear hfi;have hte:(t==0)=false:=by simp[ht0]
     have HSX:qL (Sm t):=⟨zBP (Nat.lt_of_le_of_lt ht4 (zId (h:=4) (e:=3) dE dE))⟩;go_upto_region 8 with(fail)
     go_wp2;go_loopw [8] (fun jv wr=>∃j:Nat,j<=C/\jv= .int .i64 j/\Below w.heap.size w wr/\Blk wr w.heap.size 28 #[.int .i64 R,.int .i64 C,.slice ao n cap]/\Blk wr (w.heap.size+1) 28 #[.int .i64 0,.int .i64 0,.slice none 0 0]/\Blk wr w2.heap.size 28 #[.int .i64 R,.int .i64 C,.slice oo on oc]/\zH wr W0.heap.size (.slice oo on oc) C bs (genM R C (mulTo f A i j))) (fun jv _=>C-(intOf jv).toNat)
     case atStart=>exact⟨0,by omega,rfl,hb,bx,br,T5,ho⟩
     case round=>
      clear hb bx br T5 ho c1 c2 c3 c4 c5 c6;obtain⟨j,hj,rfl,hb,bx,br,T5,ho⟩:=hrel;obtain⟨c1,c2,c3,c4,c5,c6⟩:=bx.three;obtain⟨f1,f2,f3,f4,f5,f6⟩:=T5.three;by_cases hjc:j<C
      ·obtain⟨g,bo,rfl,hg,hbo,hbo2,o1,ho3⟩:=ho.at_ (i:=i) oM
       obtain⟨sn,sa,sl,sc,y1,y2,y3,y4,hv⟩:=ho.cellAt hbo hjc;rw[mulTo_at hlt hjc]at hv;have hio:i<on:=by omega
       have HO3:=xgw ho3;have lt5:=T5.lt;clear ho3;go_upto_region 11 with(fail)
       refine zC 17 rfl (RI wr (wr.heap.size) _ 51
         [VP 0 37 w2.heap.size 2,VSl 1 38 g on oc,VN 2 39 i,VP 3 40 g i,VSl 4 41 bo C C,VN 5 42 j,VP 6 43 w2.heap.size 2,VSl 7 44 g on oc,VN 8 45 i,VP 9 46 g i,VSl 10 47 bo C C,VN 11 48 j,VP 12 49 bo (j*2),E 13 50 (.agg #[.bool sn,.slice sa sl sc]),E 14 51 (.int .i64 (t)),EI 15 52 ((t)),EI 16 53 ((A i j*(t)))] [] []) kR RI.start (RI.fin kR ?fin2) ?steps2
       case steps2=>
        refine⟨?_,?_,?_,?_,?_,?_,?_,?_,?_,?_,?_,?_,?_,?_,?_,?_,?_,trivial⟩<;>(intro L T wS hL hd hcl hI K hK;try refine zA rfl ?_)
        ·exact xgs (hI.k 5 rfl kR)
        ·have zt0:=hI.e mm0 (hd 0)
         have cc0:=hI.cell f3 oM nom;exact xgu
        ·exact xgs (hI.k 6 rfl kR)
        ·exact xgt (hI.e mm1 (hd 1)) (hI.e mm2 (hd 2))
        ·have zt3:=hI.e mm3 (hd 3)
         have cc0:=hI.cell o1 oM nom;exact xgu
        ·exact xgs (hI.k 8 rfl kR)
        ·exact xgs (hI.k 5 rfl kR)
        ·have zt6:=hI.e mm6 (hd 6)
         have cc0:=hI.cell f3 oM nom;exact xgu
        ·exact xgs (hI.k 6 rfl kR)
        ·exact xgt (hI.e mm7 (hd 7)) (hI.e mm8 (hd 8))
        ·have zt9:=hI.e mm9 (hd 9)
         have cc0:=hI.cell o1 oM nom;exact xgu
        ·exact xgs (hI.k 8 rfl kR)
        ·exact xgt (hI.e yC (hd 10)) (hI.e jQ (hd 11))
        ·have zt12:=hI.e zAY (hd 12)
         have cc0:=hI.cell y1 oM nom;have cc1:=hI.cell y2 oM nom;exact xgu
        ·exact xgs (hI.k 7 rfl kR)
        ·have zt14:=hI.e zCB (hd 14)
         go_simp;refine(zBd _ _ oM oM).mono ?_;exact xgo
        ·have zt13:=hI.e zBk (hd 13)
         obtain⟨v15,zt15,h15⟩:=hI.vi zCH (hd 15);go_simp;refine(zAe _ _ _ _ _ (hv.ext hI.lext) h15 (HSA.out i j hlt hjc) HSX.out).mono ?_;exact xgo
       intro w9 hlw9 hbw9 holdw9 T hT;simp only[Fin,E,EI,VP,VSl,VN,xgg,xgh,xgi,xgj]at hT;obtain⟨va15,ha15,va16,ha16,rfl⟩:=hT;simp only[xgl,xgk];obtain⟨pn,pa,pl,pc,px,rfl,hpx⟩:=id ha16;have HPX:=xgw hpx;clear hpx;have ho9:=ho.below hbw9;obtain⟨sn',sa',sl',sc',z1,z2,z3,z4,-⟩:=ho9.cellAt hbo hjc;have hbolt:=hlts i bo hbo;have hset:=ho9.set hbo hjc ha16;have f3':=(T5.below hbw9).three.2.2.1;have o1':=(ho9.at_ (i:=i) oM);go_wp2;go_roundw
       case rel=>
        rw[<-HFI.out,mulTo_step hlt hjc]at hset;exact⟨j+1,by omega,by simp,zN (zN (nx hb hbw9) oM _ _) oM _ _,(qA _ _ _ _ _ _ _ oM).trans (bx.below hbw9),(qA _ _ _ _ _ _ _ oM).trans (br.below hbw9),(qA _ _ _ _ _ _ _ oM).trans (T5.below hbw9),hset.1⟩
       case measure=>simp[intOf];omega
      ·obtain rfl:j=C:=by omega
       rw[mulTo_row]at ho;go_wp2;go_roundw
       case rel=>exact⟨i+1,by omega,by simp,hb,bx,br,T5,ho⟩
       case measure=>simp[intOf];omega
   ·have hone:∀a,i<=a->a<R->f a=1:=fun a ha _=>by rw[HFE.out];exact facF_out (by rw[HLN.out];omega)
    rw[mulTo_end hone]at ho;have HOO:=xgv ho;clear ho hone;obtain⟨f1,f2,f3,f4,f5,f6⟩:=T5.three;obtain⟨r1,r2,r3,r4,r5,r6⟩:=br.three;have q1:=hB0.size;go_wp2;refine zP rfl rfl rfl (br.put3 _ _ _) ⟨_,bs,rfl,⟨hbl,_,rfl,?_⟩,zN (zN (zN hb oM 0 _) oM 1 _) oM 2 _⟩;exact(HOO.out.keep (fun k hk=>qQ _ _ k _ _ _ oM) (br.lext3 dE _ _ _)).mono q1
  ·obtain rfl:i=R:=by omega
   have hone:∀a,i<=a->a<i->f a=1:=fun a h1 h2=>by omega
   rw[mulTo_end hone]at ho;have HOO:=xgv ho;clear ho hone;obtain⟨f1,f2,f3,f4,f5,f6⟩:=T5.three;obtain⟨r1,r2,r3,r4,r5,r6⟩:=br.three;have q1:=hB0.size;go_wp2;refine zP rfl rfl rfl (br.put3 _ _ _) ⟨_,bs,rfl,⟨hbl,_,rfl,?_⟩,zN (zN (zN hb oM 0 _) oM 1 _) oM 2 _⟩;exact(HOO.out.keep (fun k hk=>qQ _ _ k _ _ _ oM) (br.lext3 dE _ _ _)).mono q1
def rest(R C:Nat)(H:Nat->Nat->Int)(x:Nat->Int):Nat->Int:=zOn C H x R
def RstV(r:Nat)(c:Nat->Nat)(H:Nat->Nat->Int)(y:Nat->Int):Prop:=∀s,s<r->0<=y (c s)/\y (c s)<H s (c s)
section
variable {n C r:Nat} {c:Nat->Nat} {H:Nat->Nat->Int}
theorem quo_at(hH:Hnf C n r c H){i:Nat}(hi:i<r)(y:Nat->Int):quo C H y i=y (c i)/H i (c i):=by
 unfold quo;rw[hH.ech.lead hi,if_neg oM];rfl
theorem quo_out(hH:Hnf C n r c H){i:Nat}(h1:r<=i)(h2:i<n)(y:Nat->Int):quo C H y i=0:=by
 unfold quo;rw[zCu (hH.zero i h1 h2),if_pos oM]
theorem redR_comb(C:Nat)(H:Nat->Nat->Int)(x:Nat->Int)(i b:Nat):zOn C H x i b=x b+zI i fun s=>-(zPl C H x s)*H s b:=by
 induction i with
 |zero=>simp[zOn,zI]
 |succ i ih=>
  show zOn C H x i b+-(zPl C H x i)*H i b=_;rw[ih];exact Int.add_assoc _ _ _
theorem redR_red(hH:Hnf C n r c H)(x:Nat->Int):∀i,i<=r->RstV i c H (zOn C H x i):=by
 intro i;induction i with
 |zero=>intro _ s hs;omega
 | succ i ih=>
  intro hi s hs;have hq:zPl C H x i=zOn C H x i (c i)/H i (c i):=quo_at hH oM _;have he:zOn C H x (i+1) (c s)=zOn C H x i (c s)+-(zPl C H x i)*H i (c s):=rfl;rw[he];by_cases e:s=i
  ·subst e
   have hp:=hH.ech.pos s oM;have h1:=Int.emod_nonneg (zOn C H x s (c s)) (show H s (c s)≠0 by omega);have h2:=Int.emod_lt_of_pos (zOn C H x s (c s)) hp;have h3:=Int.emod_def (zOn C H x s (c s)) (H s (c s));rw[hq,Int.neg_mul,Int.mul_comm (zOn C H x s (c s)/H s (c s))];omega
  ·have h1:=ih oM s oM
   rw[hH.ech.zero i oM (c s) (hH.ech.inc s i oM oM),Int.mul_zero,Int.add_zero];exact h1
theorem redR_stay(hH:Hnf C n r c H)(x:Nat->Int):∀d b,r+d<=n->zOn C H x (r+d) b=zOn C H x r b:=by
 intro d b;induction d with
 |zero=>intro _;rfl
 |succ d ih=>
  intro hd;have hq:zPl C H x (r+d)=0:=quo_out hH oM oM _;show zOn C H x (r+d) b+-(zPl C H x (r+d))*H (r+d) b=_;rw[hq,ih oM];simp
theorem rest_red(hH:Hnf C n r c H)(x:Nat->Int):RstV r c H (rest n C H x):=by
 intro s hs;have h:=redR_red hH x r (xgf _) s hs;have e:rest n C H x (c s)=zOn C H x r (c s):=by
  have:=redR_stay hH x (n-r) (c s) (by have:=hH.le;omega);rwa[show r+(n-r)=n by have:=hH.le;omega]at this
 rw[e];exact h
theorem redV_unique(hH:Hnf C n r c H){y y' z:Nat->Int}(h1:RstV r c H y)(h2:RstV r c H y')(h:∀b,b<C->y b-y' b=zI n fun t=>z t*H t b):∀b,b<C->y b=y' b:=by
 have h':∀b,b<C->y b-y' b=zI r fun t=>z t*H t b:=fun b hb=>by
  rw[h b hb];exact zBf hH.le fun t a1 a2=>by rw[hH.zero t a1 a2 b hb,Int.mul_zero]
 have hz:∀t,t<r->z t=0:=fun t ht=>Classical.byContradiction fun hne=>by
  obtain⟨t,ht,h0,hb⟩:=zFk ⟨t,ht,hne⟩;have e:=h' (c t) (hH.ech.lt t ht);rw[zHA hH.ech ht hb]at e;have a1:=h1 t ht;have a2:=h2 t ht;have hp:=hH.ech.pos t ht;have hle:(H t (c t)).natAbs<=(z t*H t (c t)).natAbs:=by
   rw[Int.natAbs_mul];exact Nat.le_mul_of_pos_left _ (Int.natAbs_pos.2 h0)
  rw[<-e]at hle;omega
 intro b hb;have e:=h' b hb;rw[yD fun t ht=>by rw[hz t ht,Int.zero_mul]]at e;omega
theorem rest_zero(hH:Hnf C n r c H){x z:Nat->Int}(h:∀b,b<C->x b=zI n fun t=>z t*H t b):∀b,b<C->rest n C H x b=0:=
 redV_unique hH (rest_red hH x) (y':=fun _=>0) (fun s hs=>⟨Int.le_refl _,hH.ech.pos s hs⟩) (z:=fun t=>z t+-(zPl C H x t)) fun b hb=>by
  have e1:rest n C H x b=_:=redR_comb C H x n b;rw[e1,h b hb,Int.sub_zero,<-jE];exact zD fun t _=>by rw[Int.add_mul]
end
theorem abs_ediv_le(a b:Int):(a/b).natAbs<=a.natAbs:=Int.natAbs_ediv_le_natAbs a b
theorem Hnf.congr{C n r:Nat}{c:Nat->Nat}{F G:Nat->Nat->Int}(h:Hnf C n r c F)(e:∀a,a<n->∀b,b<C->F a b=G a b):Hnf C n r c G:=by
 have hl:=h.le;refine⟨h.le,⟨h.ech.lt,fun k hk=>?_,fun k hk t ht=>?_,h.ech.inc⟩,fun i j hij hj _=>?_,fun a h1 h2 t ht=>?_⟩
 ·rw[<-e k oM _ (h.ech.lt k hk)];exact h.ech.pos k hk
 ·rw[<-e k oM t (by have:=h.ech.lt k hk;omega)];exact h.ech.zero k hk t ht
 ·rw[<-e i oM _ (h.ech.lt j hj),<-e j oM _ (h.ech.lt j hj)];exact h.red i j hij hj trivial
 ·rw[<-e a h2 t ht];exact h.zero a h1 h2 t ht
theorem redR_le{n C r h m:Nat}{c:Nat->Nat}{H:Nat->Nat->Int}(hH:Hnf C n r c H)(hh:leM h n C H){x:Nat->Int}(hx:∀b,b<C->(x b).natAbs<=m):
  ∀i,i<=n->∀b,b<C->(zOn C H x i b).natAbs<=m*(1+h)^i:=by
 intro i;induction i with
 |zero=>intro _ b hb;simpa[zOn]using hx b hb
 | succ i ih=>
  intro hi b hb;have h1:=ih oM b hb;have hq:(zPl C H x i).natAbs<=m*(1+h)^i:=by
   by_cases hr:i<r
   ·show(quo C H (zOn C H x i) i).natAbs<=_
    rw[quo_at hH hr];exact Nat.le_trans (abs_ediv_le _ _) (ih oM _ (hH.ech.lt i hr))
   ·show(quo C H (zOn C H x i) i).natAbs<=_
    rw[quo_out hH oM oM];simp
  show(zOn C H x i b+-(zPl C H x i)*H i b).natAbs<=_;have h2:(-(zPl C H x i)*H i b).natAbs<=m*(1+h)^i*h:=by
   rw[Int.natAbs_mul,Int.natAbs_neg];exact Nat.mul_le_mul hq (hh i oM b hb)
  refine Nat.le_trans (Int.natAbs_add_le _ _) (Nat.le_trans (Nat.add_le_add h1 h2) ?_);rw[Nat.pow_succ,<-Nat.mul_assoc,Nat.mul_add,Nat.mul_one];exact xgf _
theorem redQ_le{n C r h m:Nat}{c:Nat->Nat}{H:Nat->Nat->Int}(hH:Hnf C n r c H)(hh:leM h n C H){x:Nat->Int}(hx:∀b,b<C->(x b).natAbs<=m){i:Nat}(hi:i<n):(zPl C H x i).natAbs<=m*(1+h)^i:=by
 by_cases hr:i<r
 ·show(quo C H (zOn C H x i) i).natAbs<=_
  rw[quo_at hH hr];exact Nat.le_trans (abs_ediv_le _ _) (redR_le hH hh hx i oM _ (hH.ech.lt i hr))
 ·show(quo C H (zOn C H x i) i).natAbs<=_
  rw[quo_out hH oM hi];simp
theorem pow_BD{a:Nat}(h:a<=2^199):a<BD:=by
 have h1:2^200<=B32^zG6:=zDT (by rw[yP];omega);rw[zLR];exact Nat.lt_of_le_of_lt h (Nat.lt_of_lt_of_le dE h1)
theorem okRd_small{n C r:Nat}{c:Nat->Nat}{H:Nat->Nat->Int}(hH:Hnf C n r c H)(hn:n<=4)(hh:leM 644972544 n C H){x:Nat->Int}(hx:∀b,b<C->(x b).natAbs<=1000000):zQK BD n C H x:=by
 have hg:∀i,i<=5->1000000*(1+644972544)^i<BD:=fun i hi=>pow_BD (Nat.le_trans (Nat.mul_le_mul_left _ (Nat.pow_le_pow_right oM hi)) dE)
 refine⟨fun a ha b hb=>Nat.lt_of_le_of_lt (hh a ha b hb) (pow_BD dE),fun i hi b hb=>Nat.lt_of_le_of_lt (redR_le hH hh hx i hi b hb) (hg i oM),fun i hi=>⟨Nat.lt_of_le_of_lt (redQ_le hH hh hx hi) (hg i oM),fun b hb=>Nat.lt_of_le_of_lt ?_ (hg (i+1) oM)⟩⟩;rw[Int.natAbs_mul,Int.natAbs_neg];refine Nat.le_trans (Nat.mul_le_mul (redQ_le hH hh hx hi) (hh i hi b hb)) ?_;rw[Nat.pow_succ,<-Nat.mul_assoc];exact Nat.mul_le_mul_left _ oM
theorem zero_true(v:Value)(zs:List Int)(w:World)(h:zBS w v zs)(h0:∀z∈zs,z=0):
  Calls Tryz.prog 51 #[v] w fun e w'=>e= .returned (.bool true)/\Below w.heap.size w w':=by
 obtain⟨ao,n,cap,rfl,h2,h3,h4,h5⟩:=id h;have HL:=xgw h2;have HZ0:=xgv h0;clear h2 h5 h0;go_enter Tryz.func51,Tryz.ntmps51;go_wp2;go_loopw [3] (fun i wr=>∃k:Nat,k<=n/\i= .int .i64 k/\Below w.heap.size w wr) (fun i _=>n-(intOf i).toNat)
 case atStart=>exact⟨0,by omega,rfl,Below.refl _ _⟩
 case round=>
  obtain⟨k,hk,rfl,hb⟩:=hrel;by_cases hlt:k<n
  ·obtain⟨b,z,s,a,l,c,rfl,hbl,hz,c1,c2,hv⟩:=(h.below hb).cell (k:=k) (by rw[HL.out];exact hlt)
   have hz0:z=0:=HZ0.out z (xgd hz);clear hz;go_wp2_with fail
   refine(yJ _ z wr hv).mono ?_;rintro e w7 ⟨rfl,hb7⟩;have hb9:=nx hb hb7;rw[zAI hz0];clear hz0 c1 c2;go_wp2;go_roundw
   case rel=>exact⟨k+1,by omega,by simp,hb9⟩
   case measure=>simp[intOf];omega
  ·go_wp2
   go_ret;exact⟨rfl,hb⟩
def ZsV(w:World)(v:Value)(ys:List Int):Prop:=
 ∃ao n c,v= .slice ao n c/\ys.length=n/\(ys≠ []->∃b off cells,ao=some ⟨b,off,none⟩/\cells.length=n*2/\zNz w cells ys/\∀j u,cells[j]?=some u->w.cell? ⟨b,off+j,none⟩=some u)
theorem zBS.zs{w:World}{v:Value}{ys:List Int}(h:zBS w v ys):ZsV w v ys:=by
 obtain⟨ao,n,c,rfl,h2,-,-,h5⟩:=h;refine⟨ao,n,c,rfl,h2,fun hne=>?_⟩;obtain⟨b,rfl,cs,e1,e2⟩:=h5 hne;have hlen:n*2<=cs.size:=by
  have h0:0<ys.length:=List.length_pos_iff.2 hne;obtain⟨_,_,_,_,-,q,-⟩:=e2 (ys.length-1) _ (xga oM);have:=(Array.getElem?_eq_some_iff.1 q).1;omega
 refine⟨b,0,cs.toList.take (n*2),rfl,by simp;omega,fun k z hk=>?_,fun j u hj=>?_⟩
 ·obtain⟨s,a,l,c',q1,q2,q3⟩:=e2 k z hk
  have hk':=(xge.1 hk).1;exact⟨s,a,l,c',by rw[List.getElem?_take_of_lt oM];simpa using q1,by rw[List.getElem?_take_of_lt oM];simpa using q2,q3⟩
 ·rw[List.getElem?_take]at hj
  split at hj
  ·rw[Nat.zero_add,cell_of_row w b j cs tI _ e1]
   simpa using hj
  ·cases hj
theorem ZsV.below{w w':World}{v:Value}{ys:List Int}(h:ZsV w v ys)(hb:Below w.heap.size w w'):ZsV w' v ys:=by
 obtain⟨ao,n,c,rfl,h2,h5⟩:=h;refine⟨ao,n,c,rfl,h2,fun hne=>?_⟩;obtain⟨b,off,cells,e1,e2,e3,e4⟩:=h5 hne;refine⟨b,off,cells,e1,e2,fun k z hk=>?_,fun j u hj=>?_⟩
 ·obtain⟨s,a,l,c',q1,q2,q3⟩:=e3 k z hk
  exact⟨s,a,l,c',q1,q2,q3.ext (lx hb)⟩
 ·have:=e4 j u hj
  exact(hb.cell (p:=⟨b,off+j,none⟩) (World.block_lt_of_cell? w _ this)).trans this
theorem zNz.one{w:World}{cells:List Value}{ys:List Int}(h:zNz w cells ys)(hl:cells.length=ys.length*2):∀u∈cells,u.oneCell'=true:=by
 intro u hu;obtain⟨j,hj⟩:=List.getElem?_of_mem hu;have hlt:=(xge.1 hj).1;obtain⟨s,a,l,c,q1,q2,-⟩:=h (j/2) _ (xga oM);rcases Nat.mod_two_eq_zero_or_one j with e|e
 ·rw[show j/2*2=j by omega,hj]at q1
  injection q1 with q1
  subst q1;rfl
 ·rw[show j/2*2+1=j by omega,hj]at q2
  injection q2 with q2
  subst q2;rfl
theorem zNz.append{w:World}{c1 c2:List Value}{zs ys:List Int}(h1:zNz w c1 zs)(h2:zNz w c2 ys)(hl:c1.length=zs.length*2):zNz w (c1++c2) (zs++ys):=by
 intro k z hk;rcases Nat.lt_or_ge k zs.length with hlt|hge
 ·rw[List.getElem?_append_left hlt]at hk
  obtain⟨s,a,l,c,q1,q2,q3⟩:=h1 k z hk;exact⟨s,a,l,c,by rw[List.getElem?_append_left oM];exact q1,by rw[List.getElem?_append_left oM];exact q2,q3⟩
 ·rw[List.getElem?_append_right hge]at hk
  obtain⟨s,a,l,c,q1,q2,q3⟩:=h2 _ z hk;refine⟨s,a,l,c,?_,?_,q3⟩
  ·rw[List.getElem?_append_right oM,hl,show k*2-zs.length*2=(k-zs.length)*2 by omega];exact q1
  ·rw[List.getElem?_append_right oM,hl,show k*2+1-zs.length*2=(k-zs.length)*2+1 by omega];exact q2
theorem zNz.ext{w w':World}{c:List Value}{zs:List Int}(h:zNz w c zs)(x:yQ w w'):zNz w' c zs:=fun k z hk=>by
 obtain⟨s,a,l,c,q1,q2,q3⟩:=h k z hk;exact⟨s,a,l,c,q1,q2,q3.ext x⟩
theorem run_append_none(P:Program)(w:World)(t ty e:TypeId)(i:TypeInfo)(ht:P.underlying t=some (.slice e))(hi:P.info? e=some i)
  (g:Option Addr) (n cap:Nat) (hg:g=none->n=0/\cap=0) (hn:n<=cap) (ao:Option Addr) (c:Nat):
  (Builtin.append_ #[t,t] ty #[.slice g n cap,.slice ao 0 c]).run P w= .ok (.slice g n cap) w:=by
 cases g with
 |none=>
  obtain⟨rfl,rfl⟩:=hg rfl;cases ao<;>simp[Builtin.append_,run_underlying ht,sizeOf,typeInfo,hi,Builtin.lenOf,Builtin.firstCells,loadCells,loadCellsFrom]
 |some g=>
  cases ao<;>simp[Builtin.append_,run_underlying ht,sizeOf,typeInfo,hi,Builtin.lenOf,Builtin.firstCells,loadCells,loadCellsFrom,storeCells,hn]
theorem wpZ{w:World}{o:Oper}{a:Act}{K:Act->World->Prop}{Q:Exit->Act->World->Prop}(t:TypeId)(ht:Tryz.prog.underlying t=some (.slice tI))(s x:Operand)
  (ho:o.op= .call {callee:=.builtin .append,args:=#[s,x],argTypes:=#[t,t]})
  (base:Nat) (v:Value) (zs:List Int) (hs:a.eval s=v) (hown:zG4 w base v zs) (xv:Value) (ys:List Int) (hx:a.eval x=xv) (hy:ZsV w xv ys)
  (hlen:zs.length+ys.length<=1099511627776) (hbase:base<=w.heap.size)
  (hK:∀v' w',zG4 w' base v' (zs++ys)->w.grownBy w' v.ownBlock->yQ w w'->(v'.ownBlock=v.ownBlock∨∃g,v'.ownBlock=some g/\w.heap.size<=g)->K (a.put o.dst v') w'):Oper.wp Tryz.prog o a w K Q:=by
 obtain⟨i0,hi,hz0,hz1,hz2⟩:=info_parts Tryz.infoI;obtain⟨ao,n,c,rfl,hn,hc⟩:=hy;by_cases h0:ys= []
 ·subst h0
  obtain rfl:0=n:=by simpa using hn
  have hr:(Builtin.append_ #[t,t] o.type #[v,.slice ao 0 c]).run Tryz.prog w= .ok v w:=by
   obtain⟨cells,h1,-⟩:=hown;rcases h1.2 with⟨rfl,h0⟩|⟨g,cap,cur,rfl,e2,e3,e4,-⟩
   ·exact run_append_none Tryz.prog w t o.type tI i0 ht hi none 0 0 (fun _=>⟨rfl,rfl⟩) (xgf _) ao c
   ·exact run_append_none Tryz.prog w t o.type tI i0 ht hi _ _ cap (fun e=>by cases e) e4 ao c
  have h:=hK v w (by rwa[List.append_nil]) ⟨rfl,rfl,rfl,xgf _,fun _ _ _=>rfl⟩ (lx (Below.refl _ _)) (.inl rfl);unfold Oper.wp execOp;simp only[ho,resolve,invoke,builtin,Sem.run_bind,Sem.run_pure,Result.andThen_ok,List.map_toArray,List.map_cons,List.map_nil,hs,hx,hr];exact h
 ·obtain⟨b,off,news,rfl,hnl,hci,hcell⟩:=hc h0
  have hpos:0<ys.length:=List.length_pos_iff.2 h0;obtain⟨cells,h1,h2⟩:=hown;have hcl:cells.length=zs.length*2:=h1.1;have hnews:∀(j:Nat) (u:Value),news[j]?=some u->w.cell? ((⟨b,off,none⟩:Addr).add j)=some u:=fun j u hj=>by
   rw[Addr.add_lit];exact hcell j u hj
  have hone:=hci.one (by rw[hnl,hn]);have h63:zs.length+n<=maxLen:=by simp[maxLen];omega
  obtain⟨v',w',hr,k1,k2,-⟩:=run_append_own (P:=Tryz.prog) w base t o.type tI i0 _ 2 32 ht hi hz0 hz1 hz2 rfl oM v zs.length cells h1 ⟨b,off,none⟩ n c news hnl hnews hone h63 oM hbase;have h3:v'.ownBlock=v.ownBlock∨∃g,v'.ownBlock=some g/\w.heap.size<=g:=by
   rcases h1.2 with⟨rfl,h0⟩|⟨g,cap,cur,rfl,e2,e3,e4,e5,e6,e7⟩
   ·have hr2:=run_append_nil (P:=Tryz.prog) w t o.type tI i0 _ ht hi hz0 ⟨b,off,none⟩ n c news (by rw[hz1];exact hnl) hnews oM oM (by rw[hz2];omega)
    rw[hr2]at hr;injection hr with hv _
    exact .inr ⟨_,by rw[<-hv];rfl,xgf _⟩
   ·by_cases hroom:zs.length+n<=cap
    ·have hr2:=run_append_room (P:=Tryz.prog) w t o.type tI i0 ht hi g zs.length cap cur e3 ⟨b,off,none⟩ n c news (by rw[hz1];exact hnl) hnews hone hroom (by rw[hz1,e6,hnl];omega)
     rw[hr2]at hr;injection hr with hv _
     exact .inl (by rw[<-hv];rfl)
    ·have hr2:=run_append_grow (P:=Tryz.prog) w t o.type tI i0 _ ht hi hz0 ⟨g,0,none⟩ zs.length cap cells (by rw[hz1];exact hcl) (h1.cells (g:=g) rfl) ⟨b,off,none⟩ n c news (by rw[hz1];exact hnl) hnews oM oM (growslice_fits oM (by rw[hz2];omega))
     rw[hr2]at hr;injection hr with hv _
     exact .inr ⟨_,by rw[<-hv];rfl,xgf _⟩
  have hxg:=zBG h1 dE k2;have hvo:zG4 w' base v' (zs++ys):=⟨cells++news,by rw[List.length_append,hn];exact k1,(show zNz w cells zs from h2).ext hxg|>.append (hci.ext hxg) hcl⟩;have h:=hK v' w' hvo k2 hxg h3;unfold Oper.wp execOp;simp only[ho,resolve,invoke,builtin,Sem.run_bind,Sem.run_pure,Result.andThen_ok,List.map_toArray,List.map_cons,List.map_nil,hs,hx,hr];exact h
theorem appZ{w:World}{ops:Array Oper}{rest:List Oper}{o:Oper}{a:Act}{Q:Exit->Act->World->Prop}(t:TypeId)(ht:Tryz.prog.underlying t=some (.slice tI))(hgd:o.guard=none)(s x:Operand)
  (ho:o.op= .call {callee:=.builtin .append,args:=#[s,x],argTypes:=#[t,t]})
  (base:Nat) (v:Value) (zs:List Int) (hs:a.eval s=v) (hown:zG4 w base v zs) (xv:Value) (ys:List Int) (hx:a.eval x=xv) (hy:ZsV w xv ys)
  (hlen:zs.length+ys.length<=1099511627776) (hbase:base<=w.heap.size)
  (h:∀v' w',zG4 w' base v' (zs++ys)->w.grownBy w' v.ownBlock->yQ w w'->(v'.ownBlock=v.ownBlock∨∃g,v'.ownBlock=some g/\w.heap.size<=g)->wpList Tryz.prog ops Q rest (a.put o.dst v') w'):wpList Tryz.prog ops Q (o::rest) a w:=
 wpList_plain hgd fun _ hK=>wpZ t ht s x ho base v zs hs hown xv ys hx hy hlen hbase fun v' w' h1 h2 h3 h4=>hK _ _ (h v' w' h1 h2 h3 h4)
end Go.Proofs.YtgnmdddaiefooaaGreat
