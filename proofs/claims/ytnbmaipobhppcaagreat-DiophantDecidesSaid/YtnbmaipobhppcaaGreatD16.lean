/- matrix.New. matrix.Identity. matrix.Transpose. smith: the work under way; work.divide. hermite: join. hermite: the pivots; reduce. -/
import Derived.Defers
import Derived.Recover
import Derived.Test.YtnbmaipobhppcaaGreatD14
import Derived.Test.YtnbmaipobhppcaaGreatD15
set_option linter.unusedVariables false
set_option linter.unusedSimpArgs false
set_option linter.unusedSectionVars false
set_option maxHeartbeats 16000000
set_option maxRecDepth 100000
namespace Go.Proofs.YtnbmaipobhppcaaGreat
open Go.RowKit
theorem zKs(w:World):
  CallsD Tryz.prog 257 #[] .returning w fun e u' w'=>e= .returned (.tuple #[])/\u'= .returning/\w'=w:=by
 refine callsD_of_wpS Tryz.func257 rfl fun c₀ cs hu=>?_
 apply wpS_region;simp[wpOpsS,go_sem,recoverD,hu,Tryz.ntmps257,bodyPostS,results,Tryz.results257];cases c₀;simp_all
theorem mkR(m:Int)(n:Nat)(hm:m=n)(h:n<=1099511627776)(W:World):
  (Instr.makeSlice 26 (.int .i64 m) (.int .i64 m)).run Tryz.prog W= .ok (.slice (some ⟨W.heap.size,0,none⟩) n n) (W.alloc (.cells (madeCells (Value.slice none 0 0).cells (n*1)) tR)):=by
 subst hm;obtain⟨i0,hi,hz0,hz1,hz2⟩:=info_parts Tryz.infoR;have:=zAa (P:=Tryz.prog) 26 tR i0 _ Tryz.underlying26 hi hz0 .i64 .i64 n n (xgf _) (by rw[hz2];omega) oM W;rw[this,hz1]
def qZ(n C:Nat)(bs:List Nat):Array Value:=(yB C bs++List.replicate (n-bs.length) (Value.slice none 0 0)).toArray
theorem zCW(n C:Nat):madeCells #[Value.slice none 0 0] n=qZ n C []:=by
 apply Array.ext
 ·simp[madeCells,qZ,yB]
 ·intro i h1 h2
  simp[madeCells,qZ,yB,Nat.mod_one,Value.cells]
theorem zAX{n C:Nat}{bs:List Nat}(h:bs.length<=n):(qZ n C bs).size=n:=by simp[qZ,yB];omega
theorem zDv{n C b:Nat}{bs:List Nat}(h:bs.length<n):(qZ n C bs).setIfInBounds bs.length (.slice (some ⟨b,0,none⟩) C C)=qZ n C (bs++ [b]):=by
 apply Array.ext
 ·simp[qZ,yB];omega
 ·intro i h1 h2
  have hi:i<n:=by simpa[zAX (C:=C) (Nat.le_of_lt h)]using h1
  by_cases e:i=bs.length
  ·subst e
   simp[qZ,yB]
  ·have e2:bs.length≠i:=fun hh=>e hh.symm
   rw[Array.getElem_setIfInBounds_ne (by simpa using h1) e2];rcases Nat.lt_or_ge i bs.length with hl|hl
   ·simp[qZ,yB,hl,List.getElem_append,Nat.lt_succ_of_lt hl]
   ·have h3:¬ i<bs.length:=by omega
    have h4:¬ i<bs.length+1:=by omega
    obtain⟨p,hp⟩:∃p,i-bs.length=p+1:=⟨i-bs.length-1,by omega⟩;simp[qZ,yB,List.getElem_append,h3,h4,hp]
theorem zIZ(R C:Nat)(w:World)(hR:R<=1000000)(hC:C<=1000000):
  Calls Tryz.prog 218 #[.int .i64 R,.int .i64 C] w (zAs w R C (zAN R C)):=by
 have hmf:∀(fn:Fn) (first cap:Array Value) (w:World),(Instr.makeFunc fn first cap).run Tryz.prog w= .ok (.func fn first cap) w:=fun _ _ _ _=>rfl
 have hmkR:=fun W=>mkR (R:Int) R rfl oM W
 have hmkC:=fun W=>mkI (C:Int) C rfl oM W
 go_enter_defers Tryz.func218,Tryz.ntmps218;go_upto_region 4 with(fail)
 refine zB ?_;intro W0 hW0;obtain⟨hB0,br,bA,hs0⟩:=qI hW0;rw[zCW R C]at bA;clear hW0 hmkR;go_wp2;go_loopw [15] (fun iv wr=>∃(k:Nat) (bs:List Nat),k<=R/\iv= .int .i64 k/\bs.length=k/\bs.Nodup/\(∀b∈bs,w.heap.size+1<b/\qC wr b (zM C (fun _=>0)))/\Below w.heap.size w wr/\Blk wr w.heap.size 28 #[.int .i64 0,.int .i64 0,.slice none 0 0]/\Blk wr (w.heap.size+1) tR (qZ R C bs)) (fun iv _=>R-(intOf iv).toNat)
 case atStart=>exact⟨0,[],by omega,rfl,rfl,by simp,by simp,hB0,br,bA⟩
 case round=>
  obtain⟨k,bs,hk,rfl,hbl,hnd,hrows,hb,br,bA⟩:=hrel;have hsz:=hb.size;have HR:=xgv (And.intro hnd hrows);clear hnd hrows;by_cases hlt:k<R
  ·have hmkC:=hmkC wr
   have lA:=bA.lt;have lr:=br.lt;have bA1:Blk (wr.alloc (.cells (zeroCells C) tI)) (w.heap.size+1) tR (qZ R C bs):=bA.below ((Below.refl _ _).alloc (xgf _) _);have f1:=bA1.frozen k;obtain⟨u,f2⟩:∃u,(wr.alloc (.cells (zeroCells C) tI)).cell? ⟨w.heap.size+1,k,none⟩=some u:=by
    rw[bA1.cell k];exact⟨_,Array.getElem?_eq_getElem (by rw[zAX oM];exact hlt)⟩
   go_wp2;go_roundw
   case rel=>
    have hset:=bA.set_ k (.slice (some ⟨wr.heap.size,0,none⟩) C C);rw[<-hbl,zDv oM,hbl]at hset;have hsw:(wr.setCell ⟨w.heap.size+1,k,none⟩ (.slice (some ⟨wr.heap.size,0,none⟩) C C)).heap.size=wr.heap.size:=by simp[World.setCell]
    have hx1:=bA.lext dE k (.slice (some ⟨wr.heap.size,0,none⟩) C C);have hb3:Below (wr.setCell ⟨w.heap.size+1,k,none⟩ (.slice (some ⟨wr.heap.size,0,none⟩) C C)).heap.size (wr.setCell ⟨w.heap.size+1,k,none⟩ (.slice (some ⟨wr.heap.size,0,none⟩) C C)) ((wr.setCell ⟨w.heap.size+1,k,none⟩ (.slice (some ⟨wr.heap.size,0,none⟩) C C)).alloc (.cells (zeroCells C) tI)):=(Below.refl _ _).alloc (xgf _) _;refine⟨k+1,bs++ [wr.heap.size],by omega,by simp,by simp[hbl],?_,?_,(zT hb oM _ _).alloc oM _,?_,hset.below hb3⟩
    ·rw[List.nodup_append]
     refine⟨HR.out.1,by simp,fun x hx y hy=>?_⟩;simp at hy;subst hy;have:=(HR.out.2 x hx).2.lt;omega
    ·intro b hb'
     rcases List.mem_append.1 hb' with h1|h1
     ·obtain⟨h2,h3⟩:=HR.out.2 b h1
      exact⟨h2,(h3.old (zV _ _ _ _ _ oM) hx1).below hb3⟩
     ·simp at h1
      subst h1;refine⟨by omega,?_⟩;have h4:=zDC (wr.setCell ⟨w.heap.size+1,k,none⟩ (.slice (some ⟨wr.heap.size,0,none⟩) C C)) C;have h5:List.replicate C (0:Int)=zM C (fun _=>0):=by
       apply List.ext_getElem
       ·simp[zM]
       ·intro i h1 h2;simp[zM]
      rw[h5,hsw]at h4;exact h4
    ·exact Blk.below (Blk.far br oM _ _) hb3
   case measure=>simp[intOf];omega
  ·obtain rfl:k=R:=by omega
   obtain⟨c1,c2,c3,c4,c5,c6⟩:=br.three;have hz0:List.replicate C (0:Int)=zM C (fun _=>0):=by
    apply List.ext_getElem
    ·simp[zM]
    ·intro i h1 h2;simp[zM]
   have HZ:=xgv hz0;have hpr:(qZ k C bs).toList=yB C bs:=by simp[qZ,hbl]
   have HPR:=xgv hpr;clear hz0 hpr;go_wp2;refine leaves_cons (f:=257) (args:=#[]) sI (by simp[go_sem]) ?_;refine(zKs _).mono ?_;rintro e u' w'' ⟨rfl,rfl,rfl⟩;have hx:=br.lext3 dE (.int .i64 k) (.int .i64 C) (.slice (some ⟨w.heap.size+1,0,none⟩) k k);refine⟨_,results_cell_row rfl _ _ w.heap.size _ _ _ _ rfl (br.put3 _ _ _) Tryz.underlying28 rfl (by rw[Tryz.sizeM];rfl),_,bs,rfl,⟨hbl,_,rfl,?_⟩,zT (zT (zT hb oM 0 _) oM 1 _) oM 2 _⟩;refine⟨⟨by simp[yB],.inr ⟨w.heap.size+1,k,qZ k C bs,by rw[hbl],by omega,(yN _ _ _ _ _ _ oM).trans bA,by omega,by simp[maxLen];omega,by rw[zAX oM];omega,?_⟩⟩,by simp[zAN,hbl],?_,HR.out.1,by omega⟩
   ·rw[HPR.out,hbl,Nat.mul_one,List.take_of_length_le (by simp[yB,hbl])]
   ·intro i b r hi hr
    have hm:=xgd hi;obtain⟨h1,h2⟩:=HR.out.2 b hm;have hik:i<k:=by have:=(xge.1 hi).1;omega
    obtain rfl:r=List.replicate C 0:=by
     unfold zAN at hr;rw[List.getElem?_replicate,if_pos hik]at hr;injection hr with hr
     exact hr.symm
    refine⟨by omega,by simp,?_⟩;rw[HZ.out];exact h2.old (yN _ _ _ _ _ _ oM) hx
theorem zF3(n:Nat)(w:World)(hn:n<=1000000):Calls Tryz.prog 151 #[.int .i64 n] w (zAs w n n (zX n n idf)):=by
 go_enter Tryz.func151,Tryz.ntmps151;go_upto_region 1 with(fail)
 refine zB ?_;intro W0 hW0;obtain⟨hB0,br,hs0⟩:=zK hW0;go_wp2_with fail
 refine(zIZ n n W0 hn hn).mono ?_;rintro e w2 ⟨u,bs,rfl,⟨hbl,A2,rfl,ho⟩,hb2⟩;obtain⟨oo,on,oc,rfl,hon,-,-,-⟩:=id ho.rows;obtain rfl:n=on:=by rw[<-hon];simp[zAN]
 clear hon;have hlts:=ho.lts;go_upto_region 2 with(fail)
 refine zB ?_;intro W3 hW3;obtain⟨hB3,T5,hs3⟩:=zK hW3;have br:=(br.below hb2).below hB3;have ho:=ho.below hB3;have hz0:zAN n n=zX n n (zNV 0):=by rw[zCO];exact qK fun i _ j _=>by unfold zNV;rw[if_neg oM]
 rw[hz0]at ho;have hBt:=nx (nx hB0 hb2) hB3;have q1:=hB0.size;have q2:=hb2.size;obtain⟨f1,f2,f3,f4,f5,f6⟩:=T5.three;clear hW3 hW0 hz0;go_wp2;clear f1 f2 f3 f4 f5 f6;go_loopw [11] (fun iv wr=>∃i:Nat,i<=n/\iv= .int .i64 i/\Below w.heap.size w wr/\Blk wr w.heap.size 28 #[.int .i64 0,.int .i64 0,.slice none 0 0]/\Blk wr w2.heap.size 28 #[.int .i64 n,.int .i64 n,.slice oo n oc]/\zS wr W0.heap.size (.slice oo n oc) n bs (zX n n (zNV i))) (fun iv _=>n-(intOf iv).toNat)
 case atStart=>exact⟨0,by omega,rfl,hBt,br,T5,ho⟩
 case round=>
  obtain⟨i,hi,rfl,hb,br,T5,ho⟩:=hrel;obtain⟨f1,f2,f3,f4,f5,f6⟩:=T5.three;by_cases hlt:i<n
  ·obtain⟨g,bo,rfl,hg,hbo,hbo2,o1,ho3⟩:=ho.at_ (i:=i) oM
   clear ho3;have lt5:=T5.lt;go_upto_region 5 with(fail)
   refine zC 8 rfl (RI wr (wr.heap.size) _ 35
     [VP 0 14 w2.heap.size 2,VSl 1 15 g n oc,VN 2 16 i,VP 3 17 g i,VSl 4 18 bo n n,VN 5 19 i,EI 6 20 (1),VP 7 21 bo (i*2)] [] []) kR RI.start (RI.fin kR ?fin1) ?steps1
   case steps1=>
    refine⟨?_,?_,?_,?_,?_,?_,?_,?_,trivial⟩<;>(intro L T wS hL hd hcl hI K hK;try refine zA rfl ?_)
    ·exact xgs (hI.k 3 rfl kR)
    ·have zt0:=hI.e mm0 (hd 0)
     have cc0:=hI.cell f3 oM nom;exact xgu
    ·exact xgs (hI.k 4 rfl kR)
    ·exact xgt (hI.e mm1 (hd 1)) (hI.e mm2 (hd 2))
    ·have zt3:=hI.e mm3 (hd 3)
     have cc0:=hI.cell o1 oM nom;exact xgu
    ·exact xgs (hI.k 4 rfl kR)
    ·go_simp
     refine(zBF 1 _ oM oM).mono ?_;exact xgo
    ·exact xgt (hI.e mm4 (hd 4)) (hI.e mm5 (hd 5))
   intro w9 hlw9 hbw9 holdw9 T hT;simp only[Fin,E,EI,VP,VSl,VN,xgg,xgh,xgi,xgj]at hT;obtain⟨va6,ha6,rfl⟩:=hT;simp only[xgl,xgk];obtain⟨pn,pa,pl,pc,px,rfl,hpx⟩:=id ha6;have HPX:=xgw hpx;clear hpx;have ho9:=ho.below hbw9;obtain⟨sn,sa,sl,sc,z1,z2,z3,z4,-⟩:=ho9.cellAt hbo hlt;have hbolt:=hlts i bo hbo;have hset:=ho9.set hbo hlt ha6;go_wp2;go_roundw
   case rel=>
    have hq:zLQ (zX n n (zNV i)) i i 1=zX n n (zNV (i+1)):=by
     rw[zB8 _ hlt hlt];exact qK fun a _ b _=>by
      unfold zNV;by_cases h:a=i/\b=i
      ·rw[if_pos h,if_pos oM]
      ·rw[if_neg h]
       by_cases h2:a=b/\a<i
       ·rw[if_pos h2,if_pos oM]
       ·rw[if_neg h2,if_neg oM]
    rw[hq]at hset;exact⟨i+1,by omega,by simp,zT (zT (nx hb hbw9) oM _ _) oM _ _,(zR _ _ _ _ _ _ _ oM).trans (br.below hbw9),(zR _ _ _ _ _ _ _ oM).trans (T5.below hbw9),hset.1⟩
   case measure=>simp[intOf];omega
  ·obtain rfl:i=n:=by omega
   have hq:zX i i (zNV i)=zX i i idf:=qK fun a ha b _=>by
    unfold zNV idf;by_cases h:a=b
    ·rw[if_pos ⟨h,ha⟩,if_pos h]
    ·rw[if_neg (fun h2=>h h2.1),if_neg h]
   rw[hq]at ho;obtain⟨r1,r2,r3,r4,r5,r6⟩:=br.three;go_wp2;refine qY rfl rfl rfl (br.put3 _ _ _) ⟨_,bs,rfl,⟨hbl,_,rfl,?_⟩,zT (zT (zT hb oM 0 _) oM 1 _) oM 2 _⟩;exact(ho.keep (fun k hk=>yN _ _ k _ _ _ oM) (br.lext3 dE _ _ _)).mono q1
def zJs(f:Nat->Nat->Int)(i j:Nat):Nat->Nat->Int:=fun a b=>if b<i∨(b=i/\a<j)then f a b else 0
theorem zJi(R C:Nat)(f:Nat->Nat->Int):zAN R C=zX R C (zJs f 0 0):=by
 rw[zCO];exact qK fun i _ j _=>by unfold zJs;rw[if_neg oM]
theorem zNG{R C:Nat}{f:Nat->Nat->Int}{i:Nat}:zX R C (zJs f i R)=zX R C (zJs f (i+1) 0):=
 qK fun a ha b hb=>by
  unfold zJs;by_cases h:b<i∨(b=i/\a<R)
  ·rw[if_pos h,if_pos oM]
  ·rw[if_neg h,if_neg oM]
theorem zNF{R C:Nat}{f:Nat->Nat->Int}:zX R C (zJs f C 0)=zX R C f:=
 qK fun a ha b hb=>by unfold zJs;rw[if_pos oM]
theorem zLe{R C:Nat}{f:Nat->Nat->Int}{i j:Nat}(hi:i<C)(hj:j<R):zLQ (zX R C (zJs f i j)) j i (f j i)=zX R C (zJs f i (j+1)):=by
 rw[zB8 _ hj hi];exact qK fun a _ b _=>by
  unfold zJs;by_cases h:a=j/\b=i
  ·obtain⟨rfl,rfl⟩:=h
   rw[if_pos ⟨rfl,rfl⟩,if_pos oM]
  ·rw[if_neg h]
   by_cases h2:b<i∨(b=i/\a<j)
   ·rw[if_pos h2,if_pos oM]
   ·rw[if_neg h2,if_neg oM]
theorem zCU(v:Value)(R C:Nat)(M:List (List Int))(w:World)(h:yP w v R C M)(hF:jK R C M)(hR:R<=1000000)(hC:C<=1000000)(hS:∀r∈M,∀z∈r,Sm z):
  Calls Tryz.prog 155 #[v] w (zAs w C R (zX C R (fun a b=>ent M b a))):=by
 have h0:=h;obtain⟨A,rfl,h⟩:=h;obtain⟨ao,n,cap,rfl,e2,e3,e4,-⟩:=id h;have HX:=xgw e2;have HS:=xgv hS;have HF:=xgv hF;obtain rfl:n=R:=by rw[<-e2,hF.1]
 have hdv:decide (qX n C M)=true:=decide_eq_true hF.valid;obtain⟨f,hf⟩:∃f:Nat->Nat->Int,(fun a b=>ent M b a)=f:=⟨_,rfl⟩;rw[hf];have hfe:∀i j,f i j=ent M j i:=fun i j=>by rw[<-hf]
 have HFE:=xgv hfe;clear hf hfe e2 hS hF;go_enter Tryz.func155,Tryz.ntmps155;go_upto_region 1 with(fail)
 refine zB ?_;intro W0 hW0;obtain⟨hB0,bx1,br,hs0⟩:=qI hW0;obtain⟨c1,c2,c3,c4,c5,c6⟩:=bx1.three;clear hW0;go_wp2_with fail
 refine(yK _ n C M W0 (h0.below hB0)).mono ?_;rintro e w1 ⟨rfl,hb1⟩;rw[hdv];have bx1:=bx1.below hb1;have br:=br.below hb1;clear c1 c2 c3 c4 c5 c6 hdv;obtain⟨c1,c2,c3,c4,c5,c6⟩:=bx1.three;go_wp2_with fail
 refine(zIZ C n w1 hC hR).mono ?_;rintro e w2 ⟨u,bs,rfl,⟨hbl,A2,rfl,ho⟩,hb2⟩;obtain⟨oo,on,oc,rfl,hon,-,-,-⟩:=id ho.rows;obtain rfl:C=on:=by rw[<-hon];simp[zAN]
 clear hon;have hlts:=ho.lts;have hBt:=nx hB0 hb1;have hszt:=hBt.size;have hB0s:=hB0.size;have hb1s:=hb1.size;clear c1 c2 c3 c4 c5 c6;go_upto_region 4 with(fail)
 refine zB ?_;intro W3 hW3;obtain⟨hB3,T5,hs3⟩:=zK hW3;have bx1:=(bx1.below hb2).below hB3;have br:=(br.below hb2).below hB3;have ho:=ho.below hB3;rw[zJi C n f]at ho;have hBt:=nx (nx hBt hb2) hB3;have q2:=hb2.size;obtain⟨c1,c2,c3,c4,c5,c6⟩:=bx1.three;clear hW3;go_wp2;clear c1 c2 c3 c4 c5 c6;go_loopw [20] (fun iv wr=>∃i:Nat,i<=n/\iv= .int .i64 i/\Below w.heap.size w wr∧
  Blk wr (w.heap.size+1) 28 #[.int .i64 0,.int .i64 0,.slice none 0 0]/\Blk wr w2.heap.size 28 #[.int .i64 C,.int .i64 n,.slice oo C oc]/\zS wr w1.heap.size (.slice oo C oc) n bs (zX C n (zJs f i 0))) (fun iv _=>n-(intOf iv).toNat)
 case atStart=>exact⟨0,by omega,rfl,hBt,br,T5,ho⟩
 case round=>
  obtain⟨i,hi,rfl,hb,br,T5,ho⟩:=hrel;by_cases hlt:i<n
  ·obtain⟨b,ra,rn,rc,zs,rfl,hbl1,hz,p1,hv⟩:=h.row (k:=i) (by rw[HX.out];exact hlt)
   have hzl:=HF.out.2 zs (xgd hz);have hvl:=hv.len;obtain rfl:C=rn:=by omega
   have HZ:=xgv (And.intro hz hzl);have p1:=zI p1 hb;obtain⟨hvl1,hvl2,hvl3⟩:=hvl;clear hz hzl hvl1;go_wp2;clear p1;go_loopw [27] (fun jv wt=>∃j:Nat,j<=C/\jv= .int .i64 j/\Below w.heap.size w wt∧
    Blk wt (w.heap.size+1) 28 #[.int .i64 0,.int .i64 0,.slice none 0 0]/\Blk wt w2.heap.size 28 #[.int .i64 C,.int .i64 n,.slice oo C oc]/\zS wt w1.heap.size (.slice oo C oc) n bs (zX C n (zJs f i j))) (fun jv _=>C-(intOf jv).toNat)
   case atStart=>exact⟨0,by omega,rfl,hb,br,T5,ho⟩
   case round=>
    rename World=>wt
    obtain⟨j,hj,rfl,hb,br,T5,ho⟩:=hrel;by_cases hjc:j<C
    ·obtain⟨b',z,s,a,l,c,rfl,hbl',hzk,q1,q2',hzv⟩:=(hv.below hb).cell (k:=j) (by rw[HZ.out.2];exact hjc)
     have hent:=xgw ((HFE.out j i).trans (zAU HZ.out.1 hzk));have SZ:qF (Sm z):=⟨HS.out _ (xgd HZ.out.1) _ (xgd hzk)⟩;clear hzk;have lt2:=br.lt;have lt5:=T5.lt;have hbs:=hb.size;go_upto_region 10 with(fail)
     refine zB ?_;intro W6 hW6;obtain⟨hB6,T7,hs6⟩:=zK hW6;obtain⟨d1,d2,d3,d4⟩:=T7.two;have br:=br.below hB6;have T5:=T5.below hB6;have ho:=ho.below hB6;have hzv:=hzv.ext (lx hB6);have hb:=nx hb hB6;clear q1 q2' hW6;obtain⟨g,bo,rfl,hg,hbo,hbo2,o1,ho3⟩:=ho.at_ (i:=j) oM;obtain⟨f1,f2,f3,f4,f5,f6⟩:=T5.three;clear ho3;have lt5:=T5.lt;have lt7:=T7.lt;refine zC 9 rfl (RI W6 (W6.heap.size) _ 35
       [VP 0 32 w2.heap.size 2,VSl 1 33 g C oc,VN 2 34 j,VP 3 35 g j,VSl 4 36 bo n n,VN 5 37 i,E 6 38 (.agg #[.bool s,.slice a l c]),EI 7 39 (z),VP 8 40 bo (i*2)] [] []) kR RI.start (RI.fin kR ?fin1) ?steps1
     case steps1=>
      refine⟨?_,?_,?_,?_,?_,?_,?_,?_,?_,trivial⟩<;>(intro L T wS hL hd hcl hI K hK;try refine zA rfl ?_)
      ·exact xgs (hI.k 3 rfl kR)
      ·have zt0:=hI.e mm0 (hd 0)
       have cc0:=hI.cell f3 oM nom;exact xgu
      ·exact xgs (hI.k 6 rfl kR)
      ·exact xgt (hI.e mm1 (hd 1)) (hI.e mm2 (hd 2))
      ·have zt3:=hI.e mm3 (hd 3)
       have cc0:=hI.cell o1 oM nom;exact xgu
      ·exact xgs (hI.k 4 rfl kR)
      ·have zt:=hI.k 7 rfl kR
       have cc0:=hI.cell d1 oM nom;have cc1:=hI.cell d2 oM nom;exact xgu
      ·have zt6:=hI.e mm6 (hd 6)
       go_simp;refine(zOX _ z _ (hzv.ext hI.lext) SZ.out).mono ?_;exact xgo
      ·exact xgt (hI.e mm4 (hd 4)) (hI.e mm5 (hd 5))
     intro w9 hlw9 hbw9 holdw9 T hT;simp only[Fin,E,EI,VP,VSl,VN,xgg,xgh,xgi,xgj]at hT;obtain⟨va7,ha7,rfl⟩:=hT;simp only[xgl,xgk];obtain⟨pn,pa,pl,pc,px,rfl,hpx⟩:=id ha7;have HPX:=xgw hpx;clear hpx;have ho9:=ho.below hbw9;obtain⟨sn,sa,sl,sc,z1,z2,z3,z4,-⟩:=ho9.cellAt hbo hlt;have hbolt:=hlts j bo hbo;have hset:=ho9.set hbo hlt ha7;have hbo9:=hset.2.2;go_wp2;go_roundw
     case rel=>
      have hq:z=f j i:=hent.out.symm;rw[hq,zLe hlt hjc]at hset;exact⟨j+1,by omega,by simp,zT (zT (nx hb hbw9) oM _ _) oM _ _,(zR _ _ _ _ _ _ _ oM).trans (br.below hbw9),(zR _ _ _ _ _ _ _ oM).trans (T5.below hbw9),hset.1⟩
     case measure=>simp[intOf];omega
    ·obtain rfl:j=C:=by omega
     rw[zNG]at ho;go_wp2;go_roundw
     case rel=>exact⟨i+1,by omega,by simp,hb,br,T5,ho⟩
     case measure=>simp[intOf];omega
  ·obtain rfl:i=n:=by omega
   rw[zNF]at ho;obtain⟨f1,f2,f3,f4,f5,f6⟩:=T5.three;obtain⟨r1,r2,r3,r4,r5,r6⟩:=br.three;go_wp2;refine qY rfl rfl rfl (br.put3 _ _ _) ⟨_,bs,rfl,⟨hbl,_,rfl,?_⟩,zT (zT (zT hb oM 0 _) oM 1 _) oM 2 _⟩;exact(ho.keep (fun k hk=>yN _ _ k _ _ _ oM) (br.lext3 dE _ _ _)).mono oM
def Zn(A:Value)(bs:List Nat)(b:Nat):Prop:=b∈bs∨A.ownBlock=some b
def Ap(A:Value)(bs:List Nat)(A':Value)(bs':List Nat):Prop:=∀b,Zn A bs b->¬ Zn A' bs' b
theorem Ap.far{A A':Value}{bs bs':List Nat}(h:Ap A bs A' bs'):Far bs bs':=fun b h1 h2=>h b (.inl h1) (.inl h2)
theorem Ap.own{A A':Value}{bs bs':List Nat}(h:Ap A bs A' bs'):∀g,A.ownBlock=some g->A'.ownBlock≠some g:=fun g h1 h2=>h g (.inr h1) (.inr h2)
theorem Wri.zlt{w:World}{A:Value}{R C:Nat}{bs:List Nat}{F:Nat->Nat->Int}(h:Wri w A R C bs F){b:Nat}(hb:Zn A bs b):b<w.heap.size:=by
 rcases hb with hb|hb
 ·exact(h.blk hb).elim fun r hr=>hr.lt
 ·rcases(zS.own h).2 with⟨rfl,-⟩|⟨g,cap,cur,rfl,-,hh,-⟩
  ·cases hb
  ·simp only[Value.ownBlock,Option.some.injEq]at hb
   subst hb;exact(Array.getElem?_eq_some_iff.1 hh).1
theorem Wri.keepZ{Z:Nat->Prop}{w w':World}{A:Value}{R C:Nat}{bs:List Nat}{F:Nat->Nat->Int}(h:Wri w A R C bs F)(ho:zY Z w w')(hz:∀b,Zn A bs b->¬ Z b):Wri w' A R C bs F:=
 zS.same h (fun b hb=>ho.old b (h.zlt (.inl hb)) (hz b (.inl hb))) (fun g hg=>ho.old g (h.zlt (.inr hg)) (hz g (.inr hg))) ho.lext
theorem Wri.rown{w:World}{A A':Value}{R C R' C':Nat}{bs bs':List Nat}{F F':Nat->Nat->Int}(h:Wri w A R C bs F)(h':Wri w A' R' C' bs' F'){b:Nat}(hb:b∈bs):A'.ownBlock≠some b:=by
 intro e;obtain⟨r,hr⟩:=h.blk hb;exact zDA (zS.own h') hr e.symm
structure BSd(B:Nat):Prop where
 smd:∀z:Int,z.natAbs<B->Smd z
theorem BSd.bsm{B:Nat}(h:BSd B):BSm B:=⟨fun z hz=>(h.smd z hz).sm⟩
def zPh(B C:Nat)(F:Nat->Nat->Int)(i j:Nat)(m0 m1 m2 m3:Int):Prop:=
 m0.natAbs<B/\m1.natAbs<B/\m2.natAbs<B/\m3.natAbs<B/\∀t,t<C->(F i t).natAbs<B/\(F j t).natAbs<B/\(m0*F i t).natAbs<B/\(m1*F j t).natAbs<B/\(m2*F i t).natAbs<B/\(m3*F j t).natAbs<B
structure zQX(B C Cu Cw:Nat)(z:W5)(i j:Nat):Prop where
 sz:(z.s i i).natAbs<B/\(z.s j j).natAbs<B
 g0:Int.gcd (z.s i i) (z.s j j)≠0
 all:∀g u v s t:Int,g=((Int.gcd (z.s i i) (z.s j j):Nat):Int)->u=z.s i i/g->v=z.s j j/g->Bez (z.s i i) (z.s j j) s t->
  (z.s i i*v).natAbs<B/\(t*v).natAbs<B/\zPh B Cu z.u i j s t (-v) u/\zPh B Cu z.v i j u v (-t) s/\zPh B Cw z.w i j 1 1 (-(t*v)) (1-t*v)/\zPh B Cw z.x i j (1-t*v) (t*v) (-1) 1
abbrev zAl:TypeId:=274
theorem zAv.row{e:Bool}{Z:Nat->Prop}{w:World}{bw g a cap n Cs Ct:Nat}{x:Bst}(h:zAv e Z w bw (.slice (some ⟨g,0,none⟩) a cap) n Cs Ct x){i:Nat}(hi:i<n):
  ∃b,w.cell? ⟨g,i,none⟩=some (.slice (some ⟨b,0,none⟩) Cs Cs)/\qC w b (zM Cs (x.s i))/\g<w.heap.size:=by
 obtain⟨bss,hw,-⟩:=h.wri;obtain⟨g1,b,eg,hg,hb,-,o1,-⟩:=zS.at_ hw (i:=i) (by rw[hw.len];exact hi);obtain rfl:g=g1:=by injection eg with eg;injection eg
 exact⟨b,o1,hw.rowAt hi hb,hg⟩
theorem zAv.only{e:Bool}{Z:Nat->Prop}{w w':World}{bw b n Cs Ct:Nat}{Ah:Value}{x:Bst}{cs:Array Value}(h:zAv e Z w bw Ah n Cs Ct x)(ho:yC [b] w w')(hz:¬ Z b)(hb:Blk w b 35 cs):zAv e Z w' bw Ah n Cs Ct x:=by
 have hr:qC w b []:=⟨cs,hb,fun k z hk=>by simp at hk⟩;unfold zAv at h ⊢
 split at h
 ·rename_i he
  rw[if_pos he];obtain⟨Au,Av,b1,b2,b3,h1,h2,h3⟩:=h;exact⟨Au,Av,b1,b2,b3,h1.row ho hr dE,⟨h2.s.only ho (fun hm=>hz (h3 _ (.inl hm))) hr,h2.t.only ho (fun hm=>hz (h3 _ (.inr (.inl hm)))) hr,h2.i.only ho (fun hm=>hz (h3 _ (.inr (.inr hm)))) hr,h2.st,h2.si,h2.ti,h2.ast,h2.asi,h2.ati⟩,h3⟩
 ·rename_i he
  rw[if_neg he];obtain⟨h0,Au,Av,b1,h1,h2,h3,h4,h5⟩:=h;exact⟨h0,Au,Av,b1,h1.row ho hr dE,h2.only ho (fun hm=>hz (h5 _ hm)) hr,h3.row ho hr,h4.row ho hr,h5⟩
theorem zIb{w:World}{b:Nat}{x y c0 c1:Value}(hb:Blk w b 35 #[c0,c1]):yC [b] w ((w.setCell ⟨b,0,none⟩ x).setCell ⟨b,1,none⟩ y):=
 ⟨zT (zT (Below.refl 0 _) (Nat.zero_le _) _ _) (Nat.zero_le _) _ _,hb.lext2 dE _ _,fun k _ hk=>zR _ _ _ _ _ _ _ (by simpa using hk)⟩
theorem zY.new{Z:Nat->Prop}{w w1 w2:World}{b:Nat}(h:zY Z w w1)(ho:yC [b] w1 w2)(hb:w.heap.size<=b):zY Z w w2:=
 ⟨h.bel.trans ho.bel,h.lext.trans ho.lext,fun k hk hn=>(ho.old k (Nat.lt_of_lt_of_le hk h.bel.size) (by simp;omega)).trans (h.old k hk hn)⟩
theorem zMX{e0:Bool}{Z:Nat->Prop}{B:Nat}(hB:BSd B){bw n Cs Ct r m c:Nat}{Ah:Value}{x:Bst}{w:World}(h:zAv e0 Z w bw Ah n Cs Ct x)(hok:okB B n Cs Ct x)(hr:r<n)(hm:m<n)(hrm:r≠m)(hc:c<Cs)(h0:x.s r c≠0)
  (hn:n<=1000000) (hCs:Cs<=1000000) (hCt:Ct<=1000000) (hZ:∀b,Z b->b<w.heap.size)
  (ha:x.s m c%x.s r c=0->zDa B n Cs Ct x m r (-(x.s m c/x.s r c)))
  (hx:∀s t,Bez (x.s r c) (x.s m c) s t->zKu B n Cs Ct x r m s t (-(x.s m c/((Int.gcd (x.s r c) (x.s m c):Nat):Int))) (x.s r c/((Int.gcd (x.s r c) (x.s m c):Nat):Int))):
  Calls Tryz.prog 258 #[Ah,.agg #[.int .i64 r,.int .i64 c],.int .i64 m,.agg (zA6 bw)] w fun e w'=>(∃u,e= .returned u)/\zY Z w w'/\∃y,zI2 x r m c y/\zAv e0 Z w' bw Ah n Cs Ct y:=by
 obtain⟨bss0,hw0,-⟩:=h.wri;obtain⟨so,sn,cap,rfl,s1,-⟩:=id (zS.rows hw0);have e2:n=sn:=by rw[<-s1];simp[zX]
 subst e2;obtain⟨g,_,rfl,-⟩:=zS.at_ hw0 (i:=r) (by rw[hw0.len];exact hr);clear s1 hw0 bss0;have HOK:=xgv hok;have HAD:=xgv ha;have HMX:=xgv hx;obtain⟨X,hX⟩:∃X,x.s r c=X:=⟨_,rfl⟩;obtain⟨Y,hY⟩:∃Y,x.s m c=Y:=⟨_,rfl⟩;have HXV:=xgw hX;have HYV:=xgw hY;have SX:qF (Smd X):=⟨by rw[<-hX];exact hB.smd _ (hok.1 r hr c hc)⟩;have SY:qF (Smd Y):=⟨by rw[<-hY];exact hB.smd _ (hok.1 m hm c hc)⟩;rw[hX]at h0 HAD HMX;rw[hY]at HAD HMX;have HH:=xgv h;obtain⟨br,o1,r1,hg⟩:=h.row hr;obtain⟨bm,o2,r2,-⟩:=h.row hm;obtain⟨xn,xa,xl,xc,q1,q2,-,-,hxv⟩:=r1.cell (zO hc);obtain⟨yn,ya,yl,yc,q3,q4,-,-,hyv⟩:=r2.cell (zO hc);rw[hX]at hxv;rw[hY]at hyv;have lr1:=r1.lt;have lr2:=r2.lt;clear hok ha hx hX hY h r1 r2;go_enter Tryz.func258,Tryz.ntmps258;go_upto_region 1 with(fail)
 refine zB ?_;intro W0 hW0;obtain⟨hB0,T5,T7,hs0⟩:=qI hW0;have T7:Blk W0 (w.heap.size+1) 272 (zA6 bw):=T7;have hO:=zY.of Z hB0;have HH:=xgv (HH.out.below hB0);have o1:=zI o1 hB0;have o2:=zI o2 hB0;have q1:=zI q1 hB0;have q2:=zI q2 hB0;have q3:=zI q3 hB0;have q4:=zI q4 hB0;have hxv:=hxv.ext (lx hB0);have hyv:=hyv.ext (lx hB0);obtain⟨p1,p2,p3,p4⟩:=T5.two;have l5:=T5.lt;have lz:=hB0.size;clear hW0;refine zE rfl (RI W0 (W0.heap.size) _ 35
   [VSl 0 16 g n cap,VP 1 17 w.heap.size 0,VN 2 18 r,VP 3 19 g r,VSl 4 20 br Cs Cs,VP 5 21 w.heap.size 1,VN 6 22 c,VP 7 23 br (c*2),EI 8 24 (X),VSl 9 25 g n cap,VN 10 26 m,VP 11 27 g m,VSl 12 28 bm Cs Cs,VP 13 29 w.heap.size 1,VN 14 30 c,VP 15 31 bm (c*2),EI 16 32 (Y)] [⟨17,8,19,fun w v=>zH w v (X)⟩,⟨18,9,20,fun w v=>zH w v (Y)⟩] []) kR RI.start ?fin1 ?steps1
 case steps1=>
  refine⟨?_,?_,?_,?_,?_,?_,?_,?_,?_,?_,?_,?_,?_,?_,?_,?_,?_,?_,?_,?_,?_,trivial⟩<;>(intro L T wS hL hd hcl hI K hK;try refine zA rfl ?_)
  ·exact xgs (hI.k 0 rfl kR)
  ·exact xgs (hI.k 5 rfl kR)
  ·have zt1:=hI.e mm1 (hd 1)
   have cc0:=hI.cell p1 oM nom;exact xgu
  ·exact xgt (hI.e mm0 (hd 0)) (hI.e mm2 (hd 2))
  ·have zt3:=hI.e mm3 (hd 3)
   have cc0:=hI.cell o1 oM nom;exact xgu
  ·exact xgs (hI.k 5 rfl kR)
  ·have zt5:=hI.e mm5 (hd 5)
   have cc0:=hI.cell p2 oM nom;exact xgu
  ·exact xgt (hI.e mm4 (hd 4)) (hI.e mm6 (hd 6))
  ·have zt7:=hI.e mm7 (hd 7)
   have cc0:=hI.cell q1 oM nom;have cc1:=hI.cell q2 oM nom;go_simp;exact hK _ _ (hI.n mm8 (hxv.ext hI.lext))
  ·exact xgs (hI.k 0 rfl kR)
  ·exact xgs (hI.k 2 rfl kR)
  ·exact xgt (hI.e mm9 (hd 9)) (hI.e zAC (hd 10))
  ·have zt11:=hI.e zAJ (hd 11)
   have cc0:=hI.cell o2 oM nom;exact xgu
  ·exact xgs (hI.k 5 rfl kR)
  ·have zt13:=hI.e zCF (hd 13)
   have cc0:=hI.cell p2 oM nom;exact xgu
  ·exact xgt (hI.e zAo (hd 12)) (hI.e zBp (hd 14))
  ·have zt15:=hI.e zCS (hd 15)
   have cc0:=hI.cell q3 oM nom;have cc1:=hI.cell q4 oM nom;go_simp;exact hK _ _ (hI.n zDs (hyv.ext hI.lext))
  ·go_simp
   exact hK _ _ (hI.alloc ⟨17,8,19,_⟩ mm0 rfl hL)
  ·go_simp
   exact hK _ _ (hI.alloc ⟨18,9,20,_⟩ mm1 rfl hL)
  ·obtain⟨v,t1,hv⟩:=hI.vi mm8 (hd 8)
   obtain⟨b,x,y,t2,hb1,hb2,-⟩:=hI.box _ mm0 (hd 17);obtain⟨vneg,vao,vlen,vcap,vls,rfl,hv'⟩:=id hv;have HT:=xgw t2;unfold ptr at t2;obtain⟨k1,k2,k3,k4⟩:=hb2.two;go_simp;exact hK _ _ (hI.store ⟨17,8,19,_⟩ mm0 rfl (hd 17) HT.out hv)
  ·obtain⟨v,t1,hv⟩:=hI.vi zDs (hd 16)
   obtain⟨b,x,y,t2,hb1,hb2,-⟩:=hI.box _ mm1 (hd 18);obtain⟨vneg,vao,vlen,vcap,vls,rfl,hv'⟩:=id hv;have HT:=xgw t2;unfold ptr at t2;obtain⟨k1,k2,k3,k4⟩:=hb2.two;go_simp;exact hK _ _ (hI.store ⟨18,9,20,_⟩ mm1 rfl (hd 18) HT.out hv)
 intro T w3 hI;have hT:=hI.finx kR kR;have hlw3:=hI.lext;have hbw3:=hI.bel (W0.heap.size) oM nom;have holdw3:=hI.old;clear hI;simp only[zEH,zD1,E,EI,ptr,xgm,List.not_mem_nil,false_implies,implies_true,and_true,true_and,xgg,xgh,xgi,xgj]at hT;obtain⟨va8,ha8,va16,ha16,ca17,xa17,ya17,ga17,ka17,ia17,ca18,xa18,ya18,ga18,ka18,ia18,na17_18,rfl⟩:=hT;have hO:=hO.trans (zY.of Z hbw3);have HH:=xgv (HH.out.below hbw3);have T5:=T5.below hbw3;have T7:=T7.below hbw3;have z8:=jR.mk ka17 ia17;have z9:=jR.mk ka18 ia18;have q3z:=hbw3.size;clear o1 o2 q1 q2 q3 q4 hxv hyv p1 p2 p3 p4 ka17 ka18 ia17 ia18 ha8 ha16;obtain⟨n8,a8,l8,c8,k8,i8⟩:=id z8;obtain⟨n9,a9,l9,c9,k9,i9⟩:=id z9;obtain⟨e1,e2,e3,e4⟩:=k8.two;obtain⟨f1,f2,f3,f4⟩:=k9.two;go_wp2_with fail
 refine(jT _ _ Y X w3 i9.weak i8.weak SY.out.sm SX.out.sm h0).mono ?_;rintro e w4 ⟨q0,r0,rfl,hq,hrr,hb4⟩;obtain⟨qn,qa,ql,qc,qx,rfl,hq'⟩:=id hq;obtain⟨rn,ra,rl,rc,rx,rfl,hr'⟩:=id hrr;have HQ':=xgw hq';have HR':=xgw hr';clear hq' hr' e1 e2 e3 e4 f1 f2 f3 f4 k8 k9 i8 i9;go_upto_region 3 with(fail)
 refine zB ?_;intro W5 hW5;obtain⟨hB5,T10,T11,hs5⟩:=qI hW5;have hb45:=nx hb4 hB5;have hO:=hO.trans (zY.of Z hb45);have HH:=xgv (HH.out.below hb45);have T5:=T5.below hb45;have T7:=T7.below hb45;have z8:=z8.below hb45;have z9:=z9.below hb45;have hq:=hq.ext (lx hB5);have hrr:=hrr.ext (lx hB5);have q5z:=hb45.size;clear hW5 hb45;obtain⟨e1,e2,e3,e4⟩:=T11.two;go_wp2_with fail
 refine(qU _ (Y%X) W5 hrr.weak).mono ?_;rintro e w6 ⟨rfl,hb6⟩;have hO:=hO.trans (zY.of Z hb6);have HH:=xgv (HH.out.below hb6);have T5:=T5.below hb6;have T7:=T7.below hb6;have T10:=T10.below hb6;have z8:=z8.below hb6;have z9:=z9.below hb6;have hq:=hq.ext (lx hb6);have q6z:=hb6.size;have q4z:=hb4.size;clear e1 e2 e3 e4 T11 hrr;by_cases hdiv:Y%X=0
 ·rw[zA0 hdiv]
  obtain⟨x1,x2,x3,x4,x5,x6⟩:=T7.three;obtain⟨p1,p2,p3,p4⟩:=T5.two;obtain⟨d1,d2,d3,d4⟩:=T10.two;have l5:=T5.lt;have l7:=T7.lt;have l10:=T10.lt;have hqs:qF (Sm (Y/X)):=⟨SY.out.sm.mono (Int.natAbs_ediv_le_natAbs Y X)⟩;go_upto_region 4 with(fail)
  refine zC 7 rfl (RI w6 (w6.heap.size) _ 35
    [VP 0 43 (w.heap.size+1) 0,E 1 44 (.func (.func 220) #[.pointer (some ⟨bw,0,none⟩)] #[]),VN 2 45 m,VP 3 46 w.heap.size 0,VN 4 47 r,E 5 48 (.agg #[.bool qn,.slice qa ql qc]),EI 6 49 (-(Y/X))] [] []) kR RI.start (RI.fin kR ?fin2) ?steps2
  case steps2=>
   refine⟨?_,?_,?_,?_,?_,?_,?_,trivial⟩<;>(intro L T wS hL hd hcl hI K hK;try refine zA rfl ?_)
   ·exact xgs (hI.k 7 rfl kR)
   ·have zt0:=hI.e mm0 (hd 0)
    have cc0:=hI.cell x1 oM nom;exact xgu
   ·exact xgs (hI.k 2 rfl kR)
   ·exact xgs (hI.k 5 rfl kR)
   ·have zt3:=hI.e mm3 (hd 3)
    have cc0:=hI.cell p1 oM nom;exact xgu
   ·have zt:=hI.k 10 rfl kR
    have cc0:=hI.cell d1 oM nom;have cc1:=hI.cell d2 oM nom;exact xgu
   ·have zt5:=hI.e mm5 (hd 5)
    go_simp;refine(jN _ (Y/X) _ (hq.ext hI.lext).weak hqs.out).mono ?_;exact xgo
  intro w7 hlw7 hbw7 holdw7 T hT;simp only[Fin,E,EI,VP,VSl,VN,xgg,xgh,xgi,xgj]at hT;obtain⟨vb6,hb6,rfl⟩:=hT;simp only[xgl,xgk];have hb6':zH w7 vb6 (-(Y/X)):=hb6;have hO:=hO.trans (zY.of Z hbw7);have HH:=xgv (HH.out.below hbw7);have HAD':=xgv (HAD.out hdiv);clear x1 x2 x3 x4 x5 x6 p1 p2 p3 p4 d1 d2 d3 d4;go_wp2_with fail
  refine(zQH hB.bsm HH.out HOK.out hm hr (Ne.symm hrm) hb6' hn hCs hCt HAD'.out).mono ?_;rintro e w8 ⟨⟨uu,rfl⟩,ho8,hH8⟩;go_wp2;have hJ:zI2 x r m c (x.add m r (-(Y/X))):=by
   rw[<-HXV.out,<-HYV.out];exact .add (by rw[HXV.out,HYV.out];exact hdiv)
  exact bodyPost_ret (results_none rfl _ _ _) rfl ⟨⟨_,rfl⟩,hO.trans ho8,_,hJ,hH8⟩
 ·have hcne:=zCc hdiv
  obtain⟨k0,hk0⟩:∃k0,qJ (Y%X) 0=k0:=⟨_,rfl⟩;rw[hk0]at hcne ⊢
  have hcb:(k0==0)=false:=by simpa using hcne
  obtain⟨G,hG⟩:∃G:Int,((Int.gcd X Y:Nat):Int)=G:=⟨_,rfl⟩;have hG0:G≠0:=by
   rw[<-hG];intro hh;have:Int.gcd X Y=0:=by omega
   exact h0 (Int.eq_zero_of_gcd_eq_zero_left this)
  have SG:qF (Smd G):=⟨SX.out.mono (by rw[<-hG];exact Nat.le_of_dvd oM (by have:=Int.gcd_dvd_left X Y;exact Int.natAbs_dvd_natAbs.2 this))⟩;have HG:=xgw hG;rw[hG]at HMX;clear hG T10 hq;have lz8:=z8.lt;have lz9:=z9.lt;obtain⟨n8,a8,l8,c8,k8,i8⟩:=id z8;obtain⟨n9,a9,l9,c9,k9,i9⟩:=id z9;obtain⟨e1,e2,e3,e4⟩:=k8.two;obtain⟨f1,f2,f3,f4⟩:=k9.two;go_wp2_with fail
  refine(zN4 _ _ X Y w6 i8 i9 SX.out SY.out).mono ?_;rintro e w7 ⟨v1,v2,v3,s,t,rfl,hgv,hsv,htv,hbez,hsb,htb,hb7⟩;have HBZ:qF (Bez X Y s t):=⟨⟨hbez,hsb,htb⟩⟩;have HMM:=xgv (HMX.out s t HBZ.out);rw[HG.out]at hgv;obtain⟨gn,ga,gl,gc,gx,rfl,hg'⟩:=id hgv;obtain⟨sn,sa,sl,sc',sx,rfl,hs'⟩:=id hsv;obtain⟨tn,ta,tl,tc,tx,rfl,ht'⟩:=id htv;have HG':=xgw hg';have HS':=xgw hs';have HT':=xgw ht';clear hg' hs' ht' hbez hsb htb e1 e2 e3 e4 f1 f2 f3 f4 k8 k9 i8 i9;go_upto_region 6 with(fail)
  refine zB ?_;intro W8 hW8;obtain⟨hB8,T13,T14,T15,hs8⟩:=yG hW8;have hb78:=nx hb7 hB8;have hO:=hO.trans (zY.of Z hb78);have HH:=xgv (HH.out.below hb78);have T5:=T5.below hb78;have T7:=T7.below hb78;have z8:=z8.below hb78;have z9:=z9.below hb78;have z13:=jR.mk T13 (hgv.ext (lx hB8));have z14:=jR.mk T14 (hsv.ext (lx hB8));have z15:=jR.mk T15 (htv.ext (lx hB8));have q8z:=hb78.size;have q7z:=hb7.size;clear hW8 T13 T14 T15 hgv hsv htv;obtain⟨n8,a8,l8,c8,k8,i8⟩:=id z8;obtain⟨n13,a13,l13,c13,k13,i13⟩:=id z13;obtain⟨e1,e2,e3,e4⟩:=k8.two;obtain⟨f1,f2,f3,f4⟩:=k13.two;have lk8:=k8.lt;go_wp2_with fail
  refine(jT _ _ X G W8 i8.weak i13.weak SX.out.sm SG.out.sm hG0).mono ?_;rintro e w9 ⟨q0,r0,rfl,hq,hrr,hb9⟩;obtain⟨qn,qa,ql,qc,qx,rfl,hq'⟩:=id hq;have HQ':=xgw hq';clear hq' e1 e2 e3 e4 f1 f2 f3 f4 k13 i13;have k8:=k8.below hb9;obtain⟨e1,e2,e3,e4⟩:=k8.two;go_upto_region 7 with(fail)
  refine zB ?_;intro W10 hW10;have hon:yC [ca17] w9 W10:=by rw[hW10.out];exact zIb k8
  have hnz:¬ Z ca17:=fun h=>by have:=hZ _ h;omega
  have hO:=(hO.trans (zY.of Z hb9)).new hon oM;have HH:=xgv ((HH.out.below hb9).only hon hnz k8);have z8:jR W10 ca17 (X/G):=by rw[hW10.out];exact jR.put k8 hq
  have T5:Blk W10 w.heap.size zAl #[.int .i64 r,.int .i64 c]:=(hon.old _ (T5.below hb9).lt (by simp;omega)).trans (T5.below hb9);have T7:Blk W10 (w.heap.size+1) 272 (zA6 bw):=(hon.old _ (T7.below hb9).lt (by simp;omega)).trans (T7.below hb9);have z9:=(z9.below hb9).old (hon.old _ (z9.below hb9).lt (by simpa using Ne.symm na17_18)) hon.lext;have z13:=(z13.below hb9).old (hon.old _ (z13.below hb9).lt (by simp;omega)) hon.lext;have z14:=(z14.below hb9).old (hon.old _ (z14.below hb9).lt (by simp;omega)) hon.lext;have z15:=(z15.below hb9).old (hon.old _ (z15.below hb9).lt (by simp;omega)) hon.lext;have q10z:=hon.bel.size;have q9z:=hb9.size;clear hW10 hon e1 e2 e3 e4 k8 hq hrr i8;obtain⟨n9,a9,l9,c9,k9,i9⟩:=id z9;obtain⟨n13,a13,l13,c13,k13,i13⟩:=id z13;obtain⟨e1,e2,e3,e4⟩:=k9.two;obtain⟨f1,f2,f3,f4⟩:=k13.two;have lk9:=k9.lt;go_wp2_with fail
  refine(jT _ _ Y G W10 i9.weak i13.weak SY.out.sm SG.out.sm hG0).mono ?_;rintro e w11 ⟨q0,r0,rfl,hq,hrr,hb11⟩;obtain⟨qn,qa,ql,qc,qx,rfl,hq'⟩:=id hq;have HQ':=xgw hq';clear hq' e1 e2 e3 e4 f1 f2 f3 f4 k13 i13;have k9:=k9.below hb11;obtain⟨e1,e2,e3,e4⟩:=k9.two;go_upto_region 8 with(fail)
  refine zB ?_;intro W12 hW12;have hon:yC [ca18] w11 W12:=by rw[hW12.out];exact zIb k9
  have hnz:¬ Z ca18:=fun h=>by have:=hZ _ h;omega
  have hO:=(hO.trans (zY.of Z hb11)).new hon oM;have HH:=xgv ((HH.out.below hb11).only hon hnz k9);have z9:jR W12 ca18 (Y/G):=by rw[hW12.out];exact jR.put k9 hq
  have T5:Blk W12 w.heap.size zAl #[.int .i64 r,.int .i64 c]:=(hon.old _ (T5.below hb11).lt (by simp;omega)).trans (T5.below hb11);have T7:Blk W12 (w.heap.size+1) 272 (zA6 bw):=(hon.old _ (T7.below hb11).lt (by simp;omega)).trans (T7.below hb11);have z8:=(z8.below hb11).old (hon.old _ (z8.below hb11).lt (by simpa using na17_18)) hon.lext;have z14:=(z14.below hb11).old (hon.old _ (z14.below hb11).lt (by simp;omega)) hon.lext;have z15:=(z15.below hb11).old (hon.old _ (z15.below hb11).lt (by simp;omega)) hon.lext;clear hW12 hon e1 e2 e3 e4 k9 hq hrr i9 z13;have SYG:qF (Sm (Y/G)):=⟨SY.out.sm.mono (Int.natAbs_ediv_le_natAbs Y G)⟩;obtain⟨n8,a8,l8,c8,k8,i8⟩:=id z8;obtain⟨n9,a9,l9,c9,k9,i9⟩:=id z9;obtain⟨n14,a14,l14,c14,k14,i14⟩:=id z14;obtain⟨n15,a15,l15,c15,k15,i15⟩:=id z15;obtain⟨e1,e2,e3,e4⟩:=k8.two;obtain⟨f1,f2,f3,f4⟩:=k9.two;obtain⟨u1,u2,u3,u4⟩:=k14.two;obtain⟨v1,v2,v3,v4⟩:=k15.two;obtain⟨x1,x2,x3,x4,x5,x6⟩:=T7.three;obtain⟨p1,p2,p3,p4⟩:=T5.two;have l5:=T5.lt;have l7:=T7.lt;have l8':=k8.lt;have l9':=k9.lt;have l14':=k14.lt;have l15':=k15.lt;have hl2:=zCD s t;have hl3:=zCD (-(Y/G)) (X/G);have hl4:=zFy s t (-(Y/G)) (X/G);refine zC 13 rfl (RI W12 (W12.heap.size) _ 35
    [VP 0 72 (w.heap.size+1) 1,E 1 73 (.func (.func 221) #[.pointer (some ⟨bw,0,none⟩)] #[]),VP 2 74 w.heap.size 0,VN 3 75 r,VN 4 76 m,E 5 77 (.agg #[.bool n14,.slice a14 l14 c14]),E 6 78 (.agg #[.bool n15,.slice a15 l15 c15]),⟨7,79,M2V s t⟩,E 8 80 (.agg #[.bool n9,.slice a9 l9 c9]),EI 9 81 (-(Y/G)),E 10 82 (.agg #[.bool n8,.slice a8 l8 c8]),⟨11,83,M2V (-(Y/G)) (X/G)⟩,⟨12,84,fun w v=>M4V w v s t (-(Y/G)) (X/G)⟩] [] []) kR RI.start (RI.fin kR ?fin3) ?steps3
  case steps3=>
   refine⟨?_,?_,?_,?_,?_,?_,?_,?_,?_,?_,?_,?_,?_,trivial⟩<;>(intro L T wS hL hd hcl hI K hK;try refine zA rfl ?_)
   ·exact xgs (hI.k 7 rfl kR)
   ·have zt0:=hI.e mm0 (hd 0)
    have cc0:=hI.cell x2 oM nom;exact xgu
   ·exact xgs (hI.k 5 rfl kR)
   ·have zt2:=hI.e mm2 (hd 2)
    have cc0:=hI.cell p1 oM nom;exact xgu
   ·exact xgs (hI.k 2 rfl kR)
   ·have zt:=hI.k 14 rfl kR
    have cc0:=hI.cell u1 oM nom;have cc1:=hI.cell u2 oM nom;exact xgu
   ·have zt:=hI.k 15 rfl kR
    have cc0:=hI.cell v1 oM nom;have cc1:=hI.cell v2 oM nom;exact xgu
   ·have zt5:=hI.e mm5 (hd 5)
    have zt6:=hI.e mm6 (hd 6);skip;go_simp;exact hK _ _ (hI.y mm7 ⟨_,_,_,_,_,_,_,_,rfl,i14.ext hI.lext,i15.ext hI.lext⟩)
   ·have zt:=hI.k 9 rfl kR
    have cc0:=hI.cell f1 oM nom;have cc1:=hI.cell f2 oM nom;exact xgu
   ·have zt8:=hI.e mm8 (hd 8)
    go_simp;refine(jN _ (Y/G) _ (i9.ext hI.lext).weak SYG.out).mono ?_;exact xgo
   ·have zt:=hI.k 8 rfl kR
    have cc0:=hI.cell e1 oM nom;have cc1:=hI.cell e2 oM nom;exact xgu
   ·obtain⟨v9,zt9,h9⟩:=hI.vi mm9 (hd 9)
    have zt10:=hI.e zAC (hd 10);obtain⟨a19,b19,d19,e19,x19,rfl,y19⟩:=id h9;go_simp;exact hK _ _ (hI.y zAJ ⟨_,_,_,_,_,_,_,_,rfl,h9,i8.ext hI.lext⟩)
   ·obtain⟨v7,zt7,h7⟩:=hI.v mm7 (hd 7)
    obtain⟨v11,zt11,h11⟩:=hI.v zAJ (hd 11);obtain⟨p0,p1,p2,p3,p4,p5,p6,p7,rfl,p8,p9⟩:=h7;obtain⟨q0,q1,q2,q3,q4,q5,q6,q7,rfl,q8,q9⟩:=h11;go_simp;exact hK _ _ (hI.y zAo ⟨_,_,_,_,_,_,_,_,_,_,_,_,_,_,_,_,rfl,p8,p9,q8,q9⟩)
  intro w13 hlw13 hbw13 holdw13 T hT;simp only[Fin,E,EI,VP,VSl,VN,xgg,xgh,xgi,xgj]at hT;obtain⟨vb7,hb7,vb9,hb9,vb11,hb11,vb12,hb12,rfl⟩:=hT;simp only[xgl,xgk];have hm4:M4V w13 vb12 s t (-(Y/G)) (X/G):=hb12;have hO:=hO.trans (zY.of Z hbw13);have HH:=xgv (HH.out.below hbw13);clear e1 e2 e3 e4 f1 f2 f3 f4 u1 u2 u3 u4 v1 v2 v3 v4 x1 x2 x3 x4 x5 x6 p1 p2 p3 p4;go_wp2_with fail
  refine(zQs hB.bsm HH.out HOK.out hr hm hrm hm4 hn hCs hCt HMM.out).mono ?_;rintro e w14 ⟨⟨uu,rfl⟩,ho14,hH14⟩;go_wp2;have hJ:zI2 x r m c (x.mix r m s t (-(Y/G)) (X/G)):=by
   rw[<-HG.out,<-HXV.out,<-HYV.out];exact .mix s t (by rw[HXV.out,HYV.out];exact hdiv) (by rw[HXV.out,HYV.out];exact HBZ.out)
  exact bodyPost_end (results_none rfl _ _ _) rfl ⟨⟨_,rfl⟩,hO.trans ho14,_,hJ,hH14⟩
def zHR(w:World)(v:Value)(r:Nat)(ρ κ:Nat->Nat):Prop:=
 ∃ao cap,v= .slice ao r cap/\r<=cap/\cap<=9223372036854775807/\(0<r->∃b cs,ao=some ⟨b,0,none⟩/\Blk w b zAl cs/\∀k,k<r->cs[k*2]?=some (.int .i64 (ρ k))/\cs[k*2+1]?=some (.int .i64 (κ k)))
theorem zHR.old{w w':World}{v:Value}{r:Nat}{ρ κ:Nat->Nat}(h:zHR w v r ρ κ)(ho:∀b,v.ownBlock=some b->b<w.heap.size->w'.heap[b]?=w.heap[b]?):zHR w' v r ρ κ:=by
 obtain⟨ao,cap,rfl,h2,h3,h4⟩:=h;refine⟨ao,cap,rfl,h2,h3,fun hr=>?_⟩;obtain⟨b,cs,rfl,h5,h6⟩:=h4 hr;exact⟨b,cs,rfl,(ho b rfl h5.lt).trans h5,h6⟩
theorem zHR.below{w w':World}{v:Value}{r:Nat}{ρ κ:Nat->Nat}(h:zHR w v r ρ κ)(hb:Below w.heap.size w w'):zHR w' v r ρ κ:=h.old fun b _ hl=>hb.block b hl
theorem zHR.onlyZ{Z:Nat->Prop}{w w':World}{v:Value}{r:Nat}{ρ κ:Nat->Nat}(h:zHR w v r ρ κ)(ho:zY Z w w')(hz:∀b,v.ownBlock=some b->¬ Z b):zHR w' v r ρ κ:=h.old fun b hb hl=>ho.old b hl (hz b hb)
theorem zHR.cell{w:World}{b o r cap:Nat}{ρ κ:Nat->Nat}(h:zHR w (.slice (some ⟨b,o,none⟩) r cap) r ρ κ){k:Nat}(hk:k<r):o=0/\b<w.heap.size/\w.cell? ⟨b,k*2,none⟩=some (.int .i64 (ρ k))/\w.cell? ⟨b,k*2+1,none⟩=some (.int .i64 (κ k)):=by
 obtain⟨ao,cap',e,h2,h3,h4⟩:=h;obtain⟨b',cs,e1,h5,h6⟩:=h4 oM;injection e with e2 e3 e4
 rw[e1]at e2;injection e2 with e2
 injection e2 with e5 e6
 subst e5;obtain⟨c1,c2⟩:=h6 k hk;exact⟨e6,h5.lt,h5.cell _ ▸ c1,h5.cell _ ▸ c2⟩
def zEi(B n Cs Ct:Nat)(ρ κ:Nat->Nat)(i:Nat):Nat->Nat->Bst->Option Bst
 |0,_,x=>some x
 |m+1,j,x=>
  if x.s (ρ i) (κ j)=0 then zEi B n Cs Ct ρ κ i m (j+1) x
  else if x.s (ρ j) (κ j)=0 then none
  else if x.s (ρ i) (κ j)/x.s (ρ j) (κ j)=0 then zEi B n Cs Ct ρ κ i m (j+1) x
  else if zDa B n Cs Ct x (ρ i) (ρ j) (-(x.s (ρ i) (κ j)/x.s (ρ j) (κ j)))then zEi B n Cs Ct ρ κ i m (j+1) (x.add (ρ i) (ρ j) (-(x.s (ρ i) (κ j)/x.s (ρ j) (κ j))))
  else none
def zG0(B n Cs Ct:Nat)(ρ κ:Nat->Nat)(r:Nat):Nat->Bst->Option Bst
 |0,x=>some x
 |i+1,x=>(zEi B n Cs Ct ρ κ i (r-(i+1)) (i+1) x).bind (zG0 B n Cs Ct ρ κ r i)
theorem zA3{e0:Bool}{Z:Nat->Prop}{B:Nat}(hB:BSd B){bw n Cs Ct r:Nat}{ρ κ:Nat->Nat}{Ah pv:Value}{x y:Bst}{w:World}(h:zAv e0 Z w bw Ah n Cs Ct x)(hok:okB B n Cs Ct x)(hp:zHR w pv r ρ κ)(hpz:∀b,pv.ownBlock=some b->¬ Z b)
  (hρ:∀k,k<r->ρ k<n) (hinj:∀i j,i<j->j<r->ρ i≠ρ j) (hκ:∀k,k<r->κ k<Cs) (hn:n<=1000000) (hCs:Cs<=1000000) (hCt:Ct<=1000000) (hrn:r<=n) (hZ:∀b,Z b->b<w.heap.size) (hn0:0<n)
  (hy:zG0 B n Cs Ct ρ κ r r x=some y):
  Calls Tryz.prog 260 #[Ah,pv,.agg (zA6 bw)] w fun e w'=>(∃u,e= .returned u)/\zY Z w w'/\zAv e0 Z w' bw Ah n Cs Ct y/\okB B n Cs Ct y:=by
 obtain⟨bss0,hw0,-⟩:=h.wri;obtain⟨so,sn,scap,rfl,s1,-⟩:=id (zS.rows hw0);have e2:n=sn:=by rw[<-s1];simp[zX]
 subst e2;obtain⟨g,_,rfl,-⟩:=zS.at_ hw0 (i:=0) (by rw[hw0.len];exact hn0);obtain⟨ao,cap,rfl,hrc,hrc2,-⟩:=id hp;have HY:=xgv (And.intro hok hy);have HP:=xgv hp;have HPZ:=xgv hpz;have HRO:=xgv hρ;have HIN:=xgv hinj;have HKA:=xgv hκ;have hsh:0<r->∃pb,ao=some ⟨pb,0,none⟩:=fun hr=>by
  obtain⟨ao',cap',e,-,-,h4⟩:=hp;obtain⟨b,cs,e1,-⟩:=h4 hr;injection e with e2
  exact⟨b,e2.trans e1⟩
 clear s1 hw0 bss0 hok hy hp hpz hρ hinj hκ;go_enter Tryz.func260,Tryz.ntmps260;go_upto_region 1 with(fail)
 refine zB ?_;intro W0 hW0;obtain⟨hB0,T5,hs0⟩:=zK hW0;have T5:Blk W0 w.heap.size 272 (zA6 bw):=T5;have hO:=zY.of Z hB0;have hz:=h.below hB0;have HP:=xgv (HP.out.below hB0);clear hW0 h;go_wp2;go_loopw [6] (fun tv wr=>∃(i:Nat) (z:Int) (xi:Bst),tv= .int .i64 z/\z=(i:Int)-1/\i<=r/\zY Z w wr/\Blk wr w.heap.size 272 (zA6 bw)/\qF (zHR wr (.slice ao r cap) r ρ κ)/\zAv e0 Z wr bw (.slice (some ⟨g,0,none⟩) n scap) n Cs Ct xi/\qF (okB B n Cs Ct xi/\zG0 B n Cs Ct ρ κ r i xi=some y)) (fun tv _=>(intOf tv+1).toNat)
 case atStart=>exact⟨r,(r:Int)-1,x,by simp,rfl,xgf _,hO,T5,HP,hz,HY⟩
 case round=>
  obtain⟨i,z,xi,rfl,hzi,hi,hO,T5,HP,hz,hx⟩:=hrel;cases i with
  |zero=>
   obtain rfl:z=-1:=by omega
   clear hzi;have h3:=hx.out.2;unfold zG0 at h3;injection h3 with h3
   have H3:=xgv h3;clear h3;go_wp2;exact bodyPost_end (results_none rfl _ _ _) rfl ⟨⟨_,rfl⟩,hO,by rw[<-H3.out];exact hz,by rw[<-H3.out];exact hx.out.1⟩
  | succ i=>
   obtain rfl:z=(i:Int):=by omega
   clear hzi;have h3:=hx.out.2;unfold zG0 at h3;rw[Option.bind_eq_some_iff]at h3;obtain⟨y1,h4,h5⟩:=h3;have HR:=xgv h5;have HJ:=xgv (And.intro hx.out.1 h4);clear h4 h5 hx;obtain⟨pb,rfl⟩:=hsh oM;obtain⟨-,lpb,k1,-⟩:=HP.out.cell (k:=i) oM;have hwi:IntKind.i64.wrap ((i:Int)+1)=(i:Int)+1:=IntWalk.i64_in _ oM;obtain⟨M,hM⟩:∃M,r-(i+1)=M:=⟨_,rfl⟩;by_cases hce:cap=i+1
   ·have hM0:M=0:=by omega
    have hir:(i:Int)+1<=(r:Int):=by omega
    subst hM0;go_wp2;try rw[hM]
    go_loopw [30] (fun uv wt=>uv= .int .i64 0/\wt=wr) (fun _ _=>0)
    case atStart=>exact⟨rfl,rfl⟩
    case round=>
     rename World=>wt
     obtain⟨rfl,hwt⟩:=hrel;have hwt:=hwt.symm;subst hwt;have h3:=HJ.out.2;rw[hM]at h3;unfold zEi at h3;injection h3 with h3
     have H3:=xgv h3;clear h3;go_wp2;go_roundw
     case rel=>exact⟨i,(i:Int)-1,xi,by simp,rfl,by omega,hO,T5,HP,hz,⟨⟨HJ.out.1,by rw[H3.out];exact HR.out⟩⟩⟩
     case measure=>simp[intOf]
   ·go_wp2
    try rw[hM]
    go_loopw [30] (fun uv wt=>∃(u:Nat) (xt:Bst),uv= .int .i64 u/\u<=M/\zY Z w wt/\Blk wt w.heap.size 272 (zA6 bw)/\qF (zHR wt (.slice (some ⟨pb,0,none⟩) r cap) r ρ κ)/\zAv e0 Z wt bw (.slice (some ⟨g,0,none⟩) n scap) n Cs Ct xt/\qF (okB B n Cs Ct xt/\zEi B n Cs Ct ρ κ i (M-u) (i+1+u) xt=some y1)) (fun uv _=>M-(intOf uv).toNat)
    case atStart=>exact⟨0,xi,rfl,by omega,hO,T5,HP,hz,⟨⟨HJ.out.1,by rw[<-hM];exact HJ.out.2⟩⟩⟩
    case round=>
     rename World=>wt
     clear hO T5 HP hz HJ k1 lpb;obtain⟨u,xt,rfl,huM,hO,T5,HP,hz,hx⟩:=hrel;by_cases hlt2:u<M
     ·obtain⟨j,hj⟩:∃j,j=i+1+u:=⟨_,rfl⟩
      obtain⟨m,hm⟩:∃m,M-u=m+1:=⟨M-u-1,by omega⟩;have hm2:M-(u+1)=m:=by omega
      have hj1:i+1+(u+1)=j+1:=by omega
      have h3:=hx.out.2;rw[hm,<-hj]at h3;unfold zEi at h3;have HOK:=xgv hx.out.1;have H3:=xgv h3;obtain⟨-,lpb,p1,p2⟩:=HP.out.cell (k:=j) oM;have hjo:j*2=(i+1)*2+u*2:=by omega
      rw[hjo]at p1 p2;have hjr:j<r:=by omega
      have hir:i<r:=by omega
      have hcC:=HKA.out j hjr;have hin:=HRO.out i hir;have htn:=HRO.out j hjr;have hne:=HIN.out i j oM hjr;obtain⟨ri,hri⟩:∃ri,ρ i=ri:=⟨_,rfl⟩;obtain⟨rj,hrj⟩:∃rj,ρ j=rj:=⟨_,rfl⟩;obtain⟨c,hc⟩:∃c,κ j=c:=⟨_,rfl⟩;rw[hri]at hin hne H3 ⊢
      rw[hrj]at htn hne H3 p1;rw[hc]at hcC H3 p2;clear h3 hx hj hjo hri hrj hc;go_upto_region 8 with(fail)
      refine zB ?_;intro W7 hW7;obtain⟨hB7,T9,hs7⟩:=zK hW7;have T9:Blk W7 wt.heap.size zAl #[.int .i64 rj,.int .i64 c]:=T9;have hO:=hO.trans (zY.of Z hB7);have T5:=T5.below hB7;have HP:=xgv (HP.out.below hB7);have hz:=hz.below hB7;have lt9:=hO.bel.size;have lwt:=T5.lt;clear hW7 p1 p2;obtain⟨bi,o1,hrow,lg⟩:=hz.row (i:=ri) hin;obtain⟨xs,xa,xl,xc,v1,v2,-,-,hx⟩:=hrow.cell (zO hcC);obtain⟨p1,p2,p3,p4⟩:=T9.two;have l1:=hrow.lt;have l9:=T9.lt;refine zC 8 rfl (RI W7 (W7.heap.size) _ 35
        [VSl 0 34 g n scap,VN 1 35 ri,VP 2 36 g ri,VSl 3 37 bi Cs Cs,VP 4 38 wt.heap.size 1,VN 5 39 c,VP 6 40 bi (c*2),E 7 41 (.agg #[.bool xs,.slice xa xl xc])] [] []) kR RI.start (RI.fin kR ?fin1) ?steps1
      case steps1=>
       refine⟨?_,?_,?_,?_,?_,?_,?_,?_,trivial⟩<;>(intro L T wS hL hd hcl hI K hK;try refine zA rfl ?_)
       ·exact xgs (hI.k 0 rfl kR)
       ·exact xgs (hI.k 7 rfl kR)
       ·exact xgt (hI.e mm0 (hd 0)) (hI.e mm1 (hd 1))
       ·have zt2:=hI.e mm2 (hd 2)
        have cc0:=hI.cell o1 oM nom;exact xgu
       ·exact xgs (hI.k 9 rfl kR)
       ·have zt4:=hI.e mm4 (hd 4)
        have cc0:=hI.cell p2 oM nom;exact xgu
       ·exact xgt (hI.e mm3 (hd 3)) (hI.e mm5 (hd 5))
       ·have zt6:=hI.e mm6 (hd 6)
        have cc0:=hI.cell v1 oM nom;have cc1:=hI.cell v2 oM nom;exact xgu
      intro w8 hlw8 hbw8 holdw8 T hT;simp only[Fin,E,EI,VP,VSl,VN,xgg,xgh,xgi,xgj]at hT;subst hT;simp only[xgl,xgk];go_wp2_with fail
      refine(qU _ (xt.s ri c) _ (hx.ext (lx hbw8)).weak).mono ?_;rintro e w1 ⟨rfl,hb1⟩;have hb81:=nx hbw8 hb1;have hz:=hz.below hb81;have T5:=T5.below hb81;have T9:=T9.below hb81;have HP:=xgv (HP.out.below hb81);have hO:=hO.trans (zY.of Z hb81);have h3:=H3.out;clear o1 hrow v1 v2 hx H3 p1 p2 p3 p4;by_cases hs0:xt.s ri c=0
      ·rw[if_pos hs0]at h3
       rw[zA0 hs0];have H3:=xgv h3;clear h3 hs0;go_wp2;go_roundw
       case rel=>exact⟨u+1,xt,by simp,by omega,hO,T5,HP,hz,⟨⟨HOK.out,by rw[hm2,hj1];exact H3.out⟩⟩⟩
       case measure=>simp[intOf];omega
      ·rw [if_neg hs0]at h3
       by_cases hne0:xt.s rj c=0
       ·rw[if_pos hne0]at h3
        cases h3
       ·rw[if_neg hne0]at h3
        have hcn:=zCc hs0;obtain⟨k0,hk0⟩:∃k0,qJ (xt.s ri c) 0=k0:=⟨_,rfl⟩;rw[hk0]at hcn ⊢
        have HNE:=xgv hne0;have H3:=xgv h3;have SX:qF (Sm (xt.s ri c)):=⟨hB.bsm.sm _ (HOK.out.1 ri hin c hcC)⟩;have SY:qF (Sm (xt.s rj c)):=⟨hB.bsm.sm _ (HOK.out.1 rj htn c hcC)⟩;clear h3 hne0 hs0 hk0;obtain⟨bi,o1,hrow,lg⟩:=hz.row (i:=ri) hin;obtain⟨bk,o2,hrowk,-⟩:=hz.row (i:=rj) htn;obtain⟨xs,xa,xl,xc,v1,v2,-,-,hx⟩:=hrow.cell (zO hcC);obtain⟨ys,ya,yl,yc,r1,r2,-,-,hy⟩:=hrowk.cell (zO hcC);obtain⟨p1,p2,p3,p4⟩:=T9.two;have hlast:=zMZ (xt.s ri c) (xt.s rj c);have l9:=T9.lt;have l5:=T5.lt;have l1:=hrow.lt;have l2:=hrowk.lt;go_upto_region 9 with(fail)
        refine zE rfl (RI w1 (w1.heap.size) _ 35
          [VSl 0 45 g n scap,VN 1 46 ri,VP 2 47 g ri,VSl 3 48 bi Cs Cs,VP 4 49 wt.heap.size 1,VN 5 50 c,VP 6 51 bi (c*2),E 7 52 (.agg #[.bool xs,.slice xa xl xc]),VSl 8 53 g n scap,VP 9 54 wt.heap.size 0,VN 10 55 rj,VP 11 56 g rj,VSl 12 57 bk Cs Cs,VP 13 58 wt.heap.size 1,VN 14 59 c,VP 15 60 bk (c*2),E 16 61 (.agg #[.bool ys,.slice ya yl yc]),⟨17,62,DMV (xt.s ri c) (xt.s rj c)⟩,⟨18,44,DMV (xt.s ri c) (xt.s rj c)⟩,EI 19 63 (xt.s ri c/xt.s rj c),EI 20 64 (xt.s ri c%xt.s rj c),VN 21 65 0,VN 26 12 0] [⟨22,10,24,fun w v=>zH w v (xt.s ri c/xt.s rj c)⟩,⟨23,11,25,fun w v=>zH w v (xt.s ri c%xt.s rj c)⟩] []) kR RI.start ?fin2 ?steps2
        case steps2=>
         refine⟨?_,?_,?_,?_,?_,?_,?_,?_,?_,?_,?_,?_,?_,?_,?_,?_,?_,?_,?_,?_,?_,?_,?_,?_,?_,?_,?_,trivial⟩<;>(intro L T wS hL hd hcl hI K hK;try refine zA rfl ?_)
         ·exact xgs (hI.k 0 rfl kR)
         ·exact xgs (hI.k 7 rfl kR)
         ·exact xgt (hI.e mm0 (hd 0)) (hI.e mm1 (hd 1))
         ·have zt2:=hI.e mm2 (hd 2)
          have cc0:=hI.cell o1 oM nom;exact xgu
         ·exact xgs (hI.k 9 rfl kR)
         ·have zt4:=hI.e mm4 (hd 4)
          have cc0:=hI.cell p2 oM nom;exact xgu
         ·exact xgt (hI.e mm3 (hd 3)) (hI.e mm5 (hd 5))
         ·have zt6:=hI.e mm6 (hd 6)
          have cc0:=hI.cell v1 oM nom;have cc1:=hI.cell v2 oM nom;exact xgu
         ·exact xgs (hI.k 0 rfl kR)
         ·exact xgs (hI.k 9 rfl kR)
         ·have zt9:=hI.e mm9 (hd 9)
          have cc0:=hI.cell p1 oM nom;exact xgu
         ·exact xgt (hI.e mm8 (hd 8)) (hI.e zAC (hd 10))
         ·have zt11:=hI.e zAJ (hd 11)
          have cc0:=hI.cell o2 oM nom;exact xgu
         ·exact xgs (hI.k 9 rfl kR)
         ·have zt13:=hI.e zCF (hd 13)
          have cc0:=hI.cell p2 oM nom;exact xgu
         ·exact xgt (hI.e zAo (hd 12)) (hI.e zBp (hd 14))
         ·have zt15:=hI.e zCS (hd 15)
          have cc0:=hI.cell r1 oM nom;have cc1:=hI.cell r2 oM nom;exact xgu
         ·have zt7:=hI.e mm7 (hd 7)
          have zt16:=hI.e zDs (hd 16);go_simp;refine(zHb _ _ (xt.s ri c) (xt.s rj c) _ (hx.ext hI.lext).weak (hy.ext hI.lext).weak SX.out SY.out HNE.out).mono ?_;rintro e wa ⟨v,rfl,hv,hba⟩;exact hK _ _ ((hI.world hba).y zEs hv)
         ·obtain⟨v17,zt17,h17⟩:=hI.v zEs (hd 17)
          go_simp;exact hK _ _ (hI.y zCT h17)
         ·obtain⟨v18,zt18,h18⟩:=hI.v zCT (hd 18)
          obtain⟨q,r,rfl,hq,hr⟩:=h18;go_simp;exact hK _ _ (hI.n zEt hq)
         ·obtain⟨v18,zt18,h18⟩:=hI.v zCT (hd 18)
          obtain⟨q,r,rfl,hq,hr⟩:=h18;go_simp;exact hK _ _ (hI.n zEZ hr)
         ·obtain⟨v18,zt18,h18⟩:=hI.v zCT (hd 18)
          obtain⟨q,r,rfl,hq,hr⟩:=h18;exact xgu
         ·go_simp
          exact hK _ _ (hI.alloc ⟨22,10,24,_⟩ mm0 rfl hL)
         ·go_simp
          exact hK _ _ (hI.alloc ⟨23,11,25,_⟩ mm1 rfl hL)
         ·obtain⟨v,t1,hv⟩:=hI.vi zEt (hd 19)
          obtain⟨b,x,y,t2,hb1,hb2,-⟩:=hI.box _ mm0 (hd 22);obtain⟨vneg,vao,vlen,vcap,vls,rfl,hv'⟩:=id hv;have HT:=xgw t2;unfold ptr at t2;obtain⟨k1,k2,k3,k4⟩:=hb2.two;go_simp;exact hK _ _ (hI.store ⟨22,10,24,_⟩ mm0 rfl (hd 22) HT.out hv)
         ·obtain⟨v,t1,hv⟩:=hI.vi zEZ (hd 20)
          obtain⟨b,x,y,t2,hb1,hb2,-⟩:=hI.box _ mm1 (hd 23);obtain⟨vneg,vao,vlen,vcap,vls,rfl,hv'⟩:=id hv;have HT:=xgw t2;unfold ptr at t2;obtain⟨k1,k2,k3,k4⟩:=hb2.two;go_simp;exact hK _ _ (hI.store ⟨23,11,25,_⟩ mm1 rfl (hd 23) HT.out hv)
         ·exact xgs (hI.e zEa (hd 21))
        intro T w9 hI;have hT:=hI.finx kR kR;have hlw9:=hI.lext;have hbw9:=hI.bel (w1.heap.size) oM nom;have holdw9:=hI.old;clear hI;simp only[zEH,zD1,E,EI,ptr,xgm,List.not_mem_nil,false_implies,implies_true,and_true,true_and,xgg,xgh,xgi,xgj]at hT;obtain⟨vb17,hb17,vb18,hb18,vb19,hb19,vb20,hb20,cb22,xb22,yb22,gb22,kb22,ib22,cb23,xb23,yb23,gb23,kb23,ib23,nb22_23,rfl⟩:=hT;obtain⟨qs,qa,ql,qc,rfl,rfl⟩:=ib22.two;have hz:=hz.below hbw9;have T5:=T5.below hbw9;have T9:=T9.below hbw9;have HP:=xgv (HP.out.below hbw9);have hO:=hO.trans (zY.of Z hbw9);have lq:=kb22.lt;clear o1 o2 v1 v2 r1 r2 p1 p2 p3 p4;obtain⟨d1,d2,d3,d4⟩:=kb22.two;go_wp2_with fail
        refine(qU _ (xt.s ri c/xt.s rj c) _ ib22.weak).mono ?_;rintro e w10 ⟨rfl,hb10⟩;have hz:=hz.below hb10;have T5:=T5.below hb10;have T9:=T9.below hb10;have HP:=xgv (HP.out.below hb10);have hO:=hO.trans (zY.of Z hb10);have kq:=kb22.below hb10;have iq:=ib22.ext (lx hb10);have h3:=H3.out;clear d1 d2 d3 d4 H3 kb22 ib22;by_cases hq0:xt.s ri c/xt.s rj c=0
        ·rw[if_pos hq0]at h3
         rw[zA0 hq0];have H3:=xgv h3;clear h3 hq0;go_wp2;go_roundw
         case rel=>exact⟨u+1,xt,by simp,by omega,hO,T5,HP,hz,⟨⟨HOK.out,by rw[hm2,hj1];exact H3.out⟩⟩⟩
         case measure=>simp[intOf];omega
        ·rw [if_neg hq0]at h3
         by_cases hadd:zDa B n Cs Ct xt ri rj (-(xt.s ri c/xt.s rj c))
         ·rw[if_pos hadd]at h3
          have hcq:=zCc hq0;obtain⟨k1,hk1⟩:∃k1,qJ (xt.s ri c/xt.s rj c) 0=k1:=⟨_,rfl⟩;rw[hk1]at hcq ⊢
          have H3:=xgv h3;have HADD:=xgv hadd;have SQ:qF (Sm (xt.s ri c/xt.s rj c)):=⟨hB.bsm.sm _ (by have:=hadd.1;rwa[Int.natAbs_neg]at this)⟩;clear h3 hadd hq0 hk1;obtain⟨c1,c2,c3,c4,c5,c6⟩:=T5.three;obtain⟨d1,d2,d3,d4⟩:=kq.two;obtain⟨p1,p2,p3,p4⟩:=T9.two;have lq:=kq.lt;have l0:=T5.lt;have l9:=T9.lt;go_upto_region 11 with(fail)
          refine zC 7 rfl (RI w10 (w10.heap.size) _ 35
            [VP 0 69 w.heap.size 0,E 1 70 (.func (.func 220) #[.pointer (some ⟨bw,0,none⟩)] #[]),VN 2 71 ri,VP 3 72 wt.heap.size 0,VN 4 73 rj,E 5 74 (.agg #[.bool qs,.slice qa ql qc]),EI 6 75 (-(xt.s ri c/xt.s rj c))] [] []) kR RI.start (RI.fin kR ?fin3) ?steps3
          case steps3=>
           refine⟨?_,?_,?_,?_,?_,?_,?_,trivial⟩<;>(intro L T wS hL hd hcl hI K hK;try refine zA rfl ?_)
           ·exact xgs (hI.k 5 rfl kR)
           ·have zt0:=hI.e mm0 (hd 0)
            have cc0:=hI.cell c1 oM nom;exact xgu
           ·exact xgs (hI.k 7 rfl kR)
           ·exact xgs (hI.k 9 rfl kR)
           ·have zt3:=hI.e mm3 (hd 3)
            have cc0:=hI.cell p1 oM nom;exact xgu
           ·have zt:=hI.k 10 rfl kR
            have cc0:=hI.cell d1 oM nom;have cc1:=hI.cell d2 oM nom;exact xgu
           ·have zt5:=hI.e mm5 (hd 5)
            go_simp;refine(jN _ (xt.s ri c/xt.s rj c) _ (iq.ext hI.lext).weak SQ.out).mono ?_;exact xgo
          intro w11 hlw11 hbw11 holdw11 T hT;simp only[Fin,E,EI,VP,VSl,VN,xgg,xgh,xgi,xgj]at hT;obtain⟨vy6,hy6,rfl⟩:=hT;simp only[xgl,xgk];have hz:=hz.below hbw11;have T5:=T5.below hbw11;have HP:=xgv (HP.out.below hbw11);have hO:=hO.trans (zY.of Z hbw11);clear c1 c2 c3 c4 c5 c6 d1 d2 d3 d4 p1 p2 p3 p4;go_wp2_with fail
          refine(zQH hB.bsm hz HOK.out hin htn hne hy6 hn hCs hCt HADD.out).mono ?_;rintro e w12 ⟨⟨uu12,rfl⟩,hO12,hz⟩;have hok:=HADD.out.ok;have hO:=hO.trans hO12;have T5:=hO12.blk T5 (fun hh=>by have:=hZ _ hh;omega);have HP:=xgv (HP.out.onlyZ hO12 HPZ.out);have HOK2:=xgv hok;clear hok;go_wp2;go_roundw
          case rel=>exact⟨u+1,_,by simp,by omega,hO,T5,HP,hz,⟨⟨HOK2.out,by rw[hm2,hj1];exact H3.out⟩⟩⟩
          case measure=>simp[intOf];omega
         ·rw[if_neg hadd]at h3
          cases h3
     ·obtain rfl:u=M:=by omega
      have h3:=hx.out.2;rw[Nat.sub_self]at h3;unfold zEi at h3;injection h3 with h3
      have H3:=xgv h3;have HOK:=xgv hx.out.1;clear h3 hx;go_wp2;go_roundw
      case rel=>exact⟨i,(i:Int)-1,xt,by simp,rfl,by omega,hO,T5,HP,hz,⟨⟨HOK.out,by rw[H3.out];exact HR.out⟩⟩⟩
      case measure=>simp[intOf]
end Go.Proofs.YtnbmaipobhppcaaGreat
