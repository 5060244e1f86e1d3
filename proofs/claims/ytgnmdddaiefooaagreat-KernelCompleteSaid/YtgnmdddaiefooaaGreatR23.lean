/- matrix.New. matrix.Identity. matrix.Transpose. smith: the work under way; work.divide. -/
import Derived.Defers
import Derived.Recover
import Derived.Test.YtgnmdddaiefooaaGreatR18
set_option linter.unusedVariables false
set_option linter.unusedSimpArgs false
set_option linter.unusedSectionVars false
set_option maxHeartbeats 16000000
set_option maxRecDepth 100000
namespace Go.Proofs.YtgnmdddaiefooaaGreat
open Go.RowKit
theorem zKj(w:World):
  CallsD Tryz.prog 139 #[] .returning w fun e u' w'=>e= .returned (.tuple #[])/\u'= .returning/\w'=w:=by
 refine callsD_of_wpS Tryz.func139 rfl fun c₀ cs hu=>?_
 apply wpS_region;simp[wpOpsS,go_sem,recoverD,hu,Tryz.ntmps139,bodyPostS,results,Tryz.results139];cases c₀;simp_all
theorem mkR(m:Int)(n:Nat)(hm:m=n)(h:n<=1099511627776)(W:World):
  (Instr.makeSlice 26 (.int .i64 m) (.int .i64 m)).run Tryz.prog W= .ok (.slice (some ⟨W.heap.size,0,none⟩) n n) (W.alloc (.cells (madeCells (Value.slice none 0 0).cells (n*1)) tR)):=by
 subst hm;obtain⟨i0,hi,hz0,hz1,hz2⟩:=info_parts Tryz.infoR;have:=zAl (P:=Tryz.prog) 26 tR i0 _ Tryz.underlying26 hi hz0 .i64 .i64 n n (xgf _) (by rw[hz2];omega) oM W;rw[this,hz1]
def qY(n C:Nat)(bs:List Nat):Array Value:=(qT C bs++List.replicate (n-bs.length) (Value.slice none 0 0)).toArray
theorem zCV(n C:Nat):madeCells #[Value.slice none 0 0] n=qY n C []:=by
 apply Array.ext
 ·simp[madeCells,qY,qT]
 ·intro i h1 h2
  simp[madeCells,qY,qT,Nat.mod_one,Value.cells]
theorem zAP{n C:Nat}{bs:List Nat}(h:bs.length<=n):(qY n C bs).size=n:=by simp[qY,qT];omega
theorem zDq{n C b:Nat}{bs:List Nat}(h:bs.length<n):(qY n C bs).setIfInBounds bs.length (.slice (some ⟨b,0,none⟩) C C)=qY n C (bs++ [b]):=by
 apply Array.ext
 ·simp[qY,qT];omega
 ·intro i h1 h2
  have hi:i<n:=by simpa[zAP (C:=C) (Nat.le_of_lt h)]using h1
  by_cases e:i=bs.length
  ·subst e
   simp[qY,qT]
  ·have e2:bs.length≠i:=fun hh=>e hh.symm
   rw[Array.getElem_setIfInBounds_ne (by simpa using h1) e2];rcases Nat.lt_or_ge i bs.length with hl|hl
   ·simp[qY,qT,hl,List.getElem_append,Nat.lt_succ_of_lt hl]
   ·have h3:¬ i<bs.length:=by omega
    have h4:¬ i<bs.length+1:=by omega
    obtain⟨p,hp⟩:∃p,i-bs.length=p+1:=⟨i-bs.length-1,by omega⟩;simp[qY,qT,List.getElem_append,h3,h4,hp]
theorem zIU(R C:Nat)(w:World)(hR:R<=1000000)(hC:C<=1000000):
  Calls Tryz.prog 112 #[.int .i64 R,.int .i64 C] w (zAc w R C (yX R C)):=by
 have hmf:∀(fn:Fn) (first cap:Array Value) (w:World),(Instr.makeFunc fn first cap).run Tryz.prog w= .ok (.func fn first cap) w:=fun _ _ _ _=>rfl
 have hmkR:=fun W=>mkR (R:Int) R rfl oM W
 have hmkC:=fun W=>mkI (C:Int) C rfl oM W
 go_enter_defers Tryz.func112,Tryz.ntmps112;go_upto_region 4 with(fail)
 refine zC ?_;intro W0 hW0;obtain⟨hB0,br,bA,hs0⟩:=qK hW0;rw[zCV R C]at bA;clear hW0 hmkR;go_wp2;go_loopw [15] (fun iv wr=>∃(k:Nat) (bs:List Nat),k<=R/\iv= .int .i64 k/\bs.length=k/\bs.Nodup/\(∀b∈bs,w.heap.size+1<b/\qF wr b (zQ C (fun _=>0)))/\Below w.heap.size w wr/\Blk wr w.heap.size 28 #[.int .i64 0,.int .i64 0,.slice none 0 0]/\Blk wr (w.heap.size+1) tR (qY R C bs)) (fun iv _=>R-(intOf iv).toNat)
 case atStart=>exact⟨0,[],by omega,rfl,rfl,by simp,by simp,hB0,br,bA⟩
 case round=>
  obtain⟨k,bs,hk,rfl,hbl,hnd,hrows,hb,br,bA⟩:=hrel;have hsz:=hb.size;have HR:=xgv (And.intro hnd hrows);clear hnd hrows;by_cases hlt:k<R
  ·have hmkC:=hmkC wr
   have lA:=bA.lt;have lr:=br.lt;have bA1:Blk (wr.alloc (.cells (zeroCells C) tI)) (w.heap.size+1) tR (qY R C bs):=bA.below ((Below.refl _ _).alloc (xgf _) _);have f1:=bA1.frozen k;obtain⟨u,f2⟩:∃u,(wr.alloc (.cells (zeroCells C) tI)).cell? ⟨w.heap.size+1,k,none⟩=some u:=by
    rw[bA1.cell k];exact⟨_,Array.getElem?_eq_getElem (by rw[zAP oM];exact hlt)⟩
   go_wp2;go_roundw
   case rel=>
    have hset:=bA.set_ k (.slice (some ⟨wr.heap.size,0,none⟩) C C);rw[<-hbl,zDq oM,hbl]at hset;have hsw:(wr.setCell ⟨w.heap.size+1,k,none⟩ (.slice (some ⟨wr.heap.size,0,none⟩) C C)).heap.size=wr.heap.size:=by simp[World.setCell]
    have hx1:=bA.lext dE k (.slice (some ⟨wr.heap.size,0,none⟩) C C);have hb3:Below (wr.setCell ⟨w.heap.size+1,k,none⟩ (.slice (some ⟨wr.heap.size,0,none⟩) C C)).heap.size (wr.setCell ⟨w.heap.size+1,k,none⟩ (.slice (some ⟨wr.heap.size,0,none⟩) C C)) ((wr.setCell ⟨w.heap.size+1,k,none⟩ (.slice (some ⟨wr.heap.size,0,none⟩) C C)).alloc (.cells (zeroCells C) tI)):=(Below.refl _ _).alloc (xgf _) _;refine⟨k+1,bs++ [wr.heap.size],by omega,by simp,by simp[hbl],?_,?_,(zP hb oM _ _).alloc oM _,?_,hset.below hb3⟩
    ·rw[List.nodup_append]
     refine⟨HR.out.1,by simp,fun x hx y hy=>?_⟩;simp at hy;subst hy;have:=(HR.out.2 x hx).2.lt;omega
    ·intro b hb'
     rcases List.mem_append.1 hb' with h1|h1
     ·obtain⟨h2,h3⟩:=HR.out.2 b h1
      exact⟨h2,(h3.old (zT _ _ _ _ _ oM) hx1).below hb3⟩
     ·simp at h1
      subst h1;refine⟨by omega,?_⟩;have h4:=zF4 (wr.setCell ⟨w.heap.size+1,k,none⟩ (.slice (some ⟨wr.heap.size,0,none⟩) C C)) C;have h5:List.replicate C (0:Int)=zQ C (fun _=>0):=by
       apply List.ext_getElem
       ·simp[zQ]
       ·intro i h1 h2;simp[zQ]
      rw[h5,hsw]at h4;exact h4
    ·exact Blk.below (Blk.far br oM _ _) hb3
   case measure=>simp[intOf];omega
  ·obtain rfl:k=R:=by omega
   obtain⟨c1,c2,c3,c4,c5,c6⟩:=br.three;have hz0:List.replicate C (0:Int)=zQ C (fun _=>0):=by
    apply List.ext_getElem
    ·simp[zQ]
    ·intro i h1 h2;simp[zQ]
   have HZ:=xgv hz0;have hpr:(qY k C bs).toList=qT C bs:=by simp[qY,hbl]
   have HPR:=xgv hpr;clear hz0 hpr;go_wp2;refine leaves_cons (f:=139) (args:=#[]) sI (by simp[go_sem]) ?_;refine(zKj _).mono ?_;rintro e u' w'' ⟨rfl,rfl,rfl⟩;have hx:=br.lext3 dE (.int .i64 k) (.int .i64 C) (.slice (some ⟨w.heap.size+1,0,none⟩) k k);refine⟨_,results_cell_row rfl _ _ w.heap.size _ _ _ _ rfl (br.put3 _ _ _) Tryz.underlying28 rfl (by rw[Tryz.sizeM];rfl),_,bs,rfl,⟨hbl,_,rfl,?_⟩,zP (zP (zP hb oM 0 _) oM 1 _) oM 2 _⟩;refine⟨⟨by simp[qT],.inr ⟨w.heap.size+1,k,qY k C bs,by rw[hbl],by omega,(qZ _ _ _ _ _ _ oM).trans bA,by omega,by simp[maxLen];omega,by rw[zAP oM];omega,?_⟩⟩,by simp[yX,hbl],?_,HR.out.1,by omega⟩
   ·rw[HPR.out,hbl,Nat.mul_one,List.take_of_length_le (by simp[qT,hbl])]
   ·intro i b r hi hr
    have hm:=xgd hi;obtain⟨h1,h2⟩:=HR.out.2 b hm;have hik:i<k:=by have:=(xge.1 hi).1;omega
    obtain rfl:r=List.replicate C 0:=by
     unfold yX at hr;rw[List.getElem?_replicate,if_pos hik]at hr;injection hr with hr
     exact hr.symm
    refine⟨by omega,by simp,?_⟩;rw[HZ.out];exact h2.old (qZ _ _ _ _ _ _ oM) hx
theorem zFu(n:Nat)(w:World)(hn:n<=1000000):Calls Tryz.prog 84 #[.int .i64 n] w (zAc w n n (genM n n idf)):=by
 go_enter Tryz.func84,Tryz.ntmps84;go_upto_region 1 with(fail)
 refine zC ?_;intro W0 hW0;obtain⟨hB0,br,hs0⟩:=zN hW0;go_wp2_with fail
 refine(zIU n n W0 hn hn).mono ?_;rintro e w2 ⟨u,bs,rfl,⟨hbl,A2,rfl,ho⟩,hb2⟩;obtain⟨oo,on,oc,rfl,hon,-,-,-⟩:=id ho.rows;obtain rfl:n=on:=by rw[<-hon];simp[yX]
 clear hon;have hlts:=ho.lts;go_upto_region 2 with(fail)
 refine zC ?_;intro W3 hW3;obtain⟨hB3,T5,hs3⟩:=zN hW3;have br:=(br.below hb2).below hB3;have ho:=ho.below hB3;have hz0:yX n n=genM n n (zHF 0):=by rw[zBZ];exact zS fun i _ j _=>by unfold zHF;rw[if_neg oM]
 rw[hz0]at ho;have hBt:=nx (nx hB0 hb2) hB3;have q1:=hB0.size;have q2:=hb2.size;obtain⟨f1,f2,f3,f4,f5,f6⟩:=T5.three;clear hW3 hW0 hz0;go_wp2;clear f1 f2 f3 f4 f5 f6;go_loopw [11] (fun iv wr=>∃i:Nat,i<=n/\iv= .int .i64 i/\Below w.heap.size w wr/\Blk wr w.heap.size 28 #[.int .i64 0,.int .i64 0,.slice none 0 0]/\Blk wr w2.heap.size 28 #[.int .i64 n,.int .i64 n,.slice oo n oc]/\zJ wr W0.heap.size (.slice oo n oc) n bs (genM n n (zHF i))) (fun iv _=>n-(intOf iv).toNat)
 case atStart=>exact⟨0,by omega,rfl,hBt,br,T5,ho⟩
 case round=>
  obtain⟨i,hi,rfl,hb,br,T5,ho⟩:=hrel;obtain⟨f1,f2,f3,f4,f5,f6⟩:=T5.three;by_cases hlt:i<n
  ·obtain⟨g,bo,rfl,hg,hbo,hbo2,o1,ho3⟩:=ho.at_ (i:=i) oM
   clear ho3;have lt5:=T5.lt;go_upto_region 5 with(fail)
   refine zB 8 rfl (RI wr (wr.heap.size) _ 51
     [VP 0 14 w2.heap.size 2,VSl 1 15 g n oc,VN 2 16 i,VP 3 17 g i,VSl 4 18 bo n n,VN 5 19 i,EI 6 20 (1),VP 7 21 bo (i*2)] [] []) kR RI.start (RI.fin kR ?fin1) ?steps1
   case steps1=>
    refine⟨?_,?_,?_,?_,?_,?_,?_,?_,trivial⟩<;>(intro L T wS hL hd hcl hI K hK;try refine zA rfl ?_)
    ·exact xgs (hI.k 3 rfl kR)
    ·have zt0:=hI.e mm0 (hd 0)
     have cc0:=hI.cell f3 oM nom;exact xgu
    ·exact xgs (hI.k 4 rfl kR)
    ·exact xgt (hI.e mm1 (hd 1)) (hI.e mm2 (hd 2))
    ·have zt3:=hI.e mm3 (hd 3)
     have cc0:=hI.cell o1 oM nom;exact xgu
    ·exact xgs (hI.k 4 rfl kR)
    ·go_simp
     refine(zEi 1 _ oM oM).mono ?_;exact xgo
    ·exact xgt (hI.e mm4 (hd 4)) (hI.e mm5 (hd 5))
   intro w9 hlw9 hbw9 holdw9 T hT;simp only[Fin,E,EI,VP,VSl,VN,xgg,xgh,xgi,xgj]at hT;obtain⟨va6,ha6,rfl⟩:=hT;simp only[xgl,xgk];obtain⟨pn,pa,pl,pc,px,rfl,hpx⟩:=id ha6;have HPX:=xgw hpx;clear hpx;have ho9:=ho.below hbw9;obtain⟨sn,sa,sl,sc,z1,z2,z3,z4,-⟩:=ho9.cellAt hbo hlt;have hbolt:=hlts i bo hbo;have hset:=ho9.set hbo hlt ha6;go_wp2;go_roundw
   case rel=>
    have hq:zLH (genM n n (zHF i)) i i 1=genM n n (zHF (i+1)):=by
     rw[zBV _ hlt hlt];exact zS fun a _ b _=>by
      unfold zHF;by_cases h:a=i/\b=i
      ·rw[if_pos h,if_pos oM]
      ·rw[if_neg h]
       by_cases h2:a=b/\a<i
       ·rw[if_pos h2,if_pos oM]
       ·rw[if_neg h2,if_neg oM]
    rw[hq]at hset;exact⟨i+1,by omega,by simp,zP (zP (nx hb hbw9) oM _ _) oM _ _,(qH _ _ _ _ _ _ _ oM).trans (br.below hbw9),(qH _ _ _ _ _ _ _ oM).trans (T5.below hbw9),hset.1⟩
   case measure=>simp[intOf];omega
  ·obtain rfl:i=n:=by omega
   have hq:genM i i (zHF i)=genM i i idf:=zS fun a ha b _=>by
    unfold zHF idf;by_cases h:a=b
    ·rw[if_pos ⟨h,ha⟩,if_pos h]
    ·rw[if_neg (fun h2=>h h2.1),if_neg h]
   rw[hq]at ho;obtain⟨r1,r2,r3,r4,r5,r6⟩:=br.three;go_wp2;refine zX rfl rfl rfl (br.put3 _ _ _) ⟨_,bs,rfl,⟨hbl,_,rfl,?_⟩,zP (zP (zP hb oM 0 _) oM 1 _) oM 2 _⟩;exact(ho.keep (fun k hk=>qZ _ _ k _ _ _ oM) (br.lext3 dE _ _ _)).mono q1
def zJp(f:Nat->Nat->Int)(i j:Nat):Nat->Nat->Int:=fun a b=>if b<i∨(b=i/\a<j)then f a b else 0
theorem zJc(R C:Nat)(f:Nat->Nat->Int):yX R C=genM R C (zJp f 0 0):=by
 rw[zBZ];exact zS fun i _ j _=>by unfold zJp;rw[if_neg oM]
theorem zMi{R C:Nat}{f:Nat->Nat->Int}{i:Nat}:genM R C (zJp f i R)=genM R C (zJp f (i+1) 0):=
 zS fun a ha b hb=>by
  unfold zJp;by_cases h:b<i∨(b=i/\a<R)
  ·rw[if_pos h,if_pos oM]
  ·rw[if_neg h,if_neg oM]
theorem zMh{R C:Nat}{f:Nat->Nat->Int}:genM R C (zJp f C 0)=genM R C f:=
 zS fun a ha b hb=>by unfold zJp;rw[if_pos oM]
theorem zLZ{R C:Nat}{f:Nat->Nat->Int}{i j:Nat}(hi:i<C)(hj:j<R):zLH (genM R C (zJp f i j)) j i (f j i)=genM R C (zJp f i (j+1)):=by
 rw[zBV _ hj hi];exact zS fun a _ b _=>by
  unfold zJp;by_cases h:a=j/\b=i
  ·obtain⟨rfl,rfl⟩:=h
   rw[if_pos ⟨rfl,rfl⟩,if_pos oM]
  ·rw[if_neg h]
   by_cases h2:b<i∨(b=i/\a<j)
   ·rw[if_pos h2,if_pos oM]
   ·rw[if_neg h2,if_neg oM]
theorem zCS(v:Value)(R C:Nat)(M:List (List Int))(w:World)(h:qL w v R C M)(hF:yG R C M)(hR:R<=1000000)(hC:C<=1000000)(hS:∀r∈M,∀z∈r,Sm z):
  Calls Tryz.prog 67 #[v] w (zAc w C R (genM C R (fun a b=>ent M b a))):=by
 have h0:=h;obtain⟨A,rfl,h⟩:=h;obtain⟨ao,n,cap,rfl,e2,e3,e4,-⟩:=id h;have HX:=xgw e2;have HS:=xgv hS;have HF:=xgv hF;obtain rfl:n=R:=by rw[<-e2,hF.1]
 have hdv:decide (qR n C M)=true:=decide_eq_true hF.valid;obtain⟨f,hf⟩:∃f:Nat->Nat->Int,(fun a b=>ent M b a)=f:=⟨_,rfl⟩;rw[hf];have hfe:∀i j,f i j=ent M j i:=fun i j=>by rw[<-hf]
 have HFE:=xgv hfe;clear hf hfe e2 hS hF;go_enter Tryz.func67,Tryz.ntmps67;go_upto_region 1 with(fail)
 refine zC ?_;intro W0 hW0;obtain⟨hB0,bx1,br,hs0⟩:=qK hW0;obtain⟨c1,c2,c3,c4,c5,c6⟩:=bx1.three;clear hW0;go_wp2_with fail
 refine(zAn _ n C M W0 (h0.below hB0)).mono ?_;rintro e w1 ⟨rfl,hb1⟩;rw[hdv];have bx1:=bx1.below hb1;have br:=br.below hb1;clear c1 c2 c3 c4 c5 c6 hdv;obtain⟨c1,c2,c3,c4,c5,c6⟩:=bx1.three;go_wp2_with fail
 refine(zIU C n w1 hC hR).mono ?_;rintro e w2 ⟨u,bs,rfl,⟨hbl,A2,rfl,ho⟩,hb2⟩;obtain⟨oo,on,oc,rfl,hon,-,-,-⟩:=id ho.rows;obtain rfl:C=on:=by rw[<-hon];simp[yX]
 clear hon;have hlts:=ho.lts;have hBt:=nx hB0 hb1;have hszt:=hBt.size;have hB0s:=hB0.size;have hb1s:=hb1.size;clear c1 c2 c3 c4 c5 c6;go_upto_region 4 with(fail)
 refine zC ?_;intro W3 hW3;obtain⟨hB3,T5,hs3⟩:=zN hW3;have bx1:=(bx1.below hb2).below hB3;have br:=(br.below hb2).below hB3;have ho:=ho.below hB3;rw[zJc C n f]at ho;have hBt:=nx (nx hBt hb2) hB3;have q2:=hb2.size;obtain⟨c1,c2,c3,c4,c5,c6⟩:=bx1.three;clear hW3;go_wp2;clear c1 c2 c3 c4 c5 c6;go_loopw [20] (fun iv wr=>∃i:Nat,i<=n/\iv= .int .i64 i/\Below w.heap.size w wr∧
  Blk wr (w.heap.size+1) 28 #[.int .i64 0,.int .i64 0,.slice none 0 0]/\Blk wr w2.heap.size 28 #[.int .i64 C,.int .i64 n,.slice oo C oc]/\zJ wr w1.heap.size (.slice oo C oc) n bs (genM C n (zJp f i 0))) (fun iv _=>n-(intOf iv).toNat)
 case atStart=>exact⟨0,by omega,rfl,hBt,br,T5,ho⟩
 case round=>
  obtain⟨i,hi,rfl,hb,br,T5,ho⟩:=hrel;by_cases hlt:i<n
  ·obtain⟨b,ra,rn,rc,zs,rfl,hbl1,hz,p1,hv⟩:=h.row (k:=i) (by rw[HX.out];exact hlt)
   have hzl:=HF.out.2 zs (xgd hz);have hvl:=hv.len;obtain rfl:C=rn:=by omega
   have HZ:=xgv (And.intro hz hzl);have p1:=qC p1 hb;obtain⟨hvl1,hvl2,hvl3⟩:=hvl;clear hz hzl hvl1;go_wp2;clear p1;go_loopw [27] (fun jv wt=>∃j:Nat,j<=C/\jv= .int .i64 j/\Below w.heap.size w wt∧
    Blk wt (w.heap.size+1) 28 #[.int .i64 0,.int .i64 0,.slice none 0 0]/\Blk wt w2.heap.size 28 #[.int .i64 C,.int .i64 n,.slice oo C oc]/\zJ wt w1.heap.size (.slice oo C oc) n bs (genM C n (zJp f i j))) (fun jv _=>C-(intOf jv).toNat)
   case atStart=>exact⟨0,by omega,rfl,hb,br,T5,ho⟩
   case round=>
    rename World=>wt
    obtain⟨j,hj,rfl,hb,br,T5,ho⟩:=hrel;by_cases hjc:j<C
    ·obtain⟨b',z,s,a,l,c,rfl,hbl',hzk,q1,q2',hzv⟩:=(hv.below hb).cell (k:=j) (by rw[HZ.out.2];exact hjc)
     have hent:=xgw ((HFE.out j i).trans (zA7 HZ.out.1 hzk));have SZ:qM (Sm z):=⟨HS.out _ (xgd HZ.out.1) _ (xgd hzk)⟩;clear hzk;have lt2:=br.lt;have lt5:=T5.lt;have hbs:=hb.size;go_upto_region 10 with(fail)
     refine zC ?_;intro W6 hW6;obtain⟨hB6,T7,hs6⟩:=zN hW6;obtain⟨d1,d2,d3,d4⟩:=T7.two;have br:=br.below hB6;have T5:=T5.below hB6;have ho:=ho.below hB6;have hzv:=hzv.ext (lx hB6);have hb:=nx hb hB6;clear q1 q2' hW6;obtain⟨g,bo,rfl,hg,hbo,hbo2,o1,ho3⟩:=ho.at_ (i:=j) oM;obtain⟨f1,f2,f3,f4,f5,f6⟩:=T5.three;clear ho3;have lt5:=T5.lt;have lt7:=T7.lt;refine zB 9 rfl (RI W6 (W6.heap.size) _ 51
       [VP 0 32 w2.heap.size 2,VSl 1 33 g C oc,VN 2 34 j,VP 3 35 g j,VSl 4 36 bo n n,VN 5 37 i,E 6 38 (.agg #[.bool s,.slice a l c]),EI 7 39 (z),VP 8 40 bo (i*2)] [] []) kR RI.start (RI.fin kR ?fin1) ?steps1
     case steps1=>
      refine⟨?_,?_,?_,?_,?_,?_,?_,?_,?_,trivial⟩<;>(intro L T wS hL hd hcl hI K hK;try refine zA rfl ?_)
      ·exact xgs (hI.k 3 rfl kR)
      ·have zt0:=hI.e mm0 (hd 0)
       have cc0:=hI.cell f3 oM nom;exact xgu
      ·exact xgs (hI.k 6 rfl kR)
      ·exact xgt (hI.e mm1 (hd 1)) (hI.e mm2 (hd 2))
      ·have zt3:=hI.e mm3 (hd 3)
       have cc0:=hI.cell o1 oM nom;exact xgu
      ·exact xgs (hI.k 4 rfl kR)
      ·have zt:=hI.k 7 rfl kR
       have cc0:=hI.cell d1 oM nom;have cc1:=hI.cell d2 oM nom;exact xgu
      ·have zt6:=hI.e mm6 (hd 6)
       go_simp;refine(zN8 _ z _ (hzv.ext hI.lext) SZ.out).mono ?_;exact xgo
      ·exact xgt (hI.e mm4 (hd 4)) (hI.e mm5 (hd 5))
     intro w9 hlw9 hbw9 holdw9 T hT;simp only[Fin,E,EI,VP,VSl,VN,xgg,xgh,xgi,xgj]at hT;obtain⟨va7,ha7,rfl⟩:=hT;simp only[xgl,xgk];obtain⟨pn,pa,pl,pc,px,rfl,hpx⟩:=id ha7;have HPX:=xgw hpx;clear hpx;have ho9:=ho.below hbw9;obtain⟨sn,sa,sl,sc,z1,z2,z3,z4,-⟩:=ho9.cellAt hbo hlt;have hbolt:=hlts j bo hbo;have hset:=ho9.set hbo hlt ha7;have hbo9:=hset.2.2;go_wp2;go_roundw
     case rel=>
      have hq:z=f j i:=hent.out.symm;rw[hq,zLZ hlt hjc]at hset;exact⟨j+1,by omega,by simp,zP (zP (nx hb hbw9) oM _ _) oM _ _,(qH _ _ _ _ _ _ _ oM).trans (br.below hbw9),(qH _ _ _ _ _ _ _ oM).trans (T5.below hbw9),hset.1⟩
     case measure=>simp[intOf];omega
    ·obtain rfl:j=C:=by omega
     rw[zMi]at ho;go_wp2;go_roundw
     case rel=>exact⟨i+1,by omega,by simp,hb,br,T5,ho⟩
     case measure=>simp[intOf];omega
  ·obtain rfl:i=n:=by omega
   rw[zMh]at ho;obtain⟨f1,f2,f3,f4,f5,f6⟩:=T5.three;obtain⟨r1,r2,r3,r4,r5,r6⟩:=br.three;go_wp2;refine zX rfl rfl rfl (br.put3 _ _ _) ⟨_,bs,rfl,⟨hbl,_,rfl,?_⟩,zP (zP (zP hb oM 0 _) oM 1 _) oM 2 _⟩;exact(ho.keep (fun k hk=>qZ _ _ k _ _ _ oM) (br.lext3 dE _ _ _)).mono oM
def Zn(A:Value)(bs:List Nat)(b:Nat):Prop:=b∈bs∨A.ownBlock=some b
def Ap(A:Value)(bs:List Nat)(A':Value)(bs':List Nat):Prop:=∀b,Zn A bs b->¬ Zn A' bs' b
theorem Ap.far{A A':Value}{bs bs':List Nat}(h:Ap A bs A' bs'):Far bs bs':=fun b h1 h2=>h b (.inl h1) (.inl h2)
theorem Ap.own{A A':Value}{bs bs':List Nat}(h:Ap A bs A' bs'):∀g,A.ownBlock=some g->A'.ownBlock≠some g:=fun g h1 h2=>h g (.inr h1) (.inr h2)
theorem Ap.symm{A A':Value}{bs bs':List Nat}(h:Ap A bs A' bs'):Ap A' bs' A bs:=fun b h1 h2=>h b h2 h1
theorem Wri.zlt{w:World}{A:Value}{R C:Nat}{bs:List Nat}{F:Nat->Nat->Int}(h:Wri w A R C bs F){b:Nat}(hb:Zn A bs b):b<w.heap.size:=by
 rcases hb with hb|hb
 ·exact(h.blk hb).elim fun r hr=>hr.lt
 ·rcases(zJ.own h).2 with⟨rfl,-⟩|⟨g,cap,cur,rfl,-,hh,-⟩
  ·cases hb
  ·simp only[Value.ownBlock,Option.some.injEq]at hb
   subst hb;exact(Array.getElem?_eq_some_iff.1 hh).1
theorem Wri.keepZ{Z:Nat->Prop}{w w':World}{A:Value}{R C:Nat}{bs:List Nat}{F:Nat->Nat->Int}(h:Wri w A R C bs F)(ho:zM Z w w')(hz:∀b,Zn A bs b->¬ Z b):Wri w' A R C bs F:=
 zJ.same h (fun b hb=>ho.old b (h.zlt (.inl hb)) (hz b (.inl hb))) (fun g hg=>ho.old g (h.zlt (.inr hg)) (hz g (.inr hg))) ho.lext
theorem Wri.rown{w:World}{A A':Value}{R C R' C':Nat}{bs bs':List Nat}{F F':Nat->Nat->Int}(h:Wri w A R C bs F)(h':Wri w A' R' C' bs' F'){b:Nat}(hb:b∈bs):A'.ownBlock≠some b:=by
 intro e;obtain⟨r,hr⟩:=h.blk hb;exact zCU (zJ.own h') hr e.symm
theorem Ap.of{w:World}{A A':Value}{R C R' C':Nat}{bs bs':List Nat}{F F':Nat->Nat->Int}(h:Wri w A R C bs F)(h':Wri w A' R' C' bs' F')(hf:Far bs bs')(ho:∀g,A.ownBlock=some g->A'.ownBlock≠some g):Ap A bs A' bs':=by
 intro b h1 h2;rcases h1 with h1|h1
 ·rcases h2 with h2|h2
  ·exact hf b h1 h2
  ·exact h.rown h' h1 h2
 ·rcases h2 with h2|h2
  ·exact h'.rown h h2 h1
  ·exact ho b h1 h2
theorem Wri.mat{w:World}{A:Value}{R C:Nat}{bs:List Nat}{F:Nat->Nat->Int}(h:Wri w A R C bs F):qL w (.agg #[.int .i64 R,.int .i64 C,A]) R C (genM R C F):=⟨A,rfl,zJ.rows h⟩
structure BSd(B:Nat):Prop where
 smd:∀z:Int,z.natAbs<B->Smd z
theorem BSd.bsm{B:Nat}(h:BSd B):BSm B:=⟨fun z hz=>(h.smd z hz).sm⟩
def zM7(B C:Nat)(F:Nat->Nat->Int)(i j:Nat)(m0 m1 m2 m3:Int):Prop:=
 m0.natAbs<B/\m1.natAbs<B/\m2.natAbs<B/\m3.natAbs<B/\∀t,t<C->(F i t).natAbs<B/\(F j t).natAbs<B/\(m0*F i t).natAbs<B/\(m1*F j t).natAbs<B/\(m2*F i t).natAbs<B/\(m3*F j t).natAbs<B
theorem zM7.bl{B C:Nat}{F:Nat->Nat->Int}{i j:Nat}{m0 m1 m2 m3:Int}(hB:BSm B)(h:zM7 B C F i j m0 m1 m2 m3):zMr C (F i) (F j) m0 m1 m2 m3:=fun t ht=>by
 obtain⟨-,-,-,-,h5⟩:=h;obtain⟨q1,q2,q3,q4,q5,q6⟩:=h5 t ht;exact⟨hB.sm _ q1,hB.sm _ q2,hB.sm _ q3,hB.sm _ q4,hB.sm _ q5,hB.sm _ q6⟩
theorem zM7.ms{B C:Nat}{F:Nat->Nat->Int}{i j:Nat}{m0 m1 m2 m3:Int}(hB:BSm B)(h:zM7 B C F i j m0 m1 m2 m3):Sm m0/\Sm m1/\Sm m2/\Sm m3:=⟨hB.sm _ h.1,hB.sm _ h.2.1,hB.sm _ h.2.2.1,hB.sm _ h.2.2.2.1⟩
structure zQL(B C Cu Cw:Nat)(z:W5)(i j:Nat):Prop where
 sz:(z.s i i).natAbs<B/\(z.s j j).natAbs<B
 g0:Int.gcd (z.s i i) (z.s j j)≠0
 all:∀g u v s t:Int,g=((Int.gcd (z.s i i) (z.s j j):Nat):Int)->u=z.s i i/g->v=z.s j j/g->Bez (z.s i i) (z.s j j) s t->
  (z.s i i*v).natAbs<B/\(t*v).natAbs<B/\zM7 B Cu z.u i j s t (-v) u/\zM7 B Cu z.v i j u v (-t) s/\zM7 B Cw z.w i j 1 1 (-(t*v)) (1-t*v)/\zM7 B Cw z.x i j (1-t*v) (t*v) (-1) 1
end Go.Proofs.YtgnmdddaiefooaaGreat
