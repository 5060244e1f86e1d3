/- hermite: the pivots; reduce. Lists of pivots: slices.Insert. The law for regions that draw, where nothing is written: values that last behind new memory. -/
import Derived.Lib.AppendZeros
import Derived.Lib.AppendZerosOnto
import Derived.Lib.Overlaps
import Derived.Laws.CopyRow
import Derived.Laws.Externs
import Derived.Test.YtgnmdddaiefooaaGreatR14
import Derived.Test.YtgnmdddaiefooaaGreatR18
import Derived.Test.YtgnmdddaiefooaaGreatR24
set_option linter.unusedVariables false
set_option linter.unusedSimpArgs false
set_option linter.unusedSectionVars false
set_option maxHeartbeats 16000000
set_option maxRecDepth 100000
namespace Go.Proofs.YtgnmdddaiefooaaGreat
open Go.RowKit
def zHG(w:World)(v:Value)(r:Nat)(ρ κ:Nat->Nat):Prop:=
 ∃ao cap,v= .slice ao r cap/\r<=cap/\cap<=9223372036854775807/\(0<r->∃b cs,ao=some ⟨b,0,none⟩/\Blk w b zAf cs/\∀k,k<r->cs[k*2]?=some (.int .i64 (ρ k))/\cs[k*2+1]?=some (.int .i64 (κ k)))
theorem zHG.old{w w':World}{v:Value}{r:Nat}{ρ κ:Nat->Nat}(h:zHG w v r ρ κ)(ho:∀b,v.ownBlock=some b->b<w.heap.size->w'.heap[b]?=w.heap[b]?):zHG w' v r ρ κ:=by
 obtain⟨ao,cap,rfl,h2,h3,h4⟩:=h;refine⟨ao,cap,rfl,h2,h3,fun hr=>?_⟩;obtain⟨b,cs,rfl,h5,h6⟩:=h4 hr;exact⟨b,cs,rfl,(ho b rfl h5.lt).trans h5,h6⟩
theorem zHG.below{w w':World}{v:Value}{r:Nat}{ρ κ:Nat->Nat}(h:zHG w v r ρ κ)(hb:Below w.heap.size w w'):zHG w' v r ρ κ:=h.old fun b _ hl=>hb.block b hl
theorem zHG.onlyZ{Z:Nat->Prop}{w w':World}{v:Value}{r:Nat}{ρ κ:Nat->Nat}(h:zHG w v r ρ κ)(ho:zM Z w w')(hz:∀b,v.ownBlock=some b->¬ Z b):zHG w' v r ρ κ:=h.old fun b hb hl=>ho.old b hl (hz b hb)
theorem zHG.cell{w:World}{b o r cap:Nat}{ρ κ:Nat->Nat}(h:zHG w (.slice (some ⟨b,o,none⟩) r cap) r ρ κ){k:Nat}(hk:k<r):o=0/\b<w.heap.size/\w.cell? ⟨b,k*2,none⟩=some (.int .i64 (ρ k))/\w.cell? ⟨b,k*2+1,none⟩=some (.int .i64 (κ k)):=by
 obtain⟨ao,cap',e,h2,h3,h4⟩:=h;obtain⟨b',cs,e1,h5,h6⟩:=h4 oM;injection e with e2 e3 e4
 rw[e1]at e2;injection e2 with e2
 injection e2 with e5 e6
 subst e5;obtain⟨c1,c2⟩:=h6 k hk;exact⟨e6,h5.lt,h5.cell _ ▸ c1,h5.cell _ ▸ c2⟩
def zEr(B n Cs Ct:Nat)(ρ κ:Nat->Nat)(i:Nat):Nat->Nat->Bst->Option Bst
 |0,_,x=>some x
 |m+1,j,x=>
  if x.s (ρ i) (κ j)=0 then zEr B n Cs Ct ρ κ i m (j+1) x
  else if x.s (ρ j) (κ j)=0 then none
  else if x.s (ρ i) (κ j)/x.s (ρ j) (κ j)=0 then zEr B n Cs Ct ρ κ i m (j+1) x
  else if zBx B n Cs Ct x (ρ i) (ρ j) (-(x.s (ρ i) (κ j)/x.s (ρ j) (κ j)))then zEr B n Cs Ct ρ κ i m (j+1) (x.add (ρ i) (ρ j) (-(x.s (ρ i) (κ j)/x.s (ρ j) (κ j))))
  else none
def zGx(B n Cs Ct:Nat)(ρ κ:Nat->Nat)(r:Nat):Nat->Bst->Option Bst
 |0,x=>some x
 |i+1,x=>(zEr B n Cs Ct ρ κ i (r-(i+1)) (i+1) x).bind (zGx B n Cs Ct ρ κ r i)
theorem zAs{e0:Bool}{Z:Nat->Prop}{B:Nat}(hB:BSd B){bw n Cs Ct r:Nat}{ρ κ:Nat->Nat}{Ah pv:Value}{x y:Bst}{w:World}(h:zAj e0 Z w bw Ah n Cs Ct x)(hok:okB B n Cs Ct x)(hp:zHG w pv r ρ κ)(hpz:∀b,pv.ownBlock=some b->¬ Z b)
  (hρ:∀k,k<r->ρ k<n) (hinj:∀i j,i<j->j<r->ρ i≠ρ j) (hκ:∀k,k<r->κ k<Cs) (hn:n<=1000000) (hCs:Cs<=1000000) (hCt:Ct<=1000000) (hrn:r<=n) (hZ:∀b,Z b->b<w.heap.size) (hn0:0<n)
  (hy:zGx B n Cs Ct ρ κ r r x=some y):
  Calls Tryz.prog 146 #[Ah,pv,.agg (zAx bw)] w fun e w'=>(∃u,e= .returned u)/\zM Z w w'/\zAj e0 Z w' bw Ah n Cs Ct y/\okB B n Cs Ct y:=by
 obtain⟨bss0,hw0,-⟩:=h.wri;obtain⟨so,sn,scap,rfl,s1,-⟩:=id (zJ.rows hw0);have e2:n=sn:=by rw[<-s1];simp[genM]
 subst e2;obtain⟨g,_,rfl,-⟩:=zJ.at_ hw0 (i:=0) (by rw[hw0.len];exact hn0);obtain⟨ao,cap,rfl,hrc,hrc2,-⟩:=id hp;have HY:=xgv (And.intro hok hy);have HP:=xgv hp;have HPZ:=xgv hpz;have HRO:=xgv hρ;have HIN:=xgv hinj;have HKA:=xgv hκ;have hsh:0<r->∃pb,ao=some ⟨pb,0,none⟩:=fun hr=>by
  obtain⟨ao',cap',e,-,-,h4⟩:=hp;obtain⟨b,cs,e1,-⟩:=h4 hr;injection e with e2
  exact⟨b,e2.trans e1⟩
 clear s1 hw0 bss0 hok hy hp hpz hρ hinj hκ;go_enter Tryz.func146,Tryz.ntmps146;go_upto_region 1 with(fail)
 refine zC ?_;intro W0 hW0;obtain⟨hB0,T5,hs0⟩:=zN hW0;have T5:Blk W0 w.heap.size 143 (zAx bw):=T5;have hO:=zM.of Z hB0;have hz:=h.below hB0;have HP:=xgv (HP.out.below hB0);clear hW0 h;go_wp2;go_loopw [6] (fun tv wr=>∃(i:Nat) (z:Int) (xi:Bst),tv= .int .i64 z/\z=(i:Int)-1/\i<=r/\zM Z w wr/\Blk wr w.heap.size 143 (zAx bw)/\qM (zHG wr (.slice ao r cap) r ρ κ)/\zAj e0 Z wr bw (.slice (some ⟨g,0,none⟩) n scap) n Cs Ct xi/\qM (okB B n Cs Ct xi/\zGx B n Cs Ct ρ κ r i xi=some y)) (fun tv _=>(intOf tv+1).toNat)
 case atStart=>exact⟨r,(r:Int)-1,x,by simp,rfl,xgf _,hO,T5,HP,hz,HY⟩
 case round=>
  obtain⟨i,z,xi,rfl,hzi,hi,hO,T5,HP,hz,hx⟩:=hrel;cases i with
  |zero=>
   obtain rfl:z=-1:=by omega
   clear hzi;have h3:=hx.out.2;unfold zGx at h3;injection h3 with h3
   have H3:=xgv h3;clear h3;go_wp2;exact bodyPost_end (results_none rfl _ _ _) rfl ⟨⟨_,rfl⟩,hO,by rw[<-H3.out];exact hz,by rw[<-H3.out];exact hx.out.1⟩
  | succ i=>
   obtain rfl:z=(i:Int):=by omega
   clear hzi;have h3:=hx.out.2;unfold zGx at h3;rw[Option.bind_eq_some_iff]at h3;obtain⟨y1,h4,h5⟩:=h3;have HR:=xgv h5;have HJ:=xgv (And.intro hx.out.1 h4);clear h4 h5 hx;obtain⟨pb,rfl⟩:=hsh oM;obtain⟨-,lpb,k1,-⟩:=HP.out.cell (k:=i) oM;have hwi:IntKind.i64.wrap ((i:Int)+1)=(i:Int)+1:=IntWalk.i64_in _ oM;obtain⟨M,hM⟩:∃M,r-(i+1)=M:=⟨_,rfl⟩;by_cases hce:cap=i+1
   ·have hM0:M=0:=by omega
    have hir:(i:Int)+1<=(r:Int):=by omega
    subst hM0;go_wp2;try rw[hM]
    go_loopw [30] (fun uv wt=>uv= .int .i64 0/\wt=wr) (fun _ _=>0)
    case atStart=>exact⟨rfl,rfl⟩
    case round=>
     rename World=>wt
     obtain⟨rfl,hwt⟩:=hrel;have hwt:=hwt.symm;subst hwt;have h3:=HJ.out.2;rw[hM]at h3;unfold zEr at h3;injection h3 with h3
     have H3:=xgv h3;clear h3;go_wp2;go_roundw
     case rel=>exact⟨i,(i:Int)-1,xi,by simp,rfl,by omega,hO,T5,HP,hz,⟨⟨HJ.out.1,by rw[H3.out];exact HR.out⟩⟩⟩
     case measure=>simp[intOf]
   ·go_wp2
    try rw[hM]
    go_loopw [30] (fun uv wt=>∃(u:Nat) (xt:Bst),uv= .int .i64 u/\u<=M/\zM Z w wt/\Blk wt w.heap.size 143 (zAx bw)/\qM (zHG wt (.slice (some ⟨pb,0,none⟩) r cap) r ρ κ)/\zAj e0 Z wt bw (.slice (some ⟨g,0,none⟩) n scap) n Cs Ct xt/\qM (okB B n Cs Ct xt/\zEr B n Cs Ct ρ κ i (M-u) (i+1+u) xt=some y1)) (fun uv _=>M-(intOf uv).toNat)
    case atStart=>exact⟨0,xi,rfl,by omega,hO,T5,HP,hz,⟨⟨HJ.out.1,by rw[<-hM];exact HJ.out.2⟩⟩⟩
    case round=>
     rename World=>wt
     clear hO T5 HP hz HJ k1 lpb;obtain⟨u,xt,rfl,huM,hO,T5,HP,hz,hx⟩:=hrel;by_cases hlt2:u<M
     ·obtain⟨j,hj⟩:∃j,j=i+1+u:=⟨_,rfl⟩
      obtain⟨m,hm⟩:∃m,M-u=m+1:=⟨M-u-1,by omega⟩;have hm2:M-(u+1)=m:=by omega
      have hj1:i+1+(u+1)=j+1:=by omega
      have h3:=hx.out.2;rw[hm,<-hj]at h3;unfold zEr at h3;have HOK:=xgv hx.out.1;have H3:=xgv h3;obtain⟨-,lpb,p1,p2⟩:=HP.out.cell (k:=j) oM;have hjo:j*2=(i+1)*2+u*2:=by omega
      rw[hjo]at p1 p2;have hjr:j<r:=by omega
      have hir:i<r:=by omega
      have hcC:=HKA.out j hjr;have hin:=HRO.out i hir;have htn:=HRO.out j hjr;have hne:=HIN.out i j oM hjr;obtain⟨ri,hri⟩:∃ri,ρ i=ri:=⟨_,rfl⟩;obtain⟨rj,hrj⟩:∃rj,ρ j=rj:=⟨_,rfl⟩;obtain⟨c,hc⟩:∃c,κ j=c:=⟨_,rfl⟩;rw[hri]at hin hne H3 ⊢
      rw[hrj]at htn hne H3 p1;rw[hc]at hcC H3 p2;clear h3 hx hj hjo hri hrj hc;go_upto_region 8 with(fail)
      refine zC ?_;intro W7 hW7;obtain⟨hB7,T9,hs7⟩:=zN hW7;have T9:Blk W7 wt.heap.size zAf #[.int .i64 rj,.int .i64 c]:=T9;have hO:=hO.trans (zM.of Z hB7);have T5:=T5.below hB7;have HP:=xgv (HP.out.below hB7);have hz:=hz.below hB7;have lt9:=hO.bel.size;have lwt:=T5.lt;clear hW7 p1 p2;obtain⟨bi,o1,hrow,lg⟩:=hz.row (i:=ri) hin;obtain⟨xs,xa,xl,xc,v1,v2,-,-,hx⟩:=hrow.cell (zW hcC);obtain⟨p1,p2,p3,p4⟩:=T9.two;have l1:=hrow.lt;have l9:=T9.lt;refine zB 8 rfl (RI W7 (W7.heap.size) _ 51
        [VSl 0 34 g n scap,VN 1 35 ri,VP 2 36 g ri,VSl 3 37 bi Cs Cs,VP 4 38 wt.heap.size 1,VN 5 39 c,VP 6 40 bi (c*2),E 7 41 (.agg #[.bool xs,.slice xa xl xc])] [] []) kR RI.start (RI.fin kR ?fin1) ?steps1
      case steps1=>
       refine⟨?_,?_,?_,?_,?_,?_,?_,?_,trivial⟩<;>(intro L T wS hL hd hcl hI K hK;try refine zA rfl ?_)
       ·exact xgs (hI.k 0 rfl kR)
       ·exact xgs (hI.k 7 rfl kR)
       ·exact xgt (hI.e mm0 (hd 0)) (hI.e mm1 (hd 1))
       ·have zt2:=hI.e mm2 (hd 2)
        have cc0:=hI.cell o1 oM nom;exact xgu
       ·exact xgs (hI.k 9 rfl kR)
       ·have zt4:=hI.e mm4 (hd 4)
        have cc0:=hI.cell p2 oM nom;exact xgu
       ·exact xgt (hI.e mm3 (hd 3)) (hI.e mm5 (hd 5))
       ·have zt6:=hI.e mm6 (hd 6)
        have cc0:=hI.cell v1 oM nom;have cc1:=hI.cell v2 oM nom;exact xgu
      intro w8 hlw8 hbw8 holdw8 T hT;simp only[Fin,E,EI,VP,VSl,VN,xgg,xgh,xgi,xgj]at hT;subst hT;simp only[xgl,xgk];go_wp2_with fail
      refine(jE _ (xt.s ri c) _ (hx.ext (lx hbw8)).weak).mono ?_;rintro e w1 ⟨rfl,hb1⟩;have hb81:=nx hbw8 hb1;have hz:=hz.below hb81;have T5:=T5.below hb81;have T9:=T9.below hb81;have HP:=xgv (HP.out.below hb81);have hO:=hO.trans (zM.of Z hb81);have h3:=H3.out;clear o1 hrow v1 v2 hx H3 p1 p2 p3 p4;by_cases hs0:xt.s ri c=0
      ·rw[if_pos hs0]at h3
       rw[jT hs0];have H3:=xgv h3;clear h3 hs0;go_wp2;go_roundw
       case rel=>exact⟨u+1,xt,by simp,by omega,hO,T5,HP,hz,⟨⟨HOK.out,by rw[hm2,hj1];exact H3.out⟩⟩⟩
       case measure=>simp[intOf];omega
      ·rw [if_neg hs0]at h3
       by_cases hne0:xt.s rj c=0
       ·rw[if_pos hne0]at h3
        cases h3
       ·rw[if_neg hne0]at h3
        have hcn:=zBp hs0;obtain⟨k0,hk0⟩:∃k0,qO (xt.s ri c) 0=k0:=⟨_,rfl⟩;rw[hk0]at hcn ⊢
        have HNE:=xgv hne0;have H3:=xgv h3;have SX:qM (Sm (xt.s ri c)):=⟨hB.bsm.sm _ (HOK.out.1 ri hin c hcC)⟩;have SY:qM (Sm (xt.s rj c)):=⟨hB.bsm.sm _ (HOK.out.1 rj htn c hcC)⟩;clear h3 hne0 hs0 hk0;obtain⟨bi,o1,hrow,lg⟩:=hz.row (i:=ri) hin;obtain⟨bk,o2,hrowk,-⟩:=hz.row (i:=rj) htn;obtain⟨xs,xa,xl,xc,v1,v2,-,-,hx⟩:=hrow.cell (zW hcC);obtain⟨ys,ya,yl,yc,r1,r2,-,-,hy⟩:=hrowk.cell (zW hcC);obtain⟨p1,p2,p3,p4⟩:=T9.two;have hlast:=zL9 (xt.s ri c) (xt.s rj c);have l9:=T9.lt;have l5:=T5.lt;have l1:=hrow.lt;have l2:=hrowk.lt;go_upto_region 9 with(fail)
        refine zF rfl (RI w1 (w1.heap.size) _ 51
          [VSl 0 45 g n scap,VN 1 46 ri,VP 2 47 g ri,VSl 3 48 bi Cs Cs,VP 4 49 wt.heap.size 1,VN 5 50 c,VP 6 51 bi (c*2),E 7 52 (.agg #[.bool xs,.slice xa xl xc]),VSl 8 53 g n scap,VP 9 54 wt.heap.size 0,VN 10 55 rj,VP 11 56 g rj,VSl 12 57 bk Cs Cs,VP 13 58 wt.heap.size 1,VN 14 59 c,VP 15 60 bk (c*2),E 16 61 (.agg #[.bool ys,.slice ya yl yc]),⟨17,62,DMV (xt.s ri c) (xt.s rj c)⟩,⟨18,44,DMV (xt.s ri c) (xt.s rj c)⟩,EI 19 63 (xt.s ri c/xt.s rj c),EI 20 64 (xt.s ri c%xt.s rj c),VN 21 65 0,VN 26 12 0] [⟨22,10,24,fun w v=>zR w v (xt.s ri c/xt.s rj c)⟩,⟨23,11,25,fun w v=>zR w v (xt.s ri c%xt.s rj c)⟩] []) kR RI.start ?fin2 ?steps2
        case steps2=>
         refine⟨?_,?_,?_,?_,?_,?_,?_,?_,?_,?_,?_,?_,?_,?_,?_,?_,?_,?_,?_,?_,?_,?_,?_,?_,?_,?_,?_,trivial⟩<;>(intro L T wS hL hd hcl hI K hK;try refine zA rfl ?_)
         ·exact xgs (hI.k 0 rfl kR)
         ·exact xgs (hI.k 7 rfl kR)
         ·exact xgt (hI.e mm0 (hd 0)) (hI.e mm1 (hd 1))
         ·have zt2:=hI.e mm2 (hd 2)
          have cc0:=hI.cell o1 oM nom;exact xgu
         ·exact xgs (hI.k 9 rfl kR)
         ·have zt4:=hI.e mm4 (hd 4)
          have cc0:=hI.cell p2 oM nom;exact xgu
         ·exact xgt (hI.e mm3 (hd 3)) (hI.e mm5 (hd 5))
         ·have zt6:=hI.e mm6 (hd 6)
          have cc0:=hI.cell v1 oM nom;have cc1:=hI.cell v2 oM nom;exact xgu
         ·exact xgs (hI.k 0 rfl kR)
         ·exact xgs (hI.k 9 rfl kR)
         ·have zt9:=hI.e mm9 (hd 9)
          have cc0:=hI.cell p1 oM nom;exact xgu
         ·exact xgt (hI.e mm8 (hd 8)) (hI.e yD (hd 10))
         ·have zt11:=hI.e zAB (hd 11)
          have cc0:=hI.cell o2 oM nom;exact xgu
         ·exact xgs (hI.k 9 rfl kR)
         ·have zt13:=hI.e zBv (hd 13)
          have cc0:=hI.cell p2 oM nom;exact xgu
         ·exact xgt (hI.e zAh (hd 12)) (hI.e zBF (hd 14))
         ·have zt15:=hI.e zCN (hd 15)
          have cc0:=hI.cell r1 oM nom;have cc1:=hI.cell r2 oM nom;exact xgu
         ·have zt7:=hI.e mm7 (hd 7)
          have zt16:=hI.e zCf (hd 16);go_simp;refine(zNY _ _ (xt.s ri c) (xt.s rj c) _ (hx.ext hI.lext).weak (hy.ext hI.lext).weak SX.out SY.out HNE.out).mono ?_;rintro e wa ⟨v,rfl,hv,hba⟩;exact hK _ _ ((hI.world hba).y zCg hv)
         ·obtain⟨v17,zt17,h17⟩:=hI.v zCg (hd 17)
          go_simp;exact hK _ _ (hI.y zCh h17)
         ·obtain⟨v18,zt18,h18⟩:=hI.v zCh (hd 18)
          obtain⟨q,r,rfl,hq,hr⟩:=h18;go_simp;exact hK _ _ (hI.n zDW hq)
         ·obtain⟨v18,zt18,h18⟩:=hI.v zCh (hd 18)
          obtain⟨q,r,rfl,hq,hr⟩:=h18;go_simp;exact hK _ _ (hI.n zD6 hr)
         ·obtain⟨v18,zt18,h18⟩:=hI.v zCh (hd 18)
          obtain⟨q,r,rfl,hq,hr⟩:=h18;exact xgu
         ·go_simp
          exact hK _ _ (hI.alloc ⟨22,10,24,_⟩ mm0 rfl hL)
         ·go_simp
          exact hK _ _ (hI.alloc ⟨23,11,25,_⟩ mm1 rfl hL)
         ·obtain⟨v,t1,hv⟩:=hI.vi zDW (hd 19)
          obtain⟨b,x,y,t2,hb1,hb2,-⟩:=hI.box _ mm0 (hd 22);obtain⟨vneg,vao,vlen,vcap,vls,rfl,hv'⟩:=id hv;have HT:=xgw t2;unfold ptr at t2;obtain⟨k1,k2,k3,k4⟩:=hb2.two;go_simp;exact hK _ _ (hI.store ⟨22,10,24,_⟩ mm0 rfl (hd 22) HT.out hv)
         ·obtain⟨v,t1,hv⟩:=hI.vi zD6 (hd 20)
          obtain⟨b,x,y,t2,hb1,hb2,-⟩:=hI.box _ mm1 (hd 23);obtain⟨vneg,vao,vlen,vcap,vls,rfl,hv'⟩:=id hv;have HT:=xgw t2;unfold ptr at t2;obtain⟨k1,k2,k3,k4⟩:=hb2.two;go_simp;exact hK _ _ (hI.store ⟨23,11,25,_⟩ mm1 rfl (hd 23) HT.out hv)
         ·exact xgs (hI.e zEf (hd 21))
        intro T w9 hI;have hT:=hI.finx kR kR;have hlw9:=hI.lext;have hbw9:=hI.bel (w1.heap.size) oM nom;have holdw9:=hI.old;clear hI;simp only[zE3,zEz,E,EI,ptr,xgm,List.not_mem_nil,false_implies,implies_true,and_true,true_and,xgg,xgh,xgi,xgj]at hT;obtain⟨vb17,hb17,vb18,hb18,vb19,hb19,vb20,hb20,cb22,xb22,yb22,gb22,kb22,ib22,cb23,xb23,yb23,gb23,kb23,ib23,nb22_23,rfl⟩:=hT;obtain⟨qs,qa,ql,qc,rfl,rfl⟩:=ib22.two;have hz:=hz.below hbw9;have T5:=T5.below hbw9;have T9:=T9.below hbw9;have HP:=xgv (HP.out.below hbw9);have hO:=hO.trans (zM.of Z hbw9);have lq:=kb22.lt;clear o1 o2 v1 v2 r1 r2 p1 p2 p3 p4;obtain⟨d1,d2,d3,d4⟩:=kb22.two;go_wp2_with fail
        refine(jE _ (xt.s ri c/xt.s rj c) _ ib22.weak).mono ?_;rintro e w10 ⟨rfl,hb10⟩;have hz:=hz.below hb10;have T5:=T5.below hb10;have T9:=T9.below hb10;have HP:=xgv (HP.out.below hb10);have hO:=hO.trans (zM.of Z hb10);have kq:=kb22.below hb10;have iq:=ib22.ext (lx hb10);have h3:=H3.out;clear d1 d2 d3 d4 H3 kb22 ib22;by_cases hq0:xt.s ri c/xt.s rj c=0
        ·rw[if_pos hq0]at h3
         rw[jT hq0];have H3:=xgv h3;clear h3 hq0;go_wp2;go_roundw
         case rel=>exact⟨u+1,xt,by simp,by omega,hO,T5,HP,hz,⟨⟨HOK.out,by rw[hm2,hj1];exact H3.out⟩⟩⟩
         case measure=>simp[intOf];omega
        ·rw [if_neg hq0]at h3
         by_cases hadd:zBx B n Cs Ct xt ri rj (-(xt.s ri c/xt.s rj c))
         ·rw[if_pos hadd]at h3
          have hcq:=zBp hq0;obtain⟨k1,hk1⟩:∃k1,qO (xt.s ri c/xt.s rj c) 0=k1:=⟨_,rfl⟩;rw[hk1]at hcq ⊢
          have H3:=xgv h3;have HADD:=xgv hadd;have SQ:qM (Sm (xt.s ri c/xt.s rj c)):=⟨hB.bsm.sm _ (by have:=hadd.1;rwa[Int.natAbs_neg]at this)⟩;clear h3 hadd hq0 hk1;obtain⟨c1,c2,c3,c4,c5,c6⟩:=T5.three;obtain⟨d1,d2,d3,d4⟩:=kq.two;obtain⟨p1,p2,p3,p4⟩:=T9.two;have lq:=kq.lt;have l0:=T5.lt;have l9:=T9.lt;go_upto_region 11 with(fail)
          refine zB 7 rfl (RI w10 (w10.heap.size) _ 51
            [VP 0 69 w.heap.size 0,E 1 70 (.func (.func 125) #[.pointer (some ⟨bw,0,none⟩)] #[]),VN 2 71 ri,VP 3 72 wt.heap.size 0,VN 4 73 rj,E 5 74 (.agg #[.bool qs,.slice qa ql qc]),EI 6 75 (-(xt.s ri c/xt.s rj c))] [] []) kR RI.start (RI.fin kR ?fin3) ?steps3
          case steps3=>
           refine⟨?_,?_,?_,?_,?_,?_,?_,trivial⟩<;>(intro L T wS hL hd hcl hI K hK;try refine zA rfl ?_)
           ·exact xgs (hI.k 5 rfl kR)
           ·have zt0:=hI.e mm0 (hd 0)
            have cc0:=hI.cell c1 oM nom;exact xgu
           ·exact xgs (hI.k 7 rfl kR)
           ·exact xgs (hI.k 9 rfl kR)
           ·have zt3:=hI.e mm3 (hd 3)
            have cc0:=hI.cell p1 oM nom;exact xgu
           ·have zt:=hI.k 10 rfl kR
            have cc0:=hI.cell d1 oM nom;have cc1:=hI.cell d2 oM nom;exact xgu
           ·have zt5:=hI.e mm5 (hd 5)
            go_simp;refine(jR _ (xt.s ri c/xt.s rj c) _ (iq.ext hI.lext).weak SQ.out).mono ?_;exact xgo
          intro w11 hlw11 hbw11 holdw11 T hT;simp only[Fin,E,EI,VP,VSl,VN,xgg,xgh,xgi,xgj]at hT;obtain⟨vy6,hy6,rfl⟩:=hT;simp only[xgl,xgk];have hz:=hz.below hbw11;have T5:=T5.below hbw11;have HP:=xgv (HP.out.below hbw11);have hO:=hO.trans (zM.of Z hbw11);clear c1 c2 c3 c4 c5 c6 d1 d2 d3 d4 p1 p2 p3 p4;go_wp2_with fail
          refine(zP8 hB.bsm hz HOK.out hin htn hne hy6 hn hCs hCt HADD.out).mono ?_;rintro e w12 ⟨⟨uu12,rfl⟩,hO12,hz⟩;have hok:=HADD.out.ok;have hO:=hO.trans hO12;have T5:=hO12.blk T5 (fun hh=>by have:=hZ _ hh;omega);have HP:=xgv (HP.out.onlyZ hO12 HPZ.out);have HOK2:=xgv hok;clear hok;go_wp2;go_roundw
          case rel=>exact⟨u+1,_,by simp,by omega,hO,T5,HP,hz,⟨⟨HOK2.out,by rw[hm2,hj1];exact H3.out⟩⟩⟩
          case measure=>simp[intOf];omega
         ·rw[if_neg hadd]at h3
          cases h3
     ·obtain rfl:u=M:=by omega
      have h3:=hx.out.2;rw[Nat.sub_self]at h3;unfold zEr at h3;injection h3 with h3
      have H3:=xgv h3;have HOK:=xgv hx.out.1;clear h3 hx;go_wp2;go_roundw
      case rel=>exact⟨i,(i:Int)-1,xt,by simp,rfl,by omega,hO,T5,HP,hz,⟨⟨HOK.out,by rw[H3.out];exact HR.out⟩⟩⟩
      case measure=>simp[intOf]
theorem Tryz.infoPiv:(Tryz.prog.info? zAf).map (fun i=>(i.zero,i.size,i.bytes))=some (some (.agg #[.int .i64 0,.int .i64 0]),2,16):=by kernel_rfl
def pc(L:List (Nat × Nat)):List Value:=L.flatMap fun p=>[.int .i64 (p.1:Nat),.int .i64 (p.2:Nat)]
theorem zKu:pc []= []:=rfl
theorem zDa(p:Nat × Nat)(L:List (Nat × Nat)):pc (p::L)= .int .i64 (p.1:Nat):: .int .i64 (p.2:Nat)::pc L:=rfl
theorem zKs(L M:List (Nat × Nat)):pc (L++M)=pc L++pc M:=by unfold pc;rw[List.flatMap_append]
theorem zEj(L:List (Nat × Nat)):(pc L).length=L.length*2:=by
 induction L with
 |nil=>rfl
 |cons p L ih=>rw[zDa];simp[ih];omega
theorem zKv(L:List (Nat × Nat))(k:Nat):(pc L).take (k*2)=pc (L.take k):=by
 induction L generalizing k with
 |nil=>simp[zKu]
 |cons p L ih=>
  cases k with
  |zero=>simp[zKu]
  |succ k=>rw[List.take_succ_cons,zDa,zDa,show(k+1)*2=k*2+1+1 by omega,List.take_succ_cons,List.take_succ_cons,ih]
theorem zKt(L:List (Nat × Nat))(k:Nat):(pc L).drop (k*2)=pc (L.drop k):=by
 induction L generalizing k with
 |nil=>simp[zKu]
 |cons p L ih=>
  cases k with
  |zero=>simp
  |succ k=>rw[xgl,zDa,show(k+1)*2=k*2+1+1 by omega,xgl,xgl,ih]
theorem zOv{L:List (Nat × Nat)}{k:Nat}{p:Nat × Nat}(h:L[k]?=some p):(pc L)[k*2]?=some (.int .i64 (p.1:Nat))/\(pc L)[k*2+1]?=some (.int .i64 (p.2:Nat)):=by
 induction L generalizing k with
 |nil=>simp at h
 | cons q L ih=>
  cases k with
  |zero=>simp at h;subst h;exact⟨rfl,rfl⟩
  |succ k=>
   rw[List.getElem?_cons_succ]at h;obtain⟨h1,h2⟩:=ih h;rw[zDa,show(k+1)*2=k*2+1+1 by omega];exact⟨h1,h2⟩
theorem zIb(L:List (Nat × Nat)):∀u∈pc L,u.oneCell'=true:=by
 induction L with
 |nil=>intro u hu;cases hu
 | cons p L ih=>
  intro u hu;rw[zDa]at hu;rcases List.mem_cons.1 hu with rfl|hu
  ·rfl
  ·rcases List.mem_cons.1 hu with rfl|hu
   ·rfl
   ·exact ih u hu
def zDh(w:World)(base:Nat)(v:Value)(L:List (Nat × Nat)):Prop:=w.ownsRow base zAf 2 v L.length (pc L)
theorem zDh.piv{w:World}{base:Nat}{v:Value}{L:List (Nat × Nat)}(h:zDh w base v L):zHG w v L.length (fun k=>(L.getD k (0,0)).1) (fun k=>(L.getD k (0,0)).2):=by
 rcases h.2 with⟨rfl,h0⟩|⟨g,cap,cur,rfl,k1,k2,k3,k4,k5,k6⟩
 ·exact⟨none,0,by rw[h0],by omega,by omega,fun h=>by omega⟩
 ·refine⟨_,cap,rfl,k3,k4,fun _=>⟨g,cur,rfl,k2,fun k hk=>?_⟩⟩
  have hx:=xga hk;obtain⟨c1,c2⟩:=zOv hx;have hg:L.getD k (0,0)=L[k]:=by rw[xgb,hx];rfl
  show cur[k*2]?=some (Value.int .i64 (((L.getD k (0,0)).1:Nat):Int))/\cur[k*2+1]?=some (Value.int .i64 (((L.getD k (0,0)).2:Nat):Int));rw[hg];rw[<-k6,List.getElem?_take]at c1 c2;constructor
  ·split at c1
   ·simpa using c1
   ·cases c1
  ·split at c2
   ·simpa using c2
   ·cases c2
theorem zDh.below{w w':World}{base:Nat}{v:Value}{L:List (Nat × Nat)}(h:zDh w base v L)(hb:Below w.heap.size w w'):zDh w' base v L:=
 World.ownsRow.kept h (row:=none) ⟨hb.os,hb.tape,hb.output,hb.size,fun k hk _=>hb.block k hk⟩ (by cases hv:v.ownBlock<;>simp)
theorem zDh.own{w:World}{base:Nat}{v:Value}{L:List (Nat × Nat)}(h:zDh w base v L):∀g,v.ownBlock=some g->base<=g/\g<w.heap.size:=World.ownsRow.lt h
theorem zDh.old{w w':World}{base:Nat}{v:Value}{L:List (Nat × Nat)}(h:zDh w base v L)(ho:∀g,v.ownBlock=some g->w'.heap[g]?=w.heap[g]?):zDh w' base v L:=by
 obtain⟨h1,h2⟩:=h;refine⟨h1,?_⟩;rcases h2 with h2|⟨g,cap,cur,rfl,k1,k2,r⟩
 ·exact .inl h2
 ·exact .inr ⟨g,cap,cur,rfl,k1,(ho g rfl).trans k2,r⟩
theorem zDh.nil(w:World)(base:Nat):zDh w base (.slice none 0 0) []:=⟨rfl,.inl ⟨rfl,rfl⟩⟩
theorem zCL{w:World}{ops:Array Oper}{rest:List Oper}{o:Oper}{a:Act}{Q:Exit->Act->World->Prop}(hgd:o.guard=none)(d s:Operand)(t t':TypeId)
  (ho:o.op= .call {callee:=.builtin .copy,args:=#[d,s],argTypes:=#[t,t']}) (v u:Value) (hd:a.eval d=v) (hs:a.eval s=u) {v':Value} {w':World}
  (hr:(Builtin.copy_ #[t,t'] o.type #[v,u]).run Tryz.prog w= .ok v' w') (h:wpList Tryz.prog ops Q rest (a.put o.dst v') w'):wpList Tryz.prog ops Q (o::rest) a w:=by
 refine wpList_plain hgd fun K hK=>?_
 unfold Oper.wp execOp;simp only[ho,resolve,invoke,builtin,Sem.run_bind,Sem.run_pure,Result.andThen_ok,List.map_toArray,List.map_cons,List.map_nil,hd,hs,hr];exact hK _ _ h
theorem zDD(w:World)(ty:TypeId)(g o dLen dCap:Nat)(a:Addr)(sLen sCap:Nat)(cur:Array Value)(t:TypeId)(cs:List Value)
  (hg:w.heap[g]?=some (.cells cur t (0,0))) (hn:cs.length=Nat.min sLen dLen*2)
  (hsrc:∀j v,cs[j]?=some v->w.cell? (a.add j)=some v) (hfit:o+cs.length<=cur.size) (h1:∀v∈cs,v.oneCell'=true):
  ∃v,(Builtin.copy_ #[139,139] ty #[.slice (some ⟨g,o,none⟩) dLen dCap,.slice (some a) sLen sCap]).run Tryz.prog w=
   .ok v (w.setRow g (cur.toList.take o++cs++cur.toList.drop (o+cs.length)).toArray):=by
 obtain⟨i0,hi,hz0,hz1,hz2⟩:=info_parts Tryz.infoPiv;have hl:=run_loadCells_list (P:=Tryz.prog) w a cs hsrc;have hst:=run_storeCells_at Tryz.prog g o t cs 0 cur w hg (by simpa using hfit) h1;have hu:=Tryz.underlying139;refine⟨goInt (Nat.min sLen dLen),?_⟩;simp[Builtin.copy_,run_underlying hu,Builtin.lenOf,Builtin.firstCells,sizeOf,typeInfo,hi,hz1,<-hn,hl,hst]
def qQ(P:World->Value->Prop):Prop:=∀w w' v,Below w.heap.size w w'->P w v->P w' v
theorem zCC(z:Int):qQ (fun w v=>zR w v z):=fun _ _ _ e h=>h.ext (lx e)
theorem zC2(x:Value):qQ (fun _ v=>v=x):=fun _ _ _ _ h=>h
theorem yW(R C:Int)(M:List (List Int)):qQ (fun w v=>qL w v R C M):=fun _ _ _ e h=>h.below e
theorem zDS(zs:List Int):qQ (fun w v=>zAZ w v zs):=fun _ _ _ e h=>h.below e
def zBY(N:Nat)(vs:List VS):Bool:=decide (vs.map (·.slot)).Nodup && decide (vs.map (·.op)).Nodup && (vs.map (·.slot)).all (fun s=>decide (s<N))
structure RV(W:World)(T0:Array Value)(vs:List VS)(L:Array Bool)(T:Array Value)(w:World):Prop where
 wf:zBY T0.size vs=true
 lv:∀s∈vs,qQ s.P
 size:T.size=T0.size
 keep:∀j,(∀s∈vs,s.slot≠j)->T[j]?=T0[j]?
 bel:Below W.heap.size W w
 val:∀s∈vs,L[s.op]?=some true->∃v,T[s.slot]?=some v/\s.P w v
section
variable {W:World} {T0:Array Value} {vs:List VS} {L:Array Bool} {T:Array Value} {w w':World}
theorem RV.start(hwf:zBY T0.size vs=true:=by kernel_rfl)(hv:∀s∈vs,qQ s.P:=by repeat' (first|exact zCC _|exact zC2 _|exact yW _ _ _|exact zDS _|assumption|refine xgm.2 ⟨?_,?_⟩|exact xgn _)){n:Nat}:RV W T0 vs (Array.replicate n false) T0 W.drew:=
 ⟨hwf,hv,rfl,fun _ _=>rfl,dr _,fun s _ h=>by
  rw[Array.getElem?_replicate]at h;split at h<;>simp at h⟩
theorem RV.world(h:RV W T0 vs L T w)(hb:Below w.heap.size w w'):RV W T0 vs L T w':=
 ⟨h.wf,h.lv,h.size,h.keep,nx h.bel hb,fun s hs hl=>by
  obtain⟨v,h1,h2⟩:=h.val s hs hl;exact⟨v,h1,h.lv s hs _ _ _ hb h2⟩⟩
theorem RV.value{k:Nat}{v:Value}(h:RV W T0 vs L T w)(s:VS)(hs:s∈vs)(hk:s.op=k)(hP:s.P w v):RV W T0 vs (L.setIfInBounds k true) (T.setIfInBounds s.slot v) w:=by
 subst hk;have hwf:=h.wf;unfold zBY at hwf;simp only[Bool.and_eq_true,decide_eq_true_eq,List.all_eq_true]at hwf;obtain⟨⟨w1,w2⟩,w3⟩:=hwf;have hslot:s.slot<T0.size:=w3 _ (List.mem_map.2 ⟨s,hs,rfl⟩);refine⟨h.wf,h.lv,by simp[h.size],fun j h1=>by rw[xgc (h1 s hs)];exact h.keep j h1,h.bel,?_⟩;intro t ht hl;by_cases he:t=s
 ·subst he
  exact⟨v,by rw[Array.getElem?_setIfInBounds_self_of_lt (by rw[h.size];exact hslot)],hP⟩
 ·have n1:t.op≠s.op:=fun e=>he (zL w2 ht hs e)
  have n2:t.slot≠s.slot:=fun e=>he (zL w1 ht hs e)
  obtain⟨u,h1,h2⟩:=h.val t ht (zK hl (Ne.symm n1));exact⟨u,by rw[xgc (Ne.symm n2)];exact h1,h2⟩
theorem RV.v{s:VS}(h:RV W T0 vs L T w)(hs:s∈vs)(hl:L[s.op]?=some true):∃v,T[s.slot]?=some v/\s.P w v:=h.val s hs hl
theorem RV.y{k:Nat}{v:Value}(h:RV W T0 vs L T w){s:VS}(hs:s∈vs)(hP:s.P w v)(hk:s.op=k:=by rfl):RV W T0 vs (L.setIfInBounds k true) (T.setIfInBounds s.slot v) w:=h.value s hs hk hP
theorem RV.cell{b o:Nat}{v:Value}(h:RV W T0 vs L T w)(hc:W.cell? ⟨b,o,none⟩=some v):w.cell? ⟨b,o,none⟩=some v:=qC hc h.bel
theorem RV.e{i s:Nat}{x:Value}(h:RV W T0 vs L T w)(hm:E i s x∈vs)(hl:L[i]?=some true):T[s]?=some x:=by
 obtain⟨v,h1,rfl⟩:=h.val _ hm hl;exact h1
theorem RV.vi{i s:Nat}{z:Int}(h:RV W T0 vs L T w)(hm:EI i s z∈vs)(hl:L[i]?=some true):∃v,T[s]?=some v/\zR w v z:=h.val _ hm hl
theorem RV.k{x:Value}(h:RV W T0 vs L T w)(j:Nat)(h2:T0[j]?=some x)(h1:(vs.all fun s=>!(s.slot==j))=true):T[j]?=some x:=
 (h.keep j (fun s hs e=>by have:=List.all_eq_true.1 h1 s hs;simp[e]at this)).trans h2
theorem RV.q{i s:Nat}{x:Value}(h:RV W T0 vs L T w)(hm:E i s x∈vs):RV W T0 vs (L.setIfInBounds i true) (T.setIfInBounds s x) w:=h.value _ hm rfl rfl
theorem RV.n{i s:Nat}{z:Int}{v:Value}(h:RV W T0 vs L T w)(hm:EI i s z∈vs)(hv:zR w v z):RV W T0 vs (L.setIfInBounds i true) (T.setIfInBounds s v) w:=h.value _ hm rfl hv
theorem RV.fin{G:Array Value->World->Prop}(hL:(vs.all fun s=>L[s.op]?==some true)=true)(h:∀w,Below W.heap.size W w->∀T,Fin w vs T0 T->G T w)(T:Array Value)(w:World)(hI:RV W T0 vs L T w):G T w:=by
 refine h w hI.bel T (zIG vs (fun j hj=>hI.keep j hj) (fun s hs=>hI.val s hs ?_) hI.size ?_)
 ·have:=List.all_eq_true.1 hL s hs
  simpa using this
 ·have hw:=hI.wf
  unfold zBY at hw;simp only[Bool.and_eq_true,decide_eq_true_eq]at hw;exact hw.1.1
end
end Go.Proofs.YtgnmdddaiefooaaGreat
