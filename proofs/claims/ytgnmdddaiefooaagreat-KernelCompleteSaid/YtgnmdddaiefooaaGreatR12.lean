/- The reference's integers, tenth part: DivMod. The reference's integers, eleventh part: Gcd. -/
import Derived.Test.YtgnmdddaiefooaaGreatR11
set_option linter.unusedVariables false
set_option linter.unusedSimpArgs false
set_option linter.unusedSectionVars false
set_option maxHeartbeats 16000000
set_option maxRecDepth 100000
namespace Go.Proofs.YtgnmdddaiefooaaGreat
open Go.RowKit
def zHE:Nat:=1099511627774
theorem jB:zHE=1099511627774:=rfl
structure Smd(z:Int):Prop where
 lt:z.natAbs<B32^zHE
theorem Smd.sm{z:Int}(h:Smd z):Sm z:=Nat.lt_of_lt_of_le h.lt (zAa (by rw[jB,yA];omega))
theorem Smd.mono{z y:Int}(h:Smd z)(hy:y.natAbs<=z.natAbs):Smd y:=⟨Nat.lt_of_le_of_lt hy h.lt⟩
theorem zDI(a b:Nat)(h:a+1<=b):B32^a<B32^b:=by
 have h1:B32^(a+1)<=B32^b:=zAa h;rw[Nat.pow_succ]at h1;have h2:0<B32^a:=Nat.pow_pos dE;have h3:B32^a*2<=B32^a*B32:=Nat.mul_le_mul_left _ dE;omega
theorem Smd.sm1{z y:Int}(h:Smd z)(hy:y.natAbs<=z.natAbs+1):Sm y:=
 Nat.lt_of_le_of_lt hy (Nat.lt_of_le_of_lt h.lt (zDI zHE LIM (by rw[jB,yA];omega)))
theorem Smd.len{neg:Bool}{xs:List Nat}(h:Smd (sgn neg (nat xs)))(hn:qP xs):xs.length<=zHE:=by
 have h:=h.lt;rw[qD]at h;cases hx:xs.length with
 |zero=>omega
 |succ n=>
  have h1:=zDn hn hx;rcases Nat.lt_or_ge n zHE with h2|h2
  ·omega
  ·have:=zAa h2;omega
theorem zDr(v1 v2:Value)(z1 z2:Int)(w:World)(h1:zR w v1 z1)(h2:zR w v2 z2)(s1:Smd z1)(s2:Smd z2)(hz:z2≠0):
  Calls Tryz.prog 88 #[v1,v2] w (zOa w z1 z2):=by
 obtain⟨neg1,ao1,n1,cap1,xs,rfl,hn1,hl1,hc1,hx1,hN1,hz1,hp1⟩:=h1;obtain⟨neg2,ao2,n2,cap2,ys,rfl,hn2,hl2,hc2,hx2,hN2,hz2,hp2⟩:=h2;have hM1:n1<=8*LIM:=by
  have:=(hz1 ▸ s1).len hN1;rw[hn1,jB]at this;clear s1 s2;rw[yA];omega
 have hM2:n2<=8*LIM:=by
  have:=(hz2 ▸ s2).len hN2;rw[hn2,jB]at this;clear s1 s2;rw[yA];omega
 have HN1:=xgw hn1;have HN2:=xgw hn2;have HZ1:=xgw hz1;have HZ2:=xgw hz2;have HS1:=xgw s1;have HS2:=xgw s2;have HZ:=xgw hz;clear hn1 hn2 hz1 hz2 s1 s2 hz;go_enter Tryz.func88,Tryz.ntmps88;go_upto_region 1 with(fail)
 refine zC ?_;intro W0 hW0;obtain⟨hB0,bx1,bx2,br1,br2,hs0⟩:=zHD hW0;obtain⟨c1,c2,c3,c4⟩:=bx1.two;obtain⟨d1,d2,d3,d4⟩:=bx2.two;have hx1':=hx1.ext (lx hB0);have hx2':=hx2.ext (lx hB0);refine zB 10 rfl (RI W0 (W0.heap.size) _ 51
   [VP 0 9 w.heap.size 1,E 1 10 (.slice ao1 n1 cap1),VP 2 11 w.heap.size 0,E 3 12 (.bool neg1),EI 4 13 (z1),VP 5 14 (w.heap.size+1) 1,E 6 15 (.slice ao2 n2 cap2),VP 7 16 (w.heap.size+1) 0,E 8 17 (.bool neg2),EI 9 18 (z2)] [] []) kR RI.start (RI.fin kR ?fin1) ?steps1
 case steps1=>
  refine⟨?_,?_,?_,?_,?_,?_,?_,?_,?_,?_,trivial⟩<;>(intro L T wS hL hd hcl hI K hK;try refine zA rfl ?_)
  ·exact xgs (hI.k 2 rfl kR)
  ·have zt0:=hI.e mm0 (hd 0)
   have cc0:=hI.cell c2 oM nom;exact xgu
  ·exact xgs (hI.k 2 rfl kR)
  ·have zt2:=hI.e mm2 (hd 2)
   have cc0:=hI.cell c1 oM nom;exact xgu
  ·have zt1:=hI.e mm1 (hd 1)
   have zt3:=hI.e mm3 (hd 3);go_simp;refine(yN ao1 n1 cap1 xs neg1 _ HN1.out hl1 hc1 hM1 (hx1'.ext hI.lext)).mono ?_;rintro e wa ⟨v,rfl,hv,hba⟩;rw[<-HZ1.out]at hv;exact hK _ _ ((hI.world hba).n mm4 hv)
  ·exact xgs (hI.k 3 rfl kR)
  ·have zt5:=hI.e mm5 (hd 5)
   have cc0:=hI.cell d2 oM nom;exact xgu
  ·exact xgs (hI.k 3 rfl kR)
  ·have zt7:=hI.e mm7 (hd 7)
   have cc0:=hI.cell d1 oM nom;exact xgu
  ·have zt6:=hI.e mm6 (hd 6)
   have zt8:=hI.e mm8 (hd 8);go_simp;refine(yN ao2 n2 cap2 ys neg2 _ HN2.out hl2 hc2 hM2 (hx2'.ext hI.lext)).mono ?_;rintro e wa ⟨v,rfl,hv,hba⟩;rw[<-HZ2.out]at hv;exact hK _ _ ((hI.world hba).n mm9 hv)
 intro W1 hlW1 hbW1 holdW1 T hT;simp only[Fin,E,EI,VP,VSl,VN,xgg,xgh,xgi,xgj]at hT;obtain⟨va4,ha4,va9,ha9,rfl⟩:=hT;simp only[xgl,xgk];clear c1 c2 c3 c4 d1 d2 d3 d4 hx1' hx2' hx1 hx2;obtain⟨an,aa,al,ac,ax,rfl,h1l,h1a,h1b,h1x,h1N,h1z,h1p⟩:=ha4;obtain⟨bn,ba,bl,bc,bx,rfl,h2l,h2a,h2b,h2x,h2N,h2z,h2p⟩:=ha9;have hal:al<=zHE:=by
  have:=(h1z ▸ HS1.out).len h1N;rwa[h1l]at this
 have hbl:bl<=zHE:=by
  have:=(h2z ▸ HS2.out).len h2N;rwa[h2l]at this
 have hA:nat ax=z1.natAbs:=by rw[h1z,qD]
 have hBv:nat bx=z2.natAbs:=by rw[h2z,qD]
 obtain⟨bm,rfl⟩:∃bm,bl=bm+1:=by
  cases bl with
  |zero=>rw[List.length_eq_zero_iff.1 h2l]at hBv;have:=HZ.out;simp[nat]at hBv;omega
  |succ k=>exact⟨k,rfl⟩
 have H1L:=xgw h1l;have H2L:=xgw h2l;have H1Z:=xgw h1z;have H2Z:=xgw h2z;have H1A:=xgw hA;have H2A:=xgw hBv;have H1P:=xgw h1p;have H2P:=xgw h2p;clear h1l h2l h1z h2z hA hBv h1p h2p;have bx1:=bx1.below hbW1;have bx2:=bx2.below hbW1;have br1:=br1.below hbW1;have br2:=br2.below hbW1;obtain⟨c1,c2,c3,c4⟩:=bx1.two;obtain⟨d1,d2,d3,d4⟩:=bx2.two;go_upto_region 2 with(fail)
 refine zC ?_;intro W2 hW2;have X1:=Blk.at_ hW2 (((bx1.put2 _ _).far oM _ _).far oM _ _);have X2:=Blk.at_ hW2 (((bx2.far oM _ _).far oM _ _).put2 _ _);have R1:=Blk.at_ hW2 ((((br1.far oM _ _).far oM _ _).far oM _ _).far oM _ _);have R2:=Blk.at_ hW2 ((((br2.far oM _ _).far oM _ _).far oM _ _).far oM _ _);have hs2:=R2.lt;have hx12:yI W1 W2:=by
  rw[hW2.out];exact(bx1.lext2 dE _ _).trans (((bx2.far oM _ _).far oM _ _).lext2 dE _ _)
 have hB2:Below w.heap.size w W2:=by
  rw[hW2.out];exact zP (zP (zP (zP (nx hB0 hbW1) oM 0 _) oM 1 _) oM 0 _) oM 1 _
 clear hW2 bx1 bx2 br1 br2 c1 c2 c3 c4 d1 d2 d3 d4;obtain⟨c1,c2,c3,c4⟩:=X1.two;obtain⟨d1,d2,d3,d4⟩:=X2.two;have h2v:zR W2 (.agg #[.bool bn,.slice ba (bm+1) bc]) z2:=⟨bn,ba,bm+1,bc,bx,rfl,H2L.out,h2a,h2b,h2x.ext hx12,h2N,H2Z.out,H2P.out⟩;go_wp2_with fail
 refine(yH _ z2 W2 h2v).mono ?_;rintro e w3 ⟨rfl,hb3⟩;have hc0:qO z2 0≠0:=by have:=HZ.out;unfold qO;split<;>(try split)<;>omega
 obtain⟨k,hk⟩:∃k,qO z2 0=k:=⟨_,rfl⟩;rw[hk]at hc0 ⊢
 have e1:=qC c1 hb3;have e2:=qC c2 hb3;have e3:=qC d1 hb3;have e4:=qC d2 hb3;clear c1 c2 c3 c4 d1 d2 d3 d4;go_wp2_with fail
 refine(zGw aa ba al ac bm bc ax bx w3 H1L.out H2L.out h1a h1b h2a h2b (by rw[jB]at hal;rw[yA];omega) (by rw[jB]at hbl;rw[yA];omega) (h1x.ext (hx12.trans (lx hb3))) (h2x.ext (hx12.trans (lx hb3))) h1N h2N).mono ?_;rintro e w4 ⟨q0,r0,rfl,hq,hr,hb4⟩;obtain⟨qn,qa,ql,qc,qx,rfl,hq'⟩:=id hq;obtain⟨rn,ra,rl,rc,rx,rfl,hr'⟩:=id hr;have HQ':=xgw hq';have HR':=xgw hr';clear hq' hr' e1 e2 e3 e4 hk hc0;go_upto_region 5 with(fail)
 refine zC ?_;intro W5 hW5;obtain⟨hB5,T7,T8,hs5⟩:=qK hW5;have Y1:=((X1.below hb3).below hb4).below hB5;have Y2:=((X2.below hb3).below hb4).below hB5;have R1:=((R1.below hb3).below hb4).below hB5;have R2:=((R2.below hb3).below hb4).below hB5;have hBt:Below w.heap.size w W5:=nx (nx (nx hB2 hb3) hb4) hB5;have hs4:w.heap.size+1+1+1<w4.heap.size:=by
  have h3:=hb3.size;have h4:=hb4.size;omega
 have hb0:0<nat bx:=by have:=HZ.out;have:=H2A.out;omega
 obtain⟨DM1,DM2⟩:=zKC an bn (nat ax) (nat bx) hb0;rw[<-H1Z.out,<-H2Z.out]at DM1 DM2;have h2x5:zG W5 ba bx:=h2x.ext ((hx12.trans (lx hb3)).trans (lx (nx hb4 hB5)));have tq:=hq.ext (lx hB5);have tr:=hr.ext (lx hB5);clear hq hr hW5 hB5 hb4 hb3 X1 X2 hW0 h2v;have SQ:Sm ((nat ax/nat bx+1:Nat):Int):=HS1.out.sm1 (by simp only[Int.natAbs_natCast];rw[<-H1A.out];have:=Nat.div_le_self (nat ax) (nat bx);omega);have HSQ:=xgw SQ;clear SQ;obtain⟨k1,k2,k3,k4⟩:=Y1.two;obtain⟨l1,l2,l3,l4⟩:=Y2.two;obtain⟨c1,c2,c3,c4⟩:=T7.two;obtain⟨d1,d2,d3,d4⟩:=T8.two;cases an with
 | false=>
  have hq:dmQ false (nat ax) (nat bx)=nat ax/nat bx:=rfl;have hr:dmR false (nat ax) (nat bx)=nat ax%nat bx:=rfl;rw[hq]at DM1;rw[hr]at DM2;have HSQ:=xgw (HSQ.out.mono (y:=((nat ax/nat bx:Nat):Int)) (by simp only[Int.natAbs_natCast];omega));clear hq hr;cases bn with
  | false=>
   have HD1:Hid (z1/z2=((nat ax/nat bx:Nat):Int)):=DM1;have HD2:Hid (z1%z2=((nat ax%nat bx:Nat):Int)):=DM2;clear DM1 DM2;go_upto_region 10 with(fail)
   obtain⟨c1,c2,c3,c4⟩:=T7.two;obtain⟨d1,d2,d3,d4⟩:=T8.two;have hl7:=T7.lt;have hl8:=T8.lt;refine zF rfl (RI W5 (W5.heap.size) _ 51
     [E 0 54 (.agg #[.bool qn,.slice qa ql qc]),E 1 55 (.agg #[.bool rn,.slice ra rl rc]),VN 4 6 0] [] [⟨2,w.heap.size+1+1,fun w v=>zR w v (((nat ax/nat bx:Nat):Int))⟩,⟨3,w.heap.size+1+1+1,fun w v=>zR w v (((nat ax%nat bx:Nat):Int))⟩]) kR RI.start ?fin2 ?steps2
   case steps2=>
    refine⟨?_,?_,?_,?_,?_,trivial⟩<;>(intro L T wS hL hd hcl hI K hK;try refine zA rfl ?_)
    ·have zt:=hI.k 7 rfl kR
     have cc0:=hI.cell c1 oM aU;have cc1:=hI.cell c2 oM aU;exact xgu
    ·have zt:=hI.k 8 rfl kR
     have cc0:=hI.cell d1 oM aU;have cc1:=hI.cell d2 oM aU;exact xgu
    ·have zt:=hI.k 4 rfl kR
     have zv:=hI.e mm0 (hd 0);obtain⟨⟨xo,yo,zb,-⟩,-⟩:=hI.ex _ mm0;replace zb:Blk wS (w.heap.size+1+1) 51 #[xo,yo]:=zb;obtain⟨zk1,zk2,zk3,zk4⟩:=zb.two;go_simp;exact hK _ _ (hI.storeE ⟨2,w.heap.size+1+1,_⟩ mm0 rfl hL rfl (zR.ext tq hI.lext))
    ·have zt:=hI.k 5 rfl kR
     have zv:=hI.e mm1 (hd 1);obtain⟨⟨xo,yo,zb,-⟩,-⟩:=hI.ex _ mm1;replace zb:Blk wS (w.heap.size+1+1+1) 51 #[xo,yo]:=zb;obtain⟨zk1,zk2,zk3,zk4⟩:=zb.two;go_simp;exact hK _ _ (hI.storeE ⟨3,w.heap.size+1+1+1,_⟩ mm1 rfl hL rfl (zR.ext tr hI.lext))
    ·go_simp
     exact hK _ _ (hI.q mm2)
   intro T We hI;obtain⟨⟨exe2,eye2,ebe2,eie2⟩,-⟩:=hI.ex _ mm0;replace ebe2:Blk We (w.heap.size+1+1) 51 #[exe2,eye2]:=ebe2;replace eie2:zR We (.agg #[exe2,eye2]) (((nat ax/nat bx:Nat):Int)):=eie2 rfl;obtain⟨⟨exe3,eye3,ebe3,eie3⟩,-⟩:=hI.ex _ mm1;replace ebe3:Blk We (w.heap.size+1+1+1) 51 #[exe3,eye3]:=ebe3;replace eie3:zR We (.agg #[exe3,eye3]) (((nat ax%nat bx:Nat):Int)):=eie3 rfl;have hT:=hI.finx kR kR;have hlWe:=hI.lext;have hbWe:=hI.bel (w.heap.size) oM aU;have holdWe:=hI.old;clear hI;simp only[zE3,zEz,E,EI,ptr,xgm,List.not_mem_nil,false_implies,implies_true,and_true,true_and,xgg,xgh,xgi,xgj]at hT;subst hT;go_wp2_with fail
   refine bodyPost_ret (jD rfl _ rfl rfl ebe2 ebe3 rfl rfl) rfl ⟨_,_,rfl,?_,?_,hBt.trans hbWe⟩
   ·rw[HD1.out];exact eie2
   ·rw[HD2.out];exact eie3
  | true=>
   have HD1:Hid (z1/z2=-((nat ax/nat bx:Nat):Int)):=DM1;have HD2:Hid (z1%z2=((nat ax%nat bx:Nat):Int)):=DM2;clear DM1 DM2;go_wp2_with fail
   refine(jY _ (((nat ax/nat bx:Nat):Int)) _ tq.weak HSQ.out).mono ?_;rintro e wn ⟨v,rfl,tq2,hbn⟩;obtain⟨nqn,nqa,nql,nqc,nqx,rfl,hnq⟩:=id tq2;have HNQ:=xgw hnq;clear hnq;have T7:=T7.below hbn;have T8:=T8.below hbn;have R1:=R1.below hbn;have R2:=R2.below hbn;obtain⟨c1,c2,c3,c4⟩:=T7.two;go_upto_region 10 with(fail)
   refine zC ?_;intro Wn hWn;have T7':=Blk.at_ hWn (T7.put2 _ _);have T8:=Blk.at_ hWn ((T8.far oM _ _).far oM _ _);have R1:=Blk.at_ hWn ((R1.far oM _ _).far oM _ _);have R2:=Blk.at_ hWn ((R2.far oM _ _).far oM _ _);have hxn:yI W5 Wn:=by rw[hWn.out];exact(lx hbn).trans (T7.lext2 dE _ _)
   have hBt:Below w.heap.size w Wn:=by rw[hWn.out];exact zP (zP (nx hBt hbn) oM 0 _) oM 1 _
   have tr:=tr.ext hxn;have tq:zR Wn (.agg #[.bool nqn,.slice nqa nql nqc]) (-((nat ax/nat bx:Nat):Int)):=by rw[hWn.out];exact tq2.ext (T7.lext2 dE _ _)
   have T7:=T7';clear T7' tq2 hWn hxn hbn;obtain⟨c1,c2,c3,c4⟩:=T7.two;obtain⟨d1,d2,d3,d4⟩:=T8.two;have hl7:=T7.lt;have hl8:=T8.lt;refine zF rfl (RI Wn (Wn.heap.size) _ 51
     [E 0 54 (.agg #[.bool nqn,.slice nqa nql nqc]),E 1 55 (.agg #[.bool rn,.slice ra rl rc]),VN 4 6 0] [] [⟨2,w.heap.size+1+1,fun w v=>zR w v ((-((nat ax/nat bx:Nat):Int)))⟩,⟨3,w.heap.size+1+1+1,fun w v=>zR w v (((nat ax%nat bx:Nat):Int))⟩]) kR RI.start ?fin3 ?steps3
   case steps3=>
    refine⟨?_,?_,?_,?_,?_,trivial⟩<;>(intro L T wS hL hd hcl hI K hK;try refine zA rfl ?_)
    ·have zt:=hI.k 7 rfl kR
     have cc0:=hI.cell c1 oM aU;have cc1:=hI.cell c2 oM aU;exact xgu
    ·have zt:=hI.k 8 rfl kR
     have cc0:=hI.cell d1 oM aU;have cc1:=hI.cell d2 oM aU;exact xgu
    ·have zt:=hI.k 4 rfl kR
     have zv:=hI.e mm0 (hd 0);obtain⟨⟨xo,yo,zb,-⟩,-⟩:=hI.ex _ mm0;replace zb:Blk wS (w.heap.size+1+1) 51 #[xo,yo]:=zb;obtain⟨zk1,zk2,zk3,zk4⟩:=zb.two;go_simp;exact hK _ _ (hI.storeE ⟨2,w.heap.size+1+1,_⟩ mm0 rfl hL rfl (zR.ext tq hI.lext))
    ·have zt:=hI.k 5 rfl kR
     have zv:=hI.e mm1 (hd 1);obtain⟨⟨xo,yo,zb,-⟩,-⟩:=hI.ex _ mm1;replace zb:Blk wS (w.heap.size+1+1+1) 51 #[xo,yo]:=zb;obtain⟨zk1,zk2,zk3,zk4⟩:=zb.two;go_simp;exact hK _ _ (hI.storeE ⟨3,w.heap.size+1+1+1,_⟩ mm1 rfl hL rfl (zR.ext tr hI.lext))
    ·go_simp
     exact hK _ _ (hI.q mm2)
   intro T We hI;obtain⟨⟨exe2,eye2,ebe2,eie2⟩,-⟩:=hI.ex _ mm0;replace ebe2:Blk We (w.heap.size+1+1) 51 #[exe2,eye2]:=ebe2;replace eie2:zR We (.agg #[exe2,eye2]) ((-((nat ax/nat bx:Nat):Int))):=eie2 rfl;obtain⟨⟨exe3,eye3,ebe3,eie3⟩,-⟩:=hI.ex _ mm1;replace ebe3:Blk We (w.heap.size+1+1+1) 51 #[exe3,eye3]:=ebe3;replace eie3:zR We (.agg #[exe3,eye3]) (((nat ax%nat bx:Nat):Int)):=eie3 rfl;have hT:=hI.finx kR kR;have hlWe:=hI.lext;have hbWe:=hI.bel (w.heap.size) oM aU;have holdWe:=hI.old;clear hI;simp only[zE3,zEz,E,EI,ptr,xgm,List.not_mem_nil,false_implies,implies_true,and_true,true_and,xgg,xgh,xgi,xgj]at hT;subst hT;go_wp2_with fail
   refine bodyPost_ret (jD rfl _ rfl rfl ebe2 ebe3 rfl rfl) rfl ⟨_,_,rfl,?_,?_,hBt.trans hbWe⟩
   ·rw[HD1.out];exact eie2
   ·rw[HD2.out];exact eie3
 | true=>
  have hm:=Nat.mod_lt (nat ax) hb0;go_wp2_with fail
  refine(yH _ _ _ tr).mono ?_;rintro e w6 ⟨rfl,hb6⟩;have T7:=T7.below hb6;have T8:=T8.below hb6;have R1:=R1.below hb6;have R2:=R2.below hb6;have Y1:=Y1.below hb6;have Y2:=Y2.below hb6;have hBt:=nx hBt hb6;have tq:=tq.ext (lx hb6);have tr:=tr.ext (lx hb6);have h2x6:zG w6 ba bx:=h2x5.ext (lx hb6);clear hb6 c1 c2 c3 c4 d1 d2 d3 d4 k1 k2 k3 k4 l1 l2 l3 l4;obtain⟨k1,k2,k3,k4⟩:=Y1.two;obtain⟨l1,l2,l3,l4⟩:=Y2.two;obtain⟨c1,c2,c3,c4⟩:=T7.two;obtain⟨d1,d2,d3,d4⟩:=T8.two;by_cases h0:0<nat ax%nat bx
  ·have hc:qO ((nat ax%nat bx:Nat):Int) 0=1:=by unfold qO;rw[if_neg oM,if_pos oM]
   have hq:dmQ true (nat ax) (nat bx)=nat ax/nat bx+1:=by unfold dmQ;rw[if_pos ⟨rfl,h0⟩]
   have hr:dmR true (nat ax) (nat bx)=nat bx-nat ax%nat bx:=by unfold dmR;rw[if_pos ⟨rfl,h0⟩]
   rw[hq]at DM1;rw[hr]at DM2;rw[hc];clear hq hr hc;go_upto_region 6 with(fail)
   have hs6:w4.heap.size+1<w6.heap.size:=T8.lt;have hl7:=T7.lt;have SQ0:Hid (Sm ((nat ax/nat bx:Nat):Int)):=HSQ.out.mono (by simp only[Int.natAbs_natCast];omega);have SB:Hid (Sm (sgn false (nat bx))):=HS2.out.sm.mono (by rw[qD,H2A.out];exact xgf _);have SR:Hid (Sm ((nat ax%nat bx:Nat):Int)):=SB.out.mono (by rw[qD,Int.natAbs_natCast];omega);have S1:Hid (Sm 1):=HSQ.out.mono (by rw[Int.natAbs_natCast];exact Nat.succ_le_succ (Nat.zero_le _));have hbl8:bm+1<=8*LIM:=by rw[jB]at hbl;rw[yA];omega
   refine zB 3 rfl (RI w6 (w6.heap.size) _ 51
     [E 0 39 (.agg #[.bool qn,.slice qa ql qc]),EI 1 40 (1),EI 2 41 (((nat ax/nat bx+1:Nat):Int))] [] []) kR RI.start (RI.fin kR ?fin4) ?steps4
   case steps4=>
    refine⟨?_,?_,?_,trivial⟩<;>(intro L T wS hL hd hcl hI K hK;try refine zA rfl ?_)
    ·have zt:=hI.k 7 rfl kR
     have cc0:=hI.cell c1 oM nom;have cc1:=hI.cell c2 oM nom;exact xgu
    ·go_simp
     refine(zBg 1 _ oM oM).mono ?_;exact xgo
    ·have zt0:=hI.e mm0 (hd 0)
     obtain⟨v1,zt1,h1⟩:=hI.vi mm1 (hd 1);go_simp;refine(zBR _ _ ((nat ax/nat bx:Nat):Int) 1 _ (tq.ext hI.lext) h1 SQ0.out S1.out).mono ?_;exact xgo
   intro w7 hlw7 hbw7 holdw7 T hT;simp only[Fin,E,EI,VP,VSl,VN,xgg,xgh,xgi,xgj]at hT;obtain⟨va1,ha1,va2,ha2,rfl⟩:=hT;simp only[xgl,xgk];obtain⟨pn,pa,pl,pc,px,rfl,hpq⟩:=id ha2;have HPQ:=xgw hpq;clear hpq;have T7:=T7.below hbw7;have T8:=T8.below hbw7;have R1:=R1.below hbw7;have R2:=R2.below hbw7;have Y1:=Y1.below hbw7;have Y2:=Y2.below hbw7;clear c1 c2 c3 c4 d1 d2 d3 d4 k1 k2 k3 k4 l1 l2 l3 l4;obtain⟨c1,c2,c3,c4⟩:=T7.two;go_upto_region 7 with(fail)
   refine zC ?_;intro W8 hW8;have T7':=Blk.at_ hW8 (T7.put2 _ _);have T8:=Blk.at_ hW8 ((T8.far oM _ _).far oM _ _);have R1:=Blk.at_ hW8 ((R1.far oM _ _).far oM _ _);have R2:=Blk.at_ hW8 ((R2.far oM _ _).far oM _ _);have Y1:=Blk.at_ hW8 ((Y1.far oM _ _).far oM _ _);have Y2:=Blk.at_ hW8 ((Y2.far oM _ _).far oM _ _);have hx8:yI w7 W8:=by rw[hW8.out];exact T7.lext2 dE _ _
   have hBt:Below w.heap.size w W8:=by rw[hW8.out];exact zP (zP (nx hBt hbw7) oM 0 _) oM 1 _
   have tr:=tr.ext ((lx hbw7).trans hx8);have tq:=ha2.ext hx8;have h2x8:zG W8 ba bx:=h2x6.ext ((lx hbw7).trans hx8);have T7:=T7';clear T7' hW8 hx8 hbw7 hlw7 c1 c2 c3 c4;obtain⟨l1,l2,l3,l4⟩:=Y2.two;obtain⟨d1,d2,d3,d4⟩:=T8.two;have hl8:=T8.lt;have hly:=Y2.lt;have hse:sgn false (nat bx)-((nat ax%nat bx:Nat):Int)=((nat bx-nat ax%nat bx:Nat):Int):=by rw[sgn_false];omega
   refine zB 5 rfl (RI W8 (W8.heap.size) _ 51
     [VP 0 42 (w.heap.size+1) 1,E 1 43 (.slice ba (bm+1) bc),EI 2 44 (sgn false (nat bx)),E 3 45 (.agg #[.bool rn,.slice ra rl rc]),EI 4 46 (((nat bx-nat ax%nat bx:Nat):Int))] [] []) kR RI.start (RI.fin kR ?fin5) ?steps5
   case steps5=>
    refine⟨?_,?_,?_,?_,?_,trivial⟩<;>(intro L T wS hL hd hcl hI K hK;try refine zA rfl ?_)
    ·exact xgs (hI.k 3 rfl kR)
    ·have zt0:=hI.e mm0 (hd 0)
     have cc0:=hI.cell l2 oM nom;exact xgu
    ·have zt1:=hI.e mm1 (hd 1)
     go_simp;refine(yN ba (bm+1) bc bx false _ H2L.out h2a h2b hbl8 (h2x8.ext hI.lext)).mono ?_;exact xgo
    ·have zt:=hI.k 8 rfl kR
     have cc0:=hI.cell d1 oM nom;have cc1:=hI.cell d2 oM nom;exact xgu
    ·obtain⟨v2,zt2,h2⟩:=hI.vi mm2 (hd 2)
     have zt3:=hI.e mm3 (hd 3);go_simp;refine(zB0 _ _ (sgn false (nat bx)) ((nat ax%nat bx:Nat):Int) _ h2 (tr.ext hI.lext) SB.out SR.out).mono ?_;rintro e wa ⟨v,rfl,hv,hba⟩;rw[hse]at hv;exact hK _ _ ((hI.world hba).n mm4 hv)
   intro w9 hlw9 hbw9 holdw9 T hT;simp only[Fin,E,EI,VP,VSl,VN,xgg,xgh,xgi,xgj]at hT;obtain⟨vb2,hb2,vb4,hb4,rfl⟩:=hT;simp only[xgl,xgk];obtain⟨on,oa,ol,oc,ox,rfl,hor⟩:=id hb4;have HOR:=xgw hor;clear hor;have T7:=T7.below hbw9;have T8:=T8.below hbw9;have R1:=R1.below hbw9;have R2:=R2.below hbw9;have Y1:=Y1.below hbw9;have Y2:=Y2.below hbw9;clear d1 d2 d3 d4 l1 l2 l3 l4;obtain⟨d1,d2,d3,d4⟩:=T8.two;obtain⟨k1,k2,k3,k4⟩:=Y1.two;obtain⟨l1,l2,l3,l4⟩:=Y2.two;go_upto_region 8 with(fail)
   refine zC ?_;intro WA hWA;have T8':=Blk.at_ hWA (T8.put2 _ _);have T7:=Blk.at_ hWA ((T7.far oM _ _).far oM _ _);have R1:=Blk.at_ hWA ((R1.far oM _ _).far oM _ _);have R2:=Blk.at_ hWA ((R2.far oM _ _).far oM _ _);have Y1:=Blk.at_ hWA ((Y1.far oM _ _).far oM _ _);have Y2:=Blk.at_ hWA ((Y2.far oM _ _).far oM _ _);have hxA:yI w9 WA:=by rw[hWA.out];exact T8.lext2 dE _ _
   have hBt:Below w.heap.size w WA:=by rw[hWA.out];exact zP (zP (nx hBt hbw9) oM 0 _) oM 1 _
   have tr:=hb4.ext hxA;have tq:=tq.ext ((lx hbw9).trans hxA);have T8:=T8';clear T8' hWA hxA hbw9 hlw9 d1 d2 d3 d4 k1 k2 k3 k4 l1 l2 l3 l4;obtain⟨k1,k2,k3,k4⟩:=Y1.two;obtain⟨l1,l2,l3,l4⟩:=Y2.two;obtain⟨c1,c2,c3,c4⟩:=T7.two;cases bn with
   | true=>
    have HD1:Hid (z1/z2=((nat ax/nat bx+1:Nat):Int)):=DM1;have HD2:Hid (z1%z2=((nat bx-nat ax%nat bx:Nat):Int)):=DM2;clear DM1 DM2;go_upto_region 10 with(fail)
    obtain⟨c1,c2,c3,c4⟩:=T7.two;obtain⟨d1,d2,d3,d4⟩:=T8.two;have hl7:=T7.lt;have hl8:=T8.lt;refine zF rfl (RI WA (WA.heap.size) _ 51
      [E 0 54 (.agg #[.bool pn,.slice pa pl pc]),E 1 55 (.agg #[.bool on,.slice oa ol oc]),VN 4 6 0] [] [⟨2,w.heap.size+1+1,fun w v=>zR w v (((nat ax/nat bx+1:Nat):Int))⟩,⟨3,w.heap.size+1+1+1,fun w v=>zR w v (((nat bx-nat ax%nat bx:Nat):Int))⟩]) kR RI.start ?fin6 ?steps6
    case steps6=>
     refine⟨?_,?_,?_,?_,?_,trivial⟩<;>(intro L T wS hL hd hcl hI K hK;try refine zA rfl ?_)
     ·have zt:=hI.k 7 rfl kR
      have cc0:=hI.cell c1 oM aU;have cc1:=hI.cell c2 oM aU;exact xgu
     ·have zt:=hI.k 8 rfl kR
      have cc0:=hI.cell d1 oM aU;have cc1:=hI.cell d2 oM aU;exact xgu
     ·have zt:=hI.k 4 rfl kR
      have zv:=hI.e mm0 (hd 0);obtain⟨⟨xo,yo,zb,-⟩,-⟩:=hI.ex _ mm0;replace zb:Blk wS (w.heap.size+1+1) 51 #[xo,yo]:=zb;obtain⟨zk1,zk2,zk3,zk4⟩:=zb.two;go_simp;exact hK _ _ (hI.storeE ⟨2,w.heap.size+1+1,_⟩ mm0 rfl hL rfl (zR.ext tq hI.lext))
     ·have zt:=hI.k 5 rfl kR
      have zv:=hI.e mm1 (hd 1);obtain⟨⟨xo,yo,zb,-⟩,-⟩:=hI.ex _ mm1;replace zb:Blk wS (w.heap.size+1+1+1) 51 #[xo,yo]:=zb;obtain⟨zk1,zk2,zk3,zk4⟩:=zb.two;go_simp;exact hK _ _ (hI.storeE ⟨3,w.heap.size+1+1+1,_⟩ mm1 rfl hL rfl (zR.ext tr hI.lext))
     ·go_simp
      exact hK _ _ (hI.q mm2)
    intro T We hI;obtain⟨⟨exe2,eye2,ebe2,eie2⟩,-⟩:=hI.ex _ mm0;replace ebe2:Blk We (w.heap.size+1+1) 51 #[exe2,eye2]:=ebe2;replace eie2:zR We (.agg #[exe2,eye2]) (((nat ax/nat bx+1:Nat):Int)):=eie2 rfl;obtain⟨⟨exe3,eye3,ebe3,eie3⟩,-⟩:=hI.ex _ mm1;replace ebe3:Blk We (w.heap.size+1+1+1) 51 #[exe3,eye3]:=ebe3;replace eie3:zR We (.agg #[exe3,eye3]) (((nat bx-nat ax%nat bx:Nat):Int)):=eie3 rfl;have hT:=hI.finx kR kR;have hlWe:=hI.lext;have hbWe:=hI.bel (w.heap.size) oM aU;have holdWe:=hI.old;clear hI;simp only[zE3,zEz,E,EI,ptr,xgm,List.not_mem_nil,false_implies,implies_true,and_true,true_and,xgg,xgh,xgi,xgj]at hT;subst hT;go_wp2_with fail
    refine bodyPost_ret (jD rfl _ rfl rfl ebe2 ebe3 rfl rfl) rfl ⟨_,_,rfl,?_,?_,hBt.trans hbWe⟩
    ·rw[HD1.out];exact eie2
    ·rw[HD2.out];exact eie3
   | false=>
    have HD1:Hid (z1/z2=-((nat ax/nat bx+1:Nat):Int)):=DM1;have HD2:Hid (z1%z2=((nat bx-nat ax%nat bx:Nat):Int)):=DM2;clear DM1 DM2;go_wp2_with fail
    refine(jY _ (((nat ax/nat bx+1:Nat):Int)) _ tq.weak HSQ.out).mono ?_;rintro e wn ⟨v,rfl,tq2,hbn⟩;obtain⟨nqn,nqa,nql,nqc,nqx,rfl,hnq⟩:=id tq2;have HNQ:=xgw hnq;clear hnq;have T7:=T7.below hbn;have T8:=T8.below hbn;have R1:=R1.below hbn;have R2:=R2.below hbn;obtain⟨c1,c2,c3,c4⟩:=T7.two;go_upto_region 10 with(fail)
    refine zC ?_;intro Wn hWn;have T7':=Blk.at_ hWn (T7.put2 _ _);have T8:=Blk.at_ hWn ((T8.far oM _ _).far oM _ _);have R1:=Blk.at_ hWn ((R1.far oM _ _).far oM _ _);have R2:=Blk.at_ hWn ((R2.far oM _ _).far oM _ _);have hxn:yI WA Wn:=by rw[hWn.out];exact(lx hbn).trans (T7.lext2 dE _ _)
    have hBt:Below w.heap.size w Wn:=by rw[hWn.out];exact zP (zP (nx hBt hbn) oM 0 _) oM 1 _
    have tr:=tr.ext hxn;have tq:zR Wn (.agg #[.bool nqn,.slice nqa nql nqc]) (-((nat ax/nat bx+1:Nat):Int)):=by rw[hWn.out];exact tq2.ext (T7.lext2 dE _ _)
    have T7:=T7';clear T7' tq2 hWn hxn hbn;obtain⟨c1,c2,c3,c4⟩:=T7.two;obtain⟨d1,d2,d3,d4⟩:=T8.two;have hl7:=T7.lt;have hl8:=T8.lt;refine zF rfl (RI Wn (Wn.heap.size) _ 51
      [E 0 54 (.agg #[.bool nqn,.slice nqa nql nqc]),E 1 55 (.agg #[.bool on,.slice oa ol oc]),VN 4 6 0] [] [⟨2,w.heap.size+1+1,fun w v=>zR w v ((-((nat ax/nat bx+1:Nat):Int)))⟩,⟨3,w.heap.size+1+1+1,fun w v=>zR w v (((nat bx-nat ax%nat bx:Nat):Int))⟩]) kR RI.start ?fin7 ?steps7
    case steps7=>
     refine⟨?_,?_,?_,?_,?_,trivial⟩<;>(intro L T wS hL hd hcl hI K hK;try refine zA rfl ?_)
     ·have zt:=hI.k 7 rfl kR
      have cc0:=hI.cell c1 oM aU;have cc1:=hI.cell c2 oM aU;exact xgu
     ·have zt:=hI.k 8 rfl kR
      have cc0:=hI.cell d1 oM aU;have cc1:=hI.cell d2 oM aU;exact xgu
     ·have zt:=hI.k 4 rfl kR
      have zv:=hI.e mm0 (hd 0);obtain⟨⟨xo,yo,zb,-⟩,-⟩:=hI.ex _ mm0;replace zb:Blk wS (w.heap.size+1+1) 51 #[xo,yo]:=zb;obtain⟨zk1,zk2,zk3,zk4⟩:=zb.two;go_simp;exact hK _ _ (hI.storeE ⟨2,w.heap.size+1+1,_⟩ mm0 rfl hL rfl (zR.ext tq hI.lext))
     ·have zt:=hI.k 5 rfl kR
      have zv:=hI.e mm1 (hd 1);obtain⟨⟨xo,yo,zb,-⟩,-⟩:=hI.ex _ mm1;replace zb:Blk wS (w.heap.size+1+1+1) 51 #[xo,yo]:=zb;obtain⟨zk1,zk2,zk3,zk4⟩:=zb.two;go_simp;exact hK _ _ (hI.storeE ⟨3,w.heap.size+1+1+1,_⟩ mm1 rfl hL rfl (zR.ext tr hI.lext))
     ·go_simp
      exact hK _ _ (hI.q mm2)
    intro T We hI;obtain⟨⟨exe2,eye2,ebe2,eie2⟩,-⟩:=hI.ex _ mm0;replace ebe2:Blk We (w.heap.size+1+1) 51 #[exe2,eye2]:=ebe2;replace eie2:zR We (.agg #[exe2,eye2]) ((-((nat ax/nat bx+1:Nat):Int))):=eie2 rfl;obtain⟨⟨exe3,eye3,ebe3,eie3⟩,-⟩:=hI.ex _ mm1;replace ebe3:Blk We (w.heap.size+1+1+1) 51 #[exe3,eye3]:=ebe3;replace eie3:zR We (.agg #[exe3,eye3]) (((nat bx-nat ax%nat bx:Nat):Int)):=eie3 rfl;have hT:=hI.finx kR kR;have hlWe:=hI.lext;have hbWe:=hI.bel (w.heap.size) oM aU;have holdWe:=hI.old;clear hI;simp only[zE3,zEz,E,EI,ptr,xgm,List.not_mem_nil,false_implies,implies_true,and_true,true_and,xgg,xgh,xgi,xgj]at hT;subst hT;go_wp2_with fail
    refine bodyPost_ret (jD rfl _ rfl rfl ebe2 ebe3 rfl rfl) rfl ⟨_,_,rfl,?_,?_,hBt.trans hbWe⟩
    ·rw[HD1.out];exact eie2
    ·rw[HD2.out];exact eie3
  ·have hc:qO ((nat ax%nat bx:Nat):Int) 0=0:=by unfold qO;rw[if_neg oM,if_neg oM]
   have hq:dmQ true (nat ax) (nat bx)=nat ax/nat bx:=by unfold dmQ;rw[if_neg (by simp;omega)]
   have hr:dmR true (nat ax) (nat bx)=nat ax%nat bx:=by unfold dmR;rw[if_neg (by simp;omega)]
   rw[hq]at DM1;rw[hr]at DM2;rw[hc];have HSQ:=xgw (HSQ.out.mono (y:=((nat ax/nat bx:Nat):Int)) (by simp only[Int.natAbs_natCast];omega));clear hq hr hc;cases bn with
   | true=>
    have HD1:Hid (z1/z2=((nat ax/nat bx:Nat):Int)):=DM1;have HD2:Hid (z1%z2=((nat ax%nat bx:Nat):Int)):=DM2;clear DM1 DM2;go_upto_region 10 with(fail)
    obtain⟨c1,c2,c3,c4⟩:=T7.two;obtain⟨d1,d2,d3,d4⟩:=T8.two;have hl7:=T7.lt;have hl8:=T8.lt;refine zF rfl (RI w6 (w6.heap.size) _ 51
      [E 0 54 (.agg #[.bool qn,.slice qa ql qc]),E 1 55 (.agg #[.bool rn,.slice ra rl rc]),VN 4 6 0] [] [⟨2,w.heap.size+1+1,fun w v=>zR w v (((nat ax/nat bx:Nat):Int))⟩,⟨3,w.heap.size+1+1+1,fun w v=>zR w v (((nat ax%nat bx:Nat):Int))⟩]) kR RI.start ?fin8 ?steps8
    case steps8=>
     refine⟨?_,?_,?_,?_,?_,trivial⟩<;>(intro L T wS hL hd hcl hI K hK;try refine zA rfl ?_)
     ·have zt:=hI.k 7 rfl kR
      have cc0:=hI.cell c1 oM aU;have cc1:=hI.cell c2 oM aU;exact xgu
     ·have zt:=hI.k 8 rfl kR
      have cc0:=hI.cell d1 oM aU;have cc1:=hI.cell d2 oM aU;exact xgu
     ·have zt:=hI.k 4 rfl kR
      have zv:=hI.e mm0 (hd 0);obtain⟨⟨xo,yo,zb,-⟩,-⟩:=hI.ex _ mm0;replace zb:Blk wS (w.heap.size+1+1) 51 #[xo,yo]:=zb;obtain⟨zk1,zk2,zk3,zk4⟩:=zb.two;go_simp;exact hK _ _ (hI.storeE ⟨2,w.heap.size+1+1,_⟩ mm0 rfl hL rfl (zR.ext tq hI.lext))
     ·have zt:=hI.k 5 rfl kR
      have zv:=hI.e mm1 (hd 1);obtain⟨⟨xo,yo,zb,-⟩,-⟩:=hI.ex _ mm1;replace zb:Blk wS (w.heap.size+1+1+1) 51 #[xo,yo]:=zb;obtain⟨zk1,zk2,zk3,zk4⟩:=zb.two;go_simp;exact hK _ _ (hI.storeE ⟨3,w.heap.size+1+1+1,_⟩ mm1 rfl hL rfl (zR.ext tr hI.lext))
     ·go_simp
      exact hK _ _ (hI.q mm2)
    intro T We hI;obtain⟨⟨exe2,eye2,ebe2,eie2⟩,-⟩:=hI.ex _ mm0;replace ebe2:Blk We (w.heap.size+1+1) 51 #[exe2,eye2]:=ebe2;replace eie2:zR We (.agg #[exe2,eye2]) (((nat ax/nat bx:Nat):Int)):=eie2 rfl;obtain⟨⟨exe3,eye3,ebe3,eie3⟩,-⟩:=hI.ex _ mm1;replace ebe3:Blk We (w.heap.size+1+1+1) 51 #[exe3,eye3]:=ebe3;replace eie3:zR We (.agg #[exe3,eye3]) (((nat ax%nat bx:Nat):Int)):=eie3 rfl;have hT:=hI.finx kR kR;have hlWe:=hI.lext;have hbWe:=hI.bel (w.heap.size) oM aU;have holdWe:=hI.old;clear hI;simp only[zE3,zEz,E,EI,ptr,xgm,List.not_mem_nil,false_implies,implies_true,and_true,true_and,xgg,xgh,xgi,xgj]at hT;subst hT;go_wp2_with fail
    refine bodyPost_ret (jD rfl _ rfl rfl ebe2 ebe3 rfl rfl) rfl ⟨_,_,rfl,?_,?_,hBt.trans hbWe⟩
    ·rw[HD1.out];exact eie2
    ·rw[HD2.out];exact eie3
   | false=>
    have HD1:Hid (z1/z2=-((nat ax/nat bx:Nat):Int)):=DM1;have HD2:Hid (z1%z2=((nat ax%nat bx:Nat):Int)):=DM2;clear DM1 DM2;go_wp2_with fail
    refine(jY _ (((nat ax/nat bx:Nat):Int)) _ tq.weak HSQ.out).mono ?_;rintro e wn ⟨v,rfl,tq2,hbn⟩;obtain⟨nqn,nqa,nql,nqc,nqx,rfl,hnq⟩:=id tq2;have HNQ:=xgw hnq;clear hnq;have T7:=T7.below hbn;have T8:=T8.below hbn;have R1:=R1.below hbn;have R2:=R2.below hbn;obtain⟨c1,c2,c3,c4⟩:=T7.two;go_upto_region 10 with(fail)
    refine zC ?_;intro Wn hWn;have T7':=Blk.at_ hWn (T7.put2 _ _);have T8:=Blk.at_ hWn ((T8.far oM _ _).far oM _ _);have R1:=Blk.at_ hWn ((R1.far oM _ _).far oM _ _);have R2:=Blk.at_ hWn ((R2.far oM _ _).far oM _ _);have hxn:yI w6 Wn:=by rw[hWn.out];exact(lx hbn).trans (T7.lext2 dE _ _)
    have hBt:Below w.heap.size w Wn:=by rw[hWn.out];exact zP (zP (nx hBt hbn) oM 0 _) oM 1 _
    have tr:=tr.ext hxn;have tq:zR Wn (.agg #[.bool nqn,.slice nqa nql nqc]) (-((nat ax/nat bx:Nat):Int)):=by rw[hWn.out];exact tq2.ext (T7.lext2 dE _ _)
    have T7:=T7';clear T7' tq2 hWn hxn hbn;obtain⟨c1,c2,c3,c4⟩:=T7.two;obtain⟨d1,d2,d3,d4⟩:=T8.two;have hl7:=T7.lt;have hl8:=T8.lt;refine zF rfl (RI Wn (Wn.heap.size) _ 51
      [E 0 54 (.agg #[.bool nqn,.slice nqa nql nqc]),E 1 55 (.agg #[.bool rn,.slice ra rl rc]),VN 4 6 0] [] [⟨2,w.heap.size+1+1,fun w v=>zR w v ((-((nat ax/nat bx:Nat):Int)))⟩,⟨3,w.heap.size+1+1+1,fun w v=>zR w v (((nat ax%nat bx:Nat):Int))⟩]) kR RI.start ?fin9 ?steps9
    case steps9=>
     refine⟨?_,?_,?_,?_,?_,trivial⟩<;>(intro L T wS hL hd hcl hI K hK;try refine zA rfl ?_)
     ·have zt:=hI.k 7 rfl kR
      have cc0:=hI.cell c1 oM aU;have cc1:=hI.cell c2 oM aU;exact xgu
     ·have zt:=hI.k 8 rfl kR
      have cc0:=hI.cell d1 oM aU;have cc1:=hI.cell d2 oM aU;exact xgu
     ·have zt:=hI.k 4 rfl kR
      have zv:=hI.e mm0 (hd 0);obtain⟨⟨xo,yo,zb,-⟩,-⟩:=hI.ex _ mm0;replace zb:Blk wS (w.heap.size+1+1) 51 #[xo,yo]:=zb;obtain⟨zk1,zk2,zk3,zk4⟩:=zb.two;go_simp;exact hK _ _ (hI.storeE ⟨2,w.heap.size+1+1,_⟩ mm0 rfl hL rfl (zR.ext tq hI.lext))
     ·have zt:=hI.k 5 rfl kR
      have zv:=hI.e mm1 (hd 1);obtain⟨⟨xo,yo,zb,-⟩,-⟩:=hI.ex _ mm1;replace zb:Blk wS (w.heap.size+1+1+1) 51 #[xo,yo]:=zb;obtain⟨zk1,zk2,zk3,zk4⟩:=zb.two;go_simp;exact hK _ _ (hI.storeE ⟨3,w.heap.size+1+1+1,_⟩ mm1 rfl hL rfl (zR.ext tr hI.lext))
     ·go_simp
      exact hK _ _ (hI.q mm2)
    intro T We hI;obtain⟨⟨exe2,eye2,ebe2,eie2⟩,-⟩:=hI.ex _ mm0;replace ebe2:Blk We (w.heap.size+1+1) 51 #[exe2,eye2]:=ebe2;replace eie2:zR We (.agg #[exe2,eye2]) ((-((nat ax/nat bx:Nat):Int))):=eie2 rfl;obtain⟨⟨exe3,eye3,ebe3,eie3⟩,-⟩:=hI.ex _ mm1;replace ebe3:Blk We (w.heap.size+1+1+1) 51 #[exe3,eye3]:=ebe3;replace eie3:zR We (.agg #[exe3,eye3]) (((nat ax%nat bx:Nat):Int)):=eie3 rfl;have hT:=hI.finx kR kR;have hlWe:=hI.lext;have hbWe:=hI.bel (w.heap.size) oM aU;have holdWe:=hI.old;clear hI;simp only[zE3,zEz,E,EI,ptr,xgm,List.not_mem_nil,false_implies,implies_true,and_true,true_and,xgg,xgh,xgi,xgj]at hT;subst hT;go_wp2_with fail
    refine bodyPost_ret (jD rfl _ rfl rfl ebe2 ebe3 rfl rfl) rfl ⟨_,_,rfl,?_,?_,hBt.trans hbWe⟩
    ·rw[HD1.out];exact eie2
    ·rw[HD2.out];exact eie3

end Go.Proofs.YtgnmdddaiefooaaGreat
