/- torsionref12.Form. -/
import Derived.Test.YtgnmdddaiefooaaGreatR38
import Derived.Test.YtgnmdddaiefooaaGreatR45
set_option linter.unusedVariables false
set_option linter.unusedSimpArgs false
set_option linter.unusedSectionVars false
set_option maxHeartbeats 16000000
set_option maxRecDepth 100000
namespace Go.Proofs.YtgnmdddaiefooaaGreat
open Go.RowKit
theorem KEu.okB{R C M0 c r i:Nat}{x0 x:Bst}{κ:Nat->Nat}(hM0:1<=M0)(h:KEu R C R M0 x0 c r κ i x)(hri:r<i)(hi:i<R)(hB:gx (eE R R) M0<BD):okB BD R C R x:=by
 have h1:=h.2.le (Nat.le_trans hM0 (zKN hM0 (zEQ _ _ _)));rw[zL1 (zEQ _ _ _),<-zHP hri]at h1;exact h1.ok (Nat.lt_of_le_of_lt (zAV hM0 (Nat.le_trans (zNc oM oM) (zDO R oM))) hB)
theorem KEu.five{R M0 r i:Nat}(hM0:1<=M0)(hri:r<i)(hi:i<R)(hB:gx (eE R R) M0<BD):gx 5 (gx (eI R r i) M0)<BD:=by
 rw[zL1 (zEQ _ _ _),<-zHP hri];exact Nat.lt_of_le_of_lt (zAV hM0 (Nat.le_trans (zNc oM oM) (zDO R oM))) hB
theorem zIB{z:Int}(h:z<0):qO z 0=-1:=by unfold qO;rw[if_pos h]
theorem zIC{z:Int}(h:0<z):qO z 0=1:=by unfold qO;(repeat' split)<;>omega
theorem OkB.smd{R C:Nat}{x:Bst}(h:okB BD R C R x){a b:Nat}(ha:a<R)(hb:b<C):Smd (x.s a b):=zGH.smd _ (h.1 a ha b hb)
theorem zHn{M0:Nat}(hM0:1<=M0)(v:Value)(M:List (List Int))(R C:Nat)(w:World)(h:zBm w v R C M)(hF:yG R C M)(hR:R<=1000000)(hC:C<=1000000)(hA:leM M0 R C (ent M))(hB:gx (eE R R) M0<BD):
  Calls Tryz.prog 43 #[v] w fun e w'=>∃v c r κ x,e= .returned v/\KO R C R M0 ⟨ent M,idf,idf⟩ c r κ x/\(c=C∨r=R)/\zCY w' v R C (genM R C x.s) (genM R R x.t) (genM R R fun a b=>x.i b a)/\Below w.heap.size w w':=by
 have h0:=h;obtain⟨A,rfl,h⟩:=h;obtain⟨ao,n,cap,rfl,e2,e3,e4,-⟩:=id h;have hMB:M0<BD:=Nat.lt_of_le_of_lt (zKN hM0 (zKD R R)) hB;have HS0:qM (∀r∈M,∀z∈r,Sm z):=⟨by rw[jU hF];exact zCx fun a ha b hb=>zAi (Nat.lt_of_le_of_lt (hA a ha b hb) hMB)⟩;have HK0:qM (KO R C R M0 ⟨ent M,idf,idf⟩ 0 0 (fun _=>0) ⟨ent M,idf,idf⟩):=⟨KO.start ⟨hA,zFo R M0 hM0,zFo R M0 hM0⟩⟩;have HF:=xgv hF;have HB:=xgv hB;have H0:=xgv h0;have HM0:=xgv hM0;obtain⟨x0,hx0⟩:∃x0:Bst,(⟨ent M,idf,idf⟩:Bst)=x0:=⟨_,rfl⟩;have HX0:=xgv hx0;rw[hx0]at HK0 ⊢
 clear h0 hF e2 h hA hB hMB hM0 hx0;go_enter Tryz.func43,Tryz.ntmps43;go_upto_region 1 with(fail)
 refine zC ?_;intro W0 hW0;obtain⟨hB0,bx,br,hs0⟩:=qK hW0;obtain⟨c1,c2,c3,c4,c5,c6⟩:=bx.three;clear hW0;go_wp2_with fail
 refine(zGv _ M R C W0 (H0.out.below hB0) HF.out hR hC HS0.out).mono ?_;rintro e w2 ⟨v,rfl,hkn,hb2⟩;obtain⟨bw,AM,AU,AV,bm,bu,bv,rfl,k1,k2,k3⟩:=hkn.ex;have hkw:KW (fun b=>W0.heap.size<=b) w2 bw R C x0:=by
  rw[<-HX0.out];exact⟨_,_,_,_,_,_,k2.congr (fun _ _ _ _=>rfl) (fun _ _ _ _=>rfl) (fun a _ b _=>zCA a b),k3⟩
 have bx:=bx.below hb2;have br:=br.below hb2;have hb:=nx hB0 hb2;have q1:=hB0.size;have q2:=hb2.size;have hsb:w.heap.size+1<W0.heap.size:=by omega
 clear c1 c2 c3 c4 c5 c6 hkn k2 k3 q1 q2 hs0 hB0 hb2;go_wp2;go_loopw [4,5] (fun tv cv wr=>∃(r c:Nat) (κ:Nat->Nat) (x:Bst),tv= .int .i64 r/\cv= .int .i64 c/\c<=C/\r<=R/\Below w.heap.size w wr/\Blk wr w.heap.size 28 #[.int .i64 R,.int .i64 C,.slice ao n cap]/\Blk wr (w.heap.size+1) tHe #[.int .i64 0,.int .i64 0,.slice none 0 0,.int .i64 0,.int .i64 0,.slice none 0 0,.int .i64 0,.int .i64 0,.slice none 0 0]/\KW (fun b=>W0.heap.size<=b) wr bw R C x/\qM (KO R C R M0 x0 c r κ x)) (fun _ cv _=>C-(intOf cv).toNat)
 case atStart=>exact⟨0,0,_,_,rfl,rfl,by omega,by omega,hb,bx,br,hkw,HK0⟩
 case round=>
  clear hkw bx br hb;obtain⟨r,c,κ,x,rfl,rfl,hcl,hrl,hb,bx,br,hkw,hko⟩:=hrel;obtain⟨c1,c2,c3,c4,c5,c6⟩:=bx.three;by_cases hgo:c<C/\r<R
  ·obtain ⟨hcC,hrR⟩:=hgo
   have hkr0:=xgv hko.out.enter;go_wp2;clear c1 c2 c3 c4 c5 c6;go_loopw [6] (fun iv wr=>∃(i:Nat) (x:Bst),iv= .int .i64 i/\r<i/\i<=R/\Below w.heap.size w wr/\Blk wr w.heap.size 28 #[.int .i64 R,.int .i64 C,.slice ao n cap]/\Blk wr (w.heap.size+1) tHe #[.int .i64 0,.int .i64 0,.slice none 0 0,.int .i64 0,.int .i64 0,.slice none 0 0,.int .i64 0,.int .i64 0,.slice none 0 0]/\KW (fun b=>W0.heap.size<=b) wr bw R C x/\qM (KR R C R M0 x0 c r κ i x)) (fun iv _=>R-(intOf iv).toNat)
   case atStart=>exact⟨r+1,x,by simp,by omega,by omega,hb,bx,br,hkw,hkr0⟩
   case round=>
    clear hkw bx br hb hkr0 hko;obtain⟨i,x,rfl,hri,hiR,hb,bx,br,hkw,hkr⟩:=hrel;obtain⟨c1,c2,c3,c4,c5,c6⟩:=bx.three;by_cases hi:i<R
    ·have hke0:=xgv hkr.out.enter
     obtain⟨JF,hJF⟩:∃JF:Nat->World->Prop,∀m wr,JF m wr↔∃x:Bst,(x.s i c).natAbs=m/\Below w.heap.size w wr/\Blk wr w.heap.size 28 #[.int .i64 R,.int .i64 C,.slice ao n cap]/\Blk wr (w.heap.size+1) tHe #[.int .i64 0,.int .i64 0,.slice none 0 0,.int .i64 0,.int .i64 0,.slice none 0 0,.int .i64 0,.int .i64 0,.slice none 0 0]/\KW (fun b=>W0.heap.size<=b) wr bw R C x/\qM (KEu R C R M0 x0 c r κ i x):=⟨_,fun _ _=>Iff.rfl⟩;have HJF:=xgv hJF;have hj0:JF (x.s i c).natAbs _:=(hJF _ _).2 ⟨x,rfl,hb,bx,br,hkw,hke0⟩;clear hJF;go_wp2;clear c1 c2 c3 c4 c5 c6;go_loopw [] (fun wr=>∃m,JF m wr) (fun wr=>leastOf (fun m=>JF m wr))
     case atStart=>exact⟨_,hj0⟩
     case round=>
      clear hkw bx br hb hke0 hkr hj0;obtain⟨m,hJ⟩:=hrel;replace hJ:=(zDm (P:=fun m=>JF m wr) hJ).1;generalize leastOf (fun m=>JF m wr)=m0 at hJ ⊢
      obtain⟨x,hm0,hb,bx,br,hkw,hke⟩:=(HJF.out _ _).1 hJ;have HM:=xgv hm0;clear hJ hm0;obtain⟨AM,AU,AV,bm,bu,bv,hk9,hz9⟩:=id hkw;obtain⟨gm,cm,rfl⟩:=hk9.m.base oM;obtain⟨q0,q1,q2,q3,q4,q5,q6,q7,q8⟩:=hk9.blk.nine;have lbw:=hk9.blk.lt;have lgm:=hk9.zlt (b:=gm) (.inl (.inr rfl));obtain⟨bi,hBbi⟩:=hk9.m.bex hi;have o1:=hk9.m.rowc hi hBbi;have lbi:=hk9.zlt (b:=bi) (.inl (.inl (xgd hBbi)));obtain⟨xis,xia,xil,xik,p1,p2,-,-,hx⟩:=hk9.m.elem hi hBbi hcC;have HOB:=xgv (hke.out.okB HM0.out hri hi HB.out);go_wp2_with fail
      refine(yH _ (x.s i c) wr hx).mono ?_;rintro e w3 ⟨rfl,hb3⟩;by_cases hY:x.s i c=0
      ·have hkr':=xgv (hke.out.exit HM0.out hri hY)
       rw[jT hY];clear q0 q1 q2 q3 q4 q5 q6 q7 q8 o1 p1 p2;have hb:=nx hb hb3;have bx:=bx.below hb3;have br:=br.below hb3;have hkw:=hkw.below hb3;go_wp2;go_roundw
       case rel=>exact⟨i+1,x,by simp,by omega,by omega,hb,bx,br,hkw,hkr'⟩
       case measure=>simp[intOf];omega
      ·have hcn:=zBp hY
       obtain⟨kk,hkk⟩:∃k,qO (x.s i c) 0=k:=⟨_,rfl⟩;rw[hkk]at hcn ⊢
       have hkn:(kk !=0)=true:=by simpa using hcn
       have HYN:=xgv hY;clear hkk hY q0 q1 q2 q3 q4 q5 q6 q7 q8 o1 p1 p2 hk9 hz9 hx lbi lgm lbw;have hb:=nx hb hb3;have bx:=bx.below hb3;have br:=br.below hb3;have hkw:=hkw.below hb3;obtain⟨AM,AU,AV,bm,bu,bv,hk9,hz9⟩:=id hkw;obtain⟨gm,cm,rfl⟩:=hk9.m.base oM;obtain⟨q0,q1,q2,q3,q4,q5,q6,q7,q8⟩:=hk9.blk.nine;have lbw:=hk9.blk.lt;have lgm:=hk9.zlt (b:=gm) (.inl (.inr rfl));obtain⟨bt,hBbt⟩:=hk9.m.bex hrR;have o1:=hk9.m.rowc hrR hBbt;have lbt:=hk9.zlt (b:=bt) (.inl (.inl (xgd hBbt)));obtain⟨xts,xta,xtl,xtk,p1,p2,-,-,hx⟩:=hk9.m.elem hrR hBbt hcC;go_wp2_with fail
       refine(yH _ (x.s r c) w3 hx).mono ?_;rintro e w4 ⟨rfl,hb4⟩;clear q0 q1 q2 q3 q4 q5 q6 q7 q8 o1 p1 p2 hk9 hz9 hx lbt lgm lbw hkn hcn;have hb:=nx hb hb4;have bx:=bx.below hb4;have br:=br.below hb4;have hkw:=hkw.below hb4;by_cases hX:x.s r c=0
       ·rw[jT hX]
        obtain⟨n1,n2,n3⟩:=hke.out.1.swap0 hri hi hX HYN.out hke.out.2;have hke':qM (KEu R C R M0 x0 c r κ i (x.swap r i)):=⟨⟨n1,n2⟩⟩;have hms:((x.swap r i).s i c).natAbs<m0:=by
         have h1:=HYN.out;have h2:=HM.out;rw[n3];omega
        have HMS:=xgv hms;clear n1 n2 n3 hms;go_wp2_with fail
        refine(zKW hkw hrR hi hR hC).mono ?_;rintro e wa ⟨⟨uu,rfl⟩,hon,hkw'⟩;have bx:=hon.blk bx oM;have br:=hon.blk br oM;have hbN:=jH hb hon oM hb.size;have hjn:JF ((x.swap r i).s i c).natAbs wa:=(HJF.out _ _).2 ⟨_,rfl,hbN,bx,br,hkw',hke'⟩;go_wp2;go_roundw
        case rel=>exact⟨_,hjn⟩
        case measure=>exact zFQ hjn HMS.out
       ·have hcn:=zBp hX
        obtain⟨kk2,hkk2⟩:∃k,qO (x.s r c) 0=k:=⟨_,rfl⟩;rw[hkk2]at hcn ⊢
        have hkn:(kk2 !=0)=true:=by simpa using hcn
        obtain⟨n1,n2,n3,n4⟩:=hke.out.1.step hri hi hcC (Nat.le_trans HM0.out (zKN HM0.out (zEQ _ _ _))) hX HYN.out hke.out.2 (KEu.five HM0.out hri hi HB.out);have hke':qM (KEu R C R M0 x0 c r κ i ((x.add r i (-(x.s r c/x.s i c))).swap r i)):=⟨⟨n2,n3⟩⟩;have HMS:qM ((((x.add r i (-(x.s r c/x.s i c))).swap r i).s i c).natAbs<m0):=⟨by rw[<-HM.out];exact n4⟩;have HOK:=xgv n1;have SX:=xgv (OkB.smd HOB.out hrR hcC);have SY:=xgv (OkB.smd HOB.out hi hcC);have SQ:qM (Sm (x.s r c/x.s i c)):=⟨(SX.out.mono (zEN _ _)).sm⟩;clear n1 n2 n3 n4 hkk2 hX;obtain⟨AM,AU,AV,bm,bu,bv,hk9,hz9⟩:=id hkw;obtain⟨gm,cm,rfl⟩:=hk9.m.base oM;obtain⟨q0,q1,q2,q3,q4,q5,q6,q7,q8⟩:=hk9.blk.nine;have lbw:=hk9.blk.lt;have lgm:=hk9.zlt (b:=gm) (.inl (.inr rfl));obtain⟨bt,hBbt⟩:=hk9.m.bex hrR;have o1:=hk9.m.rowc hrR hBbt;have lbt:=hk9.zlt (b:=bt) (.inl (.inl (xgd hBbt)));obtain⟨xts,xta,xtl,xtk,p1,p2,-,-,hx⟩:=hk9.m.elem hrR hBbt hcC;obtain⟨bi,hBbi⟩:=hk9.m.bex hi;have o2:=hk9.m.rowc hi hBbi;have lbi:=hk9.zlt (b:=bi) (.inl (.inl (xgd hBbi)));obtain⟨xis,xia,xil,xik,p3,p4,-,-,hy⟩:=hk9.m.elem hi hBbi hcC;have hld:zDx (fun w v=>∃v1 v2,v= .tuple #[v1,v2,.int .i64 0]/\zR w v1 (x.s r c/x.s i c)/\zR w v2 (x.s r c%x.s i c)):=fun w w' v hx h=>by
         obtain⟨v1,v2,e,h1,h2⟩:=h;exact⟨v1,v2,e,h1.ext hx,h2.ext hx⟩
        go_upto_region 11 with(fail)
        refine zF rfl (RI w4 (w4.heap.size) _ 51
          [VP 0 60 bw 0,VP 1 61 bw 0,VP 2 62 bw 0,VP 3 63 bw 2,VSl 4 64 gm R cm,VN 5 65 r,VP 6 66 gm r,VSl 7 67 bt C C,VN 8 68 c,VP 9 69 bt (c*2),E 10 70 (.agg #[.bool xts,.slice xta xtl xtk]),VP 11 71 bw 0,VP 12 72 bw 0,VP 13 73 bw 0,VP 14 74 bw 2,VSl 15 75 gm R cm,VN 16 76 i,VP 17 77 gm i,VSl 18 78 bi C C,VN 19 79 c,VP 20 80 bi (c*2),E 21 81 (.agg #[.bool xis,.slice xia xil xik]),⟨22,82,fun w v=>∃v1 v2,v= .tuple #[v1,v2,.int .i64 0]/\zR w v1 (x.s r c/x.s i c)/\zR w v2 (x.s r c%x.s i c)⟩,⟨23,59,fun w v=>∃v1 v2,v= .tuple #[v1,v2,.int .i64 0]/\zR w v1 (x.s r c/x.s i c)/\zR w v2 (x.s r c%x.s i c)⟩,EI 24 83 (x.s r c/x.s i c),EI 25 84 (x.s r c%x.s i c),VN 26 85 0,VN 31 9 0] [⟨27,7,29,fun w v=>zR w v (x.s r c/x.s i c)⟩,⟨28,8,30,fun w v=>zR w v (x.s r c%x.s i c)⟩] []) kR RI.start ?fin1 ?steps1
        case steps1=>
         refine⟨?_,?_,?_,?_,?_,?_,?_,?_,?_,?_,?_,?_,?_,?_,?_,?_,?_,?_,?_,?_,?_,?_,?_,?_,?_,?_,?_,?_,?_,?_,?_,?_,trivial⟩<;>(intro L T wS hL hd hcl hI K hK;try refine zA rfl ?_)
         ·exact xgs (hI.k 3 rfl kR)
         ·exact xgs (hI.e mm0 (hd 0))
         ·exact xgs (hI.e mm1 (hd 1))
         ·exact xgs (hI.e mm2 (hd 2))
         ·have zt3:=hI.e mm3 (hd 3)
          have cc0:=hI.cell q2 oM nom;exact xgu
         ·exact xgs (hI.k 4 rfl kR)
         ·exact xgt (hI.e mm4 (hd 4)) (hI.e mm5 (hd 5))
         ·have zt6:=hI.e mm6 (hd 6)
          have cc0:=hI.cell o1 oM nom;exact xgu
         ·exact xgs (hI.k 5 rfl kR)
         ·exact xgt (hI.e mm7 (hd 7)) (hI.e mm8 (hd 8))
         ·have zt9:=hI.e mm9 (hd 9)
          have cc0:=hI.cell p1 oM nom;have cc1:=hI.cell p2 oM nom;exact xgu
         ·exact xgs (hI.k 3 rfl kR)
         ·exact xgs (hI.e zAB (hd 11))
         ·exact xgs (hI.e zAh (hd 12))
         ·exact xgs (hI.e zBv (hd 13))
         ·have zt14:=hI.e zBF (hd 14)
          have cc0:=hI.cell q2 oM nom;exact xgu
         ·exact xgs (hI.k 6 rfl kR)
         ·exact xgt (hI.e zCN (hd 15)) (hI.e zCf (hd 16))
         ·have zt17:=hI.e zCg (hd 17)
          have cc0:=hI.cell o2 oM nom;exact xgu
         ·exact xgs (hI.k 5 rfl kR)
         ·exact xgt (hI.e zCh (hd 18)) (hI.e zDW (hd 19))
         ·have zt20:=hI.e zD6 (hd 20)
          have cc0:=hI.cell p3 oM nom;have cc1:=hI.cell p4 oM nom;exact xgu
         ·obtain⟨_,zt3,rfl⟩:=hI.v yD (hd 10)
          obtain⟨_,zt4,rfl⟩:=hI.v zEf (hd 21);go_simp;refine(zDr _ _ _ _ _ (hx.ext hI.lext) (hy.ext hI.lext) SX.out SY.out HYN.out).mono ?_;rintro e wa ⟨u1,u2,rfl,hu1,hu2,hba⟩;exact hK _ _ ((hI.world hba).y zEg ⟨u1,u2,rfl,hu1,hu2⟩)
         ·obtain⟨v22,zt22,h22⟩:=hI.v zEg (hd 22)
          go_simp;exact hK _ _ (hI.y zEh h22)
         ·obtain⟨v23,zt23,h23⟩:=hI.v zEh (hd 23)
          obtain⟨u1,u2,rfl,e1,e2⟩:=h23;go_simp;exact hK _ _ (hI.n zGC e1)
         ·obtain⟨v23,zt23,h23⟩:=hI.v zEh (hd 23)
          obtain⟨u1,u2,rfl,e1,e2⟩:=h23;go_simp;exact hK _ _ (hI.n zGD e2)
         ·obtain⟨v23,zt23,h23⟩:=hI.v zEh (hd 23)
          obtain⟨u1,u2,rfl,e1,e2⟩:=h23;exact xgu
         ·go_simp
          exact hK _ _ (hI.alloc ⟨27,7,29,_⟩ mm0 rfl hL)
         ·go_simp
          exact hK _ _ (hI.alloc ⟨28,8,30,_⟩ mm1 rfl hL)
         ·obtain⟨v,t1,hv⟩:=hI.vi zGC (hd 24)
          obtain⟨b,x,y,t2,hb1,hb2,-⟩:=hI.box _ mm0 (hd 27);obtain⟨vneg,vao,vlen,vcap,vls,rfl,hv'⟩:=id hv;have HT:=xgw t2;unfold ptr at t2;obtain⟨k1,k2,k3,k4⟩:=hb2.two;go_simp;exact hK _ _ (hI.store ⟨27,7,29,_⟩ mm0 rfl (hd 27) HT.out hv)
         ·obtain⟨v,t1,hv⟩:=hI.vi zGD (hd 25)
          obtain⟨b,x,y,t2,hb1,hb2,-⟩:=hI.box _ mm1 (hd 28);obtain⟨vneg,vao,vlen,vcap,vls,rfl,hv'⟩:=id hv;have HT:=xgw t2;unfold ptr at t2;obtain⟨k1,k2,k3,k4⟩:=hb2.two;go_simp;exact hK _ _ (hI.store ⟨28,8,30,_⟩ mm1 rfl (hd 28) HT.out hv)
         ·exact xgs (hI.e zHd (hd 26))
        intro T w5 hI;have hT:=hI.finx kR kR;have hlw5:=hI.lext;have hbw5:=hI.bel (w4.heap.size) oM nom;have holdw5:=hI.old;clear hI;simp only[zE3,zEz,E,EI,ptr,xgm,List.not_mem_nil,false_implies,implies_true,and_true,true_and,xgg,xgh,xgi,xgj]at hT;obtain⟨va22,ha22,va23,ha23,va24,ha24,va25,ha25,ca27,xa27,ya27,ga27,ka27,ia27,ca28,xa28,ya28,ga28,ka28,ia28,na27_28,rfl⟩:=hT;clear q0 q1 q2 q3 q4 q5 q6 q7 q8 o1 o2 p1 p2 p3 p4 hk9 hz9 hx hy lbt lbi lgm lbw hkn hcn;have hb:=nx hb hbw5;have bx:=bx.below hbw5;have br:=br.below hbw5;have hkw:=hkw.below hbw5;obtain⟨m1,m2,m3,m4⟩:=ka27.two;obtain⟨pn0,pa0,pl0,pc0,px0,hpe,hpx0⟩:=id ia27;injection hpe with hpe
        simp only[Array.mk.injEq,List.cons.injEq,and_true]at hpe;obtain⟨rfl,rfl⟩:=hpe;have HPX0:=xgw hpx0;clear hpx0;go_wp2_with fail
        refine(jY _ _ w5 ia27.weak SQ.out).mono ?_;rintro e w6 ⟨kv,rfl,hkv,hb6⟩;obtain⟨pn,pa,pl,pc,px,rfl,hpx⟩:=id hkv;have HPX:=xgw hpx;clear hpx m1 m2 m3 m4;have hb:=nx hb hb6;have bx:=bx.below hb6;have br:=br.below hb6;have hkw:=hkw.below hb6;go_wp2_with fail
        refine(zKV hkw hrR hi oM hkv HOB.out HOK.out hR hC).mono ?_;rintro e w7 ⟨⟨uu,rfl⟩,hon,hkw⟩;have bx:=hon.blk bx oM;have br:=hon.blk br oM;have hb:=jH hb hon oM hb.size;go_wp2_with fail
        refine(zKW hkw hrR hi hR hC).mono ?_;rintro e wa ⟨⟨uu2,rfl⟩,hon2,hkw'⟩;have bx:=hon2.blk bx oM;have br:=hon2.blk br oM;have hbN:=jH hb hon2 oM hb.size;have hjn:JF (((x.add r i (-(x.s r c/x.s i c))).swap r i).s i c).natAbs wa:=(HJF.out _ _).2 ⟨_,rfl,hbN,bx,br,hkw',hke'⟩;go_wp2;go_roundw
        case rel=>exact⟨_,hjn⟩
        case measure=>exact zFQ hjn HMS.out
    ·obtain rfl:R=i:=by omega
     obtain⟨AM,AU,AV,bm,bu,bv,hk9,hz9⟩:=id hkw;obtain⟨gm,cm,rfl⟩:=hk9.m.base oM;obtain⟨q0,q1,q2,q3,q4,q5,q6,q7,q8⟩:=hk9.blk.nine;have lbw:=hk9.blk.lt;have lgm:=hk9.zlt (b:=gm) (.inl (.inr rfl));obtain⟨bt,hBbt⟩:=hk9.m.bex hrR;have o1:=hk9.m.rowc hrR hBbt;have lbt:=hk9.zlt (b:=bt) (.inl (.inl (xgd hBbt)));obtain⟨xts,xta,xtl,xtk,p1,p2,-,-,hx⟩:=hk9.m.elem hrR hBbt hcC;go_wp2_with fail
     refine(yH _ (x.s r c) wr hx).mono ?_;rintro e w3 ⟨rfl,hb3⟩;clear q0 q1 q2 q3 q4 q5 q6 q7 q8 o1 p1 p2 hk9 hz9 hx lbt lgm lbw c1 c2 c3 c4 c5 c6;have hb:=nx hb hb3;have bx:=bx.below hb3;have br:=br.below hb3;have hkw:=hkw.below hb3;obtain⟨c1,c2,c3,c4,c5,c6⟩:=bx.three;by_cases hX:x.s r c=0
     ·have hko':=xgv (hkr.out.none hX)
      rw[jT hX];go_wp2;go_roundw
      case rel=>exact⟨r,c+1,κ,x,rfl,by simp,by omega,by omega,hb,bx,br,hkw,hko'⟩
      case measure=>simp[intOf];omega
     ·skip
      obtain⟨AM,AU,AV,bm,bu,bv,hk9,hz9⟩:=id hkw;obtain⟨gm,cm,rfl⟩:=hk9.m.base oM;obtain⟨q0,q1,q2,q3,q4,q5,q6,q7,q8⟩:=hk9.blk.nine;have lbw:=hk9.blk.lt;have lgm:=hk9.zlt (b:=gm) (.inl (.inr rfl));obtain⟨bt,hBbt⟩:=hk9.m.bex hrR;have o1:=hk9.m.rowc hrR hBbt;have lbt:=hk9.zlt (b:=bt) (.inl (.inl (xgd hBbt)));obtain⟨xts,xta,xtl,xtk,p1,p2,-,-,hx⟩:=hk9.m.elem hrR hBbt hcC;by_cases hN:x.s r c<0
      ·have hkd0:=xgv (hkr.out.neg hrR hN)
       have HOB:qM (okB BD R C R x):=⟨hkr.out.2.ok (Nat.lt_of_le_of_lt (zAV HM0.out (Nat.le_trans (zNc hrR (xgf _)) (zDO R oM))) HB.out)⟩;rw[zIB hN];go_wp2_with fail
       refine(yH _ (x.s r c) w3 hx).mono ?_;rintro e w4 ⟨rfl,hb4⟩;rw[zIB hN];clear q0 q1 q2 q3 q4 q5 q6 q7 q8 o1 p1 p2 hk9 hz9 hx lbt lgm lbw c1 c2 c3 c4 c5 c6;have hb:=nx hb hb4;have bx:=bx.below hb4;have br:=br.below hb4;have hkw:=hkw.below hb4;go_wp2_with fail
       refine(zOo hkw hrR HOB.out hR hC).mono ?_;rintro e w5 ⟨⟨uu,rfl⟩,hon,hkw⟩;have bx:=hon.blk bx oM;have br:=hon.blk br oM;have hb:=jH hb hon oM hb.size;obtain⟨c1,c2,c3,c4,c5,c6⟩:=bx.three;clear hX hN;go_wp2;clear c1 c2 c3 c4 c5 c6;go_loopw [10] (fun jv wr=>∃(j:Nat) (x:Bst),jv= .int .i64 j/\j<=r/\Below w.heap.size w wr/\Blk wr w.heap.size 28 #[.int .i64 R,.int .i64 C,.slice ao n cap]/\Blk wr (w.heap.size+1) tHe #[.int .i64 0,.int .i64 0,.slice none 0 0,.int .i64 0,.int .i64 0,.slice none 0 0,.int .i64 0,.int .i64 0,.slice none 0 0]/\KW (fun b=>W0.heap.size<=b) wr bw R C x/\qM (KD R C R M0 x0 c r κ j x)) (fun jv _=>r-(intOf jv).toNat)
       case atStart=>exact⟨0,_,rfl,by omega,hb,bx,br,hkw,hkd0⟩
       case round=>
        clear hkw bx br hb;obtain⟨j,x,rfl,hj,hb,bx,br,hkw,hkd⟩:=hrel;by_cases hlt:j<r
        ·have hBr:gx (eE R (r+1)) M0<BD:=Nat.lt_of_le_of_lt (zAV HM0.out (zDO R oM)) HB.out
         obtain⟨n1,n2⟩:=hkd.out.step HM0.out hlt hrR hcC hBr;have HKN:=xgv n2;have HOK:=xgv n1;have HOB:qM (okB BD R C R x):=⟨hkd.out.bd.ok (Nat.lt_of_le_of_lt (zAV HM0.out (zEP R r j hrR oM)) hBr)⟩;have hjR:j<R:=by omega
         have SX:=xgv (OkB.smd HOB.out hjR hcC);have SY:=xgv (OkB.smd HOB.out hrR hcC);have SQ:qM (Sm (x.s j c/x.s r c)):=⟨(SX.out.mono (zEN _ _)).sm⟩;have HP:qM (x.s r c≠0):=⟨by have:=hkd.out.pos;omega⟩;clear n1 n2 hBr;obtain⟨AM,AU,AV,bm,bu,bv,hk9,hz9⟩:=id hkw;obtain⟨gm,cm,rfl⟩:=hk9.m.base oM;obtain⟨q0,q1,q2,q3,q4,q5,q6,q7,q8⟩:=hk9.blk.nine;have lbw:=hk9.blk.lt;have lgm:=hk9.zlt (b:=gm) (.inl (.inr rfl));obtain⟨bi,hBbi⟩:=hk9.m.bex hjR;have o1:=hk9.m.rowc hjR hBbi;have lbi:=hk9.zlt (b:=bi) (.inl (.inl (xgd hBbi)));obtain⟨xis,xia,xil,xik,p1,p2,-,-,hx⟩:=hk9.m.elem hjR hBbi hcC;obtain⟨bt,hBbt⟩:=hk9.m.bex hrR;have o2:=hk9.m.rowc hrR hBbt;have lbt:=hk9.zlt (b:=bt) (.inl (.inl (xgd hBbt)));obtain⟨xts,xta,xtl,xtk,p3,p4,-,-,hy⟩:=hk9.m.elem hrR hBbt hcC;go_upto_region 20 with(fail)
         refine zB 27 rfl (RI wr (wr.heap.size) _ 51
           [VP 0 130 bw 0,VN 1 131 j,VN 2 132 r,VP 3 133 bw 0,VP 4 134 bw 0,VP 5 135 bw 0,VP 6 136 bw 2,VSl 7 137 gm R cm,VN 8 138 j,VP 9 139 gm j,VSl 10 140 bi C C,VN 11 141 c,VP 12 142 bi (c*2),E 13 143 (.agg #[.bool xis,.slice xia xil xik]),VP 14 144 bw 0,VP 15 145 bw 0,VP 16 146 bw 0,VP 17 147 bw 2,VSl 18 148 gm R cm,VN 19 149 r,VP 20 150 gm r,VSl 21 151 bt C C,VN 22 152 c,VP 23 153 bt (c*2),E 24 154 (.agg #[.bool xts,.slice xta xtl xtk]),EI 25 155 (x.s j c/x.s r c),EI 26 156 (-(x.s j c/x.s r c))] [] []) kR RI.start (RI.fin kR ?fin2) ?steps2
         case steps2=>
          refine⟨?_,?_,?_,?_,?_,?_,?_,?_,?_,?_,?_,?_,?_,?_,?_,?_,?_,?_,?_,?_,?_,?_,?_,?_,?_,?_,?_,trivial⟩<;>(intro L T wS hL hd hcl hI K hK;try refine zA rfl ?_)
          ·exact xgs (hI.k 3 rfl kR)
          ·exact xgs (hI.k 10 rfl kR)
          ·exact xgs (hI.k 4 rfl kR)
          ·exact xgs (hI.k 3 rfl kR)
          ·exact xgs (hI.e mm3 (hd 3))
          ·exact xgs (hI.e mm4 (hd 4))
          ·exact xgs (hI.e mm5 (hd 5))
          ·have zt6:=hI.e mm6 (hd 6)
           have cc0:=hI.cell q2 oM nom;exact xgu
          ·exact xgs (hI.k 10 rfl kR)
          ·exact xgt (hI.e mm7 (hd 7)) (hI.e mm8 (hd 8))
          ·have zt9:=hI.e mm9 (hd 9)
           have cc0:=hI.cell o1 oM nom;exact xgu
          ·exact xgs (hI.k 5 rfl kR)
          ·exact xgt (hI.e yD (hd 10)) (hI.e zAB (hd 11))
          ·have zt12:=hI.e zAh (hd 12)
           have cc0:=hI.cell p1 oM nom;have cc1:=hI.cell p2 oM nom;exact xgu
          ·exact xgs (hI.k 3 rfl kR)
          ·exact xgs (hI.e zBF (hd 14))
          ·exact xgs (hI.e zCN (hd 15))
          ·exact xgs (hI.e zCf (hd 16))
          ·have zt17:=hI.e zCg (hd 17)
           have cc0:=hI.cell q2 oM nom;exact xgu
          ·exact xgs (hI.k 4 rfl kR)
          ·exact xgt (hI.e zCh (hd 18)) (hI.e zDW (hd 19))
          ·have zt20:=hI.e zD6 (hd 20)
           have cc0:=hI.cell o2 oM nom;exact xgu
          ·exact xgs (hI.k 5 rfl kR)
          ·exact xgt (hI.e zEf (hd 21)) (hI.e zEg (hd 22))
          ·have zt23:=hI.e zEh (hd 23)
           have cc0:=hI.cell p3 oM nom;have cc1:=hI.cell p4 oM nom;exact xgu
          ·have zt13:=hI.e zBv (hd 13)
           have zt24:=hI.e zGC (hd 24);go_simp;refine(zBz _ _ (x.s j c) (x.s r c) _ (hx.ext hI.lext) (hy.ext hI.lext) SX.out SY.out HP.out).mono ?_;exact xgo
          ·obtain⟨v25,zt25,h25⟩:=hI.vi zGD (hd 25)
           go_simp;refine(jY _ (x.s j c/x.s r c) _ h25.weak SQ.out).mono ?_;exact xgo
         intro w5 hlw5 hbw5 holdw5 T hT;simp only[Fin,E,EI,VP,VSl,VN,xgg,xgh,xgi,xgj]at hT;obtain⟨va25,ha25,va26,ha26,rfl⟩:=hT;simp only[xgl,xgk];clear q0 q1 q2 q3 q4 q5 q6 q7 q8 o1 o2 p1 p2 p3 p4 hk9 hz9 hx hy lbt lbi lgm lbw;have hb:=nx hb hbw5;have bx:=bx.below hbw5;have br:=br.below hbw5;have hkw:=hkw.below hbw5;go_wp2_with fail
         refine(zKV hkw hjR hrR oM ha26 HOB.out HOK.out hR hC).mono ?_;rintro e wa ⟨⟨uu,rfl⟩,hon,hkw'⟩;have bx:=hon.blk bx oM;have br:=hon.blk br oM;have hbN:=jH hb hon oM hb.size;go_wp2;go_roundw
         case rel=>exact⟨j+1,_,by simp,by omega,hbN,bx,br,hkw',HKN⟩
         case measure=>simp[intOf];omega
        ·obtain rfl:r=j:=by omega
         have hko':=xgv (hkd.out.exit HM0.out hrR hcC);go_wp2;go_roundw
         case rel=>exact⟨r+1,c+1,_,x,by simp,by simp,by omega,by omega,hb,bx,br,hkw,hko'⟩
         case measure=>simp[intOf];omega
      ·have hP:0<x.s r c:=by omega
       have hkd0:=xgv (hkr.out.pos hP);rw[zIC hP];go_wp2_with fail
       refine(yH _ (x.s r c) w3 hx).mono ?_;rintro e w4 ⟨rfl,hb4⟩;rw[zIC hP];clear q0 q1 q2 q3 q4 q5 q6 q7 q8 o1 p1 p2 hk9 hz9 hx lbt lgm lbw c1 c2 c3 c4 c5 c6;have hb:=nx hb hb4;have bx:=bx.below hb4;have br:=br.below hb4;have hkw:=hkw.below hb4;obtain⟨c1,c2,c3,c4,c5,c6⟩:=bx.three;clear hX hN hP;go_wp2;clear c1 c2 c3 c4 c5 c6;go_loopw [10] (fun jv wr=>∃(j:Nat) (x:Bst),jv= .int .i64 j/\j<=r/\Below w.heap.size w wr/\Blk wr w.heap.size 28 #[.int .i64 R,.int .i64 C,.slice ao n cap]/\Blk wr (w.heap.size+1) tHe #[.int .i64 0,.int .i64 0,.slice none 0 0,.int .i64 0,.int .i64 0,.slice none 0 0,.int .i64 0,.int .i64 0,.slice none 0 0]/\KW (fun b=>W0.heap.size<=b) wr bw R C x/\qM (KD R C R M0 x0 c r κ j x)) (fun jv _=>r-(intOf jv).toNat)
       case atStart=>exact⟨0,_,rfl,by omega,hb,bx,br,hkw,hkd0⟩
       case round=>
        clear hkw bx br hb;obtain⟨j,x,rfl,hj,hb,bx,br,hkw,hkd⟩:=hrel;by_cases hlt:j<r
        ·have hBr:gx (eE R (r+1)) M0<BD:=Nat.lt_of_le_of_lt (zAV HM0.out (zDO R oM)) HB.out
         obtain⟨n1,n2⟩:=hkd.out.step HM0.out hlt hrR hcC hBr;have HKN:=xgv n2;have HOK:=xgv n1;have HOB:qM (okB BD R C R x):=⟨hkd.out.bd.ok (Nat.lt_of_le_of_lt (zAV HM0.out (zEP R r j hrR oM)) hBr)⟩;have hjR:j<R:=by omega
         have SX:=xgv (OkB.smd HOB.out hjR hcC);have SY:=xgv (OkB.smd HOB.out hrR hcC);have SQ:qM (Sm (x.s j c/x.s r c)):=⟨(SX.out.mono (zEN _ _)).sm⟩;have HP:qM (x.s r c≠0):=⟨by have:=hkd.out.pos;omega⟩;clear n1 n2 hBr;obtain⟨AM,AU,AV,bm,bu,bv,hk9,hz9⟩:=id hkw;obtain⟨gm,cm,rfl⟩:=hk9.m.base oM;obtain⟨q0,q1,q2,q3,q4,q5,q6,q7,q8⟩:=hk9.blk.nine;have lbw:=hk9.blk.lt;have lgm:=hk9.zlt (b:=gm) (.inl (.inr rfl));obtain⟨bi,hBbi⟩:=hk9.m.bex hjR;have o1:=hk9.m.rowc hjR hBbi;have lbi:=hk9.zlt (b:=bi) (.inl (.inl (xgd hBbi)));obtain⟨xis,xia,xil,xik,p1,p2,-,-,hx⟩:=hk9.m.elem hjR hBbi hcC;obtain⟨bt,hBbt⟩:=hk9.m.bex hrR;have o2:=hk9.m.rowc hrR hBbt;have lbt:=hk9.zlt (b:=bt) (.inl (.inl (xgd hBbt)));obtain⟨xts,xta,xtl,xtk,p3,p4,-,-,hy⟩:=hk9.m.elem hrR hBbt hcC;go_upto_region 20 with(fail)
         refine zB 27 rfl (RI wr (wr.heap.size) _ 51
           [VP 0 130 bw 0,VN 1 131 j,VN 2 132 r,VP 3 133 bw 0,VP 4 134 bw 0,VP 5 135 bw 0,VP 6 136 bw 2,VSl 7 137 gm R cm,VN 8 138 j,VP 9 139 gm j,VSl 10 140 bi C C,VN 11 141 c,VP 12 142 bi (c*2),E 13 143 (.agg #[.bool xis,.slice xia xil xik]),VP 14 144 bw 0,VP 15 145 bw 0,VP 16 146 bw 0,VP 17 147 bw 2,VSl 18 148 gm R cm,VN 19 149 r,VP 20 150 gm r,VSl 21 151 bt C C,VN 22 152 c,VP 23 153 bt (c*2),E 24 154 (.agg #[.bool xts,.slice xta xtl xtk]),EI 25 155 (x.s j c/x.s r c),EI 26 156 (-(x.s j c/x.s r c))] [] []) kR RI.start (RI.fin kR ?fin3) ?steps3
         case steps3=>
          refine⟨?_,?_,?_,?_,?_,?_,?_,?_,?_,?_,?_,?_,?_,?_,?_,?_,?_,?_,?_,?_,?_,?_,?_,?_,?_,?_,?_,trivial⟩<;>(intro L T wS hL hd hcl hI K hK;try refine zA rfl ?_)
          ·exact xgs (hI.k 3 rfl kR)
          ·exact xgs (hI.k 10 rfl kR)
          ·exact xgs (hI.k 4 rfl kR)
          ·exact xgs (hI.k 3 rfl kR)
          ·exact xgs (hI.e mm3 (hd 3))
          ·exact xgs (hI.e mm4 (hd 4))
          ·exact xgs (hI.e mm5 (hd 5))
          ·have zt6:=hI.e mm6 (hd 6)
           have cc0:=hI.cell q2 oM nom;exact xgu
          ·exact xgs (hI.k 10 rfl kR)
          ·exact xgt (hI.e mm7 (hd 7)) (hI.e mm8 (hd 8))
          ·have zt9:=hI.e mm9 (hd 9)
           have cc0:=hI.cell o1 oM nom;exact xgu
          ·exact xgs (hI.k 5 rfl kR)
          ·exact xgt (hI.e yD (hd 10)) (hI.e zAB (hd 11))
          ·have zt12:=hI.e zAh (hd 12)
           have cc0:=hI.cell p1 oM nom;have cc1:=hI.cell p2 oM nom;exact xgu
          ·exact xgs (hI.k 3 rfl kR)
          ·exact xgs (hI.e zBF (hd 14))
          ·exact xgs (hI.e zCN (hd 15))
          ·exact xgs (hI.e zCf (hd 16))
          ·have zt17:=hI.e zCg (hd 17)
           have cc0:=hI.cell q2 oM nom;exact xgu
          ·exact xgs (hI.k 4 rfl kR)
          ·exact xgt (hI.e zCh (hd 18)) (hI.e zDW (hd 19))
          ·have zt20:=hI.e zD6 (hd 20)
           have cc0:=hI.cell o2 oM nom;exact xgu
          ·exact xgs (hI.k 5 rfl kR)
          ·exact xgt (hI.e zEf (hd 21)) (hI.e zEg (hd 22))
          ·have zt23:=hI.e zEh (hd 23)
           have cc0:=hI.cell p3 oM nom;have cc1:=hI.cell p4 oM nom;exact xgu
          ·have zt13:=hI.e zBv (hd 13)
           have zt24:=hI.e zGC (hd 24);go_simp;refine(zBz _ _ (x.s j c) (x.s r c) _ (hx.ext hI.lext) (hy.ext hI.lext) SX.out SY.out HP.out).mono ?_;exact xgo
          ·obtain⟨v25,zt25,h25⟩:=hI.vi zGD (hd 25)
           go_simp;refine(jY _ (x.s j c/x.s r c) _ h25.weak SQ.out).mono ?_;exact xgo
         intro w5 hlw5 hbw5 holdw5 T hT;simp only[Fin,E,EI,VP,VSl,VN,xgg,xgh,xgi,xgj]at hT;obtain⟨va25,ha25,va26,ha26,rfl⟩:=hT;simp only[xgl,xgk];clear q0 q1 q2 q3 q4 q5 q6 q7 q8 o1 o2 p1 p2 p3 p4 hk9 hz9 hx hy lbt lbi lgm lbw;have hb:=nx hb hbw5;have bx:=bx.below hbw5;have br:=br.below hbw5;have hkw:=hkw.below hbw5;go_wp2_with fail
         refine(zKV hkw hjR hrR oM ha26 HOB.out HOK.out hR hC).mono ?_;rintro e wa ⟨⟨uu,rfl⟩,hon,hkw'⟩;have bx:=hon.blk bx oM;have br:=hon.blk br oM;have hbN:=jH hb hon oM hb.size;go_wp2;go_roundw
         case rel=>exact⟨j+1,_,by simp,by omega,hbN,bx,br,hkw',HKN⟩
         case measure=>simp[intOf];omega
        ·obtain rfl:r=j:=by omega
         have hko':=xgv (hkd.out.exit HM0.out hrR hcC);go_wp2;go_roundw
         case rel=>exact⟨r+1,c+1,_,x,by simp,by simp,by omega,by omega,hb,bx,br,hkw,hko'⟩
         case measure=>simp[intOf];omega
  ·have HCR:qM (c=C∨r=R):=⟨by
    by_cases h1:c<C
    ·exact .inr (by have:¬ r<R:=fun h2=>hgo ⟨h1,h2⟩;omega)
    ·exact .inl oM⟩
   have HGO:qM (∀K:Prop,(c<C->¬ r<R->K)->(¬ c<C->K)->K):=⟨fun K h1 h2=>by
    by_cases hs:c<C
    ·exact h1 hs (fun hl=>hgo ⟨hs,hl⟩)
    ·exact h2 hs⟩
   obtain⟨AM,AU,AV,bm,bu,bv,hk9,hz9⟩:=hkw;obtain⟨mo,mc,rfl⟩:=hk9.m.shape;obtain⟨uo,uc,rfl⟩:=hk9.u.shape;obtain⟨vo,vc,rfl⟩:=hk9.v.shape;obtain⟨q0,q1,q2,q3,q4,q5,q6,q7,q8⟩:=hk9.blk.nine;clear hgo;refine HGO.out _ ?_ ?_
   ·intro hl hlm
    obtain⟨⟨r0,r1,r2,r3,r4,r5,r6,r7,r8⟩,⟨f0,f1,f2,f3,f4,f5,f6,f7,f8⟩⟩:=br.all9;go_upto_region 22 with(fail)
    clear c1 c2 c3 c4 c5 c6;refine zB 13 rfl (RV wr _ [VP 0 160 bw 0,VP 1 161 bw 0,VP 2 162 bw 0,E 3 163 (.agg #[.int .i64 R,.int .i64 C,.slice mo R mc]),VP 4 164 bw 0,VP 5 165 bw 0,VP 6 166 bw 3,E 7 167 (.agg #[.int .i64 R,.int .i64 R,.slice uo R uc]),VP 8 168 bw 0,VP 9 169 bw 0,VP 10 170 bw 6,E 11 171 (.agg #[.int .i64 R,.int .i64 R,.slice vo R vc]),E 12 172 (.agg #[.int .i64 R,.int .i64 C,.slice mo R mc,.int .i64 R,.int .i64 R,.slice uo R uc,.int .i64 R,.int .i64 R,.slice vo R vc])]) kR RV.start (RV.fin kR ?fin4) ?steps4
    case steps4=>
     refine⟨?_,?_,?_,?_,?_,?_,?_,?_,?_,?_,?_,?_,?_,trivial⟩<;>(intro L T wS hL hd hcl hI K hK;try refine zA rfl ?_)
     ·exact xgs (hI.k 3 rfl kR)
     ·exact xgs (hI.e mm0 (hd 0))
     ·exact xgs (hI.e mm1 (hd 1))
     ·have zt2:=hI.e mm2 (hd 2)
      have cc0:=hI.cell q0;have cc1:=hI.cell q1;have cc2:=hI.cell q2;exact xgu
     ·exact xgs (hI.k 3 rfl kR)
     ·exact xgs (hI.e mm4 (hd 4))
     ·exact xgs (hI.e mm5 (hd 5))
     ·have zt6:=hI.e mm6 (hd 6)
      have cc0:=hI.cell q3;have cc1:=hI.cell q4;have cc2:=hI.cell q5;exact xgu
     ·exact xgs (hI.k 3 rfl kR)
     ·exact xgs (hI.e mm8 (hd 8))
     ·exact xgs (hI.e mm9 (hd 9))
     ·have zt10:=hI.e yD (hd 10)
      have cc0:=hI.cell q6;have cc1:=hI.cell q7;have cc2:=hI.cell q8;exact xgu
     ·have zt3:=hI.e mm3 (hd 3)
      exact xgt (hI.e mm7 (hd 7)) (hI.e zAB (hd 11))
    intro w5 hbw5 T hT;simp only[Fin,E,EI,VP,VSl,VN,xgg,xgh,xgi,xgj]at hT;subst hT;simp only[xgl,xgk];have br:=br.below hbw5;have hb:=nx hb hbw5;have hk9:=hk9.below hbw5;clear q0 q1 q2 q3 q4 q5 q6 q7 q8 r0 r1 r2 r3 r4 r5 r6 r7 r8 f0 f1 f2 f3 f4 f5 f6 f7 f8;obtain⟨⟨r0,r1,r2,r3,r4,r5,r6,r7,r8⟩,⟨f0,f1,f2,f3,f4,f5,f6,f7,f8⟩⟩:=br.all9;go_wp2;have hxr:=br.lext9 dE (.int .i64 R) (.int .i64 C) (.slice mo R mc) (.int .i64 R) (.int .i64 R) (.slice uo R uc) (.int .i64 R) (.int .i64 R) (.slice vo R vc);have offr:∀{v:Value} {M:List (List Int)},qX w5 v M->qX _ v M:=fun h=>h.off br dE dE (fun b hb=>zDE w5 (w.heap.size+1) b _ _ _ _ _ _ _ _ _ hb) hxr
    refine bodyPost_ret (results_cell_row rfl _ _ (w.heap.size+1) _ _ _ _ rfl (br.put9 _ _ _ _ _ _ _ _ _) Tryz.underlying62 rfl (by rw[Tryz.sizeHe];rfl)) rfl ⟨_,rfl,c,r,κ,x,hko.out,HCR.out,⟨_,_,_,rfl,offr (zJ.rows hk9.m),offr (zJ.rows hk9.u),offr (zJ.rows hk9.v)⟩,zGP hb oM _ _ _ _ _ _ _ _ _⟩
   ·intro hl
    obtain⟨⟨r0,r1,r2,r3,r4,r5,r6,r7,r8⟩,⟨f0,f1,f2,f3,f4,f5,f6,f7,f8⟩⟩:=br.all9;go_upto_region 22 with(fail)
    clear c1 c2 c3 c4 c5 c6;refine zB 13 rfl (RV wr _ [VP 0 160 bw 0,VP 1 161 bw 0,VP 2 162 bw 0,E 3 163 (.agg #[.int .i64 R,.int .i64 C,.slice mo R mc]),VP 4 164 bw 0,VP 5 165 bw 0,VP 6 166 bw 3,E 7 167 (.agg #[.int .i64 R,.int .i64 R,.slice uo R uc]),VP 8 168 bw 0,VP 9 169 bw 0,VP 10 170 bw 6,E 11 171 (.agg #[.int .i64 R,.int .i64 R,.slice vo R vc]),E 12 172 (.agg #[.int .i64 R,.int .i64 C,.slice mo R mc,.int .i64 R,.int .i64 R,.slice uo R uc,.int .i64 R,.int .i64 R,.slice vo R vc])]) kR RV.start (RV.fin kR ?fin5) ?steps5
    case steps5=>
     refine⟨?_,?_,?_,?_,?_,?_,?_,?_,?_,?_,?_,?_,?_,trivial⟩<;>(intro L T wS hL hd hcl hI K hK;try refine zA rfl ?_)
     ·exact xgs (hI.k 3 rfl kR)
     ·exact xgs (hI.e mm0 (hd 0))
     ·exact xgs (hI.e mm1 (hd 1))
     ·have zt2:=hI.e mm2 (hd 2)
      have cc0:=hI.cell q0;have cc1:=hI.cell q1;have cc2:=hI.cell q2;exact xgu
     ·exact xgs (hI.k 3 rfl kR)
     ·exact xgs (hI.e mm4 (hd 4))
     ·exact xgs (hI.e mm5 (hd 5))
     ·have zt6:=hI.e mm6 (hd 6)
      have cc0:=hI.cell q3;have cc1:=hI.cell q4;have cc2:=hI.cell q5;exact xgu
     ·exact xgs (hI.k 3 rfl kR)
     ·exact xgs (hI.e mm8 (hd 8))
     ·exact xgs (hI.e mm9 (hd 9))
     ·have zt10:=hI.e yD (hd 10)
      have cc0:=hI.cell q6;have cc1:=hI.cell q7;have cc2:=hI.cell q8;exact xgu
     ·have zt3:=hI.e mm3 (hd 3)
      exact xgt (hI.e mm7 (hd 7)) (hI.e zAB (hd 11))
    intro w5 hbw5 T hT;simp only[Fin,E,EI,VP,VSl,VN,xgg,xgh,xgi,xgj]at hT;subst hT;simp only[xgl,xgk];have br:=br.below hbw5;have hb:=nx hb hbw5;have hk9:=hk9.below hbw5;clear q0 q1 q2 q3 q4 q5 q6 q7 q8 r0 r1 r2 r3 r4 r5 r6 r7 r8 f0 f1 f2 f3 f4 f5 f6 f7 f8;obtain⟨⟨r0,r1,r2,r3,r4,r5,r6,r7,r8⟩,⟨f0,f1,f2,f3,f4,f5,f6,f7,f8⟩⟩:=br.all9;go_wp2;have hxr:=br.lext9 dE (.int .i64 R) (.int .i64 C) (.slice mo R mc) (.int .i64 R) (.int .i64 R) (.slice uo R uc) (.int .i64 R) (.int .i64 R) (.slice vo R vc);have offr:∀{v:Value} {M:List (List Int)},qX w5 v M->qX _ v M:=fun h=>h.off br dE dE (fun b hb=>zDE w5 (w.heap.size+1) b _ _ _ _ _ _ _ _ _ hb) hxr
    refine bodyPost_ret (results_cell_row rfl _ _ (w.heap.size+1) _ _ _ _ rfl (br.put9 _ _ _ _ _ _ _ _ _) Tryz.underlying62 rfl (by rw[Tryz.sizeHe];rfl)) rfl ⟨_,rfl,c,r,κ,x,hko.out,HCR.out,⟨_,_,_,rfl,offr (zJ.rows hk9.m),offr (zJ.rows hk9.u),offr (zJ.rows hk9.v)⟩,zGP hb oM _ _ _ _ _ _ _ _ _⟩
end Go.Proofs.YtgnmdddaiefooaaGreat
