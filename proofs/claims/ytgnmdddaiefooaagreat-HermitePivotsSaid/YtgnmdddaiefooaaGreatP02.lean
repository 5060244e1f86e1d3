/- torsionref09.Det. torsionref12: Work.AddTo (printed by genK.py). torsionref12: Work.Negate (printed by genK.py). torsionref12: Work.Swap (printed by genK2.py). torsionref12: operations on the work; Moved. torsionlaw12.HermiteUnique: the walk. torsionlaw12.HermitePivots: the walk. -/
import Derived.Test.YtgnmdddaiefooaaGreatF33
import Derived.Test.YtgnmdddaiefooaaGreatF40
import Derived.Test.YtgnmdddaiefooaaGreatF41
import Derived.Test.YtgnmdddaiefooaaGreatF42
import Derived.Test.YtgnmdddaiefooaaGreatP01
set_option linter.unusedVariables false
set_option linter.unusedSimpArgs false
set_option linter.unusedSectionVars false
set_option maxHeartbeats 16000000
set_option maxRecDepth 100000
namespace Go.Proofs.YtgnmdddaiefooaaGreat
open Go.RowKit
def zKZ(j:Nat)(r:List Int):List Int:=r.take j++r.drop (j+1)
def mnL(M:List (List Int))(j i:Nat):List (List Int):=((M.take i).drop 1).map (zKZ j)
theorem zLm(M:List (List Int))(j:Nat):mnL M j 1= []:=by
 unfold mnL;rw[List.drop_eq_nil_of_le (by rw[List.length_take];omega)];rfl
theorem zKN{M:List (List Int)}{j i:Nat}{zs:List Int}(hi:1<=i)(h:M[i]?=some zs):mnL M j (i+1)=mnL M j i++ [zKZ j zs]:=by
 unfold mnL;have hl:i<M.length:=(xge.1 h).1;rw[List.take_add_one,h,List.drop_append_of_le_length (by rw[List.length_take];omega),List.map_append];rfl
theorem zKa{j n:Nat}{r:List Int}(h:r.length=n+1)(hj:j<n+1):(zKZ j r).length=n:=by
 unfold zKZ;rw[List.length_append,List.length_take,List.length_drop];omega
theorem zLz{j n b:Nat}{r:List Int}(h:r.length=n+1)(hj:j<n+1)(hb:b<n):(zKZ j r)[b]?=r[sk j b]?:=by
 unfold zKZ sk;have hl:(r.take j).length=j:=by rw[List.length_take];omega
 by_cases e:b<j
 ·rw[if_pos e,List.getElem?_append_left oM,List.getElem?_take,if_pos e]
 ·rw[if_neg e,List.getElem?_append_right oM,hl,List.getElem?_drop]
  congr 1;omega
theorem zKM{M:List (List Int)}{j n:Nat}(hF:yM (n+1) (n+1) M)(hj:j<n+1):yM n n (mnL M j (n+1)):=by
 unfold mnL;refine⟨by rw[List.length_map,List.length_drop,List.length_take,hF.1];omega,fun r hr=>?_⟩;obtain⟨q,hq,rfl⟩:=List.mem_map.1 hr;exact zKa (hF.2 q (List.mem_of_mem_take (List.mem_of_mem_drop hq))) hj
theorem zI0{M:List (List Int)}{j n a b:Nat}(hF:yM (n+1) (n+1) M)(hj:j<n+1)(ha:a<n)(hb:b<n):ent (mnL M j (n+1)) a b=mnr (ent M) 0 j a b:=by
 obtain⟨r,hr⟩:∃r,M[a+1]?=some r:=⟨_,xga (by rw[hF.1];omega)⟩;have h1:(mnL M j (n+1))[a]?=some (zKZ j r):=by
  unfold mnL;rw[List.getElem?_map,List.getElem?_drop,List.getElem?_take_of_lt oM,Nat.add_comm 1 a,hr];rfl
 have hl:=hF.2 r (xgd hr);obtain⟨z,hz⟩:∃z,r[sk j b]?=some z:=⟨_,xga (by rw[hl];exact zCg hb)⟩;rw[zAf h1 ((zLz hl hj hb).trans hz)];unfold mnr;rw[zBC,zAf hr hz]
theorem jG.zsTake{w:World}{b n c j:Nat}{zs:List Int}(h:jG w (.slice (some ⟨b,0,none⟩) n c) zs)(hj:j<=n)(c':Nat):ZsV w (.slice (some ⟨b,0,none⟩) j c') (zs.take j):=by
 obtain⟨ao,n',cap,e,h2,h3,h4,h5⟩:=h;injection e with e1 e2 e3
 subst e1;subst e2;refine⟨_,j,c',rfl,by rw[List.length_take];omega,fun hne=>?_⟩;have hz:zs≠ []:=by rintro rfl;simp at hne
 obtain⟨b',eb,cs,k1,k2⟩:=h5 hz;injection eb with eb
 injection eb with eb
 subst eb;have hlen:n*2<=cs.size:=by
  have h0:0<zs.length:=List.length_pos_iff.2 hz;obtain⟨_,_,_,_,-,q,-⟩:=k2 (zs.length-1) _ (xga oM);have:=(Array.getElem?_eq_some_iff.1 q).1;omega
 refine⟨b,0,cs.toList.take (j*2),rfl,by simp;omega,fun k z hk=>?_,fun t u ht=>?_⟩
 ·have hkl:=(xge.1 hk).1
  rw[List.length_take]at hkl;rw[List.getElem?_take_of_lt oM]at hk;obtain⟨s,a,l,c',q1,q2,q3⟩:=k2 k z hk;exact⟨s,a,l,c',by rw[List.getElem?_take_of_lt oM];simpa using q1,by rw[List.getElem?_take_of_lt oM];simpa using q2,q3⟩
 ·rw[List.getElem?_take]at ht
  split at ht
  ·rw[Nat.zero_add,cell_of_row w b t cs tI _ k1]
   simpa using ht
  ·cases ht
theorem jG.zsDrop{w:World}{b n c j:Nat}{zs:List Int}(h:jG w (.slice (some ⟨b,0,none⟩) n c) zs)(hj:j<=n)(hc:n<=c)(c':Nat):ZsV w (.slice (if c=j then some ⟨b,0,none⟩else some ⟨b,j*2,none⟩) (n-j) c') (zs.drop j):=by
 obtain⟨ao,n',cap,e,h2,h3,h4,h5⟩:=h;injection e with e1 e2 e3
 subst e1;subst e2;refine⟨_,n-j,c',rfl,by rw[List.length_drop];omega,fun hne=>?_⟩;have hlt:j<zs.length:=Nat.lt_of_not_le fun hle=>hne (List.drop_eq_nil_of_le hle)
 have hz:zs≠ []:=by rintro rfl;simp at hlt
 obtain⟨b',eb,cs,k1,k2⟩:=h5 hz;injection eb with eb
 injection eb with eb
 subst eb;have hlen:n*2<=cs.size:=by
  obtain⟨_,_,_,_,-,q,-⟩:=k2 (zs.length-1) _ (xga oM);have:=(Array.getElem?_eq_some_iff.1 q).1;omega
 refine⟨b,j*2,(cs.toList.drop (j*2)).take ((n-j)*2),by rw[if_neg oM],by simp;omega,fun k z hk=>?_,fun t u ht=>?_⟩
 ·have hkl:=(xge.1 hk).1
  rw[List.length_drop]at hkl;rw[List.getElem?_drop]at hk;obtain⟨s,a,l,c',q1,q2,q3⟩:=k2 (j+k) z hk;refine⟨s,a,l,c',?_,?_,q3⟩
  ·rw[List.getElem?_take_of_lt oM,List.getElem?_drop,show j*2+k*2=(j+k)*2 by omega];simpa using q1
  ·rw[List.getElem?_take_of_lt oM,List.getElem?_drop,show j*2+(k*2+1)=(j+k)*2+1 by omega];simpa using q2
 ·rw[List.getElem?_take]at ht
  split at ht
  ·rw[List.getElem?_drop]at ht
   rw[cell_of_row w b (j*2+t) cs tI _ k1];simpa using ht
  ·cases ht
theorem zCC{z:Int}(h:z.natAbs<=36000000):Smd z:=⟨Nat.lt_of_le_of_lt h (Nat.lt_of_lt_of_le (show 36000000<B32^4 by decide) (jV (by rw[zAM];omega)))⟩
theorem zJP:∀(n:Nat) (v:Value) (M:List (List Int)) (w:World),VsV w v M->yM n n M->n<=4->leM 9 n n (ent M)->
  Calls Tryz.prog 56 #[v] w (jC w (det n (ent M))):=by
 intro n;induction n with
 |zero=>
  intro v M w h hF _ _;obtain⟨ao,n,cap,rfl,e2,e3,e4,-⟩:=id h;obtain rfl:0=n:=by rw[<-e2,hF.1]
  go_enter Tryz.func56,Tryz.ntmps56;go_upto_region 1 with(fail)
  refine zB ?_;intro W0 hW0;obtain⟨hB0,br,hs0⟩:=zM hW0;go_wp2_with fail
  refine(zBf 1 W0 oM oM).mono ?_;rintro e w2 ⟨u,rfl,hu,hb2⟩;obtain⟨un,ua,ul,uc,ux,rfl,hu'⟩:=id hu;have HU:=xgw hu';clear hu';have br:=br.below hb2;obtain⟨r1,r2,r3,r4⟩:=br.two;go_wp2;refine zP rfl rfl rfl (br.put2 _ _) (hu.ext (br.lext2 dE _ _)) (qC (qC (nx hB0 hb2) oM 0 _) oM 1 _)
 | succ n ih=>
  intro v M w h hF hn hA;obtain⟨N,hN⟩:∃N,N=n+1:=⟨_,rfl⟩;have HD:qW (zGs n (ent M) N=det (n+1) (ent M)):=⟨by rw[hN];rfl⟩;have HM:qW (∀k,k<N->Smd (det n (mnr (ent M) 0 k))):=⟨fun k hk=>zCC (Nat.le_trans (zC3 oM fun a ha b hb=>hA _ (zCg ha) _ (zCg hb)) dE)⟩;have HE:qW (∀k,k<N->Smd (ent M 0 k)):=⟨fun k hk=>zCC (Nat.le_trans (hA 0 oM k oM) dE)⟩;have HT:qW (∀k,k<N->Smd (ent M 0 k*det n (mnr (ent M) 0 k))):=⟨fun k hk=>zCC (by
   rw[Int.natAbs_mul];exact Nat.le_trans (Nat.mul_le_mul (hA 0 oM k oM) (zC3 oM fun a ha b hb=>hA _ (zCg ha) _ (zCg hb))) dE)⟩
  have HL:qW (∀k,k<=N->Smd (zGs n (ent M) k)):=⟨fun k hk=>zCC (zIo oM oM hA)⟩;have HFN:qW (∀k,k<N->yM n n (mnL M k N)):=⟨fun k hk=>by rw[hN];exact zKM hF oM⟩;have HAN:qW (∀k,k<N->leM 9 n n (ent (mnL M k N))):=⟨fun k hk a ha b hb=>by rw[hN,zI0 hF oM ha hb];exact hA _ (zCg ha) _ (zCg hb)⟩;have HDE:qW (∀k,k<N->det n (ent (mnL M k N))=det n (mnr (ent M) 0 k)):=⟨fun k hk=>jD fun a ha b hb=>by rw[hN];exact zI0 hF oM ha hb⟩;rw[<-HD.out];rw[<-hN]at hF hA;obtain⟨ao,n1,cap,rfl,e2,e3,e4,-⟩:=id h;obtain rfl:N=n1:=by rw[<-e2,hF.1]
  have HF:=xgv hF;have HX:=xgw e2;have HN:=xgw hN;have hpos:0<N:=by omega
  have h4:N<=4:=by omega
  have h3:n<=3:=by omega
  have hne:((N:Int)==0)=false:=by rw[beq_eq_false_iff_ne];omega
  clear hF hA e2 HD hn hN;go_enter Tryz.func56,Tryz.ntmps56;go_upto_region 1 with(fail)
  refine zB ?_;intro W0 hW0;obtain⟨hB0,br,hs0⟩:=zM hW0;clear hW0;go_wp2_with fail
  refine(zBf 0 W0 oM oM).mono ?_;rintro e w2 ⟨u,rfl,hu,hb2⟩;obtain⟨un,ua,ul,uc,ux,rfl,hu'⟩:=id hu;have HU:=xgw hu';clear hu';go_upto_region 4 with(fail)
  refine zB ?_;intro W3 hW3;obtain⟨hB3,T3,hs3⟩:=zM hW3;have z3:yS W3 w2.heap.size (zGs n (ent M) 0):=yS.mk T3 (hu.ext (lx hB3));have hB:=nx (nx hB0 hb2) hB3;have br:=(br.below hb2).below hB3;have q2:=hb2.size;clear hW3 hu T3 hne;go_wp2;go_loopw [4] (fun jv wr=>∃j:Nat,j<=N/\jv= .int .i64 j/\Below w.heap.size w wr/\Blk wr w.heap.size 51 #[.bool false,.slice none 0 0]/\yS wr w2.heap.size (zGs n (ent M) j)) (fun jv _=>N-(intOf jv).toNat)
  case atStart=>exact⟨0,by omega,rfl,hB,br,z3⟩
  case round=>
   clear hB br z3;rename World=>wo
   obtain⟨j,hj,rfl,hb,br,z3⟩:=hrel;by_cases hlt:j<N
   ·have l3:=z3.lt
    go_upto_region 9 with(fail)
    refine zB ?_;intro W7 hW7;have hV7:VsO W7 wo.heap.size (.slice (some ⟨wo.heap.size,0,none⟩) 0 0) (mnL M j 1):=by rw[hW7.out,zLm];exact VsO.made _ (xgf _)
    have hB7:Below wo.heap.size wo W7:=by rw[hW7.out];exact(Below.refl _ _).alloc (xgf _) _
    clear hW7;go_loopw [5,6] (fun rv iv wr=>∃i:Nat,1<=i/\i<=N/\iv= .int .i64 i/\VsO wr wo.heap.size rv (mnL M j i)/\Below wo.heap.size wo wr) (fun _ iv _=>N-(intOf iv).toNat)
    case atStart=>exact⟨1,xgf _,hpos,rfl,hV7,hB7⟩
    case round=>
     clear hV7 hB7;obtain⟨i,hi1,hi,rfl,hv,hbi⟩:=hrel;have qi:=hbi.size;obtain⟨vo,vc,rfl⟩:=hv.shape;have hbw:=nx hb hbi;by_cases hli:i<N
     ·obtain⟨rb,ra,rn,rc,zs,rfl,hrb,hz,p1,hvr⟩:=(h.below hbw).row (k:=i) (by rw[HX.out];exact hli)
      have HZL:qW (zs.length=N):=⟨HF.out.2 zs (xgd hz)⟩;have hvl:=hvr.len;obtain rfl:rn=N:=by have:=HZL.out;omega
      obtain⟨rb',_,_,_,_,_,rfl,hrb',-⟩:=hvr.cell (k:=0) (by rw[HZL.out];exact hpos);have HS:qW (mnL M j (i+1)=mnL M j i++ [zKZ j zs]):=⟨zKN hi1 hz⟩;clear hz;go_upto_region 12 with(at_builtin;(refine zNX 38 Tryz.underlying38 rfl _ _ rfl wr.heap.size (.slice (some ⟨wr.heap.size,0,none⟩) 0 0) [] rfl (zJi wr (xgf _)) _ (zs.take j) rfl ((hvr.zsTake (j:=j) oM rc).below ((Below.refl _ _).alloc (xgf _) _)) (by simp;omega) sI ?_;intro v1 w1 hv1 hg1 hx1 ho1))
      have hg1:World.grownBy (wr.alloc (.cells #[] tI)) w1 (some wr.heap.size):=hg1;rw[List.nil_append]at hv1;have hb1:Below wr.heap.size wr w1:=((Below.refl _ _).alloc (xgf _) _).grown hg1 sI (fun g hg=>by injection hg with hg;omega);have q1:=hb1.size;obtain⟨o1,l1,c1,rfl,lv1⟩:∃o l c,v1= .slice o l c/\True:=by
       obtain⟨o,c,e,-⟩:=hv1.len;exact⟨o,_,c,e,trivial⟩
      have hj1:IntKind.i64.wrap ((j:Int)+1)=(j:Int)+1:=IntWalk.i64_in _ oM;have p2:=(hb1.cell (p:=⟨rb,i,none⟩) hrb).trans p1;go_upto_region 13 with(at_builtin;refine zNX 38 Tryz.underlying38 rfl _ _ rfl wr.heap.size (.slice o1 l1 c1) (zs.take j) rfl hv1 _ (zs.drop (j+1)) rfl ((hvr.zsDrop (j:=j+1) oM oM _).below hb1) (by simp;omega) oM ?_;intro v2 w2' hv2 hg2 hx2 ho2)
      have hb2':=hb1.grown hg2 oM (fun g hg=>hv1.own g hg);have q2':=hb2'.size;obtain⟨o2,l2,c2,rfl,-⟩:∃o l c,v2= .slice o l c/\True:=by
       obtain⟨o,c,e,-⟩:=hv2.len;exact⟨o,_,c,e,trivial⟩
      have hvw:=hv.below hb2';go_wp2_with (at_builtin;refine zMO rfl _ _ rfl wo.heap.size (.slice vo (mnL M j i).length vc) (mnL M j i) rfl (hvw.below ((Below.refl _ _).alloc (xgf _) _)) w2'.heap.size 1 (.slice o2 l2 c2) (zKZ j zs) rfl (Blk.new _ _ _) (hv2.vec.below ((Below.refl _ _).alloc (xgf _) _)) (by simp[mnL];omega) (by simp;omega) ?_;intro v3 w3' hv3 hg3 hx3)
      have hb3':Below wo.heap.size wo w3':=((nx hbi hb2').alloc oM _).grown hg3 (by simp;omega) (fun g hg=>(hvw.own g hg).1);rw[<-HS.out]at hv3;go_roundw
      case rel=>exact⟨i+1,by omega,by omega,by simp,hv3,hb3'⟩
      case measure=>simp[intOf];omega
     ·obtain rfl:i=N:=by omega
      have hML:(mnL M j i).length=n:=(HFN.out j hlt).1;rw[hML]at hv ⊢
      obtain⟨rb,ra,rn,rc,zs,rfl,hrb,hz,p1,hvr⟩:=(h.below hbw).row (k:=0) (by rw[HX.out];exact hpos);have HZL:qW (zs.length=i):=⟨HF.out.2 zs (xgd hz)⟩;have hvl:=hvr.len;obtain rfl:rn=i:=by have:=HZL.out;omega
      obtain⟨b',z,s,a,l,c,rfl,hbl',hzk,q1,q2',hzv⟩:=hvr.cell (k:=j) (by rw[HZL.out];exact hlt);have hent:=xgw (zAf hz hzk);obtain⟨D,hDV⟩:∃D,det n (mnr (ent M) 0 j)=D:=⟨_,rfl⟩;have HDV:=xgw hDV;have HDM:qW (Smd D):=⟨by rw[<-hDV];exact HM.out j hlt⟩;have HZ:qW (Smd z):=⟨by rw[<-hent.out];exact HE.out j hlt⟩;have HTD:qW (Smd (z*D)):=⟨by rw[<-hent.out,<-hDV];exact HT.out j hlt⟩;have HCD:qW (∀w',Below wr.heap.size wr w'->Calls Tryz.prog 56 #[.slice vo n vc] w' (jC w' D)):=⟨fun w' hb'=>by
       rw[<-hDV,<-HDE.out j hlt];exact ih _ _ w' (hv.vs.below hb') (HFN.out j hlt) oM (HAN.out j hlt)⟩
      have br:=br.below hbi;have z3:=z3.below hbi;clear hz hzk hDV hvl hML;have l3:=z3.lt;go_upto_region 14 with(fail)
      refine zF rfl (RI wr (wr.heap.size) _ 51
        [VSl 0 48 rb rn cap,VP 1 49 rb 0,VSl 2 50 b' rn rc,VN 3 51 j,VP 4 52 b' (j*2),E 5 53 (.agg #[.bool s,.slice a l c]),E 6 54 (.slice vo n vc),EI 7 55 (D),EI 8 56 (z*D)] [⟨9,8,10,fun w v=>qB w v (z*D)⟩] []) kR RI.start ?fin1 ?steps1
      case steps1=>
       refine⟨?_,?_,?_,?_,?_,?_,?_,?_,?_,?_,?_,trivial⟩<;>(intro L T wS hL hd hcl hI K hK;try refine zA rfl ?_)
       ·exact xgs (hI.k 0 rfl kR)
       ·exact xgs (hI.e mm0 (hd 0))
       ·have zt1:=hI.e mm1 (hd 1)
        have cc0:=hI.cell p1 oM nom;exact xgu
       ·exact xgs (hI.k 4 rfl kR)
       ·exact xgt (hI.e mm2 (hd 2)) (hI.e mm3 (hd 3))
       ·have zt4:=hI.e mm4 (hd 4)
        have cc0:=hI.cell q1 oM nom;have cc1:=hI.cell q2' oM nom;exact xgu
       ·exact xgs (hI.k 5 rfl kR)
       ·have zt6:=hI.e mm6 (hd 6)
        go_simp;refine(HCD.out _ (hI.bel _ (xgf _) sI)).mono ?_;exact xgo
       ·have zt5:=hI.e mm5 (hd 5)
        obtain⟨v7,zt7,h7⟩:=hI.vi mm7 (hd 7);go_simp;refine(zDb _ _ z D wS (hzv.ext hI.lext) h7 HZ.out.sm HDM.out.sm).mono ?_;exact xgo
       ·go_simp
        exact hK _ _ (hI.alloc ⟨9,8,10,_⟩ mm0 rfl hL)
       ·obtain⟨v,t1,hv⟩:=hI.vi mm8 (hd 8)
        obtain⟨b,x,y,t2,hb1,hb2,-⟩:=hI.box _ mm0 (hd 9);obtain⟨vneg,vao,vlen,vcap,vls,rfl,hv'⟩:=id hv;have HT:=xgw t2;unfold ptr at t2;obtain⟨k1,k2,k3,k4⟩:=hb2.two;go_simp;exact hK _ _ (hI.store ⟨9,8,10,_⟩ mm0 rfl (hd 9) HT.out hv)
      intro T wd hI;have hT:=hI.finx kR kR;have hlwd:=hI.lext;have hbwd:=hI.bel (wr.heap.size) oM nom;have holdwd:=hI.old;clear hI;simp only[zGf,zF5,E,EI,ptr,xgm,List.not_mem_nil,false_implies,implies_true,and_true,true_and,xgg,xgh,xgi,xgj]at hT;obtain⟨vd7,hd7,vd8,hd8,cd9,xd9,yd9,gd9,kd9,id9,rfl⟩:=hT;have z9:=yS.mk kd9 id9;have z311:=z3.below hbwd;have br11:=br.below hbwd;have hb11:=nx hbw hbwd;have qd:=hbwd.size;have hne9:cd9≠w2.heap.size:=by omega
      have HL1:qW (Smd (zGs n (ent M) j)):=⟨HL.out j hj⟩;have hll:w2.heap.size<wd.heap.size:=by omega
      have lb:=hb.size;clear br z3 hvr p1 q1 q2' hzv hv kd9 id9;by_cases hodd:j%2=1
      ·have hm:((j:Int)%2==1)=true:=by rw[beq_iff_eq];omega
       obtain⟨xn,xa,xl,xc,k9,i9⟩:=z9;obtain⟨t1,t2,t3,t4⟩:=k9.two;go_wp2_with fail
       refine(zFh _ _ wd i9.weak HTD.out.sm).mono ?_;rintro e w12 ⟨u,rfl,hu,hb12⟩;obtain⟨gn,ga,gl,gc,gx,rfl,hu'⟩:=id hu;have HG:=xgw hu';clear hu' t1 t2 t3 t4;have k9:=k9.below hb12;obtain⟨t1,t2,t3,t4⟩:=k9.two;go_upto_region 17 with(fail)
       refine zB ?_;intro W13 hW13;have k9n:Blk W13 cd9 51 #[.bool gn,.slice ga gl gc]:=by rw[hW13.out];exact k9.put2 _ _
       have i9:qB W13 (.agg #[.bool gn,.slice ga gl gc]) (-(z*D)):=by rw[hW13.out];exact hu.ext (k9.lext2 dE _ _)
       have ho13:∀k,k≠cd9->W13.heap[k]?=w12.heap[k]?:=fun k hk=>by rw[hW13.out];exact qA _ _ _ _ _ _ _ hk
       have hx13:yP w12 W13:=by rw[hW13.out];exact k9.lext2 dE _ _
       have br11:=(ho13 _ oM).trans (br11.below hb12);have z311:=(z311.below hb12).old (ho13 _ (fun e=>hne9 e.symm)) hx13;have q12:=hb12.size;have hb11:Below w.heap.size w W13:=by rw[hW13.out];exact qC (qC (nx hb11 hb12) oM _ _) oM _ _
       have hll:w2.heap.size<W13.heap.size:=by rw[hW13.out];simp;omega
       have HTN:qW (Smd (-(z*D))):=⟨HTD.out.mono (by rw[Int.natAbs_neg];exact xgf _)⟩;replace br11:Blk W13 w.heap.size 51 #[.bool false,.slice none 0 0]:=br11;clear hW13 t1 t2 t3 t4 k9;have k9:=k9n;clear k9n;obtain⟨yn,ya,yl,yc,k3,i3⟩:=z311;obtain⟨t1,t2,t3,t4⟩:=k9.two;obtain⟨t5,t6,t7,t8⟩:=k3.two;go_wp2_with fail
       refine(zCH _ _ (zGs n (ent M) j) (-(z*D)) W13 i3 i9 HL1.out.sm HTN.out.sm).mono ?_;rintro e w14 ⟨u,rfl,hu,hbv⟩;obtain⟨u1,u2,u3,u4,u5,rfl,hu'⟩:=id hu;have HUV:=xgw hu';clear hu' t1 t2 t3 t4 t5 t6 t7 t8;have k3:=k3.below hbv;obtain⟨t1,t2,t3,t4⟩:=k3.two;rw[<-hent.out,<-HDV.out,zKD hodd]at hu;go_wp2;go_roundw
       case rel=>exact⟨j+1,by omega,by simp,qC (qC (nx hb11 hbv) oM _ _) oM _ _,(qA _ _ _ _ _ _ _ oM).trans (br11.below hbv),yS.put k3 hu⟩
       case measure=>simp[intOf];omega
      ·have hm:((j:Int)%2==1)=false:=by rw[beq_eq_false_iff_ne];omega
       have hodd:j%2=0:=by omega
       obtain⟨xn,xa,xl,xc,k9,i9⟩:=z9;have HTN:=HTD;obtain⟨yn,ya,yl,yc,k3,i3⟩:=z311;obtain⟨t1,t2,t3,t4⟩:=k9.two;obtain⟨t5,t6,t7,t8⟩:=k3.two;go_wp2_with fail
       refine(zCH _ _ (zGs n (ent M) j) (z*D) wd i3 i9 HL1.out.sm HTN.out.sm).mono ?_;rintro e w14 ⟨u,rfl,hu,hbv⟩;obtain⟨u1,u2,u3,u4,u5,rfl,hu'⟩:=id hu;have HUV:=xgw hu';clear hu' t1 t2 t3 t4 t5 t6 t7 t8;have k3:=k3.below hbv;obtain⟨t1,t2,t3,t4⟩:=k3.two;rw[<-hent.out,<-HDV.out,zIn hodd]at hu;go_wp2;go_roundw
       case rel=>exact⟨j+1,by omega,by simp,qC (qC (nx hb11 hbv) oM _ _) oM _ _,(qA _ _ _ _ _ _ _ oM).trans (br11.below hbv),yS.put k3 hu⟩
       case measure=>simp[intOf];omega
   ·obtain rfl:j=N:=by omega
    obtain⟨yn,ya,yl,yc,k3,i3⟩:=z3;obtain⟨t5,t6,t7,t8⟩:=k3.two;obtain⟨r1,r2,r3,r4⟩:=br.two;go_wp2;refine zP rfl rfl rfl (br.put2 _ _) (i3.ext (br.lext2 dE _ _)) (qC (qC hb oM 0 _) oM 1 _)


section
variable {w:World} {bw gm gu cm cu:Nat} {AM AU AV:Value} {R C:Nat} {bm bu bv:List Nat} {S T V:Nat->Nat->Int}
end
def zN8(F:Nat->Nat->Int)(i j c:Nat):Nat->Nat->Int:=fun a b=>if a<c then F a (swp i j b)else F a b
section
variable {Z:Nat->Prop} {w:World} {bw R C:Nat} {x:Bst}
theorem KW.blk(h:KW Z w bw R C x):∃m1 m2 m3 cs,Blk w bw tWk cs/\w.cell? ⟨bw,0,none⟩=some (.int .i64 R)/\w.cell? ⟨bw,1,none⟩=some (.int .i64 C)/\w.cell? ⟨bw,2,none⟩=some m1/\cs=#[.int .i64 R,.int .i64 C,m1,.int .i64 R,.int .i64 R,m2,.int .i64 R,.int .i64 R,m3]:=by
 obtain⟨AM,AU,AV,bm,bu,bv,h1,h2⟩:=h;obtain⟨q0,q1,q2,-⟩:=h1.blk.nine;exact⟨AM,AU,AV,_,h1.blk,q0,q1,q2,rfl⟩
end
structure MvI(R C M0 i:Nat)(x0 x:Bst):Prop where
 ops:∃l,qG R l/\x=zAi l x0
 bd:leB (M0*4^i) R C R x
section
variable {R C M0 i:Nat} {x0 x:Bst}
theorem MvI.op(h:MvI R C M0 i x0 x){o:Op}(ho:o.ok R)(hg:o.g<=4):MvI R C M0 (i+1) x0 (o.b x):=by
 obtain⟨l,l1,l2⟩:=h.ops;refine⟨zEu l1 l2 (qG.cons ho qG.nil) rfl,(zKF h.bd ho).mono ?_⟩;rw[Nat.pow_succ,<-Nat.mul_assoc];exact Nat.mul_le_mul_left _ hg
theorem MvI.same(h:MvI R C M0 i x0 x):MvI R C M0 (i+1) x0 x:=⟨h.ops,h.bd.mono (Nat.mul_le_mul_left _ (zCY oM oM))⟩
theorem MvI.last(h:MvI R C M0 i x0 x)(hi:i<=12):leB (M0*4^12) R C R x:=h.bd.mono (Nat.mul_le_mul_left _ (zCY oM hi))
end
theorem zNr{a:Nat}(h:a<=2^90):a<BD:=by
 rw[zIB];have h1:2^91<=B32^zHK:=zBe (by rw[zAM];omega);have h2:(2:Nat)^90<2^91:=by decide
 exact Nat.lt_of_le_of_lt h (Nat.lt_of_lt_of_le h2 h1)
theorem zGg.congr{R C r:Nat}{c:Nat->Nat}{A A' H H':Nat->Nat->Int}(h:zGg R C r c A H)(e1:∀a,a<R->∀b,b<C->A' a b=A a b)(e2:∀a,a<R->∀b,b<C->H a b=H' a b)(hn:Hnf C R r c H'):zGg R C r c A' H':=
 ⟨hn,h.sp.congr (fun a ha b hb=>(e2 a ha b hb).symm) e1,h.sp'.congr e1 (fun a ha b hb=>(e2 a ha b hb).symm)⟩
theorem zGg.ops{R C r:Nat}{c:Nat->Nat}{A H:Nat->Nat->Int}{l:List Op}(hl:qG R l)(h:zGg R C r c (zA2 l A) H):zGg R C r c A H:=
 ⟨h.hnf,h.sp.trans (zFq hl A).2,(zFq hl A).1.trans h.sp'⟩
theorem zMh(v:Value)(R C:Int)(M:List (List Int))(w:World)(h:yG w v R C M)(hS:∀r∈M,∀z∈r,Sm z)(hb:zF0 R C M):
  Calls Tryz.prog 29 #[v] w fun e w'=>∃v,e= .returned v/\v= .bool true/\Below w.heap.size w w':=by
 refine(zFg v R C M w h hS).mono ?_;rintro e w' ⟨d,rfl,hd,hb'⟩;exact⟨_,rfl,by rw[hd.2 hb],hb'⟩
def zNj(R C:Nat)(W:List (List Int)):World->Value->Prop:=fun w v=>∃U V,zBq w v R C W U V
theorem zGH(a b c d e f g h i:Value)(W:World):(Instr.field 62 (.agg #[a,b,c,d,e,f,g,h,i]) 0).run Tryz.prog W= .ok (.agg #[a,b,c]) W:=by
 kernel_rfl
theorem zKQ:24*(8*9)^4=644972544:=by decide
theorem zLw(v1 v2:Value)(z:Int)(w:World)(h1:qB w v1 z)(h2:qB w v2 z):Calls Tryz.prog 58 #[v1,v2] w fun e w'=>∃v,e= .returned v/\v= .bool true/\Below w.heap.size w w':=
 (zEO v1 v2 z z w h1 h2).mono fun e w' h=>⟨_,h.1,by simp,h.2⟩
theorem zG4{B:Nat}{f:Nat->Int}:∀(n:Nat),(∀i,i<n->(f i).natAbs<=B)->(yH n f).natAbs<=B^n
 |0,_=>xgf _
 |n+1,h=>by
  show(yH n f*f n).natAbs<=_;rw[Int.natAbs_mul,Nat.pow_succ];exact Nat.mul_le_mul (zG4 n fun i hi=>h i oM) (h n oM)
theorem zIK{z:Int}(h:z.natAbs<=644972544^4):Smd z:=⟨Nat.lt_of_le_of_lt h (Nat.lt_of_lt_of_le (show 644972544^4<B32^4 by decide) (jV (by rw[zAM];omega)))⟩
theorem zCV(v:Value)(r c:Nat)(ls:List Int)(w:World)(h:I8V w v ls)(hr:r<=255)(hc:c<=255):
  Calls Tryz.prog 11 #[.agg #[.int .u8 r,.int .u8 c,v]] w fun e w'=>e= .returned (.bool true)/\Below w.heap.size w w':=by
 obtain⟨ao,n,cap,rfl,-,-,-,-,-⟩:=id h;obtain⟨R,hR⟩:∃R:Nat,R=r%5:=⟨_,rfl⟩;have hR4:R<=4:=by omega
 have HR:=xgw hR;clear hR;obtain⟨M,hM⟩:∃M,zS R R (zJp R ls)=M:=⟨_,rfl⟩;have HMade:qW (∀w,I8V w (.slice ao n cap) ls->Calls Tryz.prog 54 #[.agg #[.int .u8 r,.int .u8 c,.slice ao n cap]] w fun e w'=>∃v,e= .returned v/\yG w' v R R M/\Below w.heap.size w w'):=⟨fun w h=>by
  rw[<-hM];exact(zEy _ r c ls w h hr hc R HR.out hc).mono fun e w' ⟨v,bs,h,hm,hb⟩=>⟨v,h,hm.mat.1,hb⟩⟩
 have HF:qW (yM R R M):=⟨by rw[<-hM];exact qL _ _ _⟩;have HA9:qW (leM 9 R R (ent M)):=⟨by rw[<-hM];exact zLS (zJw R R R ls)⟩;clear hM;go_enter Tryz.func11,Tryz.ntmps11;go_upto_region 1 with(fail)
 refine zB ?_;intro W0 hW0;obtain⟨hB0,bx,hs0⟩:=zM hW0;clear hW0;go_wp2_with fail
 refine(zFk W0).mono ?_;rintro e w1 ⟨rfl,hb1⟩;have hB:=nx hB0 hb1;have bx:=bx.below hb1;obtain⟨c1,c2,c3,c4,c5,c6⟩:=bx.three;go_wp2_with fail
 refine(HMade.out w1 (h.below hB)).mono ?_;rintro e w2 ⟨va,rfl,hm,hb2⟩;obtain⟨ro,rn,rc,rfl⟩:=hm.agg;have hB:=nx hB hb2;clear c1 c2 c3 c4 c5 c6 bx;go_upto_region 3 with(fail)
 refine zB ?_;intro W3 hW3;obtain⟨hB3,T4,hs3⟩:=zM hW3;have HM:=xgv (hm.below hB3);have hB:=nx hB hB3;clear hW3 hm;obtain⟨c1,c2,c3,c4,c5,c6⟩:=T4.three;go_wp2_with fail
 refine(zDQ (M0:=9) (e:=5) dE dE dE _ M R R W3 HM.out HF.out hR4 hR4 HA9.out).mono ?_;rintro e w4 ⟨fv,rk,kc,H,U,V,rfl,hf,hle,-,-,hfv,hb4⟩;obtain⟨f1,f2,f3,f4,f5,f6,f7,f8,f9,rfl,hfh⟩:=hfv.agg;rw[zKQ]at hle;obtain⟨W,hW⟩:∃W,zS R R H=W:=⟨_,rfl⟩;have HEW:qW (∀a,a<R->∀b,b<R->ent W a b=H a b):=⟨fun a ha b hb=>by rw[<-hW];exact yA ha hb⟩;have HFW:qW (yM R R W):=⟨by rw[<-hW];exact qL _ _ _⟩;have HIS:qW (zF0 R R W):=⟨by rw[<-hW];exact zDS.2 ⟨_,_,hf.hnf⟩⟩;have HSM:qW (∀r∈W,∀z∈r,Sm z):=⟨by rw[<-hW];exact zGm fun a ha b hb=>zHJ (zNr (Nat.le_trans (hle a ha b hb) dE))⟩;have HE:qW (∀i,i<R->Smd (H i i)):=⟨fun i hi=>zIK (Nat.le_trans (hle i hi i hi) dE)⟩;have HP:qW (∀i,i<=R->Smd (yH i fun i=>H i i)):=⟨fun i hi=>zIK (Nat.le_trans (zG4 i fun k hk=>hle k oM k oM) (Nat.pow_le_pow_right dE oM))⟩;have HDS:qW (Smd (det R (ent M))):=⟨zCC (Nat.le_trans (zC3 hR4 HA9.out) dE)⟩;obtain⟨D,hD⟩:∃D,det R (ent M)=D:=⟨_,rfl⟩;have HPD:qW ((yH R fun i=>H i i)=(D.natAbs:Int)):=⟨by rw[<-hD];exact hf.det⟩;have HDA:qW (∀v w',VsV w' v M->Calls Tryz.prog 56 #[v] w' (jC w' D)):=⟨fun v w' hv=>by rw[<-hD];exact zJP R v M w' hv HF.out hR4 HA9.out⟩;rw[hD]at HDS;rw[hW]at hfh;have HFH:=xgv hfh;have HM:=xgv (HM.out.below hb4);have T4:=T4.below hb4;have hB:=nx hB hb4;have hfl:=zGH;clear c1 c2 c3 c4 c5 c6 hf hle hfh hfv hW hD;go_upto_region 4 with(fail)
 refine zB ?_;intro W5 hW5;obtain⟨hB5,T5,hs5⟩:=zM hW5;have HM:=xgv (HM.out.below hB5);have HFH:=xgv (HFH.out.below hB5);have T4:=T4.below hB5;have hB:=nx hB hB5;clear hW5;obtain⟨c1,c2,c3,c4,c5,c6⟩:=T5.three;go_wp2_with fail
 refine(zMh _ R R W W5 HFH.out HSM.out HIS.out).mono ?_;rintro e w6 ⟨_,rfl,rfl,hb6⟩;have HM:=xgv (HM.out.below hb6);have HFH:=xgv (HFH.out.below hb6);have T4:=T4.below hb6;have T5:=T5.below hb6;have hB:=nx hB hb6;clear c1 c2 c3 c4 c5 c6;obtain⟨c1,c2,c3,c4,c5,c6⟩:=T5.three;obtain⟨d1,d2,d3,d4,d5,d6⟩:=T4.three;go_wp2_with fail
 refine(zBf 1 w6 oM oM).mono ?_;rintro e w7 ⟨u,rfl,hu,hb7⟩;obtain⟨un,ua,ul,uc,ux,rfl,hu'⟩:=id hu;have HU2:=xgw hu';clear hu' c1 c2 c3 c4 c5 c6 d1 d2 d3 d4 d5 d6;go_upto_region 7 with(fail)
 refine zB ?_;intro W7 hW7;obtain⟨hB7,T7,hs7⟩:=zM hW7;have z7:yS W7 w7.heap.size (yH 0 fun i=>H i i):=yS.mk T7 (hu.ext (lx hB7));have HM:=xgv (HM.out.below hb7);have HFH:=xgv (HFH.out.below hb7);have T4:=T4.below hb7;have T5:=T5.below hb7;have hB:=nx (nx hB hb7) hB7;have q0:w.heap.size<=w7.heap.size:=by have:=hB5.size;have:=hb4.size;have:=hB3.size;have:=hb2.size;have:=hb1.size;have:=hB0.size;have:=hb6.size;have:=hb7.size;omega
 have q4:w4.heap.size<w7.heap.size:=by have:=hb6.size;have:=hb7.size;omega
 have q2:w2.heap.size<w7.heap.size:=by have:=hB5.size;have:=hb4.size;have:=hB3.size;have:=hb6.size;have:=hb7.size;omega
 clear hW7 hu T7;go_wp2;go_loopw [7] (fun iv wr=>∃i:Nat,i<=R/\iv= .int .i64 i/\Below w.heap.size w wr/\Below w7.heap.size w7 wr/\yS wr w7.heap.size (yH i fun i=>H i i)) (fun iv _=>R-(intOf iv).toNat)
 case atStart=>exact⟨0,by omega,rfl,hB,hB7,z7⟩
 case round=>
  clear hB z7;obtain⟨i,hi,rfl,hB,hBr,z7⟩:=hrel;have T4:=T4.below hBr;have T5:=T5.below hBr;have HM:=xgv (HM.out.below hBr);have HFH:=xgv (HFH.out.below hBr);have l4:=T4.lt;have l5:=T5.lt;have l7:=z7.lt;obtain⟨c1,c2,c3,c4,c5,c6⟩:=T5.three;by_cases hlt:i<R
  ·obtain⟨A,eA,hrv⟩:=id HFH.out
   injection eA with eA
   injection eA with eA
   simp at eA;subst eA;obtain rfl:R=f2:=by rw[<-hrv.len.1,HFW.out.1]
   obtain⟨b,ra,rn',rc',zs,rfl,hbl1,hz,p1,hv⟩:=hrv.row (k:=i) (by rw[HFW.out.1];exact hlt);have hzl:=HFW.out.2 zs (xgd hz);have hvl:=hv.len;obtain rfl:R=rn':=by omega
   obtain⟨b',z,sg,al,ll,cl,rfl,hbl',hzk,q1,q2',hzv⟩:=hv.cell (k:=i) oM;have hzH:z=H i i:=by rw[<-HEW.out i hlt i hlt];exact(zAf hz hzk).symm
   have HZE:=xgw hzH;have HZS:qW (Smd z):=⟨by rw[hzH];exact HE.out i hlt⟩;have HPS:qW (Smd (yH i fun i=>H i i)):=⟨HP.out i hi⟩;obtain⟨P,hP⟩:∃P,(yH i fun i=>H i i)=P:=⟨_,rfl⟩;have HPV:qW (P*z=yH (i+1) fun i=>H i i):=⟨by rw[<-hP,hzH];rfl⟩;rw[hP]at z7 HPS;clear hP hzH hz hzk hzl hvl;obtain⟨yn,ya,yl,yc,k7,i7⟩:=z7;obtain⟨t1,t2,t3,t4⟩:=k7.two;go_upto_region 10 with(fail)
   refine zD 10 rfl (RV wr _ [E 0 39 (.agg #[.bool yn,.slice ya yl yc]),VP 1 40 w4.heap.size 2,VSl 2 41 b R f3,VN 3 42 i,VP 4 43 b i,E 5 44 (.slice (some ⟨b',0,none⟩) R rc'),VN 6 45 i,VP 7 46 b' (i*2),E 8 47 (.agg #[.bool sg,.slice al ll cl]),EI 9 48 (P*z)]) kR RV.start (RV.fin kR ?fin1) ?steps1
   case steps1=>
    refine⟨?_,?_,?_,?_,?_,?_,?_,?_,?_,?_,trivial⟩<;>(intro L T wS hL hd hcl hI K hK;try refine zA rfl ?_)
    ·have zt:=hI.k 6 rfl kR
     have cc0:=hI.cell t1;have cc1:=hI.cell t2;exact xgu
    ·exact xgs (hI.k 5 rfl kR)
    ·have zt1:=hI.e mm1 (hd 1)
     have cc0:=hI.cell c3;exact xgu
    ·exact xgs (hI.k 7 rfl kR)
    ·exact xgt (hI.e mm2 (hd 2)) (hI.e mm3 (hd 3))
    ·have zt4:=hI.e mm4 (hd 4)
     have cc0:=hI.cell p1;exact xgu
    ·exact xgs (hI.k 7 rfl kR)
    ·exact xgt (hI.e mm5 (hd 5)) (hI.e mm6 (hd 6))
    ·have zt7:=hI.e mm7 (hd 7)
     have cc0:=hI.cell q1;have cc1:=hI.cell q2';exact xgu
    ·have zt0:=hI.e mm0 (hd 0)
     have zt8:=hI.e mm8 (hd 8);go_simp;refine(zDb _ _ P z wS (i7.ext (lx hI.bel)) (hzv.ext (lx hI.bel)) HPS.out.sm HZS.out.sm).mono ?_;exact xgo
   intro w10 hbw10 T hT;simp only[Fin,E,EI,VP,VSl,VN,xgg,xgh,xgi,xgj]at hT;obtain⟨vb9,hb9,rfl⟩:=hT;simp only[xgl,xgk];obtain⟨pn,pa,pl,pc,px,rfl,hp'⟩:=id hb9;have HPQ:=xgw hp';rw[HPV.out]at hb9;clear hp' t1 t2 t3 t4;have k7:=k7.below hbw10;obtain⟨t1,t2,t3,t4⟩:=k7.two;go_wp2;go_roundw
   case rel=>exact⟨i+1,by omega,by simp,qC (qC (nx hB hbw10) oM _ _) oM _ _,qC (qC (nx hBr hbw10) oM _ _) oM _ _,yS.put k7 hb9⟩
   case measure=>simp[intOf];omega
  ·obtain rfl:i=R:=by omega
   rw[HPD.out]at z7;obtain⟨d1,d2,d3,d4,d5,d6⟩:=T4.three;clear c1 c2 c3 c4 c5 c6;obtain⟨c1,c2,c3,c4,c5,c6⟩:=T5.three;go_wp2_with fail
   refine(zHp _ i i M wr HM.out HF.out oM).mono ?_;rintro e w9 ⟨rv,rfl,hrv,hb9⟩;go_wp2_with fail
   refine(HDA.out rv w9 hrv.vs).mono ?_;rintro e wa ⟨u,rfl,hu,hba⟩;obtain⟨un,ua,ul,uc,ux,rfl,hu'⟩:=id hu;have HU2:=xgw hu';clear hu' c1 c2 c3 c4 c5 c6 d1 d2 d3 d4 d5 d6;go_upto_region 12 with(fail)
   refine zB ?_;intro Wb hWb;obtain⟨hBb,T8,hs8⟩:=zM hWb;have z8:yS Wb wa.heap.size D:=yS.mk T8 (hu.ext (lx hBb));obtain⟨yn,ya,yl,yc,k7,i7⟩:=((z7.below hb9).below hba).below hBb;obtain⟨t1,t2,t3,t4⟩:=k7.two;obtain⟨xn,xa,xl,xc,k8,i8⟩:=z8;obtain⟨f1,f2,f3,f4⟩:=k8.two;have hBB:=nx (nx (nx hB hb9) hba) hBb;have l7:=k7.lt;have l8:=k8.lt;obtain⟨A,hA⟩:∃A,(D.natAbs:Int)=A:=⟨_,rfl⟩;have HAV:=xgw hA;rw[hA]at i7;clear hWb hu T8 hA;refine zF rfl (RV Wb _ [E 0 52 (.bool true),E 1 53 (.bool true),E 2 54 (.agg #[.bool yn,.slice ya yl yc]),E 3 55 (.agg #[.bool xn,.slice xa xl xc]),EI 4 56 (A),E 5 57 (.bool true),E 6 58 (.bool true),E 7 2 (.bool true)]) kR RV.start (RV.fin kR ?fin2) ?steps2
   case steps2=>
    refine⟨?_,?_,?_,?_,?_,?_,?_,?_,trivial⟩<;>(intro L T wS hL hd hcl hI K hK;try refine zA rfl ?_)
    ·exact xgs (hI.k 3 rfl kR)
    ·exact xgs (hI.e mm0 (hd 0))
    ·have zg:=hI.e mm1 (hd 1)
     refine zA xgp ?_;have zt:=hI.k 6 rfl kR;have cc0:=hI.cell t1;have cc1:=hI.cell t2;exact xgu
    ·have zg:=hI.e mm1 (hd 1)
     refine zA xgp ?_;have zt:=hI.k 8 rfl kR;have cc0:=hI.cell f1;have cc1:=hI.cell f2;exact xgu
    ·have zg:=hI.e mm1 (hd 1)
     refine zA xgp ?_;have zt3:=hI.e mm3 (hd 3);go_simp;refine(HAV.out ▸ zJK _ D wS (i8.weak.ext (lx hI.bel)) HDS.out.sm).mono ?_;exact xgo
    ·have zg:=hI.e mm1 (hd 1)
     refine zA xgp ?_;have zt2:=hI.e mm2 (hd 2);obtain⟨v4,zt4,h4⟩:=hI.vi mm4 (hd 4);go_simp;refine(zLw _ _ A wS (i7.ext (lx hI.bel)) h4).mono ?_;rintro e wa ⟨v,rfl,hv,hba⟩;exact hK _ _ ((hI.world hba).y mm5 hv)
    ·exact xgt (hI.e mm1 (hd 1)) (hI.e mm5 (hd 5))
    ·exact xgs (hI.e mm6 (hd 6))
   intro w10 hbw10 T hT;simp only[Fin,E,EI,VP,VSl,VN,xgg,xgh,xgi,xgj]at hT;obtain⟨vb4,hb4,rfl⟩:=hT;have hB10:=nx hBB hbw10;go_wp2;go_ret;exact⟨rfl,hB10⟩
end Go.Proofs.YtgnmdddaiefooaaGreat
