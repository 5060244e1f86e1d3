/- Joined. -/
import Derived.Test.YtkidaebmhlijlaaGreatS04
set_option linter.unusedVariables false
set_option linter.unusedSimpArgs false
set_option linter.unusedSectionVars false
set_option maxHeartbeats 16000000
set_option maxRecDepth 100000
variable{z:Int}{xs ys zs:List Nat}{a b d k n x y:Nat}{v:Go.Value}{W w:Go.World}
namespace Go.Proofs.YtkidaebmhlijlaaGreat
open Go.RowKit
def zXp(w:World)(z1 z2:Int)(e:Ending)(w':World):Prop:=
 ∃v1 v2,e= .returned (.tuple #[v1,v2,.int .i64 0])/\jT w' v1 (z1/z2)/\jT w' v2 (z1%z2)/\Below w.heap.size w w'
def dmQ(neg:Bool)(a b:Nat):Nat:=if neg=true/\0<a%b then a/b+1 else a/b
def dmR(neg:Bool)(a b:Nat):Nat:=if neg=true/\0<a%b then b-a%b else a%b
theorem zVW(n1 n2:Bool)(a b:Nat)(hb:0<b):sgn n1 a/sgn n2 b=sgn (n1 !=n2) (dmQ n1 a b)/\sgn n1 a%sgn n2 b=(dmR n1 a b:Nat):=by
 have hm:=yV a hb;have he:=jU a b;have key:∀(z:Int) (q r:Int),z=q*b+r->0<=r->r<b->z/(b:Int)=q/\z%(b:Int)=r:=fun z q r h1 h2 h3=>
  (Int.ediv_emod_unique oM).2 ⟨by rw[h1,qL];omega,h2,h3⟩
 have hpos:sgn n1 a/(b:Int)=sgn n1 (dmQ n1 a b)/\sgn n1 a%(b:Int)=(dmR n1 a b:Nat):=by
  cases n1 with
  |false=>
   have e1:dmQ false a b=a/b:=by unfold dmQ;rw[if_neg sI]
   have e2:dmR false a b=a%b:=by unfold dmR;rw[if_neg sI]
   rw[e1,e2];simp
  | true=>
   by_cases h0:0<a%b
   ·have e1:dmQ true a b=a/b+1:=by unfold dmQ;rw[if_pos ⟨rfl,h0⟩]
    have e2:dmR true a b=b-a%b:=by unfold dmR;rw[if_pos ⟨rfl,h0⟩]
    rw[e1,e2];refine key _ _ _ ?_ oM oM;simp only[sgn_true];rw[yD,zAP,zBk,zN]at*;have:((a/b*b:Nat):Int)+((a%b:Nat):Int)=(a:Int):=by exact_mod_cast he
    rw[yP]at this;omega
   have e1:dmQ true a b=a/b:=by unfold dmQ;rw[if_neg (by simp;omega)]
   have e2:dmR true a b=a%b:=by unfold dmR;rw[if_neg (by simp;omega)]
   rw[e1,e2];refine key _ _ _ ?_ oM oM;simp only[sgn_true];rw[yD,zN]at*;have:((a/b*b:Nat):Int)+((a%b:Nat):Int)=(a:Int):=by exact_mod_cast he
   rw[yP]at this;omega
 cases n2 with
 |false=>simp only[sgn_false,Bool.bne_false];exact hpos
 |true=>
  simp only[sgn_true,Int.ediv_neg,Int.emod_neg,Bool.bne_true];rw[hpos.1,hpos.2,zK7];exact⟨rfl,rfl⟩
theorem zI8(hn:xs.length=n)(hl:zBD xs):zA8 xs n=0↔nat xs=0:=by
 subst hn;have h1:=zDn xs;have h2:=zJT xs;have h3:=zEl xs;rw[<-h2,<-h1];constructor;intro h;rw[qB h];rfl;intro h;rw[(zGf h3).1 h];rfl
theorem zIO.mod{w':World}{e:Ending}(h:zIO w a b e w'):
 ∃qo ql qc qs ro rl rc rs,e= .returned (.tuple #[.slice qo ql qc,.slice ro rl rc])/\qs.length=ql/\ql<=qc/\qc<=9223372036854775807/\qV w' qo qs∧
  rs.length=rl/\rl<=rc/\rc<=9223372036854775807/\qV w' ro rs/\Hid (nat qs=a/b/\nat rs=a%b)/\Below w.heap.size w w':=by
 obtain⟨qo,ql,qc,qs,ro,rl,rc,rs,he,h1,h2,h3,h4,h5,h6,h7,h8,h9,h10,h11⟩:=h;have hb:0<b:=by omega
 have h12:a/b=nat qs:=by rw[h9,zN,Nat.mul_add_div hb,Nat.div_eq_of_lt h10];rfl
 have h13:a%b=nat rs:=by rw[h9,zN,Nat.mul_add_mod,Nat.mod_eq_of_lt h10]
 exact⟨qo,ql,qc,qs,ro,rl,rc,rs,he,h1,h2,h3,h4,h5,h6,h7,h8,⟨h12.symm,h13.symm⟩,h11⟩
theorem zER{r:Nat}{v:Array Value}(hb:Blk W r 43 v)(h2:v.size=2):(loadVar 43 ⟨r,0,none⟩).run Tryz.prog W= .ok (.agg v) W:=
 run_loadVar_row W r _ _ v _ _ hb zCq rfl (by rw[zE5,h2])
theorem zGk{fn:Func}{p1 p2 u:Tmp}(h:fn.results=#[.cell p1 43,.cell p2 43,.tmp u])(tmps:Array Value){W:World}{r1 r2:Nat}{v1 v2:Array Value}
  (hp1:tmps.getD p1 undef= .pointer (some ⟨r1,0,none⟩)) (hp2:tmps.getD p2 undef= .pointer (some ⟨r2,0,none⟩)) (hb1:Blk W r1 43 v1) (hb2:Blk W r2 43 v2) (h1:v1.size=2) (h2:v2.size=2):
  (results fn tmps).run Tryz.prog W= .ok (.tuple #[.agg v1,.agg v2,tmps.getD u undef]) W:=by
 have hp1':tmps[p1]?.getD undef= .pointer (some ⟨r1,0,none⟩):=by simpa using hp1
 have hp2':tmps[p2]?.getD undef= .pointer (some ⟨r2,0,none⟩):=by simpa using hp2
 simp[results,h,hp1',hp2',asAddr,zER hb1 h1,zER hb2 h2]
theorem zEQ{fn:Func}{p1 p2 p3:Tmp}(h:fn.results=#[.cell p1 43,.cell p2 43,.cell p3 43])(tmps:Array Value){W:World}{r1 r2 r3:Nat}{v1 v2 v3:Array Value}
  (hp1:tmps.getD p1 undef= .pointer (some ⟨r1,0,none⟩)) (hp2:tmps.getD p2 undef= .pointer (some ⟨r2,0,none⟩)) (hp3:tmps.getD p3 undef= .pointer (some ⟨r3,0,none⟩))
  (hb1:Blk W r1 43 v1) (hb2:Blk W r2 43 v2) (hb3:Blk W r3 43 v3) (h1:v1.size=2) (h2:v2.size=2) (h3:v3.size=2):
  (results fn tmps).run Tryz.prog W= .ok (.tuple #[.agg v1,.agg v2,.agg v3]) W:=by
 have hp1':tmps[p1]?.getD undef= .pointer (some ⟨r1,0,none⟩):=by simpa using hp1
 have hp2':tmps[p2]?.getD undef= .pointer (some ⟨r2,0,none⟩):=by simpa using hp2
 have hp3':tmps[p3]?.getD undef= .pointer (some ⟨r3,0,none⟩):=by simpa using hp3
 simp[results,h,hp1',hp2',hp3',asAddr,zER hb1 h1,zER hb2 h2,zER hb3 h3]
theorem zDj(v1 v2:Value)(z1 z2:Int)(w:World)(h1:zHy w v1 z1)(h2:zHy w v2 z2)(s1:Sm z1)(s2:Sm z2)(hz:z2≠0):Calls Tryz.prog 162 #[v1,v2] w (zXp w z1 z2):=by
 obtain⟨neg1,ao1,n1,cap1,xs,rfl,hn1,hl1,hc1,hx1,hN1,hz1,hq1⟩:=h1.len s1;obtain⟨neg2,ao2,n2,cap2,ys,rfl,hn2,hl2,hc2,hx2,hN2,hz2,hq2⟩:=h2.len s2;have hcall1:=fun W hw=>zCm ao1 n1 cap1 xs W hn1 hl1 hc1 hw
 rw[<-hn1,zAy hN1,hn1]at hcall1;have hcall2:=fun W hw=>zCm ao2 n2 cap2 ys W hn2 hl2 hc2 hw
 rw[<-hn2,zAy hN2,hn2]at hcall2;have HY:Hid (0<nat ys):=by
  show _<_;rcases qN (nat ys)with h|h
  exact absurd (by rw[hz2,h,zIG]) hz;exact h
 have hn20:0<n2:=by
  rcases qN n2 with h|h
  ·rw[h]at hn2
   have:=qB hn2;subst this;exact absurd HY.out sI
  exact h
 have HSP:Hid (z1/z2=sgn (neg1 !=neg2) (dmQ neg1 (nat xs) (nat ys))/\z1%z2=(dmR neg1 (nat xs) (nat ys):Nat)):=by
  rw[hz1,hz2];exact zVW neg1 neg2 _ _ HY.out
 have HN1:=zI hn1;have HN2:=zI hn2;have hn20':((n2:Int)==0)=false:=by simp;omega
 have hq1':n1<=2*LIM:=by omega
 have hq2':n2<=2*LIM:=by omega
 clear hn1 hn2 hz1 hz2 s1 s2 h1 h2 hz;rw[zDD]at hq1 hq2;replace hq1:=hq1';replace hq2:=hq2';cases neg1 with
 | false=>
  have hsg:(false !=neg2)=neg2:=by cases neg2<;>rfl
  rw[hsg]at HSP;clear hsg;go_enter Tryz.func162,Tryz.ntmps162;go_upto_region 1 with(fail)
  refine zD ?_;intro W0 hW0;obtain⟨hB0,bx1,bx2,br1,br2,hs0⟩:=zMa hW0;have hx1':=hx1.ext (lx hB0);have hx2':=hx2.ext (lx hB0);obtain⟨c1,c2,c3,c4⟩:=bx1.two;obtain⟨d1,d2,d3,d4⟩:=bx2.two;go_quiet ((first|(go_at_call_of 120 ao1;exact yN ((hcall1 _ (hx1'.ext (lx (drN _ _)))).mono (by rintro e w' ⟨rfl,rfl⟩;exact⟨rfl,rfl⟩)))|(go_at_call_of 120 ao2;exact yN ((hcall2 _ (hx2'.ext (lx (drN _ _)))).mono (by rintro e w' ⟨rfl,rfl⟩;exact⟨rfl,rfl⟩)))));go_upto_region 4 with(fail)
  refine zD ?_;intro W1 hW1;have hB1:Below w.heap.size w W1:=by rw[hW1.out];exact nx hB0 (drN _ _)
  have bx1':=zAb hW1 bx1;have bx2':=zAb hW1 bx2;have br1':=zAb hW1 br1;have br2':=zAb hW1 br2;clear c1 c2 c3 c4 d1 d2 d3 d4 hW1 bx1 bx2 br1 br2;go_wp2_with fail
  refine(zJf ao1 ao2 n1 n1 n2 n2 xs ys _ HN1.out HN2.out (xgf _) (xgf _) oM oM hq1 hq2 (hx1.ext (lx hB1)) (hx2.ext (lx hB1)) hN1 hN2 HY.out).mono ?_;intro e w2 hret;obtain⟨qo,ql,qc,qs,ro,rl,rc,rs,rfl,p1,p2,p3,p4,p5,p6,p7,p8,HM,hb2⟩:=hret.mod;have bx1:=bx1'.below hb2;have bx2:=bx2'.below hb2;have br1:=br1'.below hb2;have br2:=br2'.below hb2;have hB2:=nx hB1 hb2;obtain⟨c1,c2,c3,c4⟩:=bx1.two;obtain⟨d1,d2,d3,d4⟩:=bx2.two;have htl:=zET rs rl;obtain⟨t,HT⟩:∃t,zA8 rs rl=t:=⟨_,rfl⟩;rw[HT]at htl;have htr:=fun W hw=>zCm ro rl rc rs W p5 p6 p7 hw
  rw[HT]at htr;have htz:Hid ((t=0↔nat rs=0)/\nat (rs.take t)=nat rs/\(rs.take t).length=t/\zBC (rs.take t)):=by
   refine⟨by rw[<-HT];exact zI8 p5 p8.1,?_,?_,by rw[<-HT];exact zDd rs rl oM⟩
   ·have h1:=zDn rs
    unfold zEU at h1;rw[p5,HT]at h1;exact h1
   rw[qD];omega
  clear HT hret bx1' bx2' br1' br2';go_wp2_with fail
  refine(htr _ p8).mono ?_;rintro e w' ⟨rfl,rfl⟩;go_wp2_with fail
  have hQ:nat qs=dmQ false (nat xs) (nat ys):=by rw[HM.out.1];unfold dmQ;rw[if_neg sI]
  have hR:sgn false (nat (rs.take t))=(dmR false (nat xs) (nat ys):Nat):=by rw[htz.out.2.1,HM.out.2];unfold dmR;rw[if_neg sI];rfl
  refine(zBz neg2 qo ql qc qs _ p1 p2 p3 p4).mono ?_;rintro e w5 ⟨v1,rfl,hv1,hb5⟩;go_wp2_with fail
  refine(zBz false ro t t (rs.take t) _ htz.out.2.2.1 (xgf _) oM ((p8.take t).ext (lx hb5))).mono ?_;rintro e w6 ⟨v2,rfl,hv2,hb6⟩;have br1a:=(br1.below hb5).below hb6;have br2a:=(br2.below hb5).below hb6;obtain⟨e1,e2,e3,e4⟩:=br1a.two;obtain⟨g1,g2,g3,g4⟩:=br2a.two;have hv1':=hv1.ext (lx hb6);rw[hQ]at hv1';rw[hR]at hv2;clear hv1;obtain⟨qn,qa,ql',qc',qx,rfl,hq⟩:=hv1';obtain⟨rn,ra,rl',rc',rx,rfl,hr⟩:=hv2;go_wp2_with fail
  refine bodyPost_ret (zGk rfl _ rfl rfl (((br1a.put2 _ _).far oM _ _).far oM _ _) (((br2a.far oM _ _).far oM _ _).put2 _ _) rfl rfl) rfl ?_;have hlx:=(br1a.lext2 dE (.bool qn) (.slice qa ql' qc')).trans (((br2a.far oM 0 (.bool qn)).far oM 1 (.slice qa ql' qc')).lext2 dE (.bool rn) (.slice ra rl' rc'));refine⟨_,_,rfl,?_,?_,yJ (yJ (yJ (yJ (nx (nx hB2 hb5) hb6) oM 0 _) oM 1 _) oM 0 _) oM 1 _⟩
  ·rw[HSP.out.1]
   exact jT.ext ⟨qn,qa,ql',qc',qx,rfl,hq⟩ hlx
  rw[HSP.out.2];exact jT.ext ⟨rn,ra,rl',rc',rx,rfl,hr⟩ hlx
 | true=>
  have hsg:(true !=neg2)=(!neg2):=by cases neg2<;>rfl
  rw[hsg]at HSP;clear hsg;go_enter Tryz.func162,Tryz.ntmps162;go_upto_region 1 with(fail)
  refine zD ?_;intro W0 hW0;obtain⟨hB0,bx1,bx2,br1,br2,hs0⟩:=zMa hW0;have hx1':=hx1.ext (lx hB0);have hx2':=hx2.ext (lx hB0);obtain⟨c1,c2,c3,c4⟩:=bx1.two;obtain⟨d1,d2,d3,d4⟩:=bx2.two;go_quiet ((first|(go_at_call_of 120 ao1;exact yN ((hcall1 _ (hx1'.ext (lx (drN _ _)))).mono (by rintro e w' ⟨rfl,rfl⟩;exact⟨rfl,rfl⟩)))|(go_at_call_of 120 ao2;exact yN ((hcall2 _ (hx2'.ext (lx (drN _ _)))).mono (by rintro e w' ⟨rfl,rfl⟩;exact⟨rfl,rfl⟩)))));go_upto_region 4 with(fail)
  refine zD ?_;intro W1 hW1;have hB1:Below w.heap.size w W1:=by rw[hW1.out];exact nx hB0 (drN _ _)
  have bx1':=zAb hW1 bx1;have bx2':=zAb hW1 bx2;have br1':=zAb hW1 br1;have br2':=zAb hW1 br2;clear c1 c2 c3 c4 d1 d2 d3 d4 hW1 bx1 bx2 br1 br2;go_wp2_with fail
  refine(zJf ao1 ao2 n1 n1 n2 n2 xs ys _ HN1.out HN2.out (xgf _) (xgf _) oM oM hq1 hq2 (hx1.ext (lx hB1)) (hx2.ext (lx hB1)) hN1 hN2 HY.out).mono ?_;intro e w2 hret;obtain⟨qo,ql,qc,qs,ro,rl,rc,rs,rfl,p1,p2,p3,p4,p5,p6,p7,p8,HM,hb2⟩:=hret.mod;have bx1:=bx1'.below hb2;have bx2:=bx2'.below hb2;have br1:=br1'.below hb2;have br2:=br2'.below hb2;have hB2:=nx hB1 hb2;obtain⟨c1,c2,c3,c4⟩:=bx1.two;obtain⟨d1,d2,d3,d4⟩:=bx2.two;have htl:=zET rs rl;obtain⟨t,HT⟩:∃t,zA8 rs rl=t:=⟨_,rfl⟩;rw[HT]at htl;have htr:=fun W hw=>zCm ro rl rc rs W p5 p6 p7 hw
  rw[HT]at htr;have htz:Hid ((t=0↔nat rs=0)/\nat (rs.take t)=nat rs/\(rs.take t).length=t/\zBC (rs.take t)):=by
   refine⟨by rw[<-HT];exact zI8 p5 p8.1,?_,?_,by rw[<-HT];exact zDd rs rl oM⟩
   ·have h1:=zDn rs
    unfold zEU at h1;rw[p5,HT]at h1;exact h1
   rw[qD];omega
  clear HT hret bx1' bx2' br1' br2';go_wp2_with fail
  refine(htr _ p8).mono ?_;rintro e w' ⟨rfl,rfl⟩;by_cases ht0:t=0
  ·have hz0:Hid (nat rs=0):=htz.out.1.1 ht0
   have hv0:Hid (nat (rs.take t)=nat rs/\(rs.take t).length=t):=⟨htz.out.2.1,htz.out.2.2.1⟩;clear htz;subst ht0;go_wp2_with fail
   have hQ:nat qs=dmQ true (nat xs) (nat ys):=by rw[HM.out.1];unfold dmQ;rw[if_neg (by rw[<-HM.out.2,hz0.out];simp)]
   have hR:sgn false (nat (rs.take 0))=(dmR true (nat xs) (nat ys):Nat):=by rw[hv0.out.1,HM.out.2];unfold dmR;rw[if_neg (by rw[<-HM.out.2,hz0.out];simp)];rfl
   refine(zBz (!neg2) qo ql qc qs _ p1 p2 p3 p4).mono ?_;rintro e w5 ⟨v1,rfl,hv1,hb5⟩;go_wp2_with fail
   refine(zBz false ro 0 0 (rs.take 0) _ hv0.out.2 (xgf _) oM ((p8.take 0).ext (lx hb5))).mono ?_;rintro e w6 ⟨v2,rfl,hv2,hb6⟩;have br1a:=(br1.below hb5).below hb6;have br2a:=(br2.below hb5).below hb6;obtain⟨e1,e2,e3,e4⟩:=br1a.two;obtain⟨g1,g2,g3,g4⟩:=br2a.two;have hv1':=hv1.ext (lx hb6);rw[hQ]at hv1';rw[hR]at hv2;clear hv1;obtain⟨qn,qa,ql',qc',qx,rfl,hq⟩:=hv1';obtain⟨rn,ra,rl',rc',rx,rfl,hr⟩:=hv2;go_wp2_with fail
   refine bodyPost_ret (zGk rfl _ rfl rfl (((br1a.put2 _ _).far oM _ _).far oM _ _) (((br2a.far oM _ _).far oM _ _).put2 _ _) rfl rfl) rfl ?_;have hlx:=(br1a.lext2 dE (.bool qn) (.slice qa ql' qc')).trans (((br2a.far oM 0 (.bool qn)).far oM 1 (.slice qa ql' qc')).lext2 dE (.bool rn) (.slice ra rl' rc'));refine⟨_,_,rfl,?_,?_,yJ (yJ (yJ (yJ (nx (nx hB2 hb5) hb6) oM 0 _) oM 1 _) oM 0 _) oM 1 _⟩
   ·rw[HSP.out.1]
    exact jT.ext ⟨qn,qa,ql',qc',qx,rfl,hq⟩ hlx
   rw[HSP.out.2];exact jT.ext ⟨rn,ra,rl',rc',rx,rfl,hr⟩ hlx
  have ht1:(0:Int)<(t:Int):=by omega
  have hrpos:Hid (0<nat rs):=Nat.pos_of_ne_zero (fun h=>ht0 (htz.out.1.2 h));have htq:=fun W hw=>zCm qo ql qc qs W p1 p2 p3 hw
  have htql:=zET qs ql;obtain⟨u,HU⟩:∃u,zA8 qs ql=u:=⟨_,rfl⟩;rw[HU]at htq htql;have huz:Hid (nat (qs.take u)=nat qs/\(qs.take u).length=u):=by
   refine⟨?_,by rw[qD];omega⟩;have h1:=zDn qs;unfold zEU at h1;rw[p1,HU]at h1;exact h1
  have hub:u<=4*LIM:=by
   have h1:zBC (qs.take u):=by rw[<-HU];exact zDd qs ql oM
   have h2:=zDJ hx1.1 h1 (by rw[huz.out.1,HM.out.1];exact zDR _ _);rw[huz.out.2,HN1.out]at h2;omega
  clear HU;go_wp2_with fail
  refine(htq _ p4).mono ?_;rintro e w' ⟨rfl,rfl⟩;go_wp2_with fail
  have hBa:Below w2.heap.size w2 (w2.alloc (.cells #[.int .u32 1] tU)):=(zA _ _).alloc (xgf _) _;refine(zOT qo (some ⟨w2.heap.size,0,none⟩) u u 1 1 (qs.take u) [1] _ huz.out.2 rfl (xgf _) (xgf _) oM oM hub (by rw[zDD];omega) ((p4.take u).ext (lx hBa)) (qV.one w2 1 oM 1 rfl)).mono ?_;rintro e w3 ⟨ko,kl,kc,ks,rfl,k1,k2,k3,k4,k5,hb3⟩;have hB3:=nx (nx hB2 hBa) hb3;go_wp2_with fail
  refine(zIl ao2 ro n2 n2 t t ys (rs.take t) _ HN2.out htz.out.2.2.1 (xgf _) (xgf _) oM oM oM (hx2.ext (lx hB3)) ((p8.take t).ext (lx (nx hBa hb3))) (by have h:=zDJ hx2.1 htz.out.2.2.2 (by rw[htz.out.2.1,HM.out.2];exact zAw (yV _ HY.out));rw[htz.out.2.2.1,HN2.out]at h;exact h) (by rw[htz.out.2.1,HM.out.2];exact zAw (yV _ HY.out))).mono ?_;rintro e w4 ⟨lo,ll,lc,ls,rfl,l1,l2,l3,l4,l5,hb4⟩;have hB4:=nx hB3 hb4;replace br1:=((br1.below hBa).below hb3).below hb4;replace br2:=((br2.below hBa).below hb3).below hb4;replace bx1:=((bx1.below hBa).below hb3).below hb4;replace bx2:=((bx2.below hBa).below hb3).below hb4;clear c1 c2 c3 c4 d1 d2 d3 d4;obtain⟨c1,c2,c3,c4⟩:=bx1.two;obtain⟨d1,d2,d3,d4⟩:=bx2.two;go_wp2_with fail
  have hQ:nat ks=dmQ true (nat xs) (nat ys):=by
   rw[k5,huz.out.1,HM.out.1];unfold dmQ;rw[if_pos ⟨rfl,by rw[<-HM.out.2];exact hrpos.out⟩];rfl
  have hR:sgn false (nat ls)=(dmR true (nat xs) (nat ys):Nat):=by
   rw[l5,htz.out.2.1,HM.out.2];unfold dmR;rw[if_pos ⟨rfl,by rw[<-HM.out.2];exact hrpos.out⟩];rfl
  refine(zBz (!neg2) ko kl kc ks _ k1 k2 k3 (k4.ext (lx hb4))).mono ?_;rintro e w5 ⟨v1,rfl,hv1,hb5⟩;go_wp2_with fail
  refine(zBz false lo ll lc ls _ l1 l2 l3 (l4.ext (lx hb5))).mono ?_;rintro e w6 ⟨v2,rfl,hv2,hb6⟩;have br1a:=(br1.below hb5).below hb6;have br2a:=(br2.below hb5).below hb6;obtain⟨e1,e2,e3,e4⟩:=br1a.two;obtain⟨g1,g2,g3,g4⟩:=br2a.two;have hv1':=hv1.ext (lx hb6);rw[hQ]at hv1';rw[hR]at hv2;clear hv1;obtain⟨qn,qa,ql',qc',qx,rfl,hq⟩:=hv1';obtain⟨rn,ra,rl',rc',rx,rfl,hr⟩:=hv2;go_wp2_with fail
  refine bodyPost_ret (zGk rfl _ rfl rfl (((br1a.put2 _ _).far oM _ _).far oM _ _) (((br2a.far oM _ _).far oM _ _).put2 _ _) rfl rfl) rfl ?_;have hlx:=(br1a.lext2 dE (.bool qn) (.slice qa ql' qc')).trans (((br2a.far oM 0 (.bool qn)).far oM 1 (.slice qa ql' qc')).lext2 dE (.bool rn) (.slice ra rl' rc'));refine⟨_,_,rfl,?_,?_,yJ (yJ (yJ (yJ (nx (nx hB4 hb5) hb6) oM 0 _) oM 1 _) oM 0 _) oM 1 _⟩
  ·rw[HSP.out.1]
   exact jT.ext ⟨qn,qa,ql',qc',qx,rfl,hq⟩ hlx
  rw[HSP.out.2];exact jT.ext ⟨rn,ra,rl',rc',rx,rfl,hr⟩ hlx
theorem zFx(ao:Option Addr)(n cap:Nat)(xs:List Nat)(neg:Bool)(w:World)(hn:xs.length=n)(hl:n<=cap)(hcap:cap<=9223372036854775807)(hb:n<=8*LIM)(hx:qV w ao xs):
  Calls Tryz.prog 91 #[.slice ao n cap,.bool neg] w (zDu w (sgn neg (nat xs))):=by
 have HN:=zI hn;have hlen:xs.length<=n:=by omega
 have hlen':n<=xs.length:=by omega
 rw[zDD]at hb;have hnt:Hid (∀k,zA8 xs k=zA8 xs n->zA8 xs n=k->(zBC (xs.take k)/\nat (xs.take k)=nat xs)):=fun k _ h=>by
  have h1:=zDn xs;have h2:=zEl xs;unfold zEU at h1 h2;rw[hn,h]at h1 h2;exact⟨h2,h1⟩
 clear hn;go_enter Tryz.func91,Tryz.ntmps91;go_upto_region 1 with(fail)
 refine zD ?_;intro W0 hW0;obtain⟨hB0,br,hs0⟩:=qM hW0;have hx0:=hx.ext (lx hB0);clear hW0;go_wp2;go_loop [5] (fun v=>∃k:Nat,k<=n/\v= .int .i64 k/\Hid (zA8 xs k=zA8 xs n)) (fun v=>(intOf v).toNat)
 case atStart=>exact⟨n,xgf _,rfl,rfl⟩
 obtain⟨k,hk,rfl,ht⟩:=hrel;have hkl:Hid ((xs.take k).length=k):=by show _=_;rw[qD];omega
 cases k with
 | zero=>
  have hfin:Hid (zBC (xs.take 0)/\nat (xs.take 0)=nat xs):=hnt.out 0 ht.out ht.out.symm;have E0:Hid (nat xs=0):=hfin.out.2.symm;cases neg with
  |false=>
   go_wp2_with (at_builtin;refine zOt rfl _ _ rfl W0.heap.size (.slice (some ⟨W0.heap.size,0,none⟩) 0 0) [] rfl (zJY.empty W0 _ (xgf _)) _ 0 cap ([]:List Nat) rfl (qV.nil _ _) rfl (by first|(simp;done)|(simp;omega)) sI ?_;intro v' w' hown hgr;have hBw:Below W0.heap.size W0 w':=((zA _ _).alloc (xgf _) _).grown hgr sI (fun g hg=>by simp[Value.ownBlock]at hg;omega);have br2:=br.below hBw;obtain⟨e1,e2,e3,e4⟩:=br2.two;obtain⟨ao',cap',hv,h1,h2,h3⟩:=hown.at_;rw[zBv,show([]:List Nat).length=0 from rfl]at hv h1;subst hv)
   refine jI rfl rfl rfl (br2.put2 _ _) ?_ (yJ (yJ (nx hB0 hBw) oM 0 _) oM 1 _);refine jT.ext ?_ (br2.lext2 dE _ _);exact⟨false,ao',0,cap',[],rfl,rfl,h1,h2,by simpa using h3,zBC.nil,by rw[E0.out];rfl,by simp⟩
  |true=>
   go_wp2_with (at_builtin;refine zOt rfl _ _ rfl W0.heap.size (.slice (some ⟨W0.heap.size,0,none⟩) 0 0) [] rfl (zJY.empty W0 _ (xgf _)) _ 0 cap ([]:List Nat) rfl (qV.nil _ _) rfl (by first|(simp;done)|(simp;omega)) sI ?_;intro v' w' hown hgr;have hBw:Below W0.heap.size W0 w':=((zA _ _).alloc (xgf _) _).grown hgr sI (fun g hg=>by simp[Value.ownBlock]at hg;omega);have br2:=br.below hBw;obtain⟨e1,e2,e3,e4⟩:=br2.two;obtain⟨ao',cap',hv,h1,h2,h3⟩:=hown.at_;rw[zBv,show([]:List Nat).length=0 from rfl]at hv h1;subst hv)
   refine jI rfl rfl rfl (br2.put2 _ _) ?_ (yJ (yJ (nx hB0 hBw) oM 0 _) oM 1 _);refine jT.ext ?_ (br2.lext2 dE _ _);exact⟨false,ao',0,cap',[],rfl,rfl,h1,h2,by simpa using h3,zBC.nil,by rw[E0.out];rfl,by simp⟩
 | succ k=>
  obtain⟨b,off,x,rfl,hbw,hx32,HX,hck⟩:=hx0.limb (k:=k) oM;by_cases hz:x=0
  ·have ht':Hid (zA8 xs k=zA8 xs n):=by
    have:=ht.out;rw[show zA8 xs (k+1)=if xs.getD k 0=0 then zA8 xs k else k+1 from rfl,if_pos (HX.out.trans hz)]at this;exact this
   subst hz;clear ht;go_wp2;go_round
   case rel=>exact⟨k,by omega,by go_num,ht'⟩
   case measure=>simp[intOf]
  have ht':Hid (zA8 xs n=k+1):=by
   have:=ht.out;rw[show zA8 xs (k+1)=if xs.getD k 0=0 then zA8 xs k else k+1 from rfl,if_neg (by rw[HX.out];exact hz)]at this;exact this.symm
  have hfin:Hid (zBC (xs.take (k+1))/\nat (xs.take (k+1))=nat xs):=hnt.out (k+1) ht.out ht'.out;have hzz:((x:Int)==0)=false:=by simpa using hz
  clear hz ht;cases neg with
  |false=>
   go_wp2_with (at_builtin;refine zOt rfl _ _ rfl W0.heap.size (.slice (some ⟨W0.heap.size,0,none⟩) 0 0) [] rfl (zJY.empty W0 _ (xgf _)) _ (k+1) cap (xs.take (k+1)) rfl ((hx0.take (k+1)).ext (lx ((zA _ _).alloc (xgf _) _))) hkl.out (by first|(simp;done)|(simp;omega)) sI ?_;intro v' w' hown hgr;have hBw:Below W0.heap.size W0 w':=((zA _ _).alloc (xgf _) _).grown hgr sI (fun g hg=>by simp[Value.ownBlock]at hg;omega);have br2:=br.below hBw;obtain⟨e1,e2,e3,e4⟩:=br2.two;obtain⟨ao',cap',hv,h1,h2,h3⟩:=hown.at_;rw[zBv,show(xs.take (k+1)).length=(k+1) from hkl.out]at hv h1;subst hv)
   refine jI rfl rfl rfl (br2.put2 _ _) ?_ (yJ (yJ (nx hB0 hBw) oM 0 _) oM 1 _);refine jT.ext ?_ (br2.lext2 dE _ _);exact⟨false,ao',k+1,cap',xs.take (k+1),rfl,hkl.out,h1,h2,by simpa using h3,hfin.out.1,by rw[hfin.out.2];rfl,by simp⟩
  |true=>
   go_wp2_with (at_builtin;refine zOt rfl _ _ rfl W0.heap.size (.slice (some ⟨W0.heap.size,0,none⟩) 0 0) [] rfl (zJY.empty W0 _ (xgf _)) _ (k+1) cap (xs.take (k+1)) rfl ((hx0.take (k+1)).ext (lx ((zA _ _).alloc (xgf _) _))) hkl.out (by first|(simp;done)|(simp;omega)) sI ?_;intro v' w' hown hgr;have hBw:Below W0.heap.size W0 w':=((zA _ _).alloc (xgf _) _).grown hgr sI (fun g hg=>by simp[Value.ownBlock]at hg;omega);have br2:=br.below hBw;obtain⟨e1,e2,e3,e4⟩:=br2.two;obtain⟨ao',cap',hv,h1,h2,h3⟩:=hown.at_;rw[zBv,show(xs.take (k+1)).length=(k+1) from hkl.out]at hv h1;subst hv)
   refine jI rfl rfl rfl (br2.put2 _ _) ?_ (yJ (yJ (nx hB0 hBw) oM 0 _) oM 1 _);refine jT.ext ?_ (br2.lext2 dE _ _);exact⟨true,ao',k+1,cap',xs.take (k+1),rfl,hkl.out,h1,h2,by simpa using h3,hfin.out.1,by rw[hfin.out.2];rfl,by simp⟩
theorem zGR{P:Program}{f:FuncId}{args:Array Value}{R:Ending->World->Prop}(h:∀W0,Hid (W0=w)->Calls P f args W0 R):Calls P f args w R:=h w rfl
theorem zUy{g:Nat}{m k:Int}(h:Blk w g tU #[.int .u32 m,.int .u32 k])(ha:a<4294967296)(hb:b<4294967296)(hm:m=a)(hk:k=b):qV w (some ⟨g,0,none⟩) [a,b]:=by
 subst hm;subst hk;exact zC3.at_ (xs:=[a,b]) h (fun x hx=>by simp at hx;unfold B32;omega)
theorem zDc(n:Int)(w:World)(h1:-9223372036854775808<=n)(h2:n<=9223372036854775807):
  Calls Tryz.prog 37 #[.int .i64 n] w (zDu w n):=by
 obtain⟨m,hm⟩:∃m,n.natAbs=m:=⟨_,rfl⟩;have hm64:m<=9223372036854775808:=by omega
 have hlen:([m%4294967296,m/4294967296]:List Nat).length=2:=rfl;have hnat:nat [m%4294967296,m/4294967296]=m:=by simp[zCd,zB9];omega
 have hz:Hid (sgn (decide (n<0)) (nat [m%4294967296,m/4294967296])=n):=by show _=_;rw[hnat];by_cases h:n<0<;>simp[h,sgn]<;>omega
 clear hnat hlen;by_cases hn:n<0
 ·have e:IntKind.u64.wrap (-IntKind.u64.wrap n)=((m:Nat):Int):=by simp only[IntKind.wrap_u64];omega
  have hz':Hid (sgn true (nat [m%4294967296,m/4294967296])=n):=by have:=hz.out;rw[show decide (n<0)=true by simpa using hn]at this;exact this
  clear hm;go_enter Tryz.func37,Tryz.ntmps37;go_wp2_with fail
  refine zGR ?_;intro W1 hW1;obtain⟨hB1,br1,bl1,hs1⟩:=zAd hW1;refine(zFx _ 2 2 [m%4294967296,m/4294967296] true _ rfl (xgf _) oM (by rw[zDD];omega) (zUy bl1 oM oM (by simp[IntKind.wrap_u32]) (by simp[IntKind.wrap_u32]))).mono ?_;rintro e2 w2 ⟨v,rfl,hv,hb2⟩;have br2:=br1.below hb2;obtain⟨k1,k2,k3,k4⟩:=br2.two;rw[hz'.out]at hv;obtain⟨vn,va,vl,vc,vx,rfl,hv2⟩:=hv;go_wp2_with fail
  refine jI rfl rfl rfl (br2.put2 _ _) ?_ (yJ (yJ (nx hB1 hb2) oM 0 _) oM 1 _);exact jT.ext ⟨vn,va,vl,vc,vx,rfl,hv2⟩ (br2.lext2 dE _ _)
 have e:IntKind.u64.wrap n=((m:Nat):Int):=by simp only[IntKind.wrap_u64];omega
 have hz':Hid (sgn false (nat [m%4294967296,m/4294967296])=n):=by have:=hz.out;rw[show decide (n<0)=false by simpa using hn]at this;exact this
 clear hm;go_enter Tryz.func37,Tryz.ntmps37;go_wp2_with fail
 refine zGR ?_;intro W1 hW1;obtain⟨hB1,br1,bl1,hs1⟩:=zAd hW1;refine(zFx _ 2 2 [m%4294967296,m/4294967296] false _ rfl (xgf _) oM (by rw[zDD];omega) (zUy bl1 oM oM (by simp[IntKind.wrap_u32]) (by simp[IntKind.wrap_u32]))).mono ?_;rintro e2 w2 ⟨v,rfl,hv,hb2⟩;have br2:=br1.below hb2;obtain⟨k1,k2,k3,k4⟩:=br2.two;rw[hz'.out]at hv;obtain⟨vn,va,vl,vc,vx,rfl,hv2⟩:=hv;go_wp2_with fail
 refine jI rfl rfl rfl (br2.put2 _ _) ?_ (yJ (yJ (nx hB1 hb2) oM 0 _) oM 1 _);exact jT.ext ⟨vn,va,vl,vc,vx,rfl,hv2⟩ (br2.lext2 dE _ _)
theorem jT.len(h:jT w v z)(s:Sm z):
  ∃neg ao n cap xs,v= .agg #[.bool neg,.slice ao n cap]/\xs.length=n/\n<=cap/\cap<=9223372036854775807/\qV w ao xs/\zBC xs/\z=sgn neg (nat xs)/\(n=0->neg=false)/\n<=LIM:=by
 obtain⟨neg,ao,n,cap,xs,h1,h2,h3,h4,h5,h6,h7,h8⟩:=h;exact⟨neg,ao,n,cap,xs,h1,h2,h3,h4,h5,h6,h7,h8,by rw[<-h2];exact Sm.len (neg:=neg) (by rw[<-h7];exact s) h6⟩
theorem zEv(v:Value)(z:Int)(w:World)(h:jT w v z):
  Calls Tryz.prog 48 #[v] w fun e w'=>e= .returned (.int .i64 (zAp z 0))/\Below w.heap.size w w':=by
 obtain⟨neg,ao,n,cap,xs,rfl,hn,hl,hcap,hx,hN,hz,_⟩:=h;by_cases h0:n=0
 ·have E:Hid (zAp z 0=0):=by
   have:xs= []:=qB oM;subst this;exact zCY (by rw[hz];simp[zIG])
  clear hz hn;subst h0;go_enter Tryz.func48,Tryz.ntmps48;go_wp2;go_ret;exact⟨by rw[E.out];rfl,(zA _ _).alloc (xgf _) _⟩
 have hp:0<nat xs:=zNO hN (by rintro rfl;simp at hn;omega);have h0':((n:Int)==0)=false:=by simpa using h0
 cases neg with
 |true=>
  have E:Hid (zAp z 0=-1):=zBW (by rw[hz];simp;omega);clear hz hn;go_enter Tryz.func48,Tryz.ntmps48;go_wp2;go_ret;exact⟨by rw[E.out];rfl,(zA _ _).alloc (xgf _) _⟩
 |false=>
  have E:Hid (zAp z 0=1):=zCF (by rw[hz];simp;omega);clear hz hn;go_enter Tryz.func48,Tryz.ntmps48;go_wp2;go_ret;exact⟨by rw[E.out];rfl,(zA _ _).alloc (xgf _) _⟩
theorem zNe(v1:Value)(z:Int)(w:World)(h1:jT w v1 z):Calls Tryz.prog 45 #[v1] w fun e w'=>e= .returned (.bool true)/\Below w.heap.size w w':=by
 obtain⟨neg,ao,n,cap,xs,rfl,hn,hl,hc,hx,hN,hz,hpos⟩:=h1;have HN:=zI hn;clear hz;cases n with
 |zero=>
  obtain rfl:=hpos rfl;clear hn;go_enter Tryz.func45,Tryz.ntmps45;go_wp2;go_ret;exact⟨rfl,(zA _ _).alloc (xgf _) _⟩
 | succ n=>
  obtain⟨b,off,x,rfl,hbw,hx32,HX,hck⟩:=hx.limb (k:=n) oM;have hx0:((x:Int) !=0)=true:=by
   have:=hN n hn;rw[HX.out]at this;simpa using this
  clear hn hpos;go_enter Tryz.func45,Tryz.ntmps45;go_wp2;go_ret;exact⟨rfl,(zA _ _).alloc (xgf _) _⟩
theorem zSC(v1:Value)(z:Int)(w:World)(h1:zHy w v1 z)(s1:Sm z):Calls Tryz.prog 39 #[v1] w (zDu w (-z)):=by
 obtain⟨neg,ao,n,cap,xs,rfl,hn,hl,hc,hx,hN,hz,hq⟩:=h1.len s1;have HN:=zI hn;have HZ:=zI hz;clear hn hz s1 h1;have hq':n<=8*LIM:=by omega
 go_enter Tryz.func39,Tryz.ntmps39;go_upto_region 1 with(fail)
 refine zD ?_;intro W0 hW0;obtain⟨hB0,bx1,br,hs0⟩:=zAd hW0;obtain⟨c1,c2,c3,c4⟩:=bx1.two;obtain⟨d1,d2,d3,d4⟩:=br.two;go_wp2_with fail
 refine(zFx ao n cap xs (!neg) _ HN.out hl hc hq' (hx.ext (lx hB0))).mono ?_;rintro e w2 ⟨v,rfl,hv,hb2⟩;have br2:=br.below hb2;obtain⟨e1,e2,e3,e4⟩:=br2.two;obtain⟨vn,va,vl,vc,vx,rfl,hv2⟩:=hv;go_wp2_with fail
 refine jI rfl rfl rfl (br2.put2 _ _) ?_ (yJ (yJ (nx hB0 hb2) oM 0 _) oM 1 _);refine jT.ext ?_ (br2.lext2 dE _ _);rw[HZ.out,<-zK7];exact⟨vn,va,vl,vc,vx,rfl,hv2⟩
theorem zKm(ao1 ao2:Option Addr)(n1 cap1 n2 cap2:Nat)(xs ys:List Nat)(w:World)(hn1:xs.length=n1)(hn2:ys.length=n2)(hl1:n1<=cap1)(hl2:n2<=cap2)
  (hc1:cap1<=9223372036854775807) (hc2:cap2<=9223372036854775807) (hx1:qV w ao1 xs) (hx2:qV w ao2 ys) (hN1:zBC xs) (hN2:zBC ys):
  Calls Tryz.prog 81 #[.slice ao1 n1 cap1,.slice ao2 n2 cap2] w fun e w'=>e= .returned (.bool (decide (nat xs<nat ys)))/\∃q,w'=w.drewN q:=by
 have HN1:=zI hn1;have HN2:=zI hn2;by_cases hne:n1=n2
 ·subst hne
  have hlen1:xs.length<=n1:=by omega
  have hlen1':n1<=xs.length:=by omega
  have hlen2:ys.length<=n1:=by omega
  have hlen2':n1<=ys.length:=by omega
  clear hn1 hn2;go_enter Tryz.func81,Tryz.ntmps81;go_wp2;go_loopw [5] (fun i wr=>∃k q:Nat,k<=n1/\i= .int .i64 ((k:Int)-1)/\Hid (xs.drop k=ys.drop k)/\Hid (wr=w.drewN q)) (fun i _=>(intOf i+1).toNat)
  case atStart=>exact⟨n1,0,xgf _,rfl,by show _=_;rw[qJ oM,qJ oM],rfl⟩
  obtain⟨k,q,hk,rfl,HD,HW⟩:=hrel;cases k with
  | zero=>
   have E:Hid (decide (nat xs<nat ys)=false):=by
    have:xs=ys:=by simpa using HD.out
    subst this;show _=_;simp
   go_wp2;go_ret;exact⟨by rw[E.out];rfl,_,HW.out⟩
  | succ k=>
   obtain⟨b,off,x,rfl,hbw,hx32,HX,hck⟩:=hx1.limb (k:=k) oM;obtain⟨b2,off2,y,rfl,hbw2,hy32,HY,hcy⟩:=hx2.limb (k:=k) oM;have hck':wr.cell? ⟨b,off+k,none⟩=some (.int .u32 (x:Nat)):=by rw[HW.out];exact hck
   have hcy':wr.cell? ⟨b2,off2+k,none⟩=some (.int .u32 (y:Nat)):=by rw[HW.out];exact hcy
   have ek:IntKind.i64.wrap ((k:Int)+1-1)=k:=by rw[yR _ oM];omega
   clear hck hcy;by_cases hxy:x=y
   ·subst hxy
    have HD':Hid (xs.drop k=ys.drop k):=by
     show _=_;rw[jD (l:=xs) (i:=k) oM,jD (l:=ys) (i:=k) oM,HD.out];have h1:=HX.out;have h2:=HY.out;rw[xgb,xga oM]at h1 h2;simp at h1 h2;rw[h1,h2]
    have e0:((x:Int) !=x)=false:=by simp
    clear HD HX HY;go_wp2;go_quiet (fail);go_wp2;go_roundw
    case rel=>exact⟨k,_,by omega,by go_num,HD',by show _=_;rw[HW.out,jW]⟩
    case measure=>simp[intOf]
   have e0:((x:Int) !=y)=true:=by simp;omega
   have E:Hid (decide (nat xs<nat ys)=decide (x<y)):=by
    show _=_;rcases zAS hxy with h|h
    ·have:=zN3 hx1.1 oM oM HD.out HX.out HY.out h
     simp[this,h]
    have:=zN3 hx2.1 oM oM HD.out.symm HY.out HX.out h;simp;constructor<;>intro<;>omega
   by_cases hlt:x<y
   ·have e1:decide ((x:Int)<(y:Int))=true:=by simp;omega
    have e2:Hid (decide (nat xs<nat ys)=true):=by show _=_;rw[E.out];simp[hlt]
    go_wp2;go_quiet (fail);go_wp2;go_quiet (fail);go_wp2;go_ret;exact⟨by rw[e2.out];rfl,_,by rw[HW.out];simp only[World.drewN_drewN];rfl⟩
   have e1:decide ((x:Int)<(y:Int))=false:=by simp;omega
   have e2:Hid (decide (nat xs<nat ys)=false):=by show _=_;rw[E.out];simp[hlt]
   go_wp2;go_quiet (fail);go_wp2;go_quiet (fail);go_wp2;go_ret;exact⟨by rw[e2.out];rfl,_,by rw[HW.out];simp only[World.drewN_drewN];rfl⟩
 have e0:((n1:Int) !=n2)=true:=by simp;omega
 rcases zAS hne with h|h
 ·have e2:Hid (decide (nat xs<nat ys)=true):=by
   have:=zKT hx1.1 hN2 oM;show _=_;simp[this]
  clear hn1 hn2;go_enter Tryz.func81,Tryz.ntmps81;go_wp2;go_ret;exact⟨by rw[e2.out];first|rfl|(show Ending.returned (.bool (decide (n1<n2)))=_;first|rw[decide_eq_true h]|rw[decide_eq_false oM]),0,rfl⟩
 have e2:Hid (decide (nat xs<nat ys)=false):=by
  have:=zKT hx2.1 hN1 oM;show _=_;simp;omega
 clear hn1 hn2;go_enter Tryz.func81,Tryz.ntmps81;go_wp2;go_ret;exact⟨by rw[e2.out];first|rfl|(show Ending.returned (.bool (decide (n1<n2)))=_;first|rw[decide_eq_true h]|rw[decide_eq_false oM]),0,rfl⟩
def zLM(w:World)(n:Nat)(e:Ending)(w':World):Prop:=
 ∃ao len cap xs,e= .returned (.slice ao len cap)/\xs.length=len/\len<=cap/\cap<=9223372036854775807/\qV w' ao xs/\nat xs=n/\Below w.heap.size w w'/\len<=8*LIM
theorem zG0(hl:zs.length=k)(h:nat zs+d*B32^k=nat (xs.take k)+nat (ys.take k))(hx:xs.getD k 0=x)(hy:ys.getD k 0=y):
  nat (zs++ [(d+x+y)%4294967296])+(d+x+y)/4294967296*B32^(k+1)=nat (xs.take (k+1))+nat (ys.take (k+1)):=by
 have h1:=zFg (xs:=xs) (ys:=ys) (zs:=zs++ [0]) (k:=k) (d:=d) (x:=x) (y:=y) (by rw[zAI oM,yH zs oM];exact h) (by simp;omega) hx hy;have h2:(zs++ [0]).set k ((d+x+y)%4294967296)=zs++ [(d+x+y)%4294967296]:=by
  rw[zA5 _ _ oM,hl,jP];rfl
 rw[h2,yH _ (by simp;omega)]at h1;exact h1
theorem zGr(h:xs.length<=k):xs.getD k 0=0:=by rw[xgb,List.getElem?_eq_none h];rfl
theorem zJY.base_le{base:Nat}(h:zJY w base v xs):∀g,v.ownBlock=some g->base<=g:=fun g hg=>(h.2.lt g hg).1
theorem zPq(ao1 ao2:Option Addr)(n1 cap1 n2 cap2:Nat)(xs ys:List Nat)(w:World)(hn1:xs.length=n1)(hn2:ys.length=n2)
  (hb1:n1<=4*LIM) (hb2:n2<=4*LIM) (hx1:qV w ao1 xs) (hx2:qV w ao2 ys):
  Calls Tryz.prog 141 #[.slice ao1 n1 cap1,.slice ao2 n2 cap2] w (zLM w (nat xs+nat ys)):=by
 have HN1:=zI hn1;have HN2:=zI hn2;have hlen1:xs.length<=n1:=by omega
 have hlen1':n1<=xs.length:=by omega
 have hlen2:ys.length<=n2:=by omega
 have hlen2':n2<=ys.length:=by omega
 clear hn1 hn2;rw[zDD]at hb1 hb2;obtain⟨mx,hmx1,hmx2,hmx3⟩:∃m,n1<=m/\n2<=m/\m<=4*1099511627776:=⟨max n1 n2,by omega,by omega,by omega⟩;go_enter Tryz.func141,Tryz.ntmps141;go_wp2;go_loopw [5,6,7] (fun v c i wr=>∃(k d:Nat) (zs:List Nat),k<=mx+1/\i= .int .i64 k/\c= .int .u64 d/\d<=1/\k+d<=mx+1/\zs.length<=mx+1/\zJY wr w.heap.size v zs/\Below w.heap.size w wr∧
   Hid (zs.length=k/\nat zs+d*B32^k=nat (xs.take k)+nat (ys.take k))) (fun _ _ i _=>mx+1-(intOf i).toNat)
 case atStart=>exact⟨0,0,[],by omega,rfl,rfl,by omega,by omega,by simp,zJY.empty w _ (xgf _),(zA _ _).alloc (xgf _) _,⟨rfl,by simp⟩⟩
 obtain⟨k,d,zs,hk,rfl,rfl,hd,hkd,hzl,hown,hbel,HH⟩:=hrel;have hzk:zs.length<=k:=zBU HH.out.1;by_cases h1:k<n1
 ·obtain⟨b,off,x,rfl,hbw,hx32,HX,hck⟩:=hx1.limb (k:=k) oM
  have hck':=(hbel.cell (p:=⟨b,off+k,none⟩) hbw).trans hck;clear hck;by_cases h2:k<n2
  ·obtain⟨b2,off2,y,rfl,hbw2,hy32,HY,hcy⟩:=hx2.limb (k:=k) oM
   have hcy':=(hbel.cell (p:=⟨b2,off2+k,none⟩) hbw2).trans hcy;clear hcy;go_wp2_with (at_builtin;refine zOt rfl _ _ rfl w.heap.size u5 zs rfl (hown.alloc _) _ 1 _ [(d+x+y)%4294967296] rfl (qV.one _ ((d+x+y)%4294967296) (yV _ dE) _ (by first|rfl|omega|simp)) rfl oM (by have:=hbel.size;simp;omega) ?_;intro v' w' hown' hgr';have hbel':Below w.heap.size w w':=(hbel.alloc hbel.size _).grown hgr' (by have:=hbel.size;simp;omega) (fun g hg=>hown.base_le g hg))
   go_roundw
   case rel=>exact⟨k+1,(d+x+y)/4294967296,zs++ [(d+x+y)%4294967296],by omega,by go_num,by go_num,by omega,by omega,by simp;omega,hown',hbel',⟨by simp[HH.out.1],zG0 HH.out.1 HH.out.2 HX.out HY.out⟩⟩
   case measure=>simp[intOf];omega
  have HY:Hid (ys.getD k 0=0):=zGr oM;have hs0:d+x+0=d+x:=rfl;go_wp2_with (at_builtin;refine zOt rfl _ _ rfl w.heap.size u5 zs rfl (hown.alloc _) _ 1 _ [(d+x+0)%4294967296] rfl (qV.one _ ((d+x+0)%4294967296) (yV _ dE) _ (by first|rfl|omega|simp)) rfl oM (by have:=hbel.size;simp;omega) ?_;intro v' w' hown' hgr';have hbel':Below w.heap.size w w':=(hbel.alloc hbel.size _).grown hgr' (by have:=hbel.size;simp;omega) (fun g hg=>hown.base_le g hg))
  go_roundw
  case rel=>exact⟨k+1,(d+x+0)/4294967296,zs++ [(d+x+0)%4294967296],by omega,by go_num,by go_num,by omega,by omega,by simp;omega,hown',hbel',⟨by simp[HH.out.1],zG0 HH.out.1 HH.out.2 HX.out HY.out⟩⟩
  case measure=>simp[intOf];omega
 have HX:Hid (xs.getD k 0=0):=zGr oM;by_cases h2:k<n2
 ·obtain⟨b2,off2,y,rfl,hbw2,hy32,HY,hcy⟩:=hx2.limb (k:=k) oM
  have hcy':=(hbel.cell (p:=⟨b2,off2+k,none⟩) hbw2).trans hcy;clear hcy;go_wp2_with (at_builtin;refine zOt rfl _ _ rfl w.heap.size u5 zs rfl (hown.alloc _) _ 1 _ [(d+0+y)%4294967296] rfl (qV.one _ ((d+0+y)%4294967296) (yV _ dE) _ (by first|rfl|omega|simp)) rfl oM (by have:=hbel.size;simp;omega) ?_;intro v' w' hown' hgr';have hbel':Below w.heap.size w w':=(hbel.alloc hbel.size _).grown hgr' (by have:=hbel.size;simp;omega) (fun g hg=>hown.base_le g hg))
  go_roundw
  case rel=>exact⟨k+1,(d+0+y)/4294967296,zs++ [(d+0+y)%4294967296],by omega,by go_num,by go_num,by omega,by omega,by simp;omega,hown',hbel',⟨by simp[HH.out.1],zG0 HH.out.1 HH.out.2 HX.out HY.out⟩⟩
  case measure=>simp[intOf];omega
 have HY:Hid (ys.getD k 0=0):=zGr oM;by_cases h3:0<d
 ·
  go_wp2_with (at_builtin;refine zOt rfl _ _ rfl w.heap.size u5 zs rfl (hown.alloc _) _ 1 _ [(d+0+0)%4294967296] rfl (qV.one _ ((d+0+0)%4294967296) (yV _ dE) _ (by first|rfl|omega|simp)) rfl oM (by have:=hbel.size;simp;omega) ?_;intro v' w' hown' hgr';have hbel':Below w.heap.size w w':=(hbel.alloc hbel.size _).grown hgr' (by have:=hbel.size;simp;omega) (fun g hg=>hown.base_le g hg))
  go_roundw
  case rel=>exact⟨k+1,(d+0+0)/4294967296,zs++ [(d+0+0)%4294967296],by omega,by go_num,by go_num,by omega,by omega,by simp;omega,hown',hbel',⟨by simp[HH.out.1],zG0 HH.out.1 HH.out.2 HX.out HY.out⟩⟩
  case measure=>simp[intOf];omega
 obtain rfl:0=d:=by omega
 go_wp2;go_ret;obtain⟨ao',cap',hv,q1,q2,q3⟩:=hown.at_;have h4:=HH.out.2;rw[zBo,zAW,yH xs oM,yH ys oM]at h4;exact⟨ao',_,cap',zs,by rw[hv];rfl,rfl,q1,q2,q3,h4,hbel,by rw[zDD];omega⟩
theorem zFz{v e:Nat}(hl:zs.length=k)(h:nat zs+nat (ys.take k)=nat (xs.take k)+d*B32^k)(hx:xs.getD k 0=x)(hy:ys.getD k 0=y)(hv:v+y+d=x+e*4294967296):
  nat (zs++ [v])+nat (ys.take (k+1))=nat (xs.take (k+1))+e*B32^(k+1):=by
 have h1:=zHN (xs:=xs) (ys:=ys) (zs:=zs++ [0]) (k:=k) (d:=d) (x:=x) (y:=y) (v:=v) (e:=e) (by rw[zAI oM,yH zs oM];exact h) (by simp;omega) hx hy hv;have h2:(zs++ [0]).set k v=zs++ [v]:=by
  rw[zA5 _ _ oM,hl,jP];rfl
 rw[h2,yH _ (by simp;omega)]at h1;exact h1
theorem zIs(ao1 ao2:Option Addr)(n1 cap1 n2 cap2:Nat)(xs ys:List Nat)(w:World)(hn1:xs.length=n1)(hn2:ys.length=n2)
  (hb1:n1<=4*LIM) (hx1:qV w ao1 xs) (hx2:qV w ao2 ys) (hle:n2<=n1) (hval:nat ys<=nat xs):
  Calls Tryz.prog 142 #[.slice ao1 n1 cap1,.slice ao2 n2 cap2] w (zLM w (nat xs-nat ys)):=by
 have HN1:=zI hn1;have HN2:=zI hn2;have HV:=zI hval;have hlen1:xs.length<=n1:=by omega
 have hlen1':n1<=xs.length:=by omega
 have hlen2:ys.length<=n2:=by omega
 have hlen2':n2<=ys.length:=by omega
 clear hn1 hn2 hval;rw[zDD]at hb1;go_enter Tryz.func142,Tryz.ntmps142;go_wp2;go_loopw [5,6,7] (fun v c i wr=>∃(k d:Nat) (zs:List Nat),k<=n1/\i= .int .i64 k/\c= .int .i64 d/\d<=1/\zJY wr w.heap.size v zs/\Below w.heap.size w wr∧
   Hid (zs.length=k/\nat zs+nat (ys.take k)=nat (xs.take k)+d*B32^k)) (fun _ _ i _=>n1-(intOf i).toNat)
 case atStart=>exact⟨0,0,[],by omega,rfl,rfl,by omega,zJY.empty w _ (xgf _),(zA _ _).alloc (xgf _) _,⟨rfl,by simp⟩⟩
 obtain⟨k,d,zs,hk,rfl,rfl,hd,hown,hbel,HH⟩:=hrel;have hzk:zs.length<=k:=zBU HH.out.1;by_cases h1:k<n1
 ·obtain⟨b,off,x,rfl,hbw,hx32,HX,hck⟩:=hx1.limb (k:=k) oM
  have hck':=(hbel.cell (p:=⟨b,off+k,none⟩) hbw).trans hck;clear hck;by_cases h2:k<n2
  ·obtain⟨b2,off2,y,rfl,hbw2,hy32,HY,hcy⟩:=hx2.limb (k:=k) oM
   have hcy':=(hbel.cell (p:=⟨b2,off2+k,none⟩) hbw2).trans hcy;clear hcy;by_cases hs:y+d<=x
   ·
    go_wp2_with (at_builtin;refine zOt rfl _ _ rfl w.heap.size u5 zs rfl (hown.alloc _) _ 1 _ [(x-d-y)] rfl (qV.one _ ((x-d-y)) oM _ (by first|rfl|omega|(rw[zA0];omega))) rfl oM (by have:=hbel.size;simp;omega) ?_;intro v' w' hown' hgr';have hbel':Below w.heap.size w w':=(hbel.alloc hbel.size _).grown hgr' (by have:=hbel.size;simp;omega) (fun g hg=>hown.base_le g hg))
    go_roundw
    case rel=>exact⟨k+1,0,zs++ [(x-d-y)],by omega,by go_num,rfl,by omega,hown',hbel',⟨by simp[HH.out.1],zFz HH.out.1 HH.out.2 HX.out HY.out oM⟩⟩
    case measure=>simp[intOf];omega
   go_wp2_with (at_builtin;refine zOt rfl _ _ rfl w.heap.size u5 zs rfl (hown.alloc _) _ 1 _ [(x+4294967296-d-y)] rfl (qV.one _ ((x+4294967296-d-y)) oM _ (by first|rfl|omega|(rw[zA0];omega))) rfl oM (by have:=hbel.size;simp;omega) ?_;intro v' w' hown' hgr';have hbel':Below w.heap.size w w':=(hbel.alloc hbel.size _).grown hgr' (by have:=hbel.size;simp;omega) (fun g hg=>hown.base_le g hg))
   go_roundw
   case rel=>exact⟨k+1,1,zs++ [(x+4294967296-d-y)],by omega,by go_num,rfl,by omega,hown',hbel',⟨by simp[HH.out.1],zFz HH.out.1 HH.out.2 HX.out HY.out oM⟩⟩
   case measure=>simp[intOf];omega
  have HY:Hid (ys.getD k 0=0):=zGr oM;by_cases hs:d<=x
  ·
   go_wp2_with (at_builtin;refine zOt rfl _ _ rfl w.heap.size u5 zs rfl (hown.alloc _) _ 1 _ [(x-d)] rfl (qV.one _ ((x-d)) oM _ (by first|rfl|omega|(rw[zA0];omega))) rfl oM (by have:=hbel.size;simp;omega) ?_;intro v' w' hown' hgr';have hbel':Below w.heap.size w w':=(hbel.alloc hbel.size _).grown hgr' (by have:=hbel.size;simp;omega) (fun g hg=>hown.base_le g hg))
   go_roundw
   case rel=>exact⟨k+1,0,zs++ [(x-d)],by omega,by go_num,rfl,by omega,hown',hbel',⟨by simp[HH.out.1],zFz HH.out.1 HH.out.2 HX.out HY.out oM⟩⟩
   case measure=>simp[intOf];omega
  go_wp2_with (at_builtin;refine zOt rfl _ _ rfl w.heap.size u5 zs rfl (hown.alloc _) _ 1 _ [(x+4294967296-d)] rfl (qV.one _ ((x+4294967296-d)) oM _ (by first|rfl|omega|(rw[zA0];omega))) rfl oM (by have:=hbel.size;simp;omega) ?_;intro v' w' hown' hgr';have hbel':Below w.heap.size w w':=(hbel.alloc hbel.size _).grown hgr' (by have:=hbel.size;simp;omega) (fun g hg=>hown.base_le g hg))
  go_roundw
  case rel=>exact⟨k+1,1,zs++ [(x+4294967296-d)],by omega,by go_num,rfl,by omega,hown',hbel',⟨by simp[HH.out.1],zFz HH.out.1 HH.out.2 HX.out HY.out oM⟩⟩
  case measure=>simp[intOf];omega
 obtain rfl:n1=k:=by omega
 go_wp2;go_ret;obtain⟨ao',cap',hv,q1,q2,q3⟩:=hown.at_;have h4:=HH.out.2;rw[yH xs oM,yH ys oM]at h4;have h2:=zEe hown.1;rw[HH.out.1]at h2;have h3:=HV.out;refine⟨ao',_,cap',zs,by rw[hv];rfl,rfl,q1,q2,q3,?_,hbel,by rw[zDD];omega⟩;generalize B32^n1=p at h4 h2;have h5:d=0∨d=1:=by omega
 rcases h5 with rfl|rfl<;>omega
theorem zSA(v1 v2:Value)(z1 z2:Int)(w:World)(h1:jT w v1 z1)(h2:jT w v2 z2)(s1:Sm z1)(s2:Sm z2):
  Calls Tryz.prog 94 #[v1,v2] w (zDu w (z1+z2)):=by
 obtain⟨neg1,ao1,n1,cap1,xs,rfl,hn1,hl1,hc1,hx1,hN1,hz1,hp1,hq1⟩:=h1.len s1;obtain⟨neg2,ao2,n2,cap2,ys,rfl,hn2,hl2,hc2,hx2,hN2,hz2,hp2,hq2⟩:=h2.len s2;have HN1:=zI hn1;have HN2:=zI hn2;have HZ1:=zI hz1;have HZ2:=zI hz2;clear hn1 hn2 hz1 hz2 s1 s2 h1 h2 hp1 hp2;have hq1':n1<=4*LIM:=by omega
 have hq2':n2<=4*LIM:=by omega
 clear hq1 hq2;by_cases hs:neg1=neg2
 ·subst hs
  go_enter Tryz.func94,Tryz.ntmps94;go_upto_region 1 with(fail)
  refine zD ?_;intro W0 hW0;obtain⟨hB0,bx1,bx2,br,hs0⟩:=zCH hW0;obtain⟨c1,c2,c3,c4⟩:=bx1.two;obtain⟨d1,d2,d3,d4⟩:=bx2.two;go_wp2_with fail
  have lx1:=lx (nx hB0 (dr W0));go_region_held3 (fun w'=>w'.cell? ⟨w.heap.size,1,none⟩=some (.slice ao1 n1 cap1)/\w'.cell? ⟨w.heap.size+1,1,none⟩=some (.slice ao2 n2 cap2)/\w'.cell? ⟨w.heap.size,0,none⟩=some (.bool neg1))
   ((((try go_split_ands);(repeat' apply And.intro))<;>first|exact zBh (by assumption)|exact jF (by assumption) hb1|exact jF (by assumption) hb2|exact zCv (zCv (by assumption) oM) oM))
   (first
    |(go_at_call 141;refine(zPq ao1 ao2 n1 cap1 n2 cap2 xs ys _ HN1.out HN2.out hq1' hq2' (hx1.ext lx1) (hx2.ext lx1)).mono ?_;rintro e w1 ⟨ao,len,cap,zs,rfl,hz1,hz2,hz3,hz4,hz5,hb1,hz6⟩;have br1:=br.drew.below hb1)
    |(go_at_call 91;refine(zFx ao len cap zs neg1 _ hz1 hz2 hz3 hz6 hz4).mono ?_;rintro e w2 ⟨v,rfl,hv,hb2⟩;have br2:=br1.below hb2;obtain⟨e1,e2,e3,e4⟩:=br2.two;obtain⟨vn,va,vl,vc,vx,rfl,hv2⟩:=hv))
  go_wp2_with fail
  refine jI rfl rfl rfl (br2.put2 _ _) ?_ (yJ (yJ (nx (nx (nx hB0 (dr W0)) hb1) hb2) oM 0 _) oM 1 _);refine jT.ext ?_ (br2.lext2 dE _ _);rw[hz5]at hv2;rw[HZ1.out,HZ2.out,<-zSV];exact⟨vn,va,vl,vc,vx,rfl,hv2⟩
 have hs':(neg1==neg2)=false:=by simpa using hs
 have Hs:=zI hs;clear hs;have hless:=fun W h1 h2=>zKm ao1 ao2 n1 cap1 n2 cap2 xs ys W HN1.out HN2.out hl1 hl2 hc1 hc2 h1 h2 hN1 hN2
 by_cases hlt:nat xs<nat ys
 ·rw[decide_eq_true hlt]at hless
  go_enter Tryz.func94,Tryz.ntmps94;go_upto_region 1 with(fail)
  refine zD ?_;intro W0 hW0;obtain⟨hB0,bx1,bx2,br,hs0⟩:=zCH hW0;obtain⟨c1,c2,c3,c4⟩:=bx1.two;obtain⟨d1,d2,d3,d4⟩:=bx2.two;go_wp2_with (go_at_call 81;refine(hless _ (hx1.ext (lx hB0)) (hx2.ext (lx hB0))).mono ?_;rintro e w' ⟨rfl,nd,rfl⟩)
  have lx1:=lx (nx (nx hB0 (drN W0 nd)) (dr (W0.drewN nd)));go_region_held3 (fun w'=>w'.cell? ⟨w.heap.size,1,none⟩=some (.slice ao1 n1 cap1)/\w'.cell? ⟨w.heap.size+1,1,none⟩=some (.slice ao2 n2 cap2)/\w'.cell? ⟨(w.heap.size+1),0,none⟩=some (.bool neg2))
   ((((try go_split_ands);(repeat' apply And.intro))<;>first|exact zBh (by assumption)|exact jF (by assumption) hb1|exact jF (by assumption) hb2|exact zCv (zCv (by assumption) oM) oM))
   (first
    |(go_at_call 142;refine(zIs ao2 ao1 n2 cap2 n1 cap1 ys xs _ HN2.out HN1.out hq2' (hx2.ext lx1) (hx1.ext lx1) (by rw[<-HN1.out,<-HN2.out];exact zDJ hx2.1 hN1 oM) oM).mono ?_;rintro e w1 ⟨ao,len,cap,zs,rfl,hz1,hz2,hz3,hz4,hz5,hb1,hz6⟩;have br1:=(br.drewN nd).drew.below hb1)
    |(go_at_call 91;refine(zFx ao len cap zs neg2 _ hz1 hz2 hz3 hz6 hz4).mono ?_;rintro e w2 ⟨v,rfl,hv,hb2⟩;have br2:=br1.below hb2;obtain⟨e1,e2,e3,e4⟩:=br2.two;obtain⟨vn,va,vl,vc,vx,rfl,hv2⟩:=hv))
  go_wp2_with fail
  refine jI rfl rfl rfl (br2.put2 _ _) ?_ (yJ (yJ (nx (nx (nx (nx hB0 (drN W0 nd)) (dr (W0.drewN nd))) hb1) hb2) oM 0 _) oM 1 _);refine jT.ext ?_ (br2.lext2 dE _ _);rw[hz5]at hv2;rw[HZ1.out,HZ2.out,<-zOc Hs.out _ _ oM];exact⟨vn,va,vl,vc,vx,rfl,hv2⟩
 rw[decide_eq_false hlt]at hless;go_enter Tryz.func94,Tryz.ntmps94;go_upto_region 1 with(fail)
 refine zD ?_;intro W0 hW0;obtain⟨hB0,bx1,bx2,br,hs0⟩:=zCH hW0;obtain⟨c1,c2,c3,c4⟩:=bx1.two;obtain⟨d1,d2,d3,d4⟩:=bx2.two;go_wp2_with (go_at_call 81;refine(hless _ (hx1.ext (lx hB0)) (hx2.ext (lx hB0))).mono ?_;rintro e w' ⟨rfl,nd,rfl⟩)
 have lx1:=lx (nx (nx hB0 (drN W0 nd)) (dr (W0.drewN nd)));go_region_held3 (fun w'=>w'.cell? ⟨w.heap.size,1,none⟩=some (.slice ao1 n1 cap1)/\w'.cell? ⟨w.heap.size+1,1,none⟩=some (.slice ao2 n2 cap2)/\w'.cell? ⟨w.heap.size,0,none⟩=some (.bool neg1))
  ((((try go_split_ands);(repeat' apply And.intro))<;>first|exact zBh (by assumption)|exact jF (by assumption) hb1|exact jF (by assumption) hb2|exact zCv (zCv (by assumption) oM) oM))
  (first
   |(go_at_call 142;refine(zIs ao1 ao2 n1 cap1 n2 cap2 xs ys _ HN1.out HN2.out hq1' (hx1.ext lx1) (hx2.ext lx1) (by rw[<-HN1.out,<-HN2.out];exact zDJ hx1.1 hN2 oM) oM).mono ?_;rintro e w1 ⟨ao,len,cap,zs,rfl,hz1,hz2,hz3,hz4,hz5,hb1,hz6⟩;have br1:=(br.drewN nd).drew.below hb1)
   |(go_at_call 91;refine(zFx ao len cap zs neg1 _ hz1 hz2 hz3 hz6 hz4).mono ?_;rintro e w2 ⟨v,rfl,hv,hb2⟩;have br2:=br1.below hb2;obtain⟨e1,e2,e3,e4⟩:=br2.two;obtain⟨vn,va,vl,vc,vx,rfl,hv2⟩:=hv))
 go_wp2_with fail
 refine jI rfl rfl rfl (br2.put2 _ _) ?_ (yJ (yJ (nx (nx (nx (nx hB0 (drN W0 nd)) (dr (W0.drewN nd))) hb1) hb2) oM 0 _) oM 1 _);refine jT.ext ?_ (br2.lext2 dE _ _);rw[hz5]at hv2;rw[HZ1.out,HZ2.out,<-zOb Hs.out _ _ oM];exact⟨vn,va,vl,vc,vx,rfl,hv2⟩
theorem Sm.neg(h:Sm z):Sm (-z):=by unfold Sm at h ⊢;rwa[zT]
theorem zSD(v1 v2:Value)(z1 z2:Int)(w:World)(h1:jT w v1 z1)(h2:jT w v2 z2)(s1:Sm z1)(s2:Sm z2):
  Calls Tryz.prog 92 #[v1,v2] w (zDu w (z1-z2)):=by
 have H1:=zI h1;have H2:=zI h2;obtain⟨neg1,ao1,n1,cap1,xs,rfl,-⟩:=h1;obtain⟨neg2,ao2,n2,cap2,ys,rfl,-⟩:=h2;have hneg:=fun W h=>zSC (.agg #[.bool neg2,.slice ao2 n2 cap2]) z2 W h s2
 have hadd:=fun v W h1 h2=>zSA (.agg #[.bool neg1,.slice ao1 n1 cap1]) v z1 (-z2) W h1 h2 s1 s2.neg
 clear s1 s2;go_enter Tryz.func92,Tryz.ntmps92;go_upto_region 1 with(fail)
 refine zD ?_;intro W0 hW0;obtain⟨hB0,bx1,bx2,br,hs0⟩:=zCH hW0;obtain⟨c1,c2,c3,c4⟩:=bx1.two;obtain⟨d1,d2,d3,d4⟩:=bx2.two;have lx1:=lx (nx hB0 (dr W0));go_region_held3 (fun w'=>w'.cell? ⟨w.heap.size,0,none⟩=some (.bool neg1)/\w'.cell? ⟨w.heap.size,1,none⟩=some (.slice ao1 n1 cap1)/\w'.cell? ⟨w.heap.size+1,0,none⟩=some (.bool neg2)/\w'.cell? ⟨w.heap.size+1,1,none⟩=some (.slice ao2 n2 cap2))
  ((((try go_split_ands);(repeat' apply And.intro))<;>first|exact zBh (by assumption)|exact jF (by assumption) hb1|exact jF (by assumption) hb2|exact zCv (zCv (by assumption) oM) oM))
  (first
   |(go_at_call 39;refine(hneg _ (H2.out.weak.ext lx1)).mono ?_;rintro e w1 ⟨vneg,rfl,hvn,hb1⟩;have br1:=br.drew.below hb1;have h1':=H1.out.ext (lx (nx (nx hB0 (dr W0)) hb1)))
   |(go_at_call 94;refine(hadd vneg _ h1' hvn).mono ?_;rintro e w2 ⟨v,rfl,hv,hb2⟩;have br2:=br1.below hb2;obtain⟨e1,e2,e3,e4⟩:=br2.two;obtain⟨vn,va,vl,vc,vx,rfl,hv2⟩:=hv))
 go_wp2_with fail
 refine jI rfl rfl rfl (br2.put2 _ _) ?_ (yJ (yJ (nx (nx (nx hB0 (dr W0)) hb1) hb2) oM 0 _) oM 1 _);refine jT.ext ?_ (br2.lext2 dE _ _);rw[Int.sub_eq_add_neg];exact⟨vn,va,vl,vc,vx,rfl,hv2⟩
theorem zSB(v1 v2:Value)(z1 z2:Int)(w:World)(h1:jT w v1 z1)(h2:jT w v2 z2)(s1:Sm z1)(s2:Sm z2):
  Calls Tryz.prog 46 #[v1,v2] w fun e w'=>e= .returned (.int .i64 (zAp z1 z2))/\Below w.heap.size w w':=by
 have H1:=zI h1;have H2:=zI h2;obtain⟨neg1,ao1,n1,cap1,xs,rfl,-⟩:=h1;obtain⟨neg2,ao2,n2,cap2,ys,rfl,-⟩:=h2;have hsub:=fun W h1 h2=>zSD (.agg #[.bool neg1,.slice ao1 n1 cap1]) (.agg #[.bool neg2,.slice ao2 n2 cap2]) z1 z2 W h1 h2 s1 s2
 have E:Hid (zAp (z1-z2) 0=zAp z1 z2):=by
  rcases zAY z1 z2 with h|h|h
  show _=_;rw[zBW h,zBW oM];show _=_;rw[zCY h,zCY oM];show _=_;rw[zCF h,zCF oM]
 clear s1 s2;go_enter Tryz.func46,Tryz.ntmps46;go_upto_region 1 with(fail)
 refine zD ?_;intro W0 hW0;obtain⟨hB0,bx1,bx2,hs0⟩:=zAd hW0;obtain⟨c1,c2,c3,c4⟩:=bx1.two;obtain⟨d1,d2,d3,d4⟩:=bx2.two;go_wp2_with fail
 refine(hsub _ (H1.out.ext (lx hB0)) (H2.out.ext (lx hB0))).mono ?_;rintro e w1 ⟨v,rfl,hv,hb1⟩;go_wp2_with fail
 refine(zEv v _ _ hv).mono ?_;rintro e w2 ⟨rfl,hb2⟩;go_wp2_with fail
 go_ret;exact⟨by rw[<-E.out];rfl,nx (nx hB0 hb1) hb2⟩
theorem zXO{a b:Bool}{m:Nat}(h:sgn a m=sgn b n):m=n/\(m≠0->a=b):=by
 have h1:=congrArg Int.natAbs h;rw[zBK,zBK]at h1;subst h1;refine⟨rfl,fun h0=>?_⟩;cases a<;>cases b<;>simp at h ⊢<;>omega
theorem zJ6(v1 v2:Value)(z1 z2:Int)(w:World)(h1:jT w v1 z1)(h2:jT w v2 z2):
  Calls Tryz.prog 29 #[v1,v2] w fun e w'=>e= .returned (.bool (decide (z1=z2)))/\Below w.heap.size w w':=by
 obtain⟨neg1,ao1,n1,cap1,xs,rfl,hn1,hl1,hc1,hx1,hN1,hz1,hp1⟩:=h1;obtain⟨neg2,ao2,n2,cap2,ys,rfl,hn2,hl2,hc2,hx2,hN2,hz2,hp2⟩:=h2;have hz:Hid (z1=z2↔(neg1=neg2/\¬ nat xs<nat ys/\¬ nat ys<nat xs)):=by
  show _↔_;rw[hz1,hz2];constructor
  ·intro h
   obtain⟨h3,h4⟩:=zXO h;refine⟨?_,by omega,by omega⟩;by_cases h0:nat xs=0
   ·have e1:=(zGf hN1).1 h0
    have e2:=(zGf hN2).1 oM;subst e1;subst e2;rw[hp1 hn1.symm,hp2 hn2.symm]
   exact h4 h0
  rintro⟨h3,h4,h5⟩;rw[h3,show nat xs=nat ys by omega]
 have hl12:=fun W h1 h2=>zKm ao1 ao2 n1 cap1 n2 cap2 xs ys W hn1 hn2 hl1 hl2 hc1 hc2 h1 h2 hN1 hN2
 have hl21:=fun W h1 h2=>zKm ao2 ao1 n2 cap2 n1 cap1 ys xs W hn2 hn1 hl2 hl1 hc2 hc1 h1 h2 hN2 hN1
 clear hn1 hn2 hz1 hz2 hp1 hp2;by_cases hs:neg1=neg2
 ·subst hs
  by_cases h12:nat xs<nat ys
  ·rw[decide_eq_true h12]at hl12
   have E:Hid (decide (z1=z2)=false):=by show _=_;rw[decide_eq_false];rw[hz.out];omega
   clear hz;go_enter Tryz.func29,Tryz.ntmps29;go_upto_region 1 with(fail)
   refine zD ?_;intro W0 hW0;obtain⟨hB0,bx1,bx2,hs0⟩:=zAd hW0;obtain⟨c1,c2,c3,c4⟩:=bx1.two;obtain⟨d1,d2,d3,d4⟩:=bx2.two;go_wp2_with (go_at_call 81;refine(hl12 _ (hx1.ext (lx hB0)) (hx2.ext (lx hB0))).mono ?_;rintro e w' ⟨rfl,nd,rfl⟩)
   go_ret;exact⟨by rw[E.out];rfl,nx hB0 (drN _ _)⟩
  rw[decide_eq_false h12]at hl12;by_cases h21:nat ys<nat xs
  ·rw[decide_eq_true h21]at hl21
   have E:Hid (decide (z1=z2)=false):=by show _=_;rw[decide_eq_false];rw[hz.out];omega
   clear hz;go_enter Tryz.func29,Tryz.ntmps29;go_upto_region 1 with(fail)
   refine zD ?_;intro W0 hW0;obtain⟨hB0,bx1,bx2,hs0⟩:=zAd hW0;obtain⟨c1,c2,c3,c4⟩:=bx1.two;obtain⟨d1,d2,d3,d4⟩:=bx2.two;go_wp2_with fail
   refine(hl12 _ (hx1.ext (lx hB0)) (hx2.ext (lx hB0))).mono ?_;rintro e w' ⟨rfl,nd,rfl⟩;go_wp2_with fail
   refine(hl21 _ (hx2.ext (lx (nx hB0 (drN _ _)))) (hx1.ext (lx (nx hB0 (drN _ _))))).mono ?_;rintro e w' ⟨rfl,nd2,rfl⟩;go_wp2_with fail
   go_ret;exact⟨by rw[E.out];rfl,nx hB0 (drN _ _)⟩
  rw[decide_eq_false h21]at hl21;have E:Hid (decide (z1=z2)=true):=by show _=_;rw[decide_eq_true];rw[hz.out];exact⟨rfl,h12,h21⟩
  clear hz;go_enter Tryz.func29,Tryz.ntmps29;go_upto_region 1 with(fail)
  refine zD ?_;intro W0 hW0;obtain⟨hB0,bx1,bx2,hs0⟩:=zAd hW0;obtain⟨c1,c2,c3,c4⟩:=bx1.two;obtain⟨d1,d2,d3,d4⟩:=bx2.two;go_wp2_with fail
  refine(hl12 _ (hx1.ext (lx hB0)) (hx2.ext (lx hB0))).mono ?_;rintro e w' ⟨rfl,nd,rfl⟩;go_wp2_with fail
  refine(hl21 _ (hx2.ext (lx (nx hB0 (drN _ _)))) (hx1.ext (lx (nx hB0 (drN _ _))))).mono ?_;rintro e w' ⟨rfl,nd2,rfl⟩;go_wp2_with fail
  go_ret;exact⟨by rw[E.out];rfl,nx hB0 (drN _ _)⟩
 have hs':(neg1==neg2)=false:=by simpa using hs
 have E:Hid (decide (z1=z2)=false):=by show _=_;rw[decide_eq_false];rw[hz.out];intro h;exact hs h.1
 clear hz hs;go_enter Tryz.func29,Tryz.ntmps29;go_wp2_with fail
 go_ret;exact⟨by rw[E.out];rfl,((zA _ _).alloc (xgf _) _).alloc sI _⟩


def zYM(w:World)(a b:Nat)(e:Ending)(w':World):Prop:=
 ∃v z,e= .returned v/\jT w' v (z:Nat)/\0<z/\z*b<=a/\Below w.heap.size w w'
end Go.Proofs.YtkidaebmhlijlaaGreat
