/- Joined. -/
import Derived.ScopeJumps
import Derived.WalkMore
import Derived.Defers
import Derived.Recover
import Derived.Test.YtkidaebmhlijlaaGreatD09
set_option linter.unusedVariables false
set_option linter.unusedSimpArgs false
set_option linter.unusedSectionVars false
set_option maxHeartbeats 16000000
set_option maxRecDepth 100000
variable{m0 m1 m2 m3 z:Int}{M:List (List Int)}{r:List Int}{bs:List Nat}{B C Cs Ct R b base bi bj c g i j k l m n rank sc:Nat}{L f:Nat->Int}{F:Nat->Nat->Int}{P Z:Nat->Prop}{t:Go.TypeId}{A Ai As At mv u v:Go.Value}{W w w':Go.World}
namespace Go.Proofs.YtkidaebmhlijlaaGreat
open Go.RowKit
def M4V(w:World)(v:Value)(m0 m1 m2 m3:Int):Prop:=
 ∃s0 a0 l0 c0 s1 a1 l1 c1 s2 a2 l2 c2 s3 a3 l3 c3,v= .agg #[.bool s0,.slice a0 l0 c0,.bool s1,.slice a1 l1 c1,.bool s2,.slice a2 l2 c2,.bool s3,.slice a3 l3 c3]∧
  jY w (.agg #[.bool s0,.slice a0 l0 c0]) m0/\jY w (.agg #[.bool s1,.slice a1 l1 c1]) m1/\jY w (.agg #[.bool s2,.slice a2 l2 c2]) m2/\jY w (.agg #[.bool s3,.slice a3 l3 c3]) m3
theorem M4V.ext(h:M4V w v m0 m1 m2 m3)(x:zBw w w'):M4V w' v m0 m1 m2 m3:=by
 obtain⟨s0,a0,l0,c0,s1,a1,l1,c1,s2,a2,l2,c2,s3,a3,l3,c3,e,h0,h1,h2,h3⟩:=h;exact⟨s0,a0,l0,c0,s1,a1,l1,c1,s2,a2,l2,c2,s3,a3,l3,c3,e,h0.ext x,h1.ext x,h2.ext x,h3.ext x⟩
theorem Blk.eight{c0 c1 c2 c3 c4 c5 c6 c7:Value}(h:Blk w g t #[c0,c1,c2,c3,c4,c5,c6,c7]):
  w.cell? ⟨g,0,none⟩=some c0/\w.cell? ⟨g,1,none⟩=some c1/\w.cell? ⟨g,2,none⟩=some c2/\w.cell? ⟨g,3,none⟩=some c3/\w.cell? ⟨g,4,none⟩=some c4/\w.cell? ⟨g,5,none⟩=some c5/\w.cell? ⟨g,6,none⟩=some c6/\w.cell? ⟨g,7,none⟩=some c7:=
 ⟨h.cell 0,h.cell 1,h.cell 2,h.cell 3,h.cell 4,h.cell 5,h.cell 6,h.cell 7⟩
def zRa(n:Nat)(f g:Nat->Int)(m0 m1 m2 m3:Int):Prop:=∀t,t<n->Sm (f t)/\Sm (g t)/\Sm (m0*f t)/\Sm (m1*g t)/\Sm (m2*f t)/\Sm (m3*g t)
theorem Blk.put_at(hW:Hid (W=(w.setCell ⟨b,i,none⟩ u).setCell ⟨b,j,none⟩ v)){cs:Array Value}(h:Blk w g t cs)(hne:g≠b):Blk W g t cs:=by
 rw[hW.out];exact(yO _ _ _ _ _ _ _ hne).trans h
theorem zB0.put_at(hW:Hid (W=(w.setCell ⟨b,i,none⟩ u).setCell ⟨b,j,none⟩ v)){S:List Nat}(hb:b∈S)(hx:zBw w W):zB0 S w W:=by
 refine⟨?_,hx,fun k _ hk=>?_⟩
 ·rw[hW.out]
  exact yJ (yJ (zA _ _) (zE _) _ _) (zE _) _ _
 rw[hW.out];exact yO _ _ _ _ _ _ _ (fun e=>hk (e ▸ hb))
theorem jJ.put_at(hW:Hid (W=(w.setCell ⟨b,i,none⟩ u).setCell ⟨b,j,none⟩ v))(h:jJ w g r)(hne:g≠b)(hx:zBw w W):jJ W g r:=
 h.old (by rw[hW.out];exact yO _ _ _ _ _ _ _ hne) hx
theorem jJ.set_at{zs:List Int}{s:Bool}{a:Option Addr}(hW:Hid (W=(w.setCell ⟨b,k*2,none⟩ (.bool s)).setCell ⟨b,k*2+1,none⟩ (.slice a l c)))(h:jJ w b zs)(hk:k<zs.length)(hv:jY w (.agg #[.bool s,.slice a l c]) z):
  jJ W b (zs.set k z)/\zBw w W:=by
 rw[hW.out];exact h.set hk hv
theorem zJC{F:Nat->Int}(hz:z=F j):(qZ n (yQ F f j)).set j z=qZ n (yQ F f (j+1)):=by
 rw[zD1];exact qY fun t _=>by
  unfold yQ;by_cases h2:t=j
  ·subst h2
   rw[if_pos rfl,if_pos oM,hz]
  rw[if_neg h2];by_cases h1:t<j
  ·rw[if_pos h1,if_pos oM]
  rw[if_neg h1,if_neg oM]
theorem zGv(fI:Nat)(hfI:fI=204∨fI=179)(bv bw n capv capw:Nat)(f g:Nat->Int)(mv:Value)(m0 m1 m2 m3:Int)(w:World)(hv:jJ w bv (qZ n f))(hw:jJ w bw (qZ n g))(hne:bv≠bw)(hm:M4V w mv m0 m1 m2 m3)
  (hn:n<=1000000) (hcv:n<=capv) (hcv2:capv<=9223372036854775807) (hcw:n<=capw) (hcw2:capw<=9223372036854775807)
  (hS:zRa n f g m0 m1 m2 m3) (hms:Sm m0/\Sm m1/\Sm m2/\Sm m3):
  CPq fI #[.slice (some ⟨bv,0,none⟩) n capv,.slice (some ⟨bw,0,none⟩) n capw,mv] w fun e w'=>(∃u,e= .returned u)/\zB0 [bv,bw] w w'∧
   jJ w' bv (qZ n (fun t=>m0*f t+m1*g t))/\jJ w' bw (qZ n (fun t=>m2*f t+m3*g t)):=by
 have HS:=xgv hS;have HK:=xgv hms;have HM:=xgv hm;obtain⟨s0,a0,l0,c0,s1,a1,l1,c1,s2,a2,l2,c2,s3,a3,l3,c3,rfl,-⟩:=id hm;clear hS hms hm;have hlv:=hv.lt;have hlw:=hw.lt;obtain⟨F,hF⟩:∃F:Nat->Int,(fun t=>m0*f t+m1*g t)=F:=⟨_,rfl⟩;obtain⟨G,hG⟩:∃G:Nat->Int,(fun t=>m2*f t+m3*g t)=G:=⟨_,rfl⟩;rw[hF,hG];have HF:jZ (∀t,F t=m0*f t+m1*g t):=⟨fun t=>by rw[<-hF]⟩;have HG:jZ (∀t,G t=m2*f t+m3*g t):=⟨fun t=>by rw[<-hG]⟩;clear hF hG;rcases hfI with rfl|rfl
 all_goals
  first|go_enter Tryz.func204,Tryz.ntmps204|go_enter Tryz.func179,Tryz.ntmps179
  go_upto_region 1 with(fail)
  refine zD ?_;intro W0 hW0;obtain⟨hB0,bx,hs0⟩:=qL hW0;have hv0:=hv.below hB0;have hw0:=hw.below hB0;have hm0:=HM.out.ext (lx hB0);have hst:∀(a b:Nat->Int),qZ n a=qZ n (yQ b a 0):=fun a b=>qY fun t _=>by unfold yQ;rw[if_neg oM]
  rw[hst f F]at hv0;rw[hst g G]at hw0;have hO:=zB0.of [bv,bw] hB0;have HM0:=xgv hm0;clear hW0 hst hv hw hm0;go_wp2;go_loopw [11] (fun jv wr=>∃j:Nat,j<=n/\jv= .int .i64 j/\zB0 [bv,bw] w wr/\Blk wr w.heap.size 191 #[.bool s0,.slice a0 l0 c0,.bool s1,.slice a1 l1 c1,.bool s2,.slice a2 l2 c2,.bool s3,.slice a3 l3 c3]/\jZ (M4V wr (.agg #[.bool s0,.slice a0 l0 c0,.bool s1,.slice a1 l1 c1,.bool s2,.slice a2 l2 c2,.bool s3,.slice a3 l3 c3]) m0 m1 m2 m3)/\jJ wr bw (qZ n (yQ G g j))/\jJ wr bv (qZ n (yQ F f j))) (fun jv _=>n-(intOf jv).toNat)
  case atStart=>exact⟨0,oM,rfl,hO,bx,HM0,hw0,hv0⟩
  obtain⟨j,hj,rfl,hO,bx,HMr,hw,hv⟩:=hrel;by_cases hlt:j<n
  ·obtain⟨xs,xa,xl,xc,p1,p2,-,-,hx⟩:=hv.cell (yE hlt)
   obtain⟨ys,ya,yl,yc,q1,q2,-,-,hy⟩:=hw.cell (yE hlt);have hxf:yQ F f j j=f j:=by unfold yQ;rw[if_neg oM]
   have hyf:yQ G g j j=g j:=by unfold yQ;rw[if_neg oM]
   rw[hxf]at hx;rw[hyf]at hy;have hlw':=hw.lt;have hlv':=hv.lt;have hlb:=bx.lt;have hOsz:=hO.bel.size;go_upto_region 5 with(fail)
   refine zD ?_;intro W6 hW6;obtain⟨hB6,T7,T8,hs6⟩:=zAj hW6;have d1:=T7.two;have e1:=T8.two;have hO:=hO.trans (zB0.of [bv,bw] hB6);have bx:=bx.below hB6;have HMr:=xgv (HMr.out.ext (lx hB6));have hw:=hw.below hB6;have hv:=hv.below hB6;have hx:=hx.ext (lx hB6);have hy:=hy.ext (lx hB6);clear p1 p2 q1 q2 hW6;obtain⟨k0,k1,k2,k3,k4,k5,k6,k7⟩:=bx.eight;have lv:=hv.lt;have lb:=bx.lt;have l7:=T7.lt;have l8:=T8.lt;have HSJ:=xgv (HS.out j hlt);obtain⟨s0',a0',l0',c0',s1',a1',l1',c1',s2',a2',l2',c2',s3',a3',l3',c3',hee,i0,i1,i2,i3⟩:=HMr.out;injection hee with hee
   simp only[Array.mk.injEq,List.cons.injEq,Value.bool.injEq,Value.slice.injEq]at hee;obtain⟨rfl,⟨rfl,rfl,rfl⟩,rfl,⟨rfl,rfl,rfl⟩,rfl,⟨rfl,rfl,rfl⟩,rfl,⟨rfl,rfl,rfl⟩,-⟩:=hee;refine yP 14 [pcI 6 (m0*f j),pcI 11 (m1*g j),pcD 12 [6,11] (fun w v=>jY w v (m0*f j+m1*g j))] ?_;refine sRd ?_;refine sRc (fun wS hI Gk hG=>by go_simp;exact ck hG (zEE _ _ m0 (f j) _ (i0.ext hI.lext).weak (hx.ext hI.lext).weak HK.out.1 HSJ.out.1)) (fun va6 _=>?_);refine sRd ?_;refine sRc (fun wS hI Gk hG=>by go_simp;exact ck hG (zEE _ _ m1 (g j) _ (i1.ext hI.lext).weak (hy.ext hI.lext).weak HK.out.2.1 HSJ.out.2.1)) (fun va11 _=>?_);refine sRc (fun wS hI ha6 ha11 Gk hG=>by go_simp;exact ck hG (zH2 _ _ (m0*f j) (m1*g j) _ ha6.weak ha11.weak HSJ.out.2.2.1 HSJ.out.2.2.2.1)) (fun va12 _=>?_);refine sRd ?_;refine sRe ?_;intro w9 hbw9 ha6 ha11 ha12;obtain⟨pn,pa,pl,pc,px,rfl,hpx⟩:=id ha12;have HPX:=xgw hpx;clear hpx k0 k1 k2 k3 k4 k5 k6 k7 d1 e1;have hv9:=hv.below hbw9;obtain⟨zs,za,zl,zc,z1,z2,z3,z4,-⟩:=hv9.cell (yE hlt);have hl9:=hv9.lt;go_upto_region 6 with(fail)
   refine zD ?_;intro W10 hW10;obtain⟨hv10,hx10⟩:=hv9.set_at (k:=j) hW10 (by rw[qA];exact hlt) ha12;rw[zJC (HF.out j).symm]at hv10;have hO:=(hO.trans (zB0.of [bv,bw] hbw9)).trans (zB0.put_at hW10 sI hx10);have bx:=(bx.below hbw9).put_at hW10 oM;have T7:=(T7.below hbw9).put_at hW10 oM;have T8:=(T8.below hbw9).put_at hW10 oM;have hw:=(hw.below hbw9).put_at hW10 (qD hne) hx10;have hv:=hv10;have hx:=(hx.ext (lx hbw9)).ext hx10;have hy:=(hy.ext (lx hbw9)).ext hx10;have i0:=(i0.ext (lx hbw9)).ext hx10;have i1:=(i1.ext (lx hbw9)).ext hx10;have i2:=(i2.ext (lx hbw9)).ext hx10;have i3:=(i3.ext (lx hbw9)).ext hx10;clear z1 z2 z3 z4 hW10;obtain⟨k0,k1,k2,k3,k4,k5,k6,k7⟩:=bx.eight;have d1:=T7.two;have e1:=T8.two;have lw:=hw.lt;have lb:=bx.lt;have l7:=T7.lt;have l8:=T8.lt;refine yP 14 [pcI 6 (m2*f j),pcI 11 (m3*g j),pcD 12 [6,11] (fun w v=>jY w v (m2*f j+m3*g j))] ?_;refine sRd ?_;refine sRc (fun wS hI Gk hG=>by go_simp;exact ck hG (zEE _ _ m2 (f j) _ (i2.ext hI.lext).weak (hx.ext hI.lext).weak HK.out.2.2.1 HSJ.out.1)) (fun vb6 _=>?_);refine sRd ?_;refine sRc (fun wS hI Gk hG=>by go_simp;exact ck hG (zEE _ _ m3 (g j) _ (i3.ext hI.lext).weak (hy.ext hI.lext).weak HK.out.2.2.2 HSJ.out.2.1)) (fun vb11 _=>?_);refine sRc (fun wS hI hb6 hb11 Gk hG=>by go_simp;exact ck hG (zH2 _ _ (m2*f j) (m3*g j) _ hb6.weak hb11.weak HSJ.out.2.2.2.2.1 HSJ.out.2.2.2.2.2)) (fun vb12 _=>?_);refine sRd ?_;refine sRe ?_;intro w11 hbw11 hb6 hb11 hb12;obtain⟨pn,pa,pl,pc,px,rfl,hpx⟩:=id hb12;have HPX:=xgw hpx;clear hpx k0 k1 k2 k3 k4 k5 k6 k7 d1 e1;have hw9:=hw.below hbw11;obtain⟨zs,za,zl,zc,z1,z2,z3,z4,-⟩:=hw9.cell (yE hlt);have hl9:=hw9.lt;go_upto_region 7 with(fail)
   refine zD ?_;intro W12 hW12;obtain⟨hw12,hx12⟩:=hw9.set_at (k:=j) hW12 (by rw[qA];exact hlt) hb12;rw[zJC (HG.out j).symm]at hw12;have hO:=(hO.trans (zB0.of [bv,bw] hbw11)).trans (zB0.put_at hW12 sI hx12);have bx:=(bx.below hbw11).put_at hW12 oM;have hv:=(hv.below hbw11).put_at hW12 hne hx12;have i0:=(i0.ext (lx hbw11)).ext hx12;have i1:=(i1.ext (lx hbw11)).ext hx12;have i2:=(i2.ext (lx hbw11)).ext hx12;have i3:=(i3.ext (lx hbw11)).ext hx12;clear z1 z2 z3 z4 hW12;go_wp2;go_roundw
   case rel=>exact⟨j+1,oM,by simp,hO,bx,⟨⟨s0,a0,l0,c0,s1,a1,l1,c1,s2,a2,l2,c2,s3,a3,l3,c3,rfl,i0,i1,i2,i3⟩⟩,hw12,hv⟩
   case measure=>exact meq
  obtain rfl:j=n:=oM;have hq1:qZ j (yQ F f j)=qZ j F:=qY fun t ht=>by unfold yQ;rw[if_pos ht]
  have hq2:qZ j (yQ G g j)=qZ j G:=qY fun t ht=>by unfold yQ;rw[if_pos ht]
  rw[hq1]at hv;rw[hq2]at hw;go_wp2;exact bodyPost_end (results_none rfl _ _ _) rfl ⟨⟨_,rfl⟩,hO,hv,hw⟩
abbrev zRs:=zGv 204 (.inl rfl)
abbrev zQM:=zGv 179 (.inr rfl)
structure zCF(Z:Nat->Prop)(w:World)(As At Ai:Value)(n Cs Ct:Nat)(x:Bst):Prop where
 ex:∃bss bst bsi,zFo w As At Ai n Cs Ct bss bst bsi x.s x.t x.i/\(∀b,b∈bss∨b∈bst∨b∈bsi->Z b)
 own:∀g,As.ownBlock=some g∨At.ownBlock=some g∨Ai.ownBlock=some g->Z g
theorem zCF.below{x:Bst}(h:zCF Z w As At Ai n Cs Ct x)(hb:BWq w w'):zCF Z w' As At Ai n Cs Ct x:=by
 obtain⟨⟨bss,bst,bsi,⟨h1,h2,h3,h4,h5,h6,h7,h8,h9⟩,hz⟩,ho⟩:=h;exact⟨⟨bss,bst,bsi,⟨h1.below hb,h2.below hb,h3.below hb,h4,h5,h6,h7,h8,h9⟩,hz⟩,ho⟩
structure BSm(B:Nat):Prop where
 sm:∀z:Int,z.natAbs<B->Sm z
theorem zZ0(hB:BSm B){x:Bst}{kv:Value}{k:Int}(h:zCF Z w As At Ai n Cs Ct x)(hok:okB B n Cs Ct x)(hi:i<n)(hj:j<n)(hij:i≠j)(hk:jY w kv k)
  (hn:n<=1000000) (hCs:Cs<=1000000) (hCt:Ct<=1000000) (ha:zFd B n Cs Ct x i j k):
  CPq 200 #[.agg #[As,At,Ai],niq i,niq j,kv] w fun e w'=>(∃u,e= .returned u)/\qJ Z w w'/\zCF Z w' As At Ai n Cs Ct (x.add i j k):=by
 obtain⟨⟨bss,bst,bsi,hv,hz⟩,ho⟩:=h;obtain⟨a1,a2,a3,a4⟩:=ha;obtain⟨o1,o2,o3⟩:=hok;refine(zMI As At Ai n Cs Ct i j bss bst bsi x.s x.t x.i kv k w hv hi hj hij hk hn hCs hCt (fun t ht=>⟨hB.sm _ (o1 i hi t ht),hB.sm _ (o1 j hj t ht),hB.sm _ (a2 t ht)⟩) (fun t ht=>⟨hB.sm _ (o2 i hi t ht),hB.sm _ (o2 j hj t ht),hB.sm _ (a3 t ht).1⟩)
  (fun t ht=>⟨hB.sm _ (o3 j hj t ht),hB.sm _ (o3 i hi t ht),hB.sm _ (by rw[yA,zR];exact(a3 t ht).2)⟩) (hB.sm _ a1)).mono ?_
 rintro e w' ⟨hu,h1,h2,h3,h4⟩;exact⟨hu,⟨h1,h2,fun b hb hn=>h3 b hb (fun hh=>hn (hz b (.inl hh))) (fun hh=>hn (hz b (.inr (.inl hh)))) (fun hh=>hn (hz b (.inr (.inr hh))))⟩,⟨bss,bst,bsi,h4,hz⟩,ho⟩
theorem zRG{x:Bst}(h:zCF Z w As At Ai n Cs Ct x)(hi:i<n)(hj:j<n)(hn:n<=1000000):
  CPq 201 #[.agg #[As,At,Ai],niq i,niq j] w fun e w'=>(∃u,e= .returned u)/\qJ Z w w'/\zCF Z w' As At Ai n Cs Ct (x.swap i j):=by
 obtain⟨⟨bss,bst,bsi,hv,hz⟩,ho⟩:=h;have l1:=hv.s.len;have l2:=hv.t.len;have l3:=hv.i.len;refine(zMe As At Ai n Cs Ct i j bss bst bsi x.s x.t x.i w hv hi hj hn).mono ?_;rintro e w' ⟨hu,h1,h4⟩;refine⟨hu,h1.mono (fun b _ hb=>ho b hb),⟨_,_,_,h4,fun b hb=>hz b ?_⟩,ho⟩;rcases hb with hb|hb|hb
 exact .inl (zEN oM oM hb);exact .inr (.inl (zEN oM oM hb));exact .inr (.inr (zEN oM oM hb))
theorem zZ6(hB:BSm B){x:Bst}(h:zCF Z w As At Ai n Cs Ct x)(hok:okB B n Cs Ct x)(hi:i<n)(hn:n<=1000000)(hCs:Cs<=1000000)(hCt:Ct<=1000000):
  CPq 202 #[.agg #[As,At,Ai],niq i] w fun e w'=>(∃u,e= .returned u)/\qJ Z w w'/\zCF Z w' As At Ai n Cs Ct (x.neg i):=by
 obtain⟨⟨bss,bst,bsi,hv,hz⟩,ho⟩:=h;obtain⟨o1,o2,o3⟩:=hok;refine(zQr As At Ai n Cs Ct i bss bst bsi x.s x.t x.i w hv hi hn hCs hCt (fun a ha b hb=>hB.sm _ (o1 a ha b hb)) (fun a ha b hb=>hB.sm _ (o2 a ha b hb)) (fun a ha b hb=>hB.sm _ (o3 a ha b hb))).mono ?_;rintro e w' ⟨hu,h1,h4⟩;exact⟨hu,h1.mono (fun b _ hb=>hz b hb),⟨bss,bst,bsi,h4,hz⟩,ho⟩
theorem zCF.shape{x:Bst}(h:zCF Z w As At Ai n Cs Ct x):∃so sc uo tc io ic,As= .slice so n sc/\At= .slice uo n tc/\Ai= .slice io n ic/\n<=sc/\sc<=9223372036854775807/\(0<n->∃g,so=some ⟨g,0,none⟩):=by
 obtain⟨⟨bss,bst,bsi,hv,hz⟩,ho⟩:=h;obtain⟨so,sn,sc,e1,s1,s2,s3,-⟩:=id (qC.rows hv.s);obtain⟨uo,tn,tc,e2,t1,t2,t3,-⟩:=id (qC.rows hv.t);obtain⟨io,in_,ic,e3,i1,i2,i3,-⟩:=id (qC.rows hv.i);obtain rfl:n=sn:=by rw[<-s1];simp[genM]
 obtain rfl:n=tn:=by rw[<-t1];simp[genM]
 obtain rfl:n=in_:=by rw[<-i1];simp[genM]
 refine⟨so,sc,uo,tc,io,ic,e1,e2,e3,s2,s3,fun hn=>?_⟩;have hs:=hv.s;rw[e1]at hs;obtain⟨g,b,e,-⟩:=qC.at_ hs (i:=0) (by rw[hs.len];exact hn);exact⟨g,e⟩
theorem zCF.row{x:Bst}(h:zCF Z w (slq g n sc) At Ai n Cs Ct x)(hi:i<n):
  ∃b,w.cell? ⟨g,i,none⟩=some (slq b Cs Cs)/\jJ w b (qZ Cs (x.s i)):=by
 obtain⟨⟨bss,bst,bsi,hv,hz⟩,ho⟩:=h;obtain⟨g',b,e,hg,hb,hb2,o1,-⟩:=qC.at_ hv.s (i:=i) (by rw[hv.s.len];exact hi);injection e with e
 injection e with e
 subst e;exact⟨b,o1,hv.s.rowAt hi hb⟩
theorem zCF.glt{x:Bst}(h:zCF Z w (slq g n sc) At Ai n Cs Ct x)(hi:i<n):g<w.heap.size:=by
 obtain⟨⟨bss,bst,bsi,hv,hz⟩,ho⟩:=h;obtain⟨g',b,e,hg,-⟩:=qC.at_ hv.s (i:=i) (by rw[hv.s.len];exact hi);injection e with e
 injection e with e
 subst e;exact hg
theorem zOE(k:Nat)(zs:List Int):(zCL k zs=-1/\∀z∈zs,z=0)∨∃j,zCL k zs=((k+j:Nat):Int)/\j<zs.length/\zs.getD j 0≠0/\∀t,t<j->zs.getD t 0=0:=by
 induction zs generalizing k with
 |nil=>exact .inl ⟨rfl,fun z hz=>by cases hz⟩
 | cons z zs ih=>
  unfold zCL;by_cases hz:z=0
  ·rw[if_neg (by simp[hz])]
   rcases ih (k+1)with⟨h1,h2⟩|⟨j,h1,h2,h3,h4⟩
   ·refine .inl ⟨h1,fun y hy=>?_⟩
    rcases List.mem_cons.1 hy with rfl|hy
    exact hz;exact h2 y hy
   refine .inr ⟨j+1,by rw[h1];congr 1;omega,by simp;omega,by simpa using h3,fun t ht=>?_⟩;cases t with
   |zero=>simpa using hz
   |succ t=>simpa using h4 t oM
  rw[if_pos hz];exact .inr ⟨0,by simp,by simp,by simpa using hz,fun t ht=>oM⟩
theorem zMh(h:j<n):(qZ n f).getD j 0=f j:=by rw[xgb,yE h];rfl
theorem zCY(C:Nat)(F:Nat->Nat->Int)(i:Nat):(lead C F i=-1/\∀t,t<C->F i t=0)∨∃j:Nat,lead C F i=(j:Int)/\j<C/\F i j≠0/\∀t,t<j->F i t=0:=by
 unfold lead;rcases zOE 0 (qZ C (F i))with⟨h1,h2⟩|⟨j,h1,h2,h3,h4⟩
 exact .inl ⟨h1,fun t ht=>h2 _ (xgd (yE ht))⟩;rw[qA]at h2;rw[zMh h2]at h3;refine .inr ⟨j,by rw[h1];simp,h2,h3,fun t ht=>?_⟩;have:=h4 t ht;rwa[zMh oM]at this
theorem zHh(h:¬ lead C F i<0):∃c:Nat,lead C F i=(c:Int)/\c<C/\F i c≠0/\∀t,t<c->F i t=0:=by
 rcases zCY C F i with⟨h1,-⟩|h1
 omega;exact h1
noncomputable def leastOf (P:Nat->Prop):Nat:=open Classical in if h:∃f,P f/\∀g,P g->f<=g then h.choose else 0
theorem zPP:∀f,P f->∃f,P f/\∀g,P g->f<=g:=by
 intro f;induction f using Nat.strongRecOn with
 | _ f ih=>
  intro hf;by_cases h:∃g,g<f/\P g
  ·obtain⟨g,h1,h2⟩:=h
   exact ih g h1 h2
  refine⟨f,hf,fun g hg=>?_⟩;rcases zG g f with h3|h3
  exact absurd ⟨g,h3,hg⟩ h;exact h3
theorem zF6{f:Nat}(h:P f):P (leastOf P)/\∀g,P g->leastOf P<=g:=by
 have hx:∃f,P f/\∀g,P g->f<=g:=zPP f h;unfold leastOf;rw[dif_pos hx];exact hx.choose_spec
theorem zH9{f:Nat}(h:P f)(hf:f<n):leastOf P<n:=zK ((zF6 h).2 f h) hf
section
variable {P:Program} {a:Act} {w:World} {Q:Exit->Act->World->Prop}
theorem Exit.jump_ret{J:Act->World->Prop}:Exit.jump l J Q .ret a w=Q .ret a w:=rfl
theorem zG7{c rest:Code}(J:Act->World->Prop)(μ:Act->World->Nat)(hf:findLabel (c.seq ((Code.label l).seq rest)) l=some (Code.skip.seq rest))
  (first:c.wp P (fun e a w=>e= .normal/\J a w) a w)
  (pass:∀a w,J a w->rest.wp P (Exit.jump l (fun a' w'=>J a' w'/\μ a' w'<μ a w) Q) a w):(Code.scope (c.seq ((Code.label l).seq rest))).wp P Q a w:=by
 have key:∀a w,J a w->rest.wp P (Exit.jump l J Q) a w:=fun a w hJ=>wp_mono (pass a w hJ) (by
  intro e a' w' h;cases e<;>first|exact h|exact⟨h.1,h.2.1⟩)
 refine wp_scope_jumps l J μ hf ?_ ?_
 ·refine wp_seq (wp_mono first ?_)
  rintro e a' w' ⟨rfl,hJ⟩;exact wp_seq (wp_label (key _ _ hJ))
 intro a' w' hJ;exact wp_seq (wp_skip (pass a' w' hJ))
theorem zJ6{rest:Code}{l:Nat}(J:Act->World->Prop)(μ:Act->World->Nat)(first:J a w)
  (pass:∀a w,J a w->rest.wp P (Exit.jump l (fun a' w'=>J a' w'/\μ a' w'<μ a w) Q) a w):(Code.scope ((Code.label l).seq rest)).wp P Q a w:=by
 have key:∀a w,J a w->rest.wp P (Exit.jump l J Q) a w:=fun a w hJ=>wp_mono (pass a w hJ) (by
  intro e a' w' h;cases e<;>first|exact h|exact⟨h.1,h.2.1⟩)
 refine wp_scope_jumps (rest:=Code.skip.seq rest) l J μ (by simp[findLabel]) ?_ ?_;exact wp_seq (wp_label (key _ _ first));intro a' w' hJ;exact wp_seq (wp_skip (pass a' w' hJ))
end
def DMV(a b:Int):World->Value->Prop:=fun w v=>∃q r,v= .tuple #[q,r,niq 0]/\jY w q (a/b)/\jY w r (a%b)
theorem zLc(a b:Int):zH1 (DMV a b):=by
 intro w w' v e h;obtain⟨q,r,h1,h2,h3⟩:=h;exact⟨q,r,h1,h2.ext e,h3.ext e⟩
theorem zLR(v1 v2:Value)(z1 z2:Int)(w:World)(h1:zIp w v1 z1)(h2:zIp w v2 z2)(s1:Sm z1)(s2:Sm z2)(hz:z2≠0):
  CPq 162 #[v1,v2] w fun e w'=>∃v,e= .returned v/\DMV z1 z2 w' v/\BWq w w':=by
 refine(zDt v1 v2 z1 z2 w h1 h2 s1 s2 hz).mono ?_;rintro e w' ⟨v1,v2,rfl,h1,h2,h3⟩;exact⟨_,rfl,⟨v1,v2,rfl,h1,h2⟩,h3⟩
theorem zLq(h:okF B R C F)(hi:i<R)(hj:j<R):okF B R C (zHy F i j):=by
 intro a ha b hb;refine h _ ?_ b hb;unfold swp;split;exact hj;split;exact hi;exact ha
theorem zOQ(h:okF B R C F):okF B R C (zDV F i):=by
 intro a ha b hb;unfold zDV;split;rw[zR];exact h a ha b hb;exact h a ha b hb
theorem zEP{x:Bst}(h:okB B n Cs Ct x)(hi:i<n)(hj:j<n):okB B n Cs Ct (x.swap i j):=⟨zLq h.1 hi hj,zLq h.2.1 hi hj,zLq h.2.2 hi hj⟩
theorem zS3{x:Bst}(h:okB B n Cs Ct x):okB B n Cs Ct (x.neg i):=⟨zOQ h.1,zOQ h.2.1,zOQ h.2.2⟩
theorem zFd.ok{x:Bst}{k:Int}(h:zFd B n Cs Ct x i j k):okB B n Cs Ct (x.add i j k):=h.2.2.2
theorem zUY{c:Int}(h:¬ L k<c):adv L c m k=k:=by
 cases m with
 |zero=>rfl
 |succ m=>unfold adv;rw[if_neg h]
theorem zUX{c:Int}(hk:k<rank)(h:L k<c):adv L c (rank-k) k=adv L c (rank-(k+1)) (k+1):=by
 obtain⟨m,hm⟩:∃m,rank-k=m+1:=⟨rank-k-1,oM⟩;have e:rank-(k+1)=m:=oM;rw[hm,e];conv=>lhs;unfold adv
 rw[if_pos h]
theorem jY.two{x y:Value}(h:jY w (.agg #[x,y]) z):∃s a l c,x= .bool s/\y= .slice a l c:=by
 obtain⟨s,a,l,c,xs,e,-⟩:=id h;injection e with e
 simp only[Array.mk.injEq,List.cons.injEq]at e;exact⟨s,a,l,c,e.1,e.2.1⟩
theorem zJN(h:¬ z<0):0<=zAt z 0:=zDs h
theorem zPs{x:Bst}{ii jj:Int}(i j:Nat)(h:zCF Z w As At Ai n Cs Ct x)(hi:i<n)(hj:j<n)(hn:n<=1000000)(hii:ii=i)(hjj:jj=j):
  CPq 201 #[.agg #[As,At,Ai],niq ii,niq jj] w fun e w'=>(∃u,e= .returned u)/\qJ Z w w'/\zCF Z w' As At Ai n Cs Ct (x.swap i j):=by
 subst hii;subst hjj;exact zRG h hi hj hn
theorem zVi(hB:BSm B){x:Bst}{m rank ff:Nat}{y:Bst}{bb:Bool}(hZ:∀b,Z b->b<w.heap.size)(h:zCF Z w As At Ai n Cs Ct x)(hok:okB B n Cs Ct x)
  (hm:m<n) (hr:rank<=m) (hn:n<=1000000) (hCs:Cs<=1000000) (hCt:Ct<=1000000) (ht:zBy B n Cs Ct m rank ff 0 x=some (y,bb)):
  CPq 185 #[.agg #[As,At,Ai],niq m,niq rank] w fun e w'=>e= .returned (.bool bb)/\qJ Z w w'/\zCF Z w' As At Ai n Cs Ct y/\okB B n Cs Ct y:=by
 obtain⟨so,sc,uo,tc,io,ic,rfl,rfl,rfl,hsc,hsc2,hg⟩:=h.shape;obtain⟨g,rfl⟩:=hg oM;have HO0:=xgv (And.intro hok ht);have hrn:rank<n:=oM;clear hok ht hg;go_enter Tryz.func185,Tryz.ntmps185;go_wp2;refine zD ?_;intro W0 hW0;obtain⟨hB0,bx,hs0⟩:=qL hW0;have hz:=h.below hB0;have hO:=qJ.of Z hB0;clear hW0 h;obtain⟨JF,hJF⟩:∃JF:Nat->Act->World->Prop,∀f a' wt,JF f a' wt↔∃(k:Nat) (x':Bst) (u8 u9 u10 u11 u13 u14 u15 u16 u17 u18 u19 u20 u21 u22 u23 u24 u25 u26 u27 u28 u29 u30 u31 u32 u33 u34 u35 u36 u37 u38 u39 u40 u41 u42 u43 u44 u45 u46 u47 u48 u49 u50 u51 u52 u53 u54 u55 u56 u57 u58 u59 u60 u61 u62 u63 u64 u65 u66 u67 u68 u69 u70 u71 u72 u73 u74 u75 u76 u77 u78 u79 u80 u81 u82:Value),a'={tmps:=#[.agg #[slq g n sc,.slice uo n tc,.slice io n ic],niq m,niq rank,ptq w.heap.size 0,undef,undef,.bool false,niq k,u8,u9,u10,u11,undef,u13,u14,u15,u16,u17,u18,u19,u20,u21,u22,u23,u24,u25,u26,u27,u28,u29,u30,u31,u32,u33,u34,u35,u36,u37,u38,u39,u40,u41,u42,u43,u44,u45,u46,u47,u48,u49,u50,u51,u52,u53,u54,u55,u56,u57,u58,u59,u60,u61,u62,u63,u64,u65,u66,u67,u68,u69,u70,u71,u72,u73,u74,u75,u76,u77,u78,u79,u80,u81,u82,undef,undef,undef,undef,undef,undef,undef,undef,undef,undef,undef,undef,undef,undef,undef,undef,undef,undef,undef,undef,undef,undef,undef,undef,undef,undef,undef,undef],defers:=[]}/\k<=rank∧
  qJ Z w wt/\Blk wt w.heap.size 176 #[slq g n sc,.slice uo n tc,.slice io n ic]/\zCF Z wt (slq g n sc) (.slice uo n tc) (.slice io n ic) n Cs Ct x'/\jZ (okB B n Cs Ct x'/\zBy B n Cs Ct m rank f k x'=some (y,bb)):=⟨_,fun _ _ _=>zAV⟩
 have HJF:=xgv hJF;clear hJF;refine zG7 (fun a' wt=>∃f,JF f a' wt) (fun a' wt=>leastOf (fun f=>JF f a' wt)) rfl ?_ ?_
 ·go_wp2
  exact⟨ff,(HJF.out _ _ _).2 ⟨0,x,_,_,_,_,_,_,_,_,_,_,_,_,_,_,_,_,_,_,_,_,_,_,_,_,_,_,_,_,_,_,_,_,_,_,_,_,_,_,_,_,_,_,_,_,_,_,_,_,_,_,_,_,_,_,_,_,_,_,_,_,_,_,_,_,_,_,_,_,_,_,_,_,_,_,rfl,zE _,hO,bx,hz,HO0⟩⟩
 intro a' wr hJ;obtain⟨f1,hJ⟩:=hJ;replace hJ:=(zF6 (P:=fun f=>JF f a' wr) hJ).1;generalize leastOf (fun f=>JF f a' wr)=f0 at hJ ⊢
 rw[HJF.out]at hJ;obtain⟨k,x',u8,u9,u10,u11,u13,u14,u15,u16,u17,u18,u19,u20,u21,u22,u23,u24,u25,u26,u27,u28,u29,u30,u31,u32,u33,u34,u35,u36,u37,u38,u39,u40,u41,u42,u43,u44,u45,u46,u47,u48,u49,u50,u51,u52,u53,u54,u55,u56,u57,u58,u59,u60,u61,u62,u63,u64,u65,u66,u67,u68,u69,u70,u71,u72,u73,u74,u75,u76,u77,u78,u79,u80,u81,u82,rfl,hk,hO,bx,hz,hox⟩:=hJ;obtain⟨hok,ht⟩:=hox.out;clear HO0 hox;cases f0 with
 |zero=>cases ht
 | succ f=>
  unfold zBy at ht;obtain⟨bm,o1,hrow⟩:=hz.row hm;have c1:=bx.three;have HOK:=xgv hok;have HT0:=xgv ht;clear hok ht;go_wp2_with fail
  refine(zFX _ (qZ Cs (x'.s m)) _ (hrow.vec (qA _ _) (xgf _) oM)).mono ?_;rintro e w1 ⟨rfl,hb1⟩;have ht:=HT0.out;clear HT0;have hz:=hz.below hb1;have bx:=bx.below hb1;have hO:=hO.trans (qJ.of Z hb1);clear o1 hrow c1;by_cases hneg:lead Cs x'.s m<0
  ·rw[if_pos hneg]at ht
   injection ht with ht
   injection ht with ht1 ht2
   subst ht1;subst ht2;have hL:zCL 0 (qZ Cs (x'.s m))=-1:=by
    rcases zCY Cs x'.s m with⟨h1,-⟩|⟨j,h1,-⟩
    exact h1;omega
   rw[hL];have HOK':=HOK;clear hneg hL;go_wp2;rw[Exit.jump_ret];go_ret;exact⟨rfl,hO,hz,HOK.out⟩
  rw[if_neg hneg]at ht;obtain⟨c,hLc,hcC,-,-⟩:=zHh hneg;have hL:zCL 0 (qZ Cs (x'.s m))=(c:Int):=hLc;rw[hL];rw[hLc,zBi]at ht;have HT:=xgv ht;have HLC:=xgv hLc;clear ht hneg hL hLc;go_wp2;go_loopw [7] (fun kv wt=>∃k':Nat,kv=niq k'/\k'<=rank/\BWq w1 wt/\jZ (adv (lead Cs x'.s) (c:Int) (rank-k) k=adv (lead Cs x'.s) (c:Int) (rank-k') k')) (fun kv _=>rank-(intOf kv).toNat)
  case atStart=>exact⟨k,rfl,hk,zA _ _,⟨rfl⟩⟩
  rename World=>wt
  obtain⟨k',rfl,hk',hb2,hadv⟩:=hrel;have hz:=hz.below hb2;have bx:=bx.below hb2;have hO:=hO.trans (qJ.of Z hb2);by_cases hkr:k'<rank
  ·obtain⟨bk,o2,hrowk⟩:=hz.row (i:=k') oM
   have c1:=bx.three;go_wp2_with fail
   refine(zFX _ (qZ Cs (x'.s k')) _ (hrowk.vec (qA _ _) (xgf _) oM)).mono ?_;rintro e w3 ⟨rfl,hb3⟩;have hz:=hz.below hb3;have bx:=bx.below hb3;have hO:=hO.trans (qJ.of Z hb3);clear o2 hrowk c1;obtain⟨L,hL⟩:∃L,zCL 0 (qZ Cs (x'.s k'))=L:=⟨_,rfl⟩;have hLk:lead Cs x'.s k'=L:=hL;rw[hL];by_cases hlt:L<(c:Int)
   ·go_wp2
    go_roundw
    case rel=>exact⟨k'+1,by simp,oM,nx hb2 hb3,⟨hadv.out.trans (zUX hkr (by rw[hLk];exact hlt))⟩⟩
    case measure=>exact meq
   have ht:=HT.out;rw[hadv.out,zUY (by rw[hLk];exact hlt)]at ht;clear HT;obtain⟨bk,o2,hrowk⟩:=hz.row (i:=k') oM;have c1:=bx.three;have HT:=xgv ht;clear ht;go_wp2_with fail
   refine(zFX _ (qZ Cs (x'.s k')) _ (hrowk.vec (qA _ _) (xgf _) oM)).mono ?_;rintro e w4 ⟨rfl,hb4⟩;have hz:=hz.below hb4;have bx:=bx.below hb4;have hO:=hO.trans (qJ.of Z hb4);have ht:=HT.out;have hok:=HOK.out;clear o2 hrowk c1 HT;rw[hL];by_cases heq:L=(c:Int)
   ·subst heq
    rw[if_pos ⟨hkr,hLk⟩]at ht;have hne0:x'.s k' c≠0:=by
     rcases zCY Cs x'.s k' with⟨h1,-⟩|⟨j,h1,-,h3,-⟩
     omega;obtain rfl:j=c:=oM;exact h3
    by_cases hadd:zFd B n Cs Ct x' m k' (-(x'.s m c/x'.s k' c))
    ·rw[if_pos hadd]at ht
     have HT:=xgv ht;have HADD:=xgv hadd;have SX:jZ (Sm (x'.s m c)):=⟨hB.sm _ (hok.1 m hm c hcC)⟩;have SY:jZ (Sm (x'.s k' c)):=⟨hB.sm _ (hok.1 k' oM c hcC)⟩;have SQ:jZ (Sm (x'.s m c/x'.s k' c)):=⟨hB.sm _ (by have:=hadd.1;rwa[zR]at this)⟩;clear ht hadd hok;obtain⟨bm,o1,hrow⟩:=hz.row hm;obtain⟨bk,o2,hrowk⟩:=hz.row (i:=k') oM;have c1:=bx.three;obtain⟨xs,xa,xl,xc,v1,v2,-,-,hx⟩:=hrow.cell (yE hcC);obtain⟨ys,ya,yl,yc,r1,r2,-,-,hy⟩:=hrowk.cell (yE hcC);have hlast:=zLc (x'.s m c) (x'.s k' c);have l0:=bx.lt;have l1:=hrow.lt;have l2:=hrowk.lt;have lg:=hz.glt hm;have HNE:=xgv hne0;have hkn:k'<n:=oM;clear hne0 hadv;go_upto_region 8 with(fail)
     refine zBl [pcD 16 [] (DMV (x'.s m c) (x'.s k' c)),pcD 17 [16] (DMV (x'.s m c) (x'.s k' c)),pcD 18 [17] (fun w v=>jY w v (x'.s m c/x'.s k' c)),pcD 19 [17] (fun w v=>jY w v (x'.s m c%x'.s k' c)),pcD 20 [17] (fun _ v=>v=niq 0),pbA 21 43 2,pbA 22 43 2,pbS 23 21 43 2,pbS 24 22 43 2] ?_;refine sRd ?_;refine sRc (fun wS hI Gk hG=>by go_simp;exact ck hG (zLR _ _ (x'.s m c) (x'.s k' c) _ (hx.ext hI.lext).weak (hy.ext hI.lext).weak SX.out SY.out HNE.out)) (fun va16 _=>?_);refine sRc (fun wS hI ha16 Gk hG=>?_) (fun va17 _=>?_)
     ·go_simp
      exact⟨hG _ _ ha16,zA _ _⟩
     refine sRc (fun wS hI ha17 Gk hG=>?_) (fun va18 hv=>?_)
     ·obtain⟨q,r,rfl,hq,hr⟩:=ha17
      go_simp;exact⟨hG _ _ hq,zA _ _⟩
     obtain⟨xa21,ya21,rfl,qa21⟩:=zL7 hv;clear hv;refine sRc (fun wS hI ha17 Gk hG=>?_) (fun va19 hv=>?_)
     ·obtain⟨q,r,rfl,hq,hr⟩:=ha17
      go_simp;exact⟨hG _ _ hr,zA _ _⟩
     obtain⟨xa22,ya22,rfl,qa22⟩:=zL7 hv;clear hv;refine sRc (fun wS hI ha17 Gk hG=>?_) (fun _ hv=>?_)
     ·obtain⟨q,r,rfl,hq,hr⟩:=ha17
      go_simp;exact⟨hG _ _ rfl,zA _ _⟩
     obtain⟨_,-,rfl⟩:=hv;refine sRa (cs:=#[.bool false,.slice none 0 0]) fun ca21 ga21=>?_
     refine sRa (cs:=#[.bool false,.slice none 0 0]) fun ca22 ga22=>?_
     refine sRs ca21 (.agg #[xa21,ya21]) ?_ qa21;refine sRs ca22 (.agg #[xa22,ya22]) ?_ qa22;refine sRd ?_;refine sRb ?_;simp only[FA,FC,FN,ptr,List.nil_append,List.cons_append,Act.put,xgh,xgi,xgj];intro w9 hbw9 ha16 ha17 ha18 ha19 _ ka21 ka22 na21 na22;replace ka21:Blk w9 ca21 43 #[xa21,ya21]:=ka21 _ rfl;have ia21:=ha18;replace ka22:Blk w9 ca22 43 #[xa22,ya22]:=ka22 _ rfl;have ia22:=ha19;have na21_22:ca21≠ca22:=na21 (22,ca22) sI;clear na21 na22;obtain⟨qs,qa,ql,qc,rfl,rfl⟩:=ia21.two;obtain⟨rs,ra,rl,rc,rfl,rfl⟩:=ia22.two;have hz:=hz.below hbw9;have bx:=bx.below hbw9;have hO:=hO.trans (qJ.of Z hbw9);have lq:=ka21.lt;have lr:=ka22.lt;have hsz4:=hbw9.size;clear o1 o2 c1 v1 v2 r1 r2;have c1:=bx.three;have d1:=ka21.two;have l0:=bx.lt;go_upto_region 9 with(fail)
     refine yP 5 [pcI 4 (-(x'.s m c/x'.s k' c))] ?_;refine sRd ?_;refine sRc (fun wS hI Gk hG=>by go_simp;exact ck hG (zBY _ (x'.s m c/x'.s k' c) _ (ia21.ext hI.lext).weak SQ.out)) (fun vy4 _=>?_);refine sRe ?_;intro w11 hbw11 hy4;have hz:=hz.below hbw11;have bx:=bx.below hbw11;have hO:=hO.trans (qJ.of Z hbw11);have hsz11:=hbw11.size;clear c1 d1;go_wp2_with fail
     refine(zZ0 hB hz HOK.out hm hkn oM hy4 hn hCs hCt HADD.out).mono ?_;rintro e w12 ⟨⟨uu12,rfl⟩,hO12,hz⟩;have hok:=HADD.out.ok;have hO:=hO.trans hO12;have bx:=hO12.blk bx (fun hh=>by have:=hZ _ hh;omega);have k22:=hO12.blk (ka22.below hbw11) (fun hh=>by have:=hZ _ hh;omega);have ir:=(ia22.ext (lx hbw11)).ext hO12.lext;have e1:=k22.two;have HOK2:=xgv hok;clear hok;go_wp2_with fail
     refine(zAi _ (x'.s m c%x'.s k' c) _ ir.weak).mono ?_;rintro e w13 ⟨rfl,hb13⟩;have hz:=hz.below hb13;have bx:=bx.below hb13;have hO:=hO.trans (qJ.of Z hb13);clear e1;by_cases hr0:x'.s m c%x'.s k' c=0
     ·rw[zBd hr0]
      rw[if_pos hr0]at HT;clear hr0;go_wp2;go_step3;refine⟨rfl,⟨f,(HJF.out _ _ _).2 ⟨k',x'.add m k' (-(x'.s m c/x'.s k' c)),_,_,_,_,_,_,_,_,_,_,_,_,_,_,_,_,_,_,_,_,_,_,_,_,_,_,_,_,_,_,_,_,_,_,_,_,_,_,_,_,_,_,_,_,_,_,_,_,_,_,_,_,_,_,_,_,_,_,_,_,_,_,_,_,_,_,_,_,_,_,_,_,_,_,rfl,zAp hkr,hO,bx,hz,⟨HOK2.out,HT.out⟩⟩⟩,zH9 ((HJF.out _ _ _).2 ⟨k',x'.add m k' (-(x'.s m c/x'.s k' c)),_,_,_,_,_,_,_,_,_,_,_,_,_,_,_,_,_,_,_,_,_,_,_,_,_,_,_,_,_,_,_,_,_,_,_,_,_,_,_,_,_,_,_,_,_,_,_,_,_,_,_,_,_,_,_,_,_,_,_,_,_,_,_,_,_,_,_,_,_,_,_,_,_,_,rfl,zAp hkr,hO,bx,hz,⟨HOK2.out,HT.out⟩⟩) (zAq f)⟩
     have hc:=zCr hr0;obtain⟨k0,hk0⟩:∃k0,zAt (x'.s m c%x'.s k' c) 0=k0:=⟨_,rfl⟩;rw[hk0]at hc ⊢
     rw[if_neg hr0]at HT;clear hk0 hr0;have c1:=bx.three;go_wp2_with fail
     refine(zRG hz hm hkn hn).mono ?_;rintro e w14 ⟨⟨uu14,rfl⟩,hO14,hz⟩;have HOK2:=xgv (zEP HOK2.out hm hkn);have hO:=hO.trans hO14;have bx:=hO14.blk bx (fun hh=>by have:=hZ _ hh;omega);go_wp2;go_step3;refine⟨rfl,⟨f,(HJF.out _ _ _).2 ⟨k',(x'.add m k' (-(x'.s m c/x'.s k' c))).swap m k',_,_,_,_,_,_,_,_,_,_,_,_,_,_,_,_,_,_,_,_,_,_,_,_,_,_,_,_,_,_,_,_,_,_,_,_,_,_,_,_,_,_,_,_,_,_,_,_,_,_,_,_,_,_,_,_,_,_,_,_,_,_,_,_,_,_,_,_,_,_,_,_,_,_,rfl,zAp hkr,hO,bx,hz,⟨HOK2.out,HT.out⟩⟩⟩,zH9 ((HJF.out _ _ _).2 ⟨k',(x'.add m k' (-(x'.s m c/x'.s k' c))).swap m k',_,_,_,_,_,_,_,_,_,_,_,_,_,_,_,_,_,_,_,_,_,_,_,_,_,_,_,_,_,_,_,_,_,_,_,_,_,_,_,_,_,_,_,_,_,_,_,_,_,_,_,_,_,_,_,_,_,_,_,_,_,_,_,_,_,_,_,_,_,_,_,_,_,_,rfl,zAp hkr,hO,bx,hz,⟨HOK2.out,HT.out⟩⟩) (zAq f)⟩
    rw[if_neg hadd]at ht;cases ht
   have hno:¬ (k'<rank/\lead Cs x'.s k'=(c:Int)):=fun hh=>heq (hLk.symm.trans hh.2)
   rw[if_neg hno]at ht;injection ht with ht
   injection ht with ht1 ht2
   subst ht2;have HT:=xgv ht1;clear ht1 hno;have c1:=bx.three;obtain⟨bm,o1,hrow⟩:=hz.row hm;obtain⟨zs,za,zl,zc,v1,v2,-,-,hv⟩:=hrow.cell (yE hcC);go_wp2_with fail
   refine(zAi _ (x'.s m c) _ hv.weak).mono ?_;rintro e w5 ⟨rfl,hb5⟩;have hz:=hz.below hb5;have bx:=bx.below hb5;have hO:=hO.trans (qJ.of Z hb5);clear v1 v2 o1 hrow hv c1;obtain⟨x2,hx2⟩:∃x2:Bst,x2=(if x'.s m c<0 then x'.neg m else x'):=⟨_,rfl⟩;rw[<-hx2]at HT;by_cases hneg:x'.s m c<0
   ·rw[zBc hneg]
    rw[if_pos hneg]at hx2;have c1:=bx.three;go_wp2_with fail
    refine(zZ6 hB hz hok hm hn hCs hCt).mono ?_;rintro e w6 ⟨⟨uu,rfl⟩,hO6,hz⟩;have hok:=zS3 (i:=m) hok;rw[<-hx2]at hz hok;have hO:=hO.trans hO6;have bx:=hO6.blk bx (fun hh=>by have:=hZ _ hh;omega);clear c1 hx2 hneg;have c1:=bx.three;go_wp2_with fail
    refine(zRG hz hm hrn hn).mono ?_;rintro e w7 ⟨⟨uu7,rfl⟩,hO7,hz⟩;have hok:=zEP hok hm hrn;have hO:=hO.trans hO7;have bx:=hO7.blk bx (fun hh=>by have:=hZ _ hh;omega);have HOK:=xgv hok;clear c1 hok;go_wp2;go_loopw [12] (fun iv wt=>∃(i:Nat) (xi:Bst),iv=niq i/\k'<=i/\i<=rank/\qJ Z w wt/\Blk wt w.heap.size 176 #[slq g n sc,.slice uo n tc,.slice io n ic]/\zCF Z wt (slq g n sc) (.slice uo n tc) (.slice io n ic) n Cs Ct xi/\jZ (okB B n Cs Ct xi/\zWX k' (i-k') xi=y)) (fun iv _=>(intOf iv).toNat)
    case atStart=>exact⟨rank,_,rfl,hk',xgf _,hO,bx,hz,⟨⟨HOK.out,HT.out⟩⟩⟩
    rename World=>wv
    obtain⟨i,xi,rfl,hi1,hi2,hO,bx,hz,hx⟩:=hrel;have c1:=bx.three;by_cases hik:k'<i
    ·obtain⟨p,rfl⟩:∃p,i=k'+p+1:=⟨i-k'-1,oM⟩
     go_wp2_with fail
     refine(zPs (k'+p+1) (k'+p) hz oM oM hn oM oM).mono ?_;rintro e w8 ⟨⟨uu8,rfl⟩,hO8,hz⟩;have bx:=hO8.blk bx (fun hh=>by have:=hZ _ hh;omega);go_wp2;go_roundw
     case rel=>
      refine⟨k'+p,_,?_,oM,oM,hO.trans hO8,bx,hz,⟨⟨zEP hx.out.1 oM oM,?_⟩⟩⟩
      ·first|(simp;done)|(congr 1;omega)
      have h3:=hx.out.2;rw[show k'+p+1-k'=p+1 by omega]at h3;rw[show k'+p-k'=p by omega];exact h3
     case measure=>exact meq
    obtain rfl:i=k':=oM;have h3:=hx.out.2;rw[jW]at h3;have HX3:=xgv (show xi=y from h3);clear h3;go_wp2;rw[Exit.jump_ret];go_ret;exact⟨rfl,hO,by rw[<-HX3.out];exact hz,by rw[<-HX3.out];exact hx.out.1⟩
   rw[if_neg hneg]at hx2;rw[<-hx2]at hz hok;have hc:=zJN hneg;obtain⟨k0,hk0⟩:∃k0,zAt (x'.s m c) 0=k0:=⟨_,rfl⟩;rw[hk0]at hc ⊢
   clear hx2 hk0 hneg;have c1:=bx.three;go_wp2_with fail
   refine(zRG hz hm hrn hn).mono ?_;rintro e w7 ⟨⟨uu7,rfl⟩,hO7,hz⟩;have hok:=zEP hok hm hrn;have hO:=hO.trans hO7;have bx:=hO7.blk bx (fun hh=>by have:=hZ _ hh;omega);have HOK:=xgv hok;clear c1 hok;go_wp2;go_loopw [12] (fun iv wt=>∃(i:Nat) (xi:Bst),iv=niq i/\k'<=i/\i<=rank/\qJ Z w wt/\Blk wt w.heap.size 176 #[slq g n sc,.slice uo n tc,.slice io n ic]/\zCF Z wt (slq g n sc) (.slice uo n tc) (.slice io n ic) n Cs Ct xi/\jZ (okB B n Cs Ct xi/\zWX k' (i-k') xi=y)) (fun iv _=>(intOf iv).toNat)
   case atStart=>exact⟨rank,_,rfl,hk',xgf _,hO,bx,hz,⟨⟨HOK.out,HT.out⟩⟩⟩
   rename World=>wv
   obtain⟨i,xi,rfl,hi1,hi2,hO,bx,hz,hx⟩:=hrel;have c1:=bx.three;by_cases hik:k'<i
   ·obtain⟨p,rfl⟩:∃p,i=k'+p+1:=⟨i-k'-1,oM⟩
    go_wp2_with fail
    refine(zPs (k'+p+1) (k'+p) hz oM oM hn oM oM).mono ?_;rintro e w8 ⟨⟨uu8,rfl⟩,hO8,hz⟩;have bx:=hO8.blk bx (fun hh=>by have:=hZ _ hh;omega);go_wp2;go_roundw
    case rel=>
     refine⟨k'+p,_,?_,oM,oM,hO.trans hO8,bx,hz,⟨⟨zEP hx.out.1 oM oM,?_⟩⟩⟩
     ·first|(simp;done)|(congr 1;omega)
     have h3:=hx.out.2;rw[show k'+p+1-k'=p+1 by omega]at h3;rw[show k'+p-k'=p by omega];exact h3
    case measure=>exact meq
   obtain rfl:i=k':=oM;have h3:=hx.out.2;rw[jW]at h3;have HX3:=xgv (show xi=y from h3);clear h3;go_wp2;rw[Exit.jump_ret];go_ret;exact⟨rfl,hO,by rw[<-HX3.out];exact hz,by rw[<-HX3.out];exact hx.out.1⟩
  have ht:=HT.out;have hA:adv (lead Cs x'.s) (c:Int) (rank-k') k'=k':=by rw[show rank-k'=0 by omega];rfl
  rw[hadv.out,hA]at ht;have hok:=HOK.out;have hno:¬ (k'<rank/\lead Cs x'.s k'=(c:Int)):=fun hh=>hkr hh.1
  clear HT hA;go_upto_region 12 with(fail)
  clear hkr;rw[if_neg hno]at ht;injection ht with ht
  injection ht with ht1 ht2
  subst ht2;have HT:=xgv ht1;clear ht1 hno;have c1:=bx.three;obtain⟨bm,o1,hrow⟩:=hz.row hm;obtain⟨zs,za,zl,zc,v1,v2,-,-,hv⟩:=hrow.cell (yE hcC);go_wp2_with fail
  refine(zAi _ (x'.s m c) _ hv.weak).mono ?_;rintro e w5 ⟨rfl,hb5⟩;have hz:=hz.below hb5;have bx:=bx.below hb5;have hO:=hO.trans (qJ.of Z hb5);clear v1 v2 o1 hrow hv c1;obtain⟨x2,hx2⟩:∃x2:Bst,x2=(if x'.s m c<0 then x'.neg m else x'):=⟨_,rfl⟩;rw[<-hx2]at HT;by_cases hneg:x'.s m c<0
  ·rw[zBc hneg]
   rw[if_pos hneg]at hx2;have c1:=bx.three;go_wp2_with fail
   refine(zZ6 hB hz hok hm hn hCs hCt).mono ?_;rintro e w6 ⟨⟨uu,rfl⟩,hO6,hz⟩;have hok:=zS3 (i:=m) hok;rw[<-hx2]at hz hok;have hO:=hO.trans hO6;have bx:=hO6.blk bx (fun hh=>by have:=hZ _ hh;omega);clear c1 hx2 hneg;have c1:=bx.three;go_wp2_with fail
   refine(zRG hz hm hrn hn).mono ?_;rintro e w7 ⟨⟨uu7,rfl⟩,hO7,hz⟩;have hok:=zEP hok hm hrn;have hO:=hO.trans hO7;have bx:=hO7.blk bx (fun hh=>by have:=hZ _ hh;omega);have HOK:=xgv hok;clear c1 hok;go_wp2;go_loopw [12] (fun iv wt=>∃(i:Nat) (xi:Bst),iv=niq i/\k'<=i/\i<=rank/\qJ Z w wt/\Blk wt w.heap.size 176 #[slq g n sc,.slice uo n tc,.slice io n ic]/\zCF Z wt (slq g n sc) (.slice uo n tc) (.slice io n ic) n Cs Ct xi/\jZ (okB B n Cs Ct xi/\zWX k' (i-k') xi=y)) (fun iv _=>(intOf iv).toNat)
   case atStart=>exact⟨rank,_,rfl,hk',xgf _,hO,bx,hz,⟨⟨HOK.out,HT.out⟩⟩⟩
   rename World=>wv
   obtain⟨i,xi,rfl,hi1,hi2,hO,bx,hz,hx⟩:=hrel;have c1:=bx.three;by_cases hik:k'<i
   ·obtain⟨p,rfl⟩:∃p,i=k'+p+1:=⟨i-k'-1,oM⟩
    go_wp2_with fail
    refine(zPs (k'+p+1) (k'+p) hz oM oM hn oM oM).mono ?_;rintro e w8 ⟨⟨uu8,rfl⟩,hO8,hz⟩;have bx:=hO8.blk bx (fun hh=>by have:=hZ _ hh;omega);go_wp2;go_roundw
    case rel=>
     refine⟨k'+p,_,?_,oM,oM,hO.trans hO8,bx,hz,⟨⟨zEP hx.out.1 oM oM,?_⟩⟩⟩
     ·first|(simp;done)|(congr 1;omega)
     have h3:=hx.out.2;rw[show k'+p+1-k'=p+1 by omega]at h3;rw[show k'+p-k'=p by omega];exact h3
    case measure=>exact meq
   obtain rfl:i=k':=oM;have h3:=hx.out.2;rw[jW]at h3;have HX3:=xgv (show xi=y from h3);clear h3;go_wp2;rw[Exit.jump_ret];go_ret;exact⟨rfl,hO,by rw[<-HX3.out];exact hz,by rw[<-HX3.out];exact hx.out.1⟩
  rw[if_neg hneg]at hx2;rw[<-hx2]at hz hok;have hc:=zJN hneg;obtain⟨k0,hk0⟩:∃k0,zAt (x'.s m c) 0=k0:=⟨_,rfl⟩;rw[hk0]at hc ⊢
  clear hx2 hk0 hneg;have c1:=bx.three;go_wp2_with fail
  refine(zRG hz hm hrn hn).mono ?_;rintro e w7 ⟨⟨uu7,rfl⟩,hO7,hz⟩;have hok:=zEP hok hm hrn;have hO:=hO.trans hO7;have bx:=hO7.blk bx (fun hh=>by have:=hZ _ hh;omega);have HOK:=xgv hok;clear c1 hok;go_wp2;go_loopw [12] (fun iv wt=>∃(i:Nat) (xi:Bst),iv=niq i/\k'<=i/\i<=rank/\qJ Z w wt/\Blk wt w.heap.size 176 #[slq g n sc,.slice uo n tc,.slice io n ic]/\zCF Z wt (slq g n sc) (.slice uo n tc) (.slice io n ic) n Cs Ct xi/\jZ (okB B n Cs Ct xi/\zWX k' (i-k') xi=y)) (fun iv _=>(intOf iv).toNat)
  case atStart=>exact⟨rank,_,rfl,hk',xgf _,hO,bx,hz,⟨⟨HOK.out,HT.out⟩⟩⟩
  rename World=>wv
  obtain⟨i,xi,rfl,hi1,hi2,hO,bx,hz,hx⟩:=hrel;have c1:=bx.three;by_cases hik:k'<i
  ·obtain⟨p,rfl⟩:∃p,i=k'+p+1:=⟨i-k'-1,oM⟩
   go_wp2_with fail
   refine(zPs (k'+p+1) (k'+p) hz oM oM hn oM oM).mono ?_;rintro e w8 ⟨⟨uu8,rfl⟩,hO8,hz⟩;have bx:=hO8.blk bx (fun hh=>by have:=hZ _ hh;omega);go_wp2;go_roundw
   case rel=>
    refine⟨k'+p,_,?_,oM,oM,hO.trans hO8,bx,hz,⟨⟨zEP hx.out.1 oM oM,?_⟩⟩⟩
    ·first|(simp;done)|(congr 1;omega)
    have h3:=hx.out.2;rw[show k'+p+1-k'=p+1 by omega]at h3;rw[show k'+p-k'=p by omega];exact h3
   case measure=>exact meq
  obtain rfl:i=k':=oM;have h3:=hx.out.2;rw[jW]at h3;have HX3:=xgv (show xi=y from h3);clear h3;go_wp2;rw[Exit.jump_ret];go_ret;exact⟨rfl,hO,by rw[<-HX3.out];exact hz,by rw[<-HX3.out];exact hx.out.1⟩
abbrev tN:TypeId:=3
theorem Tryz.infoN:(Tryz.prog.info? tN).map (fun i=>(i.zero,i.size,i.bytes))=some (some (niq 0),1,8):=by kernel_rfl
def zBg(n:Nat)(g:Nat->Int):Array Value:=((List.range n).map fun i=>Value.int .i64 (g i)).toArray
theorem zER{g:Nat->Int}(h:i<n):(zBg n g)[i]?=some (niq (g i)):=by simp[zBg,h]
theorem zKT{g:Nat->Int}:(zBg n g).setIfInBounds i (niq z)=zBg n (fun t=>if t=i then z else g t):=by
 apply zCM;simp[zBg];intro a h1 h2;by_cases e:a=i
 ·subst e;simp[zBg]
 have:i≠a:=fun h=>e h.symm
 simp[zBg,this,e]
theorem zZZ(n:Nat):madeCells (Value.int .i64 0).cells (n*1)=zBg n (fun _=>0):=by
 apply zCM;simp[madeCells,zBg];intro i h1 h2;simp[madeCells,zBg,Nat.mod_one,Value.cells]
theorem mkN(m:Int)(n:Nat)(hm:m=n)(h:n<=1099511627776)(W:World):
  (Instr.makeSlice 96 (niq m) (niq m)).run Tryz.prog W= .ok (slq W.heap.size n n) (W.alloc (.cells (zBg n (fun _=>0)) tN)):=by
 subst hm;obtain⟨i0,hi,hz0,hz1,hz2⟩:=info_parts Tryz.infoN;have:=zCW (P:=Tryz.prog) 96 tN i0 _ Tryz.underlying96 hi hz0 .i64 .i64 n n (xgf _) (by rw[hz2];omega) oM W;rw[this,hz1,zZZ]
theorem zD5{g:Nat->Int}(h:∀t,t<n->f t=g t):zBg n f=zBg n g:=by
 unfold zBg;rw[zA1 fun t ht=>by rw[h t (yL.1 ht)]]
def zIU(f:Nat->Int)(j:Nat):Nat->Int:=fun t=>if t<j then f t else 0
theorem zLF:zBg n (fun t=>if t=j then f j else zIU f j t)=zBg n (zIU f (j+1)):=
 zD5 fun t _=>by
  unfold zIU;by_cases h:t=j
  ·subst h;rw[if_pos rfl,if_pos oM]
  rw[if_neg h];by_cases h2:t<j
  ·rw[if_pos h2,if_pos oM]
  rw[if_neg h2,if_neg oM]
theorem qC.same(h:qC w base A C bs M)(hb:∀b∈bs,w'.heap[b]?=w.heap[b]?)(ho:∀g,A.ownBlock=some g->w'.heap[g]?=w.heap[g]?)(x:zBw w w'):qC w' base A C bs M:=by
 refine⟨⟨h.own.1,?_⟩,h.len,fun k b r h1 h2=>by
  obtain⟨e1,e2,e3⟩:=h.row k b r h1 h2;exact⟨e1,e2,e3.old (hb b (xgd h1)) x⟩,h.nodup,h.cb⟩
 rcases h.own.2 with h1|⟨g,cap,cur,e1,e2,e3⟩
 exact .inl h1;exact .inr ⟨g,cap,cur,e1,e2,(ho g (by rw[e1];rfl)).trans e3.1,e3.2⟩
theorem zCF.same{x:Bst}(h:zCF Z w As At Ai n Cs Ct x)(e:∀k,Z k->w'.heap[k]?=w.heap[k]?)(hx:zBw w w'):zCF Z w' As At Ai n Cs Ct x:=by
 obtain⟨⟨bss,bst,bsi,⟨h1,h2,h3,h4,h5,h6,h7,h8,h9⟩,hz⟩,ho⟩:=h;exact⟨⟨bss,bst,bsi,⟨qC.same h1 (fun b hb=>e b (hz b (.inl hb))) (fun g hg=>e g (ho g (.inl hg))) hx,qC.same h2 (fun b hb=>e b (hz b (.inr (.inl hb)))) (fun g hg=>e g (ho g (.inr (.inl hg)))) hx,
  qC.same h3 (fun b hb=>e b (hz b (.inr (.inr hb)))) (fun g hg=>e g (ho g (.inr (.inr hg)))) hx,h4,h5,h6,h7,h8,h9⟩,hz⟩,ho⟩
theorem zSo(h:¬ lead C F i<0):(lead C F i).toNat<C:=by
 obtain⟨c,h1,h2,-⟩:=zHh h;omega
theorem zQ3(hB:BSm B){x:Bst}{rank:Nat}{y:Bst}(hZ:∀b,Z b->b<w.heap.size)(h:zCF Z w As At Ai n Cs Ct x)(hok:okB B n Cs Ct x)
  (hr:rank<=n) (hn:n<=1000000) (hCs:Cs<=1000000) (hCt:Ct<=1000000) (hy:zJs B n Cs Ct rank x=some y):
  CPq 186 #[.agg #[As,At,Ai],.int .i64 rank] w fun e w'=>(∃u,e= .returned u)/\qJ Z w w'/\zCF Z w' As At Ai n Cs Ct y/\okB B n Cs Ct y:=by
 obtain⟨so,sc,uo,tc,io,ic,rfl,rfl,rfl,hsc,hsc2,hg⟩:=h.shape;have HX:=xgv (And.intro hok hy);obtain⟨cols,hcols⟩:∃cols:Nat->Int,cols=lead Cs x.s:=⟨_,rfl⟩;have HC:=xgv (fun t=>congrFun hcols t);have hmk:=fun W=>mkN (rank:Int) rank rfl oM W
 clear hok hy hcols;go_enter Tryz.func186,Tryz.ntmps186;go_upto_region 2 with(fail)
 refine zD ?_;intro W0 hW0;obtain⟨hB0,bx,bc,hs0⟩:=zAj hW0;have hz:=h.below hB0;have hO:=qJ.of Z hB0;have hst:zBg rank (fun _=>0)=zBg rank (zIU cols 0):=zD5 fun t _=>by unfold zIU;rw[if_neg oM]
 rw[hst]at bc;clear hW0 h hmk hst;go_wp2;go_loopw [16] (fun jv wt=>∃j:Nat,jv= .int .i64 j/\j<=rank/\qJ Z w wt/\Blk wt w.heap.size 176 #[.slice so n sc,.slice uo n tc,.slice io n ic]/\Blk wt (w.heap.size+1) tN (zBg rank (zIU cols j))/\zCF Z wt (.slice so n sc) (.slice uo n tc) (.slice io n ic) n Cs Ct x) (fun jv _=>rank-(intOf jv).toNat)
 case atStart=>exact⟨0,rfl,oM,hO,bx,bc,hz⟩
 rename World=>wr
 obtain⟨j,rfl,hj,hO,bx,bc,hz⟩:=hrel;by_cases hlt:j<rank
 ·obtain⟨g,rfl⟩:=hg oM
  obtain⟨bj,o1,hrow⟩:=hz.row (i:=j) oM;have c1:=bx.three;go_wp2_with fail
  refine(zFX _ (qZ Cs (x.s j)) _ (hrow.vec (qA _ _) (xgf _) oM)).mono ?_;rintro e w1 ⟨rfl,hb1⟩;have hz:=hz.below hb1;have bx:=bx.below hb1;have bc:=bc.below hb1;have hO:=hO.trans (qJ.of Z hb1);have hL:zCL 0 (qZ Cs (x.s j))=cols j:=(HC.out j).symm;rw[hL];clear o1 hrow c1 hL;have k1:=(bc.cell j).trans (zER hlt);have k2:=bc.frozen j;have hbs:=bc.set_ j (.int .i64 (cols j));rw[zKT,zLF]at hbs;go_wp2;go_roundw
  case rel=>
   have hx1:zBw w1 (w1.setCell ⟨w.heap.size+1,j,none⟩ (.int .i64 (cols j))):=bc.lext dE _ _;have hO1:qJ Z w (w1.setCell ⟨w.heap.size+1,j,none⟩ (.int .i64 (cols j))):=⟨yJ hO.bel (zE _) _ _,hO.lext.trans hx1,fun b hb hn=>(zY _ _ _ _ _ oM).trans (hO.old b hb hn)⟩;exact⟨j+1,by simp,oM,hO1,(zY _ _ _ _ _ oM).trans bx,hbs,hz.same (fun k hk=>zY _ _ _ _ _ (by have:=hZ _ hk;omega)) hx1⟩
  case measure=>exact meq
 obtain rfl:j=rank:=oM;have hcc:zBg j (zIU cols j)=zBg j cols:=zD5 fun t ht=>by unfold zIU;rw[if_pos ht]
 rw[hcc]at bc;clear hcc;go_wp2;go_loopw [6] (fun iv wt=>∃(i:Nat) (z:Int) (xi:Bst),iv= .int .i64 z/\z=(i:Int)-1/\i<=j/\qJ Z w wt/\Blk wt w.heap.size 176 #[.slice so n sc,.slice uo n tc,.slice io n ic]/\Blk wt (w.heap.size+1) tN (zBg j cols)/\zCF Z wt (.slice so n sc) (.slice uo n tc) (.slice io n ic) n Cs Ct xi/\jZ (okB B n Cs Ct xi/\zXy B n Cs Ct cols j i xi=some y)) (fun iv _=>(intOf iv+1).toNat)
 case atStart=>
  refine⟨j,_,x,rfl,rfl,xgf _,hO,bx,bc,hz,⟨⟨HX.out.1,?_⟩⟩⟩;have h3:=HX.out.2;unfold zJs at h3;rw[show cols=lead Cs x.s from funext HC.out];exact h3
 rename World=>wr
 obtain⟨i,z,xi,rfl,hzi,hi,hO,bx,bc,hz,hx⟩:=hrel;cases i with
 |zero=>
  obtain rfl:z=-1:=oM;clear hzi;have h3:=hx.out.2;injection h3 with h3
  have H3:=xgv h3;clear h3;go_wp2;exact bodyPost_end (results_none rfl _ _ _) rfl ⟨⟨_,rfl⟩,hO,by rw[<-H3.out];exact hz,by rw[<-H3.out];exact hx.out.1⟩
 | succ i=>
  obtain rfl:z=(i:Int):=oM;clear hzi;have h3:=hx.out.2;unfold zXy at h3;rw[zAJ]at h3;obtain⟨r,h4,h5⟩:=h3;have HR:=xgv h5;have HJ:=xgv (And.intro hx.out.1 h4);clear h4 h5 hx;obtain⟨g,rfl⟩:=hg oM;go_wp2;go_loopw [7] (fun tv wt=>∃(t:Nat) (xt:Bst),tv= .int .i64 t/\i+1<=t/\t<=j/\qJ Z w wt/\Blk wt w.heap.size 176 #[.slice (some ⟨g,0,none⟩) n sc,.slice uo n tc,.slice io n ic]/\Blk wt (w.heap.size+1) tN (zBg j cols)/\zCF Z wt (.slice (some ⟨g,0,none⟩) n sc) (.slice uo n tc) (.slice io n ic) n Cs Ct xt/\jZ (okB B n Cs Ct xt/\zVU B n Cs Ct cols i (j-t) t xt=some r)) (fun tv _=>j-(intOf tv).toNat)
  case atStart=>exact⟨i+1,xi,by simp,oM,oM,hO,bx,bc,hz,HJ⟩
  rename World=>wt
  obtain⟨t,xt,rfl,hit,htj,hO,bx,bc,hz,hx⟩:=hrel;by_cases hlt2:t<j
  ·obtain⟨m,hm⟩:∃m,j-t=m+1:=⟨j-t-1,oM⟩
   have hm2:j-(t+1)=m:=oM;have h3:=hx.out.2;have hok:=hx.out.1;rw[hm]at h3;unfold zVU at h3;by_cases hc0:cols t<0
   ·rw[if_pos hc0]at h3
    cases h3
   rw[if_neg hc0]at h3;have hcC:(cols t).toNat<Cs:=by
    have:=HC.out t;rw[this]at hc0 ⊢
    exact zSo hc0
   obtain⟨c,hc⟩:∃c:Nat,cols t=(c:Int):=⟨(cols t).toNat,oM⟩;rw[hc,zBi]at h3 hcC;have H3:=xgv h3;have HOK:=xgv hok;clear h3 hc0 hok hx;have c1:=bx.three;have k1:=(bc.cell t).trans (zER hlt2);rw[hc]at k1;obtain⟨bi,o1,hrow⟩:=hz.row (i:=i) oM;obtain⟨xs,xa,xl,xc,v1,v2,-,-,hx⟩:=hrow.cell (yE hcC);have hin:i<n:=oM;go_wp2_with fail
   refine(zAi _ (xt.s i c) _ hx.weak).mono ?_;rintro e w1 ⟨rfl,hb1⟩;have hz:=hz.below hb1;have bx:=bx.below hb1;have bc:=bc.below hb1;have hO:=hO.trans (qJ.of Z hb1);have h3:=H3.out;clear c1 k1 o1 hrow v1 v2 hx H3;by_cases hs0:xt.s i c=0
   ·rw[if_pos hs0]at h3
    rw[zBd hs0];have H3:=xgv h3;clear h3 hs0;go_wp2;go_roundw
    case rel=>exact⟨t+1,xt,by simp,oM,oM,hO,bx,bc,hz,⟨⟨HOK.out,by rw[hm2];exact H3.out⟩⟩⟩
    case measure=>exact meq
   rw[if_neg hs0]at h3;by_cases hne0:xt.s t c=0
   ·rw[if_pos hne0]at h3
    cases h3
   rw[if_neg hne0]at h3;have hcn:=zCr hs0;obtain⟨k0,hk0⟩:∃k0,zAt (xt.s i c) 0=k0:=⟨_,rfl⟩;rw[hk0]at hcn ⊢
   have htn:t<n:=oM;have HNE:=xgv hne0;have H3:=xgv h3;have SX:jZ (Sm (xt.s i c)):=⟨hB.sm _ (HOK.out.1 i hin c hcC)⟩;have SY:jZ (Sm (xt.s t c)):=⟨hB.sm _ (HOK.out.1 t htn c hcC)⟩;clear h3 hne0 hs0 hk0;obtain⟨bi,o1,hrow⟩:=hz.row (i:=i) hin;obtain⟨bk,o2,hrowk⟩:=hz.row (i:=t) htn;have c1:=bx.three;obtain⟨xs,xa,xl,xc,v1,v2,-,-,hx⟩:=hrow.cell (yE hcC);obtain⟨ys,ya,yl,yc,r1,r2,-,-,hy⟩:=hrowk.cell (yE hcC);have hlast:=zLc (xt.s i c) (xt.s t c);have l0:=bx.lt;have l3:=bc.lt;have l1:=hrow.lt;have l2:=hrowk.lt;have lg:=hz.glt hin;go_upto_region 15 with(fail)
   refine zBl [pcD 16 [] (DMV (xt.s i c) (xt.s t c)),pcD 17 [16] (DMV (xt.s i c) (xt.s t c)),pcD 18 [17] (fun w v=>jY w v (xt.s i c/xt.s t c)),pcD 19 [17] (fun w v=>jY w v (xt.s i c%xt.s t c)),pcD 20 [17] (fun _ v=>v= .int .i64 0),pbA 21 43 2,pbA 22 43 2,pbS 23 21 43 2,pbS 24 22 43 2] ?_;refine sRd ?_;refine sRc (fun wS hI Gk hG=>by go_simp;exact ck hG (zLR _ _ (xt.s i c) (xt.s t c) _ (hx.ext hI.lext).weak (hy.ext hI.lext).weak SX.out SY.out HNE.out)) (fun va16 _=>?_);refine sRc (fun wS hI ha16 Gk hG=>?_) (fun va17 _=>?_)
   ·go_simp
    exact⟨hG _ _ ha16,zA _ _⟩
   refine sRc (fun wS hI ha17 Gk hG=>?_) (fun va18 hv=>?_)
   ·obtain⟨q,r,rfl,hq,hr⟩:=ha17
    go_simp;exact⟨hG _ _ hq,zA _ _⟩
   obtain⟨xa21,ya21,rfl,qa21⟩:=zL7 hv;clear hv;refine sRc (fun wS hI ha17 Gk hG=>?_) (fun va19 hv=>?_)
   ·obtain⟨q,r,rfl,hq,hr⟩:=ha17
    go_simp;exact⟨hG _ _ hr,zA _ _⟩
   obtain⟨xa22,ya22,rfl,qa22⟩:=zL7 hv;clear hv;refine sRc (fun wS hI ha17 Gk hG=>?_) (fun _ hv=>?_)
   ·obtain⟨q,r,rfl,hq,hr⟩:=ha17
    go_simp;exact⟨hG _ _ rfl,zA _ _⟩
   obtain⟨_,-,rfl⟩:=hv;refine sRa (cs:=#[.bool false,.slice none 0 0]) fun ca21 ga21=>?_
   refine sRa (cs:=#[.bool false,.slice none 0 0]) fun ca22 ga22=>?_
   refine sRs ca21 (.agg #[xa21,ya21]) ?_ qa21;refine sRs ca22 (.agg #[xa22,ya22]) ?_ qa22;refine sRd ?_;refine sRb ?_;simp only[FA,FC,FN,ptr,List.nil_append,List.cons_append,Act.put,xgh,xgi,xgj];intro w9 hbw9 ha16 ha17 ha18 ha19 _ ka21 ka22 na21 na22;replace ka21:Blk w9 ca21 43 #[xa21,ya21]:=ka21 _ rfl;have ia21:=ha18;replace ka22:Blk w9 ca22 43 #[xa22,ya22]:=ka22 _ rfl;have ia22:=ha19;have na21_22:ca21≠ca22:=na21 (22,ca22) sI;clear na21 na22;obtain⟨qs,qa,ql,qc,rfl,rfl⟩:=ia21.two;have hz:=hz.below hbw9;have bx:=bx.below hbw9;have bc:=bc.below hbw9;have hO:=hO.trans (qJ.of Z hbw9);have lq:=ka21.lt;have hsz9:=hbw9.size;clear o1 o2 c1 v1 v2 r1 r2;have d1:=ka21.two;go_wp2_with fail
   refine(zAi _ (xt.s i c/xt.s t c) _ ia21.weak).mono ?_;rintro e w10 ⟨rfl,hb10⟩;have hz:=hz.below hb10;have bx:=bx.below hb10;have bc:=bc.below hb10;have hO:=hO.trans (qJ.of Z hb10);have kq:=ka21.below hb10;have iq:=ia21.ext (lx hb10);have h3:=H3.out;clear d1 H3 ka21 ia21;have hsz10:=hb10.size;by_cases hq0:xt.s i c/xt.s t c=0
   ·rw[if_pos hq0]at h3
    rw[zBd hq0];have H3:=xgv h3;clear h3 hq0;go_wp2;go_roundw
    case rel=>exact⟨t+1,xt,by simp,oM,oM,hO,bx,bc,hz,⟨⟨HOK.out,by rw[hm2];exact H3.out⟩⟩⟩
    case measure=>exact meq
   rw[if_neg hq0]at h3;by_cases hadd:zFd B n Cs Ct xt i t (-(xt.s i c/xt.s t c))
   ·rw[if_pos hadd]at h3
    have hcq:=zCr hq0;obtain⟨k1,hk1⟩:∃k1,zAt (xt.s i c/xt.s t c) 0=k1:=⟨_,rfl⟩;rw[hk1]at hcq ⊢
    have H3:=xgv h3;have HADD:=xgv hadd;have SQ:jZ (Sm (xt.s i c/xt.s t c)):=⟨hB.sm _ (by have:=hadd.1;rwa[zR]at this)⟩;clear h3 hadd hq0 hk1;have c1:=bx.three;have d1:=kq.two;have lq:=kq.lt;have l0:=bx.lt;go_upto_region 17 with(fail)
    refine yP 5 [pcI 4 (-(xt.s i c/xt.s t c))] ?_;refine sRd ?_;refine sRc (fun wS hI Gk hG=>by go_simp;exact ck hG (zBY _ (xt.s i c/xt.s t c) _ (iq.ext hI.lext).weak SQ.out)) (fun vy4 _=>?_);refine sRe ?_;intro w11 hbw11 hy4;have hz:=hz.below hbw11;have bx:=bx.below hbw11;have bc:=bc.below hbw11;have hO:=hO.trans (qJ.of Z hbw11);have hsz11:=hbw11.size;clear c1 d1;go_wp2_with fail
    refine(zZ0 hB hz HOK.out hin htn oM hy4 hn hCs hCt HADD.out).mono ?_;rintro e w12 ⟨⟨uu12,rfl⟩,hO12,hz⟩;have hok:=HADD.out.ok;have hO:=hO.trans hO12;have bx:=hO12.blk bx (fun hh=>by have:=hZ _ hh;omega);have bc:=hO12.blk bc (fun hh=>by have:=hZ _ hh;omega);have HOK2:=xgv hok;clear hok;go_wp2;go_roundw
    case rel=>exact⟨t+1,_,by simp,oM,oM,hO,bx,bc,hz,⟨⟨HOK2.out,by rw[hm2];exact H3.out⟩⟩⟩
    case measure=>exact meq
   rw[if_neg hadd]at h3;cases h3
  obtain rfl:t=j:=oM;have h3:=hx.out.2;rw[jW]at h3;injection h3 with h3
  have H3:=xgv h3;clear h3;go_wp2;go_roundw
  case rel=>exact⟨i,_,xt,rfl,oM,oM,hO,bx,bc,hz,⟨⟨hx.out.1,by rw[H3.out];exact HR.out⟩⟩⟩
  case measure=>simp[intOf]
theorem zPf(hB:BSm B){x:Bst}{rr:Int}(rank:Nat){y:Bst}(hZ:∀b,Z b->b<w.heap.size)(h:zCF Z w As At Ai n Cs Ct x)(hok:okB B n Cs Ct x)
  (hr:rank<=n) (hn:n<=1000000) (hCs:Cs<=1000000) (hCt:Ct<=1000000) (hy:zJs B n Cs Ct rank x=some y) (hrr:rr=rank):
  CPq 186 #[.agg #[As,At,Ai],niq rr] w fun e w'=>(∃u,e= .returned u)/\qJ Z w w'/\zCF Z w' As At Ai n Cs Ct y/\okB B n Cs Ct y:=by
 subst hrr;exact zQ3 hB hZ h hok hr hn hCs hCt hy
theorem zJW(hB:BSm B){f:Nat}{x y:Bst}(hZ:∀b,Z b->b<w.heap.size)(h:zCF Z w As At Ai n Cs Ct x)(hok:okB B n Cs Ct x)
  (hn:n<=1000000) (hCs:Cs<=1000000) (hCt:Ct<=1000000) (hy:zZD B n Cs Ct f x=some y):
  CPq 158 #[.agg #[As,At,Ai]] w fun e w'=>(∃u,e= .returned u)/\qJ Z w w'/\zCF Z w' As At Ai n Cs Ct y/\okB B n Cs Ct y:=by
 obtain⟨so,sc,uo,tc,io,ic,rfl,rfl,rfl,hsc,hsc2,hg⟩:=h.shape;have HX:=xgv (And.intro hok hy);clear hok hy;go_enter Tryz.func158,Tryz.ntmps158;go_upto_region 1 with(fail)
 refine zD ?_;intro W0 hW0;obtain⟨hB0,bx,hs0⟩:=qL hW0;have hz:=h.below hB0;have hO:=qJ.of Z hB0;have c1:=bx.three;clear hW0 h;go_wp2;clear c1;go_loopw [2,7] (fun rv mv wt=>∃(rank m:Nat) (xi:Bst),rv=niq rank/\mv=niq m/\rank<=m/\m<=n/\qJ Z w wt/\Blk wt w.heap.size 176 #[.slice so n sc,.slice uo n tc,.slice io n ic]/\zCF Z wt (.slice so n sc) (.slice uo n tc) (.slice io n ic) n Cs Ct xi/\jZ (okB B n Cs Ct xi/\zQH B n Cs Ct f (n-m) m rank xi=some y)) (fun _ mv _=>n-(intOf mv).toNat)
 case atStart=>exact⟨0,0,x,rfl,rfl,xgf _,zE _,hO,bx,hz,⟨⟨HX.out.1,by rw[Nat.sub_zero];exact HX.out.2⟩⟩⟩
 rename World=>wt
 obtain⟨rank,m,xi,rfl,rfl,hrm,hmn,hO,bx,hz,hx⟩:=hrel;have c1:=bx.three;by_cases hlt:m<n
 ·obtain⟨l,hl⟩:∃l,n-m=l+1:=⟨n-m-1,oM⟩
  have hl2:n-(m+1)=l:=oM;have h3:=hx.out.2;rw[hl]at h3;unfold zQH at h3;rw[zAJ]at h3;obtain⟨⟨x1,bb⟩,h4,h5⟩:=h3;rw[zAJ]at h5;obtain⟨y1,h6,h7⟩:=h5;have HT:=xgv h4;have HRED:=xgv h6;have HN:=xgv h7;have HOK:=xgv hx.out.1;clear h6 h7 hx;have hZt:∀b,Z b->b<wt.heap.size:=fun b hb=>by have:=hZ b hb;have:=hO.bel.size;omega
  go_wp2_with fail
  refine(zVi hB hZt hz HOK.out hlt hrm hn hCs hCt HT.out).mono ?_;rintro e w1 ⟨rfl,hO1,hz,hok⟩;have HOK:=xgv hok;have hO:=hO.trans hO1;have bx:=hO1.blk bx (fun hh=>by have:=hZ _ hh;omega);clear c1 hok hZt HT;have c1:=bx.three;have hZt:∀b,Z b->b<w1.heap.size:=fun b hb=>by have:=hZ b hb;have:=hO.bel.size;omega
  cases bb with
  |true=>
   rw[if_pos rfl]at HRED HN;go_wp2_with fail
   refine(zPf hB (rank+1) hZt hz HOK.out oM hn hCs hCt HRED.out sI).mono ?_;rintro e w2 ⟨⟨uu,rfl⟩,hO2,hz,hok⟩;have HOK:=xgv hok;have hO:=hO.trans hO2;have bx:=hO2.blk bx (fun hh=>by have:=hZ _ hh;omega);clear c1 hok;go_wp2;go_roundw
   case rel=>exact⟨rank+1,m+1,y1,by simp,by simp,oM,oM,hO,bx,hz,⟨⟨HOK.out,by rw[hl2];exact HN.out⟩⟩⟩
   case measure=>exact meq
  |false=>
   rw[if_neg dE]at HRED HN;go_wp2_with fail
   refine(zPf hB rank hZt hz HOK.out oM hn hCs hCt HRED.out rfl).mono ?_;rintro e w2 ⟨⟨uu,rfl⟩,hO2,hz,hok⟩;have HOK:=xgv hok;have hO:=hO.trans hO2;have bx:=hO2.blk bx (fun hh=>by have:=hZ _ hh;omega);clear c1 hok;go_wp2;go_roundw
   case rel=>exact⟨rank,m+1,y1,by simp,by simp,oM,oM,hO,bx,hz,⟨⟨HOK.out,by rw[hl2];exact HN.out⟩⟩⟩
   case measure=>exact meq
 obtain rfl:m=n:=oM;have h3:=hx.out.2;rw[jW]at h3;injection h3 with h3
 have H3:=xgv h3;clear h3;go_wp2;exact bodyPost_end (results_none rfl _ _ _) rfl ⟨⟨_,rfl⟩,hO,by rw[<-H3.out];exact hz,by rw[<-H3.out];exact hx.out.1⟩
theorem qC.rows2{ri rj:List Int}(h:qC w base A C bs M)(hbi:bs[i]?=some bi)(hbj:bs[j]?=some bj)(hij:i≠j)(ho:zB0 [bi,bj] w w')
  (hri:jJ w' bi ri) (hrj:jJ w' bj rj) (hli:ri.length=C) (hlj:rj.length=C):qC w' base A C bs ((M.set i ri).set j rj):=by
 have hib:=(xge.1 hbi).1;have hjb:=(xge.1 hbj).1;have hiM:i<M.length:=by rw[h.len];exact hib
 have hjM:j<M.length:=by rw[h.len];exact hjb
 obtain⟨r1,r2,r3⟩:=h.row i bi M[i] hbi (xga hiM);obtain⟨q1,q2,q3⟩:=h.row j bj M[j] hbj (xga hjM);refine⟨⟨h.own.1,?_⟩,by simp[h.len],?_,h.nodup,h.cb⟩
 ·rcases h.own.2 with h1|⟨g,cap,cur,e1,e2,e3,e4⟩
  ·exact .inl h1
  refine .inr ⟨g,cap,cur,e1,e2,?_,e4⟩;refine(ho.old g (Array.getElem?_eq_some_iff.1 e3).1 ?_).trans e3;intro hg;have f1:=zG2 h.own r3;have f2:=zG2 h.own q3;rw[e1]at f1 f2;simp at hg;rcases hg with rfl|rfl
  exact f1 rfl;exact f2 rfl
 intro k b' r' hk hr';by_cases ej:k=j
 ·subst ej
  rw[hbj]at hk;injection hk with hk
  subst hk;rw[List.getElem?_set_self (by simpa using hjM)]at hr';injection hr' with hr'
  subst hr';exact⟨q1,hlj,hrj⟩
 rw[List.getElem?_set_ne (qD ej)]at hr';by_cases e:k=i
 ·subst e
  rw[hbi]at hk;injection hk with hk
  subst hk;rw[List.getElem?_set_self hiM]at hr';injection hr' with hr'
  subst hr';exact⟨r1,hli,hri⟩
 rw[List.getElem?_set_ne (qD e)]at hr';obtain⟨f1,f2,f3⟩:=h.row k b' r' hk hr';have hkb:=(xge.1 hk).1;have hne:∀{t bt:Nat},bs[t]?=some bt->k≠t->b'≠bt:=by
  intro t bt ht hkt hh;subst hh;have h1:=(xge.1 hk).2;have h2:=(xge.1 ht).2;exact hkt ((yZ h.nodup).1 (h1.trans h2.symm))
 exact⟨f1,f2,f3.only ho (by simp;exact⟨hne hbi e,hne hbj ej⟩)⟩
theorem zIi{R C:Nat}{F:Nat->Nat->Int}{m0 m1 m2 m3:Int}(hij:i≠j):
  ((genM R C F).set i (qZ C (fun t=>m0*F i t+m1*F j t))).set j (qZ C (fun t=>m2*F i t+m3*F j t))=genM R C (jE F i j m0 m1 m2 m3):=by
 apply qT;simp[genM];intro a h1 h2;by_cases ej:a=j
 ·subst ej
  rw[zBB];have:¬ a=i:=fun h=>hij h.symm
  simp[genM,qZ,jE,this]
 have e3:j≠a:=fun h=>ej h.symm
 rw[zBV e3];by_cases e:a=i
 ·subst e
  rw[zBB];simp[genM,qZ,jE]
 have e4:i≠a:=fun h=>e h.symm
 rw[zBV e4];simp[genM,jE,e,ej]
theorem zMJ(h:Wri w A R C bs F)(hi:i<R)(hj:j<R)(hij:i≠j)(hbi:bs[i]?=some bi)(hbj:bs[j]?=some bj)(hm:M4V w mv m0 m1 m2 m3)
  (hC:C<=1000000) (hS:zRa C (F i) (F j) m0 m1 m2 m3) (hms:Sm m0/\Sm m1/\Sm m2/\Sm m3):
  CPq 204 #[.slice (some ⟨bi,0,none⟩) C C,.slice (some ⟨bj,0,none⟩) C C,mv] w fun e w'=>(∃u,e= .returned u)/\zB0 [bi,bj] w w'/\Wri w' A R C bs (jE F i j m0 m1 m2 m3):=by
 have hne:bi≠bj:=by
  intro hh;subst hh;obtain⟨f1,f2⟩:=xge.1 hbi;obtain⟨g1,g2⟩:=xge.1 hbj;exact hij ((yZ (qC.nodup h)).1 (f2.trans g2.symm))
 refine(zRs bi bj C C C (F i) (F j) mv m0 m1 m2 m3 w (h.rowAt hi hbi) (h.rowAt hj hbj) hne hm hC (xgf _) oM (xgf _) oM hS hms).mono ?_;rintro e w' ⟨hu,ho,hr1,hr2⟩;refine⟨hu,ho,?_⟩;unfold Wri;rw[<-zIi hij];exact qC.rows2 h hbi hbj hij ho hr1 hr2 (qA _ _) (qA _ _)
theorem Wri.only2{q:List Int}(h:Wri w A R C bs F)(ho:zB0 [b,c] w w')(hn:b ∉ bs)(hn2:c ∉ bs)(hr:jJ w b r)(hq:jJ w c q):Wri w' A R C bs F:=
 qC.only h ho (fun x hx=>by
  intro hh;simp at hh;rcases hh with rfl|rfl
  exact hn hx;exact hn2 hx) (fun g hg=>by
  simp at hg;rcases hg with rfl|rfl
  exact⟨_,hr⟩;exact⟨_,hq⟩)
def M2V(m0 m1:Int):World->Value->Prop:=fun w v=>∃s0 a0 l0 c0 s1 a1 l1 c1,v= .agg #[.bool s0,.slice a0 l0 c0,.bool s1,.slice a1 l1 c1]/\jY w (.agg #[.bool s0,.slice a0 l0 c0]) m0/\jY w (.agg #[.bool s1,.slice a1 l1 c1]) m1
theorem zD2(a b:Int):zH1 (M2V a b):=by
 rintro w w' v e ⟨s0,a0,l0,c0,s1,a1,l1,c1,rfl,h0,h1⟩;exact⟨s0,a0,l0,c0,s1,a1,l1,c1,rfl,h0.ext e,h1.ext e⟩
theorem zGX(a b c d:Int):zH1 (fun w v=>M4V w v a b c d):=fun _ _ _ e h=>h.ext e
theorem zNP(as_:Option Addr)(al ac:Nat)(At Ai mv:Value)(n C i j:Nat)(bst bsi:List Nat)(FT FI:Nat->Nat->Int)(m0 m1 m2 m3:Int)(w:World)(ht:Wri w At n C bst FT)(hi_:Wri w Ai n C bsi FI)(fti:Far bst bsi)(hm:M4V w mv m0 m1 m2 m3)
  (hi:i<n) (hj:j<n) (hij:i≠j) (hn:n<=1000000) (hC:C<=1000000) (hT:zRa C (FT i) (FT j) m0 m1 m2 m3) (hI:zRa C (FI i) (FI j) m3 (-m2) (-m1) m0) (hms:Sm m0/\Sm m1/\Sm m2/\Sm m3):
  CPq 189 #[.agg #[.slice as_ al ac,At,Ai],niq i,niq j,mv] w fun e w'=>(∃u,e= .returned u)/\qJ (fun b=>b∈bst∨b∈bsi) w w'∧
   Wri w' At n C bst (jE FT i j m0 m1 m2 m3)/\Wri w' Ai n C bsi (jE FI i j m3 (-m2) (-m1) m0):=by
 obtain⟨uo,tn,tc,rfl,t1,t2,t3,-⟩:=id (qC.rows ht);obtain⟨io,in_,ic,rfl,i1,i2,i3,-⟩:=id (qC.rows hi_);have HT:=xgv hT;have HI:=xgv hI;have HK:=xgv hms;have hms':Sm m3/\Sm (-m2)/\Sm (-m1)/\Sm m0:=⟨hms.2.2.2,hms.2.2.1.mono (by rw[zR];exact xgf _),hms.2.1.mono (by rw[zR];exact xgf _),hms.1⟩;have HK2:=xgv hms';have HM:=xgv hm;obtain⟨s0,a0,l0,c0,s1,a1,l1,c1,s2,a2,l2,c2,s3,a3,l3,c3,rfl,j0,j1,j2,j3⟩:=id hm;clear hT hI hms hm hms';have e2:n=tn:=by rw[<-t1];simp[genM]
 have e3:n=in_:=by rw[<-i1];simp[genM]
 subst e2;subst e3;clear t1 i1;obtain⟨gt,bi,rfl,hgt,hbi,hbi2,-,-⟩:=qC.at_ ht (i:=i) (by rw[ht.len];exact hi);obtain⟨bj,hbj,-⟩:=qC.rowAt ht hj;obtain⟨gi,ci,rfl,hgi,hci,hci2,-,-⟩:=qC.at_ hi_ (i:=i) (by rw[hi_.len];exact hi);obtain⟨cj,hcj,-⟩:=qC.rowAt hi_ hj;have lbi:=(ht.rowAt hi hbi).lt;have lbj:=(ht.rowAt hj hbj).lt;go_enter Tryz.func189,Tryz.ntmps189;go_upto_region 1 with(fail)
 refine zD ?_;intro W0 hW0;obtain⟨hB0,bx,bm,hs0⟩:=zAj hW0;have ht:=ht.below hB0;have hi_:=hi_.below hB0;have hm:=HM.out.ext (lx hB0);have j1:=j1.ext (lx hB0);have j2:=j2.ext (lx hB0);have j3:=j3.ext (lx hB0);have j0:=j0.ext (lx hB0);have HM:=xgv hm;have hO:=qJ.of (fun b=>b∈bst∨b∈bsi) hB0;have x1:=bx.three;obtain⟨k0,k1,k2,k3,k4,k5,k6,k7⟩:=bm.eight;have lx0:=bx.lt;have lm0:=bm.lt;have hmi:=xgd hbi;have hmj:=xgd hbj;have nmi:=xgd hci;have nmj:=xgd hcj;obtain⟨g1,b1,eg1,hg1,hb1,hb12,o1,-⟩:=qC.at_ ht (i:=i) (by rw[ht.len];exact hi);obtain⟨g2,b2,eg2,hg2,hb2,hb22,o2,-⟩:=qC.at_ ht (i:=j) (by rw[ht.len];exact hj);obtain rfl:gt=g1:=by injection eg1 with eg1;injection eg1
 obtain rfl:gt=g2:=by injection eg2 with eg2;injection eg2
 obtain rfl:bi=b1:=zW (hbi.symm.trans hb1);obtain rfl:bj=b2:=zW (hbj.symm.trans hb2);clear hW0 hm hb1 hb2 eg1 eg2;refine yP 11 [] ?_;refine sRd ?_;refine sRf ?_;intro w9 hbw9;have hO:=hO.trans (qJ.of _ hbw9);have ht:=ht.below hbw9;have hi_:=hi_.below hbw9;have bx:=bx.below hbw9;have bm:=bm.below hbw9;have HM:=xgv (HM.out.ext (lx hbw9));have j1:=j1.ext (lx hbw9);have j2:=j2.ext (lx hbw9);have j3:=j3.ext (lx hbw9);have j0:=j0.ext (lx hbw9);clear o1 o2 x1 k0 k1 k2 k3 k4 k5 k6 k7;go_wp2_with fail
 refine(zMJ ht hi hj hij hbi hbj HM.out hC HT.out HK.out).mono ?_;rintro e w10 ⟨⟨uu,rfl⟩,ho,ht2⟩;have hrbi:=ht.rowAt hi hbi;have hrbj:=ht.rowAt hj hbj;have hO:=hO.trans (⟨ho.bel,ho.lext,fun k hk hn=>ho.old k hk (by simp;exact⟨fun hh=>hn (.inl (hh ▸ hmi)),fun hh=>hn (.inl (hh ▸ hmj))⟩)⟩:qJ (fun b=>b∈bst∨b∈bsi) w9 w10);have hi_:=hi_.only2 ho (fti _ hmi) (fti _ hmj) hrbi hrbj;have bx:=(ho.old _ bx.lt (by simp;omega)).trans bx;have bm:=(ho.old _ bm.lt (by simp;omega)).trans bm;have j1:=j1.ext ho.lext;have j2:=j2.ext ho.lext;have j3:=j3.ext ho.lext;have j0:=j0.ext ho.lext;clear hrbi hrbj;replace bx:Blk w10 w.heap.size 176 #[.slice as_ al ac,slq gt n tc,slq gi n ic]:=bx;replace bm:Blk w10 (w.heap.size+1) 191 #[.bool s0,.slice a0 l0 c0,.bool s1,.slice a1 l1 c1,.bool s2,.slice a2 l2 c2,.bool s3,.slice a3 l3 c3]:=bm;have x1:=bx.three;obtain⟨k0,k1,k2,k3,k4,k5,k6,k7⟩:=bm.eight;have lx0:=bx.lt;have lm0:=bm.lt;obtain⟨g1,b1,eg1,hg1,hb1,hb12,o1,-⟩:=qC.at_ hi_ (i:=i) (by rw[hi_.len];exact hi);obtain⟨g2,b2,eg2,hg2,hb2,hb22,o2,-⟩:=qC.at_ hi_ (i:=j) (by rw[hi_.len];exact hj);obtain rfl:gi=g1:=by injection eg1 with eg1;injection eg1
 obtain rfl:gi=g2:=by injection eg2 with eg2;injection eg2
 obtain rfl:ci=b1:=zW (hci.symm.trans hb1);obtain rfl:cj=b2:=zW (hcj.symm.trans hb2);clear hb1 hb2 eg1 eg2;have hl2:=zD2 m3 (-m2);have hl3:=zD2 (-m1) m0;have hl4:=zGX m3 (-m2) (-m1) m0;go_upto_region 2 with(fail)
 refine yP 27 [pcI 16 (-m2),pcD 17 [16] (M2V m3 (-m2)),pcI 21 (-m1),pcD 25 [21] (M2V (-m1) m0),pcD 26 [17,25] (fun w v=>M4V w v m3 (-m2) (-m1) m0)] ?_;refine sRd ?_;refine sRc (fun wS hI Gk hG=>by go_simp;exact ck hG (zBY _ m2 _ (j2.ext hI.lext).weak HK.out.2.2.1)) (fun vb16 _=>?_);refine sRc (fun wS hI hb16 Gk hG=>?_) (fun vb17 _=>?_)
 ·obtain⟨a16,b16,d16,e16,x16,rfl,y16⟩:=id hb16
  go_simp;exact⟨hG _ _ ⟨_,_,_,_,_,_,_,_,rfl,j3.ext hI.lext,hb16⟩,zA _ _⟩
 refine sRd ?_;refine sRc (fun wS hI Gk hG=>by go_simp;exact ck hG (zBY _ m1 _ (j1.ext hI.lext).weak HK.out.2.1)) (fun vb21 _=>?_);refine sRd ?_;refine sRc (fun wS hI hb21 Gk hG=>?_) (fun vb25 _=>?_)
 ·obtain⟨a21,b21,d21,e21,x21,rfl,y21⟩:=id hb21
  go_simp;exact⟨hG _ _ ⟨_,_,_,_,_,_,_,_,rfl,hb21,j0.ext hI.lext⟩,zA _ _⟩
 refine sRc (fun wS hI hb17 hb25 Gk hG=>?_) (fun vb26 _=>?_)
 ·obtain⟨p0,p1,p2,p3,p4,p5,p6,p7,rfl,p8,p9⟩:=hb17
  obtain⟨q0,q1,q2,q3,q4,q5,q6,q7,rfl,q8,q9⟩:=hb25;go_simp;exact⟨hG _ _ ⟨_,_,_,_,_,_,_,_,_,_,_,_,_,_,_,_,rfl,p8,p9,q8,q9⟩,zA _ _⟩
 refine sRe ?_;intro w12 hbw12 hb16 hb17 hb21 hb25 hb26;have hO:=hO.trans (qJ.of _ hbw12);have ht2:=ht2.below hbw12;have hi_:=hi_.below hbw12;clear o1 o2 x1 k0 k1 k2 k3 k4 k5 k6 k7;have hb26':M4V w12 vb26 m3 (-m2) (-m1) m0:=hb26;obtain⟨p0,p1,p2,p3,p4,p5,p6,p7,p8,p9,p10,p11,p12,p13,p14,p15,rfl,-⟩:=id hb26';go_wp2_with fail
 refine(zMJ hi_ hi hj hij hci hcj hb26' hC HI.out HK2.out).mono ?_;rintro e w13 ⟨⟨uu2,rfl⟩,ho,hi2⟩;have hrbi:=hi_.rowAt hi hci;have hrbj:=hi_.rowAt hj hcj;have hO:=hO.trans (⟨ho.bel,ho.lext,fun k hk hn=>ho.old k hk (by simp;exact⟨fun hh=>hn (.inr (hh ▸ nmi)),fun hh=>hn (.inr (hh ▸ nmj))⟩)⟩:qJ (fun b=>b∈bst∨b∈bsi) w12 w13);have ht2:=ht2.only2 ho (fun hh=>fti _ hh nmi) (fun hh=>fti _ hh nmj) hrbi hrbj;go_wp2;exact bodyPost_end (results_none rfl _ _ _) rfl ⟨⟨_,rfl⟩,hO,ht2,hi2⟩
theorem zS1(w:World):
  CallsD Tryz.prog 153 #[] .returning w fun e u' w'=>e= .returned (.tuple #[])/\u'= .returning/\w'=w:=by
 refine callsD_of_wpS Tryz.func153 rfl fun c₀ cs hu=>?_
 apply wpS_region;simp[wpOpsS,go_sem,recoverD,hu,Tryz.ntmps153,bodyPostS,results,Tryz.results153];cases c₀;simp_all
theorem mkR(m:Int)(n:Nat)(hm:m=n)(h:n<=1099511627776)(W:World):
  (Instr.makeSlice 30 (.int .i64 m) (.int .i64 m)).run Tryz.prog W= .ok (.slice (some ⟨W.heap.size,0,none⟩) n n) (W.alloc (.cells (madeCells (Value.slice none 0 0).cells (n*1)) tR)):=by
 subst hm;obtain⟨i0,hi,hz0,hz1,hz2⟩:=info_parts zDc;have:=zCW (P:=Tryz.prog) 30 tR i0 _ zAx hi hz0 .i64 .i64 n n (xgf _) (by rw[hz2];omega) oM W;rw[this,hz1]
def zBJ(n C:Nat)(bs:List Nat):Array Value:=(zBP C bs++List.replicate (n-bs.length) (Value.slice none 0 0)).toArray
theorem zE0(n C:Nat):madeCells #[Value.slice none 0 0] n=zBJ n C []:=by
 apply zCM;simp[madeCells,zBJ,zBP];intro i h1 h2;simp[madeCells,zBJ,zBP,Nat.mod_one,Value.cells]
theorem zCw(h:bs.length<=n):(zBJ n C bs).size=n:=by simp[zBJ,zBP];omega
theorem zGB(h:bs.length<n):(zBJ n C bs).setIfInBounds bs.length (slq b C C)=zBJ n C (bs++ [b]):=by
 apply zCM;simp[zBJ,zBP];omega;intro i h1 h2;have hi:i<n:=by simpa[zCw (C:=C) (Nat.le_of_lt h)]using h1
 by_cases e:i=bs.length
 ·subst e
  simp[zBJ,zBP]
 have e2:bs.length≠i:=fun hh=>e hh.symm
 rw[Array.getElem_setIfInBounds_ne (by simpa using h1) e2];rcases zG i bs.length with hl|hl
 simp[zBJ,zBP,hl,List.getElem_append,Nat.lt_succ_of_lt hl];have h3:¬ i<bs.length:=oM;have h4:¬ i<bs.length+1:=oM;obtain⟨p,hp⟩:∃p,i-bs.length=p+1:=⟨i-bs.length-1,oM⟩;simp[zBJ,zBP,List.getElem_append,h3,h4,hp]
theorem zI6(R C:Nat)(w:World)(hR:R<=1000000)(hC:C<=1000000):
  CPq 108 #[.int .i64 R,.int .i64 C] w (zEm w R C (zDU R C)):=by
 have hmf:∀(fn:Fn) (first cap:Array Value) (w:World),(Instr.makeFunc fn first cap).run Tryz.prog w= .ok (.func fn first cap) w:=fun _ _ _ _=>rfl
 have hmkR:=fun W=>mkR (R:Int) R rfl oM W
 have hmkC:=fun W=>mkI (C:Int) C rfl oM W
 go_enter_defers Tryz.func108,Tryz.ntmps108;go_upto_region 4 with(fail)
 refine zD ?_;intro W0 hW0;obtain⟨hB0,br,bA,hs0⟩:=zAj hW0;rw[zE0 R C]at bA;clear hW0 hmkR;go_wp2;go_loopw [15] (fun iv wr=>∃(k:Nat) (bs:List Nat),k<=R/\iv= .int .i64 k/\bs.length=k/\bs.Nodup/\(∀b∈bs,w.heap.size+1<b/\jJ wr b (qZ C (fun _=>0)))/\BWq w wr/\Blk wr w.heap.size 32 #[.int .i64 0,.int .i64 0,.slice none 0 0]/\Blk wr (w.heap.size+1) tR (zBJ R C bs)) (fun iv _=>R-(intOf iv).toNat)
 case atStart=>exact⟨0,[],oM,rfl,rfl,by simp,by simp,hB0,br,bA⟩
 obtain⟨k,bs,hk,rfl,hbl,hnd,hrows,hb,br,bA⟩:=hrel;have hsz:=hb.size;have HR:=xgv (And.intro hnd hrows);clear hnd hrows;by_cases hlt:k<R
 ·have hmkC:=hmkC wr
  have lA:=bA.lt;have lr:=br.lt;have bA1:Blk (wr.alloc (.cells (zeroCells C) tI)) (w.heap.size+1) tR (zBJ R C bs):=bA.below ((zA _ _).alloc (xgf _) _);have f1:=bA1.frozen k;obtain⟨u,f2⟩:∃u,(wr.alloc (.cells (zeroCells C) tI)).cell? ⟨w.heap.size+1,k,none⟩=some u:=by
   rw[bA1.cell k];exact⟨_,Array.getElem?_eq_getElem (by rw[zCw oM];exact hlt)⟩
  go_wp2;go_roundw
  case rel=>
   have hset:=bA.set_ k (.slice (some ⟨wr.heap.size,0,none⟩) C C);rw[<-hbl,zGB oM,hbl]at hset;have hsw:(wr.setCell ⟨w.heap.size+1,k,none⟩ (.slice (some ⟨wr.heap.size,0,none⟩) C C)).heap.size=wr.heap.size:=by simp[World.setCell]
   have hx1:=bA.lext dE k (.slice (some ⟨wr.heap.size,0,none⟩) C C);have hb3:Below (wr.setCell ⟨w.heap.size+1,k,none⟩ (.slice (some ⟨wr.heap.size,0,none⟩) C C)).heap.size (wr.setCell ⟨w.heap.size+1,k,none⟩ (.slice (some ⟨wr.heap.size,0,none⟩) C C)) ((wr.setCell ⟨w.heap.size+1,k,none⟩ (.slice (some ⟨wr.heap.size,0,none⟩) C C)).alloc (.cells (zeroCells C) tI)):=(zA _ _).alloc (xgf _) _;refine⟨k+1,bs++ [wr.heap.size],oM,by simp,by simp[hbl],?_,?_,(yJ hb oM _ _).alloc oM _,?_,hset.below hb3⟩
   ·rw[yT]
    refine⟨HR.out.1,by simp,fun x hx y hy=>?_⟩;simp at hy;subst hy;have:=(HR.out.2 x hx).2.lt;omega
   ·intro b hb'
    rcases List.mem_append.1 hb' with h1|h1
    ·obtain⟨h2,h3⟩:=HR.out.2 b h1
     exact⟨h2,(h3.old (zY _ _ _ _ _ oM) hx1).below hb3⟩
    simp at h1;subst h1;refine⟨oM,?_⟩;have h4:=zHt (wr.setCell ⟨w.heap.size+1,k,none⟩ (.slice (some ⟨wr.heap.size,0,none⟩) C C)) C;have h5:List.replicate C (0:Int)=qZ C (fun _=>0):=by
     apply qT;simp[qZ];intro i h1 h2;simp[qZ]
    rw[h5,hsw]at h4;exact h4
   exact Blk.below (Blk.far br oM _ _) hb3
  case measure=>exact meq
 obtain rfl:k=R:=oM;have c1:=br.three;have hz0:List.replicate C (0:Int)=qZ C (fun _=>0):=by
  apply qT;simp[qZ];intro i h1 h2;simp[qZ]
 have HZ:=xgv hz0;have hpr:(zBJ k C bs).toList=zBP C bs:=by simp[zBJ,hbl]
 have HPR:=xgv hpr;clear hz0 hpr;go_wp2;refine leaves_cons (f:=153) (args:=#[]) sI (by simp[go_sem]) ?_;refine(zS1 _).mono ?_;rintro e u' w'' ⟨rfl,rfl,rfl⟩;have hx:=br.lext3 dE (.int .i64 k) (.int .i64 C) (.slice (some ⟨w.heap.size+1,0,none⟩) k k);refine⟨_,results_cell_row rfl _ _ w.heap.size _ _ _ _ rfl (br.put3 _ _ _) zC2 rfl (by rw[zFQ];rfl),_,bs,rfl,⟨hbl,_,rfl,?_⟩,yJ (yJ (yJ hb oM 0 _) oM 1 _) oM 2 _⟩;refine⟨⟨by simp[zBP],.inr ⟨w.heap.size+1,k,zBJ k C bs,by rw[hbl],oM,(zAf _ _ _ _ _ _ oM).trans bA,oM,by simp[maxLen];omega,by rw[zCw oM];omega,?_⟩⟩,by simp[zDU,hbl],?_,HR.out.1,oM⟩;rw[HPR.out,hbl,zAr,jK (by simp[zBP,hbl])];intro i b r hi hr;have hm:=xgd hi;obtain⟨h1,h2⟩:=HR.out.2 b hm;have hik:i<k:=by have:=(xge.1 hi).1;omega
 obtain rfl:r=List.replicate C 0:=by
  unfold zDU at hr;rw[List.getElem?_replicate,if_pos hik]at hr;injection hr with hr
  exact hr.symm
 refine⟨oM,by simp,?_⟩;rw[HZ.out];exact h2.old (zAf _ _ _ _ _ _ oM) hx
theorem zLk(n:Nat)(w:World)(hn:n<=1000000):CPq 148 #[niq n] w (zEm w n n (genM n n idf)):=by
 go_enter Tryz.func148,Tryz.ntmps148;go_upto_region 1 with(fail)
 refine zD ?_;intro W0 hW0;obtain⟨hB0,br,hs0⟩:=qL hW0;go_wp2_with fail
 refine(zI6 n n W0 hn hn).mono ?_;rintro e w2 ⟨u,bs,rfl,⟨hbl,A2,rfl,ho⟩,hb2⟩;obtain⟨oo,on,oc,rfl,hon,-,-,-⟩:=id ho.rows;obtain rfl:n=on:=by rw[<-hon];simp[zDU]
 clear hon;have hlts:=ho.lts;go_upto_region 2 with(fail)
 refine zD ?_;intro W3 hW3;obtain⟨hB3,T5,hs3⟩:=qL hW3;have br:=(br.below hb2).below hB3;have ho:=ho.below hB3;have hz0:zDU n n=genM n n (zNY 0):=by rw[zFK];exact zAG fun i _ j _=>by unfold zNY;rw[if_neg oM]
 rw[hz0]at ho;have hBt:=nx (nx hB0 hb2) hB3;have q1:=hB0.size;have q2:=hb2.size;have f1:=T5.three;clear hW3 hW0 hz0;go_wp2;clear f1;go_loopw [11] (fun iv wr=>∃i:Nat,i<=n/\iv=niq i/\BWq w wr/\Blk wr w.heap.size 32 #[niq 0,niq 0,.slice none 0 0]/\Blk wr w2.heap.size 32 #[niq n,niq n,.slice oo n oc]/\qC wr W0.heap.size (.slice oo n oc) n bs (genM n n (zNY i))) (fun iv _=>n-(intOf iv).toNat)
 case atStart=>exact⟨0,oM,rfl,hBt,br,T5,ho⟩
 obtain⟨i,hi,rfl,hb,br,T5,ho⟩:=hrel;have f1:=T5.three;by_cases hlt:i<n
 ·obtain⟨g,bo,rfl,hg,hbo,hbo2,o1,ho3⟩:=ho.at_ (i:=i) oM
  clear ho3;have lt5:=T5.lt;go_upto_region 5 with(fail)
  refine yP 8 [pcI 6 (1)] ?_;refine sRd ?_;refine sRc (fun wS hI Gk hG=>by go_simp;exact ck hG (zGz 1 _ oM oM)) (fun va6 _=>?_);refine sRd ?_;refine sRe ?_;intro w9 hbw9 ha6;obtain⟨pn,pa,pl,pc,px,rfl,hpx⟩:=id ha6;have HPX:=xgw hpx;clear hpx;have ho9:=ho.below hbw9;obtain⟨sn,sa,sl,sc,z1,z2,z3,z4,-⟩:=ho9.cellAt hbo hlt;have hbolt:=hlts i bo hbo;have hset:=ho9.set hbo hlt ha6;go_wp2;go_roundw
  case rel=>
   have hq:zPj (genM n n (zNY i)) i i 1=genM n n (zNY (i+1)):=by
    rw[zD8 _ hlt hlt];exact zAG fun a _ b _=>by
     unfold zNY;by_cases h:a=i/\b=i
     ·rw[if_pos h,if_pos oM]
     rw[if_neg h];by_cases h2:a=b/\a<i
     ·rw[if_pos h2,if_pos oM]
     rw[if_neg h2,if_neg oM]
   rw[hq]at hset;exact⟨i+1,oM,by simp,yJ (yJ (nx hb hbw9) oM _ _) oM _ _,(yO _ _ _ _ _ _ _ oM).trans (br.below hbw9),(yO _ _ _ _ _ _ _ oM).trans (T5.below hbw9),hset.1⟩
  case measure=>exact meq
 obtain rfl:i=n:=oM;have hq:genM i i (zNY i)=genM i i idf:=zAG fun a ha b _=>by
  unfold zNY idf;by_cases h:a=b
  ·rw[if_pos ⟨h,ha⟩,if_pos h]
  rw[if_neg (fun h2=>h h2.1),if_neg h]
 rw[hq]at ho;have r1:=br.three;go_wp2;refine zAZ rfl rfl rfl (br.put3 _ _ _) ⟨_,bs,rfl,⟨hbl,_,rfl,?_⟩,yJ (yJ (yJ hb oM 0 _) oM 1 _) oM 2 _⟩;exact(ho.keep (fun k hk=>zAf _ _ k _ _ _ oM) (br.lext3 dE _ _ _)).mono q1
def zRY(f:Nat->Nat->Int)(i j:Nat):Nat->Nat->Int:=fun a b=>if b<i∨(b=i/\a<j)then f a b else 0
theorem zRS(R C:Nat)(f:Nat->Nat->Int):zDU R C=genM R C (zRY f 0 0):=by
 rw[zFK];exact zAG fun i _ j _=>by unfold zRY;rw[if_neg oM]
theorem zVt{f:Nat->Nat->Int}:genM R C (zRY f i R)=genM R C (zRY f (i+1) 0):=
 zAG fun a ha b hb=>by
  unfold zRY;by_cases h:b<i∨(b=i/\a<R)
  ·rw[if_pos h,if_pos oM]
  rw[if_neg h,if_neg oM]
theorem zVs{f:Nat->Nat->Int}:genM R C (zRY f C 0)=genM R C f:=
 zAG fun a ha b hb=>by unfold zRY;rw[if_pos oM]
theorem zUB{f:Nat->Nat->Int}(hi:i<C)(hj:j<R):zPj (genM R C (zRY f i j)) j i (f j i)=genM R C (zRY f i (j+1)):=by
 rw[zD8 _ hj hi];exact zAG fun a _ b _=>by
  unfold zRY;by_cases h:a=j/\b=i
  ·obtain⟨rfl,rfl⟩:=h
   rw[if_pos ⟨rfl,rfl⟩,if_pos oM]
  rw[if_neg h];by_cases h2:b<i∨(b=i/\a<j)
  ·rw[if_pos h2,if_pos oM]
  rw[if_neg h2,if_neg oM]
theorem zGy(v:Value)(R C:Nat)(M:List (List Int))(w:World)(h:zAC w v R C M)(hF:zBU R C M)(hR:R<=1000000)(hC:C<=1000000)(hS:∀r∈M,∀z∈r,Sm z):
  CPq 151 #[v] w (zEm w C R (genM C R (fun a b=>ent M b a))):=by
 have h0:=h;obtain⟨A,rfl,h⟩:=h;obtain⟨ao,n,cap,rfl,e2,e3,e4,-⟩:=id h;have HX:=xgw e2;have HS:=xgv hS;have HF:=xgv hF;obtain rfl:n=R:=by rw[<-e2,hF.1]
 have hdv:decide (zBS n C M)=true:=decide_eq_true hF.valid;obtain⟨f,hf⟩:∃f:Nat->Nat->Int,(fun a b=>ent M b a)=f:=⟨_,rfl⟩;rw[hf];have hfe:∀i j,f i j=ent M j i:=fun i j=>by rw[<-hf]
 have HFE:=xgv hfe;clear hf hfe e2 hS hF;go_enter Tryz.func151,Tryz.ntmps151;go_upto_region 1 with(fail)
 refine zD ?_;intro W0 hW0;obtain⟨hB0,bx1,br,hs0⟩:=zAj hW0;have c1:=bx1.three;clear hW0;go_wp2_with fail
 refine(zDR _ n C M W0 (h0.below hB0)).mono ?_;rintro e w1 ⟨rfl,hb1⟩;rw[hdv];have bx1:=bx1.below hb1;have br:=br.below hb1;clear c1 hdv;have c1:=bx1.three;go_wp2_with fail
 refine(zI6 C n w1 hC hR).mono ?_;rintro e w2 ⟨u,bs,rfl,⟨hbl,A2,rfl,ho⟩,hb2⟩;obtain⟨oo,on,oc,rfl,hon,-,-,-⟩:=id ho.rows;obtain rfl:C=on:=by rw[<-hon];simp[zDU]
 clear hon;have hlts:=ho.lts;have hBt:=nx hB0 hb1;have hszt:=hBt.size;have hB0s:=hB0.size;have hb1s:=hb1.size;clear c1;go_upto_region 4 with(fail)
 refine zD ?_;intro W3 hW3;obtain⟨hB3,T5,hs3⟩:=qL hW3;have bx1:=(bx1.below hb2).below hB3;have br:=(br.below hb2).below hB3;have ho:=ho.below hB3;rw[zRS C n f]at ho;have hBt:=nx (nx hBt hb2) hB3;have q2:=hb2.size;have c1:=bx1.three;clear hW3;go_wp2;clear c1;go_loopw [20] (fun iv wr=>∃i:Nat,i<=n/\iv=niq i/\BWq w wr∧
  Blk wr (w.heap.size+1) 32 #[niq 0,niq 0,.slice none 0 0]/\Blk wr w2.heap.size 32 #[niq C,niq n,.slice oo C oc]/\qC wr w1.heap.size (.slice oo C oc) n bs (genM C n (zRY f i 0))) (fun iv _=>n-(intOf iv).toNat)
 case atStart=>exact⟨0,oM,rfl,hBt,br,T5,ho⟩
 obtain⟨i,hi,rfl,hb,br,T5,ho⟩:=hrel;by_cases hlt:i<n
 ·obtain⟨b,ra,rn,rc,zs,rfl,hbl1,hz,p1,hv⟩:=h.row (k:=i) (by rw[HX.out];exact hlt)
  have hzl:=HF.out.2 zs (xgd hz);have hvl:=hv.len;obtain rfl:C=rn:=oM;have HZ:=xgv (And.intro hz hzl);have p1:=jL p1 hb;obtain⟨hvl1,hvl2,hvl3⟩:=hvl;clear hz hzl hvl1;go_wp2;clear p1;go_loopw [27] (fun jv wt=>∃j:Nat,j<=C/\jv=niq j/\BWq w wt∧
   Blk wt (w.heap.size+1) 32 #[niq 0,niq 0,.slice none 0 0]/\Blk wt w2.heap.size 32 #[niq C,niq n,.slice oo C oc]/\qC wt w1.heap.size (.slice oo C oc) n bs (genM C n (zRY f i j))) (fun jv _=>C-(intOf jv).toNat)
  case atStart=>exact⟨0,oM,rfl,hb,br,T5,ho⟩
  rename World=>wt
  obtain⟨j,hj,rfl,hb,br,T5,ho⟩:=hrel;by_cases hjc:j<C
  ·obtain⟨b',z,s,a,l,c,rfl,hbl',hzk,q1,q2',hzv⟩:=(hv.below hb).cell (k:=j) (by rw[HZ.out.2];exact hjc)
   have hent:=xgw ((HFE.out j i).trans (zEJ HZ.out.1 hzk));have SZ:jZ (Sm z):=⟨HS.out _ (xgd HZ.out.1) _ (xgd hzk)⟩;clear hzk;have lt2:=br.lt;have lt5:=T5.lt;have hbs:=hb.size;go_upto_region 10 with(fail)
   refine zD ?_;intro W6 hW6;obtain⟨hB6,T7,hs6⟩:=qL hW6;have d1:=T7.two;have br:=br.below hB6;have T5:=T5.below hB6;have ho:=ho.below hB6;have hzv:=hzv.ext (lx hB6);have hb:=nx hb hB6;clear q1 q2' hW6;obtain⟨g,bo,rfl,hg,hbo,hbo2,o1,ho3⟩:=ho.at_ (i:=j) oM;have f1:=T5.three;clear ho3;have lt5:=T5.lt;have lt7:=T7.lt;refine yP 9 [pcI 7 (z)] ?_;refine sRd ?_;refine sRc (fun wS hI Gk hG=>by go_simp;exact ck hG (zOV _ z _ (hzv.ext hI.lext) SZ.out)) (fun va7 _=>?_);refine sRd ?_;refine sRe ?_;intro w9 hbw9 ha7;obtain⟨pn,pa,pl,pc,px,rfl,hpx⟩:=id ha7;have HPX:=xgw hpx;clear hpx;have ho9:=ho.below hbw9;obtain⟨sn,sa,sl,sc,z1,z2,z3,z4,-⟩:=ho9.cellAt hbo hlt;have hbolt:=hlts j bo hbo;have hset:=ho9.set hbo hlt ha7;have hbo9:=hset.2.2;go_wp2;go_roundw
   case rel=>
    have hq:z=f j i:=hent.out.symm;rw[hq,zUB hlt hjc]at hset;exact⟨j+1,oM,by simp,yJ (yJ (nx hb hbw9) oM _ _) oM _ _,(yO _ _ _ _ _ _ _ oM).trans (br.below hbw9),(yO _ _ _ _ _ _ _ oM).trans (T5.below hbw9),hset.1⟩
   case measure=>exact meq
  obtain rfl:j=C:=oM;rw[zVt]at ho;go_wp2;go_roundw
  case rel=>exact⟨i+1,oM,by simp,hb,br,T5,ho⟩
  case measure=>exact meq
 obtain rfl:i=n:=oM;rw[zVs]at ho;have f1:=T5.three;have r1:=br.three;go_wp2;refine zAZ rfl rfl rfl (br.put3 _ _ _) ⟨_,bs,rfl,⟨hbl,_,rfl,?_⟩,yJ (yJ (yJ hb oM 0 _) oM 1 _) oM 2 _⟩;exact(ho.keep (fun k hk=>zAf _ _ k _ _ _ oM) (br.lext3 dE _ _ _)).mono oM
theorem zGT(h:Wri w A R C bs F)(hi:i<R)(hj:j<R)(hij:i≠j)(hbi:bs[i]?=some bi)(hbj:bs[j]?=some bj)(hm:M4V w mv m0 m1 m2 m3)
  (hC:C<=1000000) (hS:zRa C (F i) (F j) m0 m1 m2 m3) (hms:Sm m0/\Sm m1/\Sm m2/\Sm m3):
  CPq 179 #[.slice (some ⟨bi,0,none⟩) C C,.slice (some ⟨bj,0,none⟩) C C,mv] w fun e w'=>(∃u,e= .returned u)/\zB0 [bi,bj] w w'/\Wri w' A R C bs (jE F i j m0 m1 m2 m3):=by
 have hne:bi≠bj:=by
  intro hh;subst hh;obtain⟨f1,f2⟩:=xge.1 hbi;obtain⟨g1,g2⟩:=xge.1 hbj;exact hij ((yZ (qC.nodup h)).1 (f2.trans g2.symm))
 refine(zQM bi bj C C C (F i) (F j) mv m0 m1 m2 m3 w (h.rowAt hi hbi) (h.rowAt hj hbj) hne hm hC (xgf _) oM (xgf _) oM hS hms).mono ?_;rintro e w' ⟨hu,ho,hr1,hr2⟩;refine⟨hu,ho,?_⟩;unfold Wri;rw[<-zIi hij];exact qC.rows2 h hbi hbj hij ho hr1 hr2 (qA _ _) (qA _ _)
end Go.Proofs.YtkidaebmhlijlaaGreat
