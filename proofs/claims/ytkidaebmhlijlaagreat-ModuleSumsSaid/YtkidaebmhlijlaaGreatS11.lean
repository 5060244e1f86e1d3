/- Joined. -/
import Derived.ScopeJumps
import Derived.WalkMore
import Derived.Defers
import Derived.Recover
import Derived.Test.YtkidaebmhlijlaaGreatS09
set_option linter.unusedVariables false
set_option linter.unusedSimpArgs false
set_option linter.unusedSectionVars false
set_option maxHeartbeats 16000000
set_option maxRecDepth 100000
variable{m0 m1 m2 m3 z:Int}{M:List (List Int)}{r:List Int}{bs:List Nat}{B C Cs Ct R b base bi bj c g i j k l m n rank sc:Nat}{L f:Nat->Int}{F:Nat->Nat->Int}{P Z:Nat->Prop}{t:Go.TypeId}{A Ai As At u v:Go.Value}{W w w':Go.World}
namespace Go.Proofs.YtkidaebmhlijlaaGreat
open Go.RowKit
def M4V(w:World)(v:Value)(m0 m1 m2 m3:Int):Prop:=
 ∃s0 a0 l0 c0 s1 a1 l1 c1 s2 a2 l2 c2 s3 a3 l3 c3,v= .agg #[.bool s0,.slice a0 l0 c0,.bool s1,.slice a1 l1 c1,.bool s2,.slice a2 l2 c2,.bool s3,.slice a3 l3 c3]∧
  jT w (.agg #[.bool s0,.slice a0 l0 c0]) m0/\jT w (.agg #[.bool s1,.slice a1 l1 c1]) m1/\jT w (.agg #[.bool s2,.slice a2 l2 c2]) m2/\jT w (.agg #[.bool s3,.slice a3 l3 c3]) m3
theorem M4V.ext(h:M4V w v m0 m1 m2 m3)(x:zBq w w'):M4V w' v m0 m1 m2 m3:=by
 obtain⟨s0,a0,l0,c0,s1,a1,l1,c1,s2,a2,l2,c2,s3,a3,l3,c3,e,h0,h1,h2,h3⟩:=h;exact⟨s0,a0,l0,c0,s1,a1,l1,c1,s2,a2,l2,c2,s3,a3,l3,c3,e,h0.ext x,h1.ext x,h2.ext x,h3.ext x⟩
theorem Blk.eight{c0 c1 c2 c3 c4 c5 c6 c7:Value}(h:Blk w g t #[c0,c1,c2,c3,c4,c5,c6,c7]):
  w.cell? ⟨g,0,none⟩=some c0/\w.cell? ⟨g,1,none⟩=some c1/\w.cell? ⟨g,2,none⟩=some c2/\w.cell? ⟨g,3,none⟩=some c3/\w.cell? ⟨g,4,none⟩=some c4/\w.cell? ⟨g,5,none⟩=some c5/\w.cell? ⟨g,6,none⟩=some c6/\w.cell? ⟨g,7,none⟩=some c7:=
 ⟨h.cell 0,h.cell 1,h.cell 2,h.cell 3,h.cell 4,h.cell 5,h.cell 6,h.cell 7⟩
def zQQ(n:Nat)(f g:Nat->Int)(m0 m1 m2 m3:Int):Prop:=∀t,t<n->Sm (f t)/\Sm (g t)/\Sm (m0*f t)/\Sm (m1*g t)/\Sm (m2*f t)/\Sm (m3*g t)
theorem Blk.put_at(hW:Hid (W=(w.setCell ⟨b,i,none⟩ u).setCell ⟨b,j,none⟩ v)){cs:Array Value}(h:Blk w g t cs)(hne:g≠b):Blk W g t cs:=by
 rw[hW.out];exact(yS _ _ _ _ _ _ _ hne).trans h
theorem zBr.put_at(hW:Hid (W=(w.setCell ⟨b,i,none⟩ u).setCell ⟨b,j,none⟩ v)){S:List Nat}(hb:b∈S)(hx:zBq w W):zBr S w W:=by
 refine⟨?_,hx,fun k _ hk=>?_⟩
 ·rw[hW.out]
  exact yJ (yJ (zA _ _) (zE _) _ _) (zE _) _ _
 rw[hW.out];exact yS _ _ _ _ _ _ _ (fun e=>hk (e ▸ hb))
theorem jQ.put_at(hW:Hid (W=(w.setCell ⟨b,i,none⟩ u).setCell ⟨b,j,none⟩ v))(h:jQ w g r)(hne:g≠b)(hx:zBq w W):jQ W g r:=
 h.old (by rw[hW.out];exact yS _ _ _ _ _ _ _ hne) hx
theorem jQ.set_at{zs:List Int}{s:Bool}{a:Option Addr}(hW:Hid (W=(w.setCell ⟨b,k*2,none⟩ (.bool s)).setCell ⟨b,k*2+1,none⟩ (.slice a l c)))(h:jQ w b zs)(hk:k<zs.length)(hv:jT w (.agg #[.bool s,.slice a l c]) z):
  jQ W b (zs.set k z)/\zBq w W:=by
 rw[hW.out];exact h.set hk hv
theorem zII{F:Nat->Int}(hz:z=F j):(yL n (yO F f j)).set j z=yL n (yO F f (j+1)):=by
 rw[zDs];exact qX fun t _=>by
  unfold yO;by_cases h2:t=j
  ·subst h2
   rw[if_pos rfl,if_pos oM,hz]
  rw[if_neg h2];by_cases h1:t<j
  ·rw[if_pos h1,if_pos oM]
  rw[if_neg h1,if_neg oM]
theorem zGF(fI:Nat)(hfI:fI=204∨fI=179)(bv bw n capv capw:Nat)(f g:Nat->Int)(mv:Value)(m0 m1 m2 m3:Int)(w:World)(hv:jQ w bv (yL n f))(hw:jQ w bw (yL n g))(hne:bv≠bw)(hm:M4V w mv m0 m1 m2 m3)
  (hn:n<=1000000) (hcv:n<=capv) (hcv2:capv<=9223372036854775807) (hcw:n<=capw) (hcw2:capw<=9223372036854775807)
  (hS:zQQ n f g m0 m1 m2 m3) (hms:Sm m0/\Sm m1/\Sm m2/\Sm m3):
  Calls Tryz.prog fI #[.slice (some ⟨bv,0,none⟩) n capv,.slice (some ⟨bw,0,none⟩) n capw,mv] w fun e w'=>(∃u,e= .returned u)/\zBr [bv,bw] w w'∧
   jQ w' bv (yL n (fun t=>m0*f t+m1*g t))/\jQ w' bw (yL n (fun t=>m2*f t+m3*g t)):=by
 have HS:=xgv hS;have HK:=xgv hms;have HM:=xgv hm;obtain⟨s0,a0,l0,c0,s1,a1,l1,c1,s2,a2,l2,c2,s3,a3,l3,c3,rfl,-⟩:=id hm;clear hS hms hm;have hlv:=hv.lt;have hlw:=hw.lt;obtain⟨F,hF⟩:∃F:Nat->Int,(fun t=>m0*f t+m1*g t)=F:=⟨_,rfl⟩;obtain⟨G,hG⟩:∃G:Nat->Int,(fun t=>m2*f t+m3*g t)=G:=⟨_,rfl⟩;rw[hF,hG];have HF:zAN (∀t,F t=m0*f t+m1*g t):=⟨fun t=>by rw[<-hF]⟩;have HG:zAN (∀t,G t=m2*f t+m3*g t):=⟨fun t=>by rw[<-hG]⟩;clear hF hG;rcases hfI with rfl|rfl
 all_goals
  first|go_enter Tryz.func204,Tryz.ntmps204|go_enter Tryz.func179,Tryz.ntmps179
  go_upto_region 1 with(fail)
  refine zD ?_;intro W0 hW0;obtain⟨hB0,bx,hs0⟩:=qM hW0;have hv0:=hv.below hB0;have hw0:=hw.below hB0;have hm0:=HM.out.ext (lx hB0);have hst:∀(a b:Nat->Int),yL n a=yL n (yO b a 0):=fun a b=>qX fun t _=>by unfold yO;rw[if_neg oM]
  rw[hst f F]at hv0;rw[hst g G]at hw0;have hO:=zBr.of [bv,bw] hB0;have HM0:=xgv hm0;clear hW0 hst hv hw hm0;go_wp2;go_loopw [11] (fun jv wr=>∃j:Nat,j<=n/\jv= .int .i64 j/\zBr [bv,bw] w wr/\Blk wr w.heap.size 191 #[.bool s0,.slice a0 l0 c0,.bool s1,.slice a1 l1 c1,.bool s2,.slice a2 l2 c2,.bool s3,.slice a3 l3 c3]/\zAN (M4V wr (.agg #[.bool s0,.slice a0 l0 c0,.bool s1,.slice a1 l1 c1,.bool s2,.slice a2 l2 c2,.bool s3,.slice a3 l3 c3]) m0 m1 m2 m3)/\jQ wr bw (yL n (yO G g j))/\jQ wr bv (yL n (yO F f j))) (fun jv _=>n-(intOf jv).toNat)
  case atStart=>exact⟨0,by omega,rfl,hO,bx,HM0,hw0,hv0⟩
  obtain⟨j,hj,rfl,hO,bx,HMr,hw,hv⟩:=hrel;by_cases hlt:j<n
  ·obtain⟨xs,xa,xl,xc,p1,p2,-,-,hx⟩:=hv.cell (yE hlt)
   obtain⟨ys,ya,yl,yc,q1,q2,-,-,hy⟩:=hw.cell (yE hlt);have hxf:yO F f j j=f j:=by unfold yO;rw[if_neg oM]
   have hyf:yO G g j j=g j:=by unfold yO;rw[if_neg oM]
   rw[hxf]at hx;rw[hyf]at hy;have hlw':=hw.lt;have hlv':=hv.lt;have hlb:=bx.lt;have hOsz:=hO.bel.size;go_upto_region 5 with(fail)
   refine zD ?_;intro W6 hW6;obtain⟨hB6,T7,T8,hs6⟩:=zAd hW6;obtain⟨d1,d2,d3,d4⟩:=T7.two;obtain⟨e1,e2,e3,e4⟩:=T8.two;have hO:=hO.trans (zBr.of [bv,bw] hB6);have bx:=bx.below hB6;have HMr:=xgv (HMr.out.ext (lx hB6));have hw:=hw.below hB6;have hv:=hv.below hB6;have hx:=hx.ext (lx hB6);have hy:=hy.ext (lx hB6);clear p1 p2 q1 q2 hW6;obtain⟨k0,k1,k2,k3,k4,k5,k6,k7⟩:=bx.eight;have lv:=hv.lt;have lb:=bx.lt;have l7:=T7.lt;have l8:=T8.lt;have HSJ:=xgv (HS.out j hlt);obtain⟨s0',a0',l0',c0',s1',a1',l1',c1',s2',a2',l2',c2',s3',a3',l3',c3',hee,i0,i1,i2,i3⟩:=HMr.out;injection hee with hee
   simp only[Array.mk.injEq,List.cons.injEq,Value.bool.injEq,Value.slice.injEq]at hee;obtain⟨rfl,⟨rfl,rfl,rfl⟩,rfl,⟨rfl,rfl,rfl⟩,rfl,⟨rfl,rfl,rfl⟩,rfl,⟨rfl,rfl,rfl⟩,-⟩:=hee;refine yX 14 [pcI 6 (m0*f j),pcI 11 (m1*g j),pcD 12 [6,11] (fun w v=>jT w v (m0*f j+m1*g j))] ?_;refine sRd ?_;refine sRc (fun wS hI Gk hG=>by go_simp;exact ck hG (zD4 _ _ m0 (f j) _ (i0.ext hI.lext).weak (hx.ext hI.lext).weak HK.out.1 HSJ.out.1)) (fun va6 _=>?_);refine sRd ?_;refine sRc (fun wS hI Gk hG=>by go_simp;exact ck hG (zD4 _ _ m1 (g j) _ (i1.ext hI.lext).weak (hy.ext hI.lext).weak HK.out.2.1 HSJ.out.2.1)) (fun va11 _=>?_);refine sRc (fun wS hI ha6 ha11 Gk hG=>by go_simp;exact ck hG (zHE _ _ (m0*f j) (m1*g j) _ ha6.weak ha11.weak HSJ.out.2.2.1 HSJ.out.2.2.2.1)) (fun va12 _=>?_);refine sRd ?_;refine sRe ?_;intro w9 hbw9 ha6 ha11 ha12;obtain⟨pn,pa,pl,pc,px,rfl,hpx⟩:=id ha12;have HPX:=xgw hpx;clear hpx k0 k1 k2 k3 k4 k5 k6 k7 d1 d2 d3 d4 e1 e2 e3 e4;have hv9:=hv.below hbw9;obtain⟨zs,za,zl,zc,z1,z2,z3,z4,-⟩:=hv9.cell (yE hlt);have hl9:=hv9.lt;go_upto_region 6 with(fail)
   refine zD ?_;intro W10 hW10;obtain⟨hv10,hx10⟩:=hv9.set_at (k:=j) hW10 (by rw[qC];exact hlt) ha12;rw[zII (HF.out j).symm]at hv10;have hO:=(hO.trans (zBr.of [bv,bw] hbw9)).trans (zBr.put_at hW10 sI hx10);have bx:=(bx.below hbw9).put_at hW10 oM;have T7:=(T7.below hbw9).put_at hW10 oM;have T8:=(T8.below hbw9).put_at hW10 oM;have hw:=(hw.below hbw9).put_at hW10 (zP hne) hx10;have hv:=hv10;have hx:=(hx.ext (lx hbw9)).ext hx10;have hy:=(hy.ext (lx hbw9)).ext hx10;have i0:=(i0.ext (lx hbw9)).ext hx10;have i1:=(i1.ext (lx hbw9)).ext hx10;have i2:=(i2.ext (lx hbw9)).ext hx10;have i3:=(i3.ext (lx hbw9)).ext hx10;clear z1 z2 z3 z4 hW10;obtain⟨k0,k1,k2,k3,k4,k5,k6,k7⟩:=bx.eight;obtain⟨d1,d2,d3,d4⟩:=T7.two;obtain⟨e1,e2,e3,e4⟩:=T8.two;have lw:=hw.lt;have lb:=bx.lt;have l7:=T7.lt;have l8:=T8.lt;refine yX 14 [pcI 6 (m2*f j),pcI 11 (m3*g j),pcD 12 [6,11] (fun w v=>jT w v (m2*f j+m3*g j))] ?_;refine sRd ?_;refine sRc (fun wS hI Gk hG=>by go_simp;exact ck hG (zD4 _ _ m2 (f j) _ (i2.ext hI.lext).weak (hx.ext hI.lext).weak HK.out.2.2.1 HSJ.out.1)) (fun vb6 _=>?_);refine sRd ?_;refine sRc (fun wS hI Gk hG=>by go_simp;exact ck hG (zD4 _ _ m3 (g j) _ (i3.ext hI.lext).weak (hy.ext hI.lext).weak HK.out.2.2.2 HSJ.out.2.1)) (fun vb11 _=>?_);refine sRc (fun wS hI hb6 hb11 Gk hG=>by go_simp;exact ck hG (zHE _ _ (m2*f j) (m3*g j) _ hb6.weak hb11.weak HSJ.out.2.2.2.2.1 HSJ.out.2.2.2.2.2)) (fun vb12 _=>?_);refine sRd ?_;refine sRe ?_;intro w11 hbw11 hb6 hb11 hb12;obtain⟨pn,pa,pl,pc,px,rfl,hpx⟩:=id hb12;have HPX:=xgw hpx;clear hpx k0 k1 k2 k3 k4 k5 k6 k7 d1 d2 d3 d4 e1 e2 e3 e4;have hw9:=hw.below hbw11;obtain⟨zs,za,zl,zc,z1,z2,z3,z4,-⟩:=hw9.cell (yE hlt);have hl9:=hw9.lt;go_upto_region 7 with(fail)
   refine zD ?_;intro W12 hW12;obtain⟨hw12,hx12⟩:=hw9.set_at (k:=j) hW12 (by rw[qC];exact hlt) hb12;rw[zII (HG.out j).symm]at hw12;have hO:=(hO.trans (zBr.of [bv,bw] hbw11)).trans (zBr.put_at hW12 sI hx12);have bx:=(bx.below hbw11).put_at hW12 oM;have hv:=(hv.below hbw11).put_at hW12 hne hx12;have i0:=(i0.ext (lx hbw11)).ext hx12;have i1:=(i1.ext (lx hbw11)).ext hx12;have i2:=(i2.ext (lx hbw11)).ext hx12;have i3:=(i3.ext (lx hbw11)).ext hx12;clear z1 z2 z3 z4 hW12;go_wp2;go_roundw
   case rel=>exact⟨j+1,by omega,by simp,hO,bx,⟨⟨s0,a0,l0,c0,s1,a1,l1,c1,s2,a2,l2,c2,s3,a3,l3,c3,rfl,i0,i1,i2,i3⟩⟩,hw12,hv⟩
   case measure=>simp[intOf];omega
  obtain rfl:j=n:=by omega
  have hq1:yL j (yO F f j)=yL j F:=qX fun t ht=>by unfold yO;rw[if_pos ht]
  have hq2:yL j (yO G g j)=yL j G:=qX fun t ht=>by unfold yO;rw[if_pos ht]
  rw[hq1]at hv;rw[hq2]at hw;go_wp2;exact bodyPost_end (results_none rfl _ _ _) rfl ⟨⟨_,rfl⟩,hO,hv,hw⟩
abbrev zQg:=zGF 204 (.inl rfl)
abbrev zPD:=zGF 179 (.inr rfl)
structure zCA(Z:Nat->Prop)(w:World)(As At Ai:Value)(n Cs Ct:Nat)(x:Bst):Prop where
 ex:∃bss bst bsi,zFS w As At Ai n Cs Ct bss bst bsi x.s x.t x.i/\(∀b,b∈bss∨b∈bst∨b∈bsi->Z b)
 own:∀g,As.ownBlock=some g∨At.ownBlock=some g∨Ai.ownBlock=some g->Z g
theorem zCA.below{x:Bst}(h:zCA Z w As At Ai n Cs Ct x)(hb:Below w.heap.size w w'):zCA Z w' As At Ai n Cs Ct x:=by
 obtain⟨⟨bss,bst,bsi,⟨h1,h2,h3,h4,h5,h6,h7,h8,h9⟩,hz⟩,ho⟩:=h;exact⟨⟨bss,bst,bsi,⟨h1.below hb,h2.below hb,h3.below hb,h4,h5,h6,h7,h8,h9⟩,hz⟩,ho⟩
structure BSm(B:Nat):Prop where
 sm:∀z:Int,z.natAbs<B->Sm z
theorem zYR(hB:BSm B){x:Bst}{kv:Value}{k:Int}(h:zCA Z w As At Ai n Cs Ct x)(hok:okB B n Cs Ct x)(hi:i<n)(hj:j<n)(hij:i≠j)(hk:jT w kv k)
  (hn:n<=1000000) (hCs:Cs<=1000000) (hCt:Ct<=1000000) (ha:zFI B n Cs Ct x i j k):
  Calls Tryz.prog 200 #[.agg #[As,At,Ai],.int .i64 i,.int .i64 j,kv] w fun e w'=>(∃u,e= .returned u)/\qG Z w w'/\zCA Z w' As At Ai n Cs Ct (x.add i j k):=by
 obtain⟨⟨bss,bst,bsi,hv,hz⟩,ho⟩:=h;obtain⟨a1,a2,a3,a4⟩:=ha;obtain⟨o1,o2,o3⟩:=hok;refine(zLP As At Ai n Cs Ct i j bss bst bsi x.s x.t x.i kv k w hv hi hj hij hk hn hCs hCt (fun t ht=>⟨hB.sm _ (o1 i hi t ht),hB.sm _ (o1 j hj t ht),hB.sm _ (a2 t ht)⟩) (fun t ht=>⟨hB.sm _ (o2 i hi t ht),hB.sm _ (o2 j hj t ht),hB.sm _ (a3 t ht).1⟩)
  (fun t ht=>⟨hB.sm _ (o3 j hj t ht),hB.sm _ (o3 i hi t ht),hB.sm _ (by rw[yD,zT];exact(a3 t ht).2)⟩) (hB.sm _ a1)).mono ?_
 rintro e w' ⟨hu,h1,h2,h3,h4⟩;exact⟨hu,⟨h1,h2,fun b hb hn=>h3 b hb (fun hh=>hn (hz b (.inl hh))) (fun hh=>hn (hz b (.inr (.inl hh)))) (fun hh=>hn (hz b (.inr (.inr hh))))⟩,⟨bss,bst,bsi,h4,hz⟩,ho⟩
theorem zP5{x:Bst}(h:zCA Z w As At Ai n Cs Ct x)(hi:i<n)(hj:j<n)(hn:n<=1000000):
  Calls Tryz.prog 201 #[.agg #[As,At,Ai],.int .i64 i,.int .i64 j] w fun e w'=>(∃u,e= .returned u)/\qG Z w w'/\zCA Z w' As At Ai n Cs Ct (x.swap i j):=by
 obtain⟨⟨bss,bst,bsi,hv,hz⟩,ho⟩:=h;have l1:=hv.s.len;have l2:=hv.t.len;have l3:=hv.i.len;refine(zLl As At Ai n Cs Ct i j bss bst bsi x.s x.t x.i w hv hi hj hn).mono ?_;rintro e w' ⟨hu,h1,h4⟩;refine⟨hu,h1.mono (fun b _ hb=>ho b hb),⟨_,_,_,h4,fun b hb=>hz b ?_⟩,ho⟩;rcases hb with hb|hb|hb
 exact .inl (zD9 oM oM hb);exact .inr (.inl (zD9 oM oM hb));exact .inr (.inr (zD9 oM oM hb))
theorem zYW(hB:BSm B){x:Bst}(h:zCA Z w As At Ai n Cs Ct x)(hok:okB B n Cs Ct x)(hi:i<n)(hn:n<=1000000)(hCs:Cs<=1000000)(hCt:Ct<=1000000):
  Calls Tryz.prog 202 #[.agg #[As,At,Ai],.int .i64 i] w fun e w'=>(∃u,e= .returned u)/\qG Z w w'/\zCA Z w' As At Ai n Cs Ct (x.neg i):=by
 obtain⟨⟨bss,bst,bsi,hv,hz⟩,ho⟩:=h;obtain⟨o1,o2,o3⟩:=hok;refine(zPi As At Ai n Cs Ct i bss bst bsi x.s x.t x.i w hv hi hn hCs hCt (fun a ha b hb=>hB.sm _ (o1 a ha b hb)) (fun a ha b hb=>hB.sm _ (o2 a ha b hb)) (fun a ha b hb=>hB.sm _ (o3 a ha b hb))).mono ?_;rintro e w' ⟨hu,h1,h4⟩;exact⟨hu,h1.mono (fun b _ hb=>hz b hb),⟨bss,bst,bsi,h4,hz⟩,ho⟩
theorem zCA.shape{x:Bst}(h:zCA Z w As At Ai n Cs Ct x):∃so sc uo tc io ic,As= .slice so n sc/\At= .slice uo n tc/\Ai= .slice io n ic/\n<=sc/\sc<=9223372036854775807/\(0<n->∃g,so=some ⟨g,0,none⟩):=by
 obtain⟨⟨bss,bst,bsi,hv,hz⟩,ho⟩:=h;obtain⟨so,sn,sc,e1,s1,s2,s3,-⟩:=id (qA.rows hv.s);obtain⟨uo,tn,tc,e2,t1,t2,t3,-⟩:=id (qA.rows hv.t);obtain⟨io,in_,ic,e3,i1,i2,i3,-⟩:=id (qA.rows hv.i);obtain rfl:n=sn:=by rw[<-s1];simp[genM]
 obtain rfl:n=tn:=by rw[<-t1];simp[genM]
 obtain rfl:n=in_:=by rw[<-i1];simp[genM]
 refine⟨so,sc,uo,tc,io,ic,e1,e2,e3,s2,s3,fun hn=>?_⟩;have hs:=hv.s;rw[e1]at hs;obtain⟨g,b,e,-⟩:=qA.at_ hs (i:=0) (by rw[hs.len];exact hn);exact⟨g,e⟩
theorem zCA.row{x:Bst}(h:zCA Z w (.slice (some ⟨g,0,none⟩) n sc) At Ai n Cs Ct x)(hi:i<n):
  ∃b,w.cell? ⟨g,i,none⟩=some (.slice (some ⟨b,0,none⟩) Cs Cs)/\jQ w b (yL Cs (x.s i)):=by
 obtain⟨⟨bss,bst,bsi,hv,hz⟩,ho⟩:=h;obtain⟨g',b,e,hg,hb,hb2,o1,-⟩:=qA.at_ hv.s (i:=i) (by rw[hv.s.len];exact hi);injection e with e
 injection e with e
 subst e;exact⟨b,o1,hv.s.rowAt hi hb⟩
theorem zCA.glt{x:Bst}(h:zCA Z w (.slice (some ⟨g,0,none⟩) n sc) At Ai n Cs Ct x)(hi:i<n):g<w.heap.size:=by
 obtain⟨⟨bss,bst,bsi,hv,hz⟩,ho⟩:=h;obtain⟨g',b,e,hg,-⟩:=qA.at_ hv.s (i:=i) (by rw[hv.s.len];exact hi);injection e with e
 injection e with e
 subst e;exact hg
theorem zNE(k:Nat)(zs:List Int):(zCG k zs=-1/\∀z∈zs,z=0)∨∃j,zCG k zs=((k+j:Nat):Int)/\j<zs.length/\zs.getD j 0≠0/\∀t,t<j->zs.getD t 0=0:=by
 induction zs generalizing k with
 |nil=>exact .inl ⟨rfl,fun z hz=>by cases hz⟩
 | cons z zs ih=>
  unfold zCG;by_cases hz:z=0
  ·rw[if_neg (by simp[hz])]
   rcases ih (k+1)with⟨h1,h2⟩|⟨j,h1,h2,h3,h4⟩
   ·refine .inl ⟨h1,fun y hy=>?_⟩
    rcases List.mem_cons.1 hy with rfl|hy
    exact hz;exact h2 y hy
   refine .inr ⟨j+1,by rw[h1];congr 1;omega,by simp;omega,by simpa using h3,fun t ht=>?_⟩;cases t with
   |zero=>simpa using hz
   |succ t=>simpa using h4 t oM
  rw[if_pos hz];exact .inr ⟨0,by simp,by simp,by simpa using hz,fun t ht=>by omega⟩
theorem zLp(h:j<n):(yL n f).getD j 0=f j:=by rw[xgb,yE h];rfl
theorem zCT(C:Nat)(F:Nat->Nat->Int)(i:Nat):(lead C F i=-1/\∀t,t<C->F i t=0)∨∃j:Nat,lead C F i=(j:Int)/\j<C/\F i j≠0/\∀t,t<j->F i t=0:=by
 unfold lead;rcases zNE 0 (yL C (F i))with⟨h1,h2⟩|⟨j,h1,h2,h3,h4⟩
 exact .inl ⟨h1,fun t ht=>h2 _ (xgd (yE ht))⟩;rw[qC]at h2;rw[zLp h2]at h3;refine .inr ⟨j,by rw[h1];simp,h2,h3,fun t ht=>?_⟩;have:=h4 t ht;rwa[zLp oM]at this
theorem zGw(h:¬ lead C F i<0):∃c:Nat,lead C F i=(c:Int)/\c<C/\F i c≠0/\∀t,t<c->F i t=0:=by
 rcases zCT C F i with⟨h1,-⟩|h1
 omega;exact h1
noncomputable def leastOf (P:Nat->Prop):Nat:=open Classical in if h:∃f,P f/\∀g,P g->f<=g then h.choose else 0
theorem zOJ:∀f,P f->∃f,P f/\∀g,P g->f<=g:=by
 intro f;induction f using Nat.strongRecOn with
 | _ f ih=>
  intro hf;by_cases h:∃g,g<f/\P g
  ·obtain⟨g,h1,h2⟩:=h
   exact ih g h1 h2
  refine⟨f,hf,fun g hg=>?_⟩;rcases zG g f with h3|h3
  exact absurd ⟨g,h3,hg⟩ h;exact h3
theorem zFe{f:Nat}(h:P f):P (leastOf P)/\∀g,P g->leastOf P<=g:=by
 have hx:∃f,P f/\∀g,P g->f<=g:=zOJ f h;unfold leastOf;rw[dif_pos hx];exact hx.choose_spec
theorem zHM{f:Nat}(h:P f)(hf:f<n):leastOf P<n:=zJ ((zFe h).2 f h) hf
section
variable {P:Program} {a:Act} {w:World} {Q:Exit->Act->World->Prop}
theorem Exit.jump_ret{J:Act->World->Prop}:Exit.jump l J Q .ret a w=Q .ret a w:=rfl
theorem zGS{c rest:Code}(J:Act->World->Prop)(μ:Act->World->Nat)(hf:findLabel (c.seq ((Code.label l).seq rest)) l=some (Code.skip.seq rest))
  (first:c.wp P (fun e a w=>e= .normal/\J a w) a w)
  (pass:∀a w,J a w->rest.wp P (Exit.jump l (fun a' w'=>J a' w'/\μ a' w'<μ a w) Q) a w):(Code.scope (c.seq ((Code.label l).seq rest))).wp P Q a w:=by
 have key:∀a w,J a w->rest.wp P (Exit.jump l J Q) a w:=fun a w hJ=>wp_mono (pass a w hJ) (by
  intro e a' w' h;cases e<;>first|exact h|exact⟨h.1,h.2.1⟩)
 refine wp_scope_jumps l J μ hf ?_ ?_
 ·refine wp_seq (wp_mono first ?_)
  rintro e a' w' ⟨rfl,hJ⟩;exact wp_seq (wp_label (key _ _ hJ))
 intro a' w' hJ;exact wp_seq (wp_skip (pass a' w' hJ))
theorem zJB{rest:Code}{l:Nat}(J:Act->World->Prop)(μ:Act->World->Nat)(first:J a w)
  (pass:∀a w,J a w->rest.wp P (Exit.jump l (fun a' w'=>J a' w'/\μ a' w'<μ a w) Q) a w):(Code.scope ((Code.label l).seq rest)).wp P Q a w:=by
 have key:∀a w,J a w->rest.wp P (Exit.jump l J Q) a w:=fun a w hJ=>wp_mono (pass a w hJ) (by
  intro e a' w' h;cases e<;>first|exact h|exact⟨h.1,h.2.1⟩)
 refine wp_scope_jumps (rest:=Code.skip.seq rest) l J μ (by simp[findLabel]) ?_ ?_;exact wp_seq (wp_label (key _ _ first));intro a' w' hJ;exact wp_seq (wp_skip (pass a' w' hJ))
end
def DMV(a b:Int):World->Value->Prop:=fun w v=>∃q r,v= .tuple #[q,r,.int .i64 0]/\jT w q (a/b)/\jT w r (a%b)
theorem zKh(a b:Int):zHD (DMV a b):=by
 intro w w' v e h;obtain⟨q,r,h1,h2,h3⟩:=h;exact⟨q,r,h1,h2.ext e,h3.ext e⟩
theorem zKX(v1 v2:Value)(z1 z2:Int)(w:World)(h1:zHy w v1 z1)(h2:zHy w v2 z2)(s1:Sm z1)(s2:Sm z2)(hz:z2≠0):
  Calls Tryz.prog 162 #[v1,v2] w fun e w'=>∃v,e= .returned v/\DMV z1 z2 w' v/\Below w.heap.size w w':=by
 refine(zDj v1 v2 z1 z2 w h1 h2 s1 s2 hz).mono ?_;rintro e w' ⟨v1,v2,rfl,h1,h2,h3⟩;exact⟨_,rfl,⟨v1,v2,rfl,h1,h2⟩,h3⟩
theorem zKx(h:okF B R C F)(hi:i<R)(hj:j<R):okF B R C (zG9 F i j):=by
 intro a ha b hb;refine h _ ?_ b hb;unfold swp;split;exact hj;split;exact hi;exact ha
theorem zNQ(h:okF B R C F):okF B R C (zDM F i):=by
 intro a ha b hb;unfold zDM;split;rw[zT];exact h a ha b hb;exact h a ha b hb
theorem zEB{x:Bst}(h:okB B n Cs Ct x)(hi:i<n)(hj:j<n):okB B n Cs Ct (x.swap i j):=⟨zKx h.1 hi hj,zKx h.2.1 hi hj,zKx h.2.2 hi hj⟩
theorem zRo{x:Bst}(h:okB B n Cs Ct x):okB B n Cs Ct (x.neg i):=⟨zNQ h.1,zNQ h.2.1,zNQ h.2.2⟩
theorem zFI.ok{x:Bst}{k:Int}(h:zFI B n Cs Ct x i j k):okB B n Cs Ct (x.add i j k):=h.2.2.2
theorem zTB{c:Int}(h:¬ L k<c):adv L c m k=k:=by
 cases m with
 |zero=>rfl
 |succ m=>unfold adv;rw[if_neg h]
theorem zTA{c:Int}(hk:k<rank)(h:L k<c):adv L c (rank-k) k=adv L c (rank-(k+1)) (k+1):=by
 obtain⟨m,hm⟩:∃m,rank-k=m+1:=⟨rank-k-1,by omega⟩;have e:rank-(k+1)=m:=by omega
 rw[hm,e];conv=>lhs;unfold adv
 rw[if_pos h]
theorem jT.two{x y:Value}(h:jT w (.agg #[x,y]) z):∃s a l c,x= .bool s/\y= .slice a l c:=by
 obtain⟨s,a,l,c,xs,e,-⟩:=id h;injection e with e
 simp only[Array.mk.injEq,List.cons.injEq]at e;exact⟨s,a,l,c,e.1,e.2.1⟩
theorem zIS(h:¬ z<0):0<=zAp z 0:=zDi h
theorem zOh{x:Bst}{ii jj:Int}(i j:Nat)(h:zCA Z w As At Ai n Cs Ct x)(hi:i<n)(hj:j<n)(hn:n<=1000000)(hii:ii=i)(hjj:jj=j):
  Calls Tryz.prog 201 #[.agg #[As,At,Ai],.int .i64 ii,.int .i64 jj] w fun e w'=>(∃u,e= .returned u)/\qG Z w w'/\zCA Z w' As At Ai n Cs Ct (x.swap i j):=by
 subst hii;subst hjj;exact zP5 h hi hj hn
theorem zUO(hB:BSm B){x:Bst}{m rank ff:Nat}{y:Bst}{bb:Bool}(hZ:∀b,Z b->b<w.heap.size)(h:zCA Z w As At Ai n Cs Ct x)(hok:okB B n Cs Ct x)
  (hm:m<n) (hr:rank<=m) (hn:n<=1000000) (hCs:Cs<=1000000) (hCt:Ct<=1000000) (ht:zBt B n Cs Ct m rank ff 0 x=some (y,bb)):
  Calls Tryz.prog 185 #[.agg #[As,At,Ai],.int .i64 m,.int .i64 rank] w fun e w'=>e= .returned (.bool bb)/\qG Z w w'/\zCA Z w' As At Ai n Cs Ct y/\okB B n Cs Ct y:=by
 obtain⟨so,sc,uo,tc,io,ic,rfl,rfl,rfl,hsc,hsc2,hg⟩:=h.shape;obtain⟨g,rfl⟩:=hg oM;have HO0:=xgv (And.intro hok ht);have hrn:rank<n:=by omega
 clear hok ht hg;go_enter Tryz.func185,Tryz.ntmps185;go_wp2;refine zD ?_;intro W0 hW0;obtain⟨hB0,bx,hs0⟩:=qM hW0;have hz:=h.below hB0;have hO:=qG.of Z hB0;clear hW0 h;obtain⟨JF,hJF⟩:∃JF:Nat->Act->World->Prop,∀f a' wt,JF f a' wt↔∃(k:Nat) (x':Bst) (u8 u9 u10 u11 u13 u14 u15 u16 u17 u18 u19 u20 u21 u22 u23 u24 u25 u26 u27 u28 u29 u30 u31 u32 u33 u34 u35 u36 u37 u38 u39 u40 u41 u42 u43 u44 u45 u46 u47 u48 u49 u50 u51 u52 u53 u54 u55 u56 u57 u58 u59 u60 u61 u62 u63 u64 u65 u66 u67 u68 u69 u70 u71 u72 u73 u74 u75 u76 u77 u78 u79 u80 u81 u82:Value),a'={tmps:=#[.agg #[.slice (some ⟨g,0,none⟩) n sc,.slice uo n tc,.slice io n ic],.int .i64 m,.int .i64 rank,.pointer (some ⟨w.heap.size,0,none⟩),undef,undef,.bool false,.int .i64 k,u8,u9,u10,u11,undef,u13,u14,u15,u16,u17,u18,u19,u20,u21,u22,u23,u24,u25,u26,u27,u28,u29,u30,u31,u32,u33,u34,u35,u36,u37,u38,u39,u40,u41,u42,u43,u44,u45,u46,u47,u48,u49,u50,u51,u52,u53,u54,u55,u56,u57,u58,u59,u60,u61,u62,u63,u64,u65,u66,u67,u68,u69,u70,u71,u72,u73,u74,u75,u76,u77,u78,u79,u80,u81,u82,undef,undef,undef,undef,undef,undef,undef,undef,undef,undef,undef,undef,undef,undef,undef,undef,undef,undef,undef,undef,undef,undef,undef,undef,undef,undef,undef,undef],defers:=[]}/\k<=rank∧
  qG Z w wt/\Blk wt w.heap.size 176 #[.slice (some ⟨g,0,none⟩) n sc,.slice uo n tc,.slice io n ic]/\zCA Z wt (.slice (some ⟨g,0,none⟩) n sc) (.slice uo n tc) (.slice io n ic) n Cs Ct x'/\zAN (okB B n Cs Ct x'/\zBt B n Cs Ct m rank f k x'=some (y,bb)):=⟨_,fun _ _ _=>zAK⟩
 have HJF:=xgv hJF;clear hJF;refine zGS (fun a' wt=>∃f,JF f a' wt) (fun a' wt=>leastOf (fun f=>JF f a' wt)) rfl ?_ ?_
 ·go_wp2
  exact⟨ff,(HJF.out _ _ _).2 ⟨0,x,_,_,_,_,_,_,_,_,_,_,_,_,_,_,_,_,_,_,_,_,_,_,_,_,_,_,_,_,_,_,_,_,_,_,_,_,_,_,_,_,_,_,_,_,_,_,_,_,_,_,_,_,_,_,_,_,_,_,_,_,_,_,_,_,_,_,_,_,_,_,_,_,_,_,rfl,zE _,hO,bx,hz,HO0⟩⟩
 intro a' wr hJ;obtain⟨f1,hJ⟩:=hJ;replace hJ:=(zFe (P:=fun f=>JF f a' wr) hJ).1;generalize leastOf (fun f=>JF f a' wr)=f0 at hJ ⊢
 rw[HJF.out]at hJ;obtain⟨k,x',u8,u9,u10,u11,u13,u14,u15,u16,u17,u18,u19,u20,u21,u22,u23,u24,u25,u26,u27,u28,u29,u30,u31,u32,u33,u34,u35,u36,u37,u38,u39,u40,u41,u42,u43,u44,u45,u46,u47,u48,u49,u50,u51,u52,u53,u54,u55,u56,u57,u58,u59,u60,u61,u62,u63,u64,u65,u66,u67,u68,u69,u70,u71,u72,u73,u74,u75,u76,u77,u78,u79,u80,u81,u82,rfl,hk,hO,bx,hz,hox⟩:=hJ;obtain⟨hok,ht⟩:=hox.out;clear HO0 hox;cases f0 with
 |zero=>cases ht
 | succ f=>
  unfold zBt at ht;obtain⟨bm,o1,hrow⟩:=hz.row hm;obtain⟨c1,c2,c3,c4,c5,c6⟩:=bx.three;have HOK:=xgv hok;have HT0:=xgv ht;clear hok ht;go_wp2_with fail
  refine(zFF _ (yL Cs (x'.s m)) _ (hrow.vec (qC _ _) (xgf _) oM)).mono ?_;rintro e w1 ⟨rfl,hb1⟩;have ht:=HT0.out;clear HT0;have hz:=hz.below hb1;have bx:=bx.below hb1;have hO:=hO.trans (qG.of Z hb1);clear o1 hrow c1 c2 c3 c4 c5 c6;by_cases hneg:lead Cs x'.s m<0
  ·rw[if_pos hneg]at ht
   injection ht with ht
   injection ht with ht1 ht2
   subst ht1;subst ht2;have hL:zCG 0 (yL Cs (x'.s m))=-1:=by
    rcases zCT Cs x'.s m with⟨h1,-⟩|⟨j,h1,-⟩
    exact h1;omega
   rw[hL];have HOK':=HOK;clear hneg hL;go_wp2;rw[Exit.jump_ret];go_ret;exact⟨rfl,hO,hz,HOK.out⟩
  rw[if_neg hneg]at ht;obtain⟨c,hLc,hcC,-,-⟩:=zGw hneg;have hL:zCG 0 (yL Cs (x'.s m))=(c:Int):=hLc;rw[hL];rw[hLc,zBd]at ht;have HT:=xgv ht;have HLC:=xgv hLc;clear ht hneg hL hLc;go_wp2;go_loopw [7] (fun kv wt=>∃k':Nat,kv= .int .i64 k'/\k'<=rank/\Below w1.heap.size w1 wt/\zAN (adv (lead Cs x'.s) (c:Int) (rank-k) k=adv (lead Cs x'.s) (c:Int) (rank-k') k')) (fun kv _=>rank-(intOf kv).toNat)
  case atStart=>exact⟨k,rfl,hk,zA _ _,⟨rfl⟩⟩
  rename World=>wt
  obtain⟨k',rfl,hk',hb2,hadv⟩:=hrel;have hz:=hz.below hb2;have bx:=bx.below hb2;have hO:=hO.trans (qG.of Z hb2);by_cases hkr:k'<rank
  ·obtain⟨bk,o2,hrowk⟩:=hz.row (i:=k') oM
   obtain⟨c1,c2,c3,c4,c5,c6⟩:=bx.three;go_wp2_with fail
   refine(zFF _ (yL Cs (x'.s k')) _ (hrowk.vec (qC _ _) (xgf _) oM)).mono ?_;rintro e w3 ⟨rfl,hb3⟩;have hz:=hz.below hb3;have bx:=bx.below hb3;have hO:=hO.trans (qG.of Z hb3);clear o2 hrowk c1 c2 c3 c4 c5 c6;obtain⟨L,hL⟩:∃L,zCG 0 (yL Cs (x'.s k'))=L:=⟨_,rfl⟩;have hLk:lead Cs x'.s k'=L:=hL;rw[hL];by_cases hlt:L<(c:Int)
   ·go_wp2
    go_roundw
    case rel=>exact⟨k'+1,by simp,by omega,nx hb2 hb3,⟨hadv.out.trans (zTA hkr (by rw[hLk];exact hlt))⟩⟩
    case measure=>simp[intOf];omega
   have ht:=HT.out;rw[hadv.out,zTB (by rw[hLk];exact hlt)]at ht;clear HT;obtain⟨bk,o2,hrowk⟩:=hz.row (i:=k') oM;obtain⟨c1,c2,c3,c4,c5,c6⟩:=bx.three;have HT:=xgv ht;clear ht;go_wp2_with fail
   refine(zFF _ (yL Cs (x'.s k')) _ (hrowk.vec (qC _ _) (xgf _) oM)).mono ?_;rintro e w4 ⟨rfl,hb4⟩;have hz:=hz.below hb4;have bx:=bx.below hb4;have hO:=hO.trans (qG.of Z hb4);have ht:=HT.out;have hok:=HOK.out;clear o2 hrowk c1 c2 c3 c4 c5 c6 HT;rw[hL];by_cases heq:L=(c:Int)
   ·subst heq
    rw[if_pos ⟨hkr,hLk⟩]at ht;have hne0:x'.s k' c≠0:=by
     rcases zCT Cs x'.s k' with⟨h1,-⟩|⟨j,h1,-,h3,-⟩
     omega;obtain rfl:j=c:=by omega
     exact h3
    by_cases hadd:zFI B n Cs Ct x' m k' (-(x'.s m c/x'.s k' c))
    ·rw[if_pos hadd]at ht
     have HT:=xgv ht;have HADD:=xgv hadd;have SX:zAN (Sm (x'.s m c)):=⟨hB.sm _ (hok.1 m hm c hcC)⟩;have SY:zAN (Sm (x'.s k' c)):=⟨hB.sm _ (hok.1 k' oM c hcC)⟩;have SQ:zAN (Sm (x'.s m c/x'.s k' c)):=⟨hB.sm _ (by have:=hadd.1;rwa[zT]at this)⟩;clear ht hadd hok;obtain⟨bm,o1,hrow⟩:=hz.row hm;obtain⟨bk,o2,hrowk⟩:=hz.row (i:=k') oM;obtain⟨c1,c2,c3,c4,c5,c6⟩:=bx.three;obtain⟨xs,xa,xl,xc,v1,v2,-,-,hx⟩:=hrow.cell (yE hcC);obtain⟨ys,ya,yl,yc,r1,r2,-,-,hy⟩:=hrowk.cell (yE hcC);have hlast:=zKh (x'.s m c) (x'.s k' c);have l0:=bx.lt;have l1:=hrow.lt;have l2:=hrowk.lt;have lg:=hz.glt hm;have HNE:=xgv hne0;have hkn:k'<n:=by omega
     clear hne0 hadv;go_upto_region 8 with(fail)
     refine zCn [pcD 16 [] (DMV (x'.s m c) (x'.s k' c)),pcD 17 [16] (DMV (x'.s m c) (x'.s k' c)),pcD 18 [17] (fun w v=>jT w v (x'.s m c/x'.s k' c)),pcD 19 [17] (fun w v=>jT w v (x'.s m c%x'.s k' c)),pcD 20 [17] (fun _ v=>v= .int .i64 0),pbA 21 43 2,pbA 22 43 2,pbS 23 21 43 2,pbS 24 22 43 2] ?_;refine sRd ?_;refine sRc (fun wS hI Gk hG=>by go_simp;exact ck hG (zKX _ _ (x'.s m c) (x'.s k' c) _ (hx.ext hI.lext).weak (hy.ext hI.lext).weak SX.out SY.out HNE.out)) (fun va16 _=>?_);refine sRc (fun wS hI ha16 Gk hG=>?_) (fun va17 _=>?_)
     ·go_simp
      exact⟨hG _ _ ha16,zA _ _⟩
     refine sRc (fun wS hI ha17 Gk hG=>?_) (fun va18 hv=>?_)
     ·obtain⟨q,r,rfl,hq,hr⟩:=ha17
      go_simp;exact⟨hG _ _ hq,zA _ _⟩
     obtain⟨xa21,ya21,rfl,qa21⟩:=zLF hv;clear hv;refine sRc (fun wS hI ha17 Gk hG=>?_) (fun va19 hv=>?_)
     ·obtain⟨q,r,rfl,hq,hr⟩:=ha17
      go_simp;exact⟨hG _ _ hr,zA _ _⟩
     obtain⟨xa22,ya22,rfl,qa22⟩:=zLF hv;clear hv;refine sRc (fun wS hI ha17 Gk hG=>?_) (fun _ hv=>?_)
     ·obtain⟨q,r,rfl,hq,hr⟩:=ha17
      go_simp;exact⟨hG _ _ rfl,zA _ _⟩
     obtain⟨_,-,rfl⟩:=hv;refine sRa (cs:=#[.bool false,.slice none 0 0]) fun ca21 ga21=>?_
     refine sRa (cs:=#[.bool false,.slice none 0 0]) fun ca22 ga22=>?_
     refine sRs ca21 (.agg #[xa21,ya21]) ?_ qa21;refine sRs ca22 (.agg #[xa22,ya22]) ?_ qa22;refine sRd ?_;refine sRb ?_;simp only[FA,FC,FN,ptr,List.nil_append,List.cons_append,Act.put,xgh,xgi,xgj];intro w9 hbw9 ha16 ha17 ha18 ha19 _ ka21 ka22 na21 na22;replace ka21:Blk w9 ca21 43 #[xa21,ya21]:=ka21 _ rfl;have ia21:=ha18;replace ka22:Blk w9 ca22 43 #[xa22,ya22]:=ka22 _ rfl;have ia22:=ha19;have na21_22:ca21≠ca22:=na21 (22,ca22) sI;clear na21 na22;obtain⟨qs,qa,ql,qc,rfl,rfl⟩:=ia21.two;obtain⟨rs,ra,rl,rc,rfl,rfl⟩:=ia22.two;have hz:=hz.below hbw9;have bx:=bx.below hbw9;have hO:=hO.trans (qG.of Z hbw9);have lq:=ka21.lt;have lr:=ka22.lt;have hsz4:=hbw9.size;clear o1 o2 c1 c2 c3 c4 c5 c6 v1 v2 r1 r2;obtain⟨c1,c2,c3,c4,c5,c6⟩:=bx.three;obtain⟨d1,d2,d3,d4⟩:=ka21.two;have l0:=bx.lt;go_upto_region 9 with(fail)
     refine yX 5 [pcI 4 (-(x'.s m c/x'.s k' c))] ?_;refine sRd ?_;refine sRc (fun wS hI Gk hG=>by go_simp;exact ck hG (zBS _ (x'.s m c/x'.s k' c) _ (ia21.ext hI.lext).weak SQ.out)) (fun vy4 _=>?_);refine sRe ?_;intro w11 hbw11 hy4;have hz:=hz.below hbw11;have bx:=bx.below hbw11;have hO:=hO.trans (qG.of Z hbw11);have hsz11:=hbw11.size;clear c1 c2 c3 c4 c5 c6 d1 d2 d3 d4;go_wp2_with fail
     refine(zYR hB hz HOK.out hm hkn oM hy4 hn hCs hCt HADD.out).mono ?_;rintro e w12 ⟨⟨uu12,rfl⟩,hO12,hz⟩;have hok:=HADD.out.ok;have hO:=hO.trans hO12;have bx:=hO12.blk bx (fun hh=>by have:=hZ _ hh;omega);have k22:=hO12.blk (ka22.below hbw11) (fun hh=>by have:=hZ _ hh;omega);have ir:=(ia22.ext (lx hbw11)).ext hO12.lext;obtain⟨e1,e2,e3,e4⟩:=k22.two;have HOK2:=xgv hok;clear hok;go_wp2_with fail
     refine(zAa _ (x'.s m c%x'.s k' c) _ ir.weak).mono ?_;rintro e w13 ⟨rfl,hb13⟩;have hz:=hz.below hb13;have bx:=bx.below hb13;have hO:=hO.trans (qG.of Z hb13);clear e1 e2 e3 e4;by_cases hr0:x'.s m c%x'.s k' c=0
     ·rw[zBX hr0]
      rw[if_pos hr0]at HT;clear hr0;go_wp2;go_step3;refine⟨rfl,⟨f,(HJF.out _ _ _).2 ⟨k',x'.add m k' (-(x'.s m c/x'.s k' c)),_,_,_,_,_,_,_,_,_,_,_,_,_,_,_,_,_,_,_,_,_,_,_,_,_,_,_,_,_,_,_,_,_,_,_,_,_,_,_,_,_,_,_,_,_,_,_,_,_,_,_,_,_,_,_,_,_,_,_,_,_,_,_,_,_,_,_,_,_,_,_,_,_,_,rfl,zAw hkr,hO,bx,hz,⟨HOK2.out,HT.out⟩⟩⟩,zHM ((HJF.out _ _ _).2 ⟨k',x'.add m k' (-(x'.s m c/x'.s k' c)),_,_,_,_,_,_,_,_,_,_,_,_,_,_,_,_,_,_,_,_,_,_,_,_,_,_,_,_,_,_,_,_,_,_,_,_,_,_,_,_,_,_,_,_,_,_,_,_,_,_,_,_,_,_,_,_,_,_,_,_,_,_,_,_,_,_,_,_,_,_,_,_,_,_,rfl,zAw hkr,hO,bx,hz,⟨HOK2.out,HT.out⟩⟩) (zAk f)⟩
     have hc:=zCi hr0;obtain⟨k0,hk0⟩:∃k0,zAp (x'.s m c%x'.s k' c) 0=k0:=⟨_,rfl⟩;rw[hk0]at hc ⊢
     rw[if_neg hr0]at HT;clear hk0 hr0;obtain⟨c1,c2,c3,c4,c5,c6⟩:=bx.three;go_wp2_with fail
     refine(zP5 hz hm hkn hn).mono ?_;rintro e w14 ⟨⟨uu14,rfl⟩,hO14,hz⟩;have HOK2:=xgv (zEB HOK2.out hm hkn);have hO:=hO.trans hO14;have bx:=hO14.blk bx (fun hh=>by have:=hZ _ hh;omega);go_wp2;go_step3;refine⟨rfl,⟨f,(HJF.out _ _ _).2 ⟨k',(x'.add m k' (-(x'.s m c/x'.s k' c))).swap m k',_,_,_,_,_,_,_,_,_,_,_,_,_,_,_,_,_,_,_,_,_,_,_,_,_,_,_,_,_,_,_,_,_,_,_,_,_,_,_,_,_,_,_,_,_,_,_,_,_,_,_,_,_,_,_,_,_,_,_,_,_,_,_,_,_,_,_,_,_,_,_,_,_,_,rfl,zAw hkr,hO,bx,hz,⟨HOK2.out,HT.out⟩⟩⟩,zHM ((HJF.out _ _ _).2 ⟨k',(x'.add m k' (-(x'.s m c/x'.s k' c))).swap m k',_,_,_,_,_,_,_,_,_,_,_,_,_,_,_,_,_,_,_,_,_,_,_,_,_,_,_,_,_,_,_,_,_,_,_,_,_,_,_,_,_,_,_,_,_,_,_,_,_,_,_,_,_,_,_,_,_,_,_,_,_,_,_,_,_,_,_,_,_,_,_,_,_,_,rfl,zAw hkr,hO,bx,hz,⟨HOK2.out,HT.out⟩⟩) (zAk f)⟩
    rw[if_neg hadd]at ht;cases ht
   have hno:¬ (k'<rank/\lead Cs x'.s k'=(c:Int)):=fun hh=>heq (hLk.symm.trans hh.2)
   rw[if_neg hno]at ht;injection ht with ht
   injection ht with ht1 ht2
   subst ht2;have HT:=xgv ht1;clear ht1 hno;obtain⟨c1,c2,c3,c4,c5,c6⟩:=bx.three;obtain⟨bm,o1,hrow⟩:=hz.row hm;obtain⟨zs,za,zl,zc,v1,v2,-,-,hv⟩:=hrow.cell (yE hcC);go_wp2_with fail
   refine(zAa _ (x'.s m c) _ hv.weak).mono ?_;rintro e w5 ⟨rfl,hb5⟩;have hz:=hz.below hb5;have bx:=bx.below hb5;have hO:=hO.trans (qG.of Z hb5);clear v1 v2 o1 hrow hv c1 c2 c3 c4 c5 c6;obtain⟨x2,hx2⟩:∃x2:Bst,x2=(if x'.s m c<0 then x'.neg m else x'):=⟨_,rfl⟩;rw[<-hx2]at HT;by_cases hneg:x'.s m c<0
   ·rw[zBW hneg]
    rw[if_pos hneg]at hx2;obtain⟨c1,c2,c3,c4,c5,c6⟩:=bx.three;go_wp2_with fail
    refine(zYW hB hz hok hm hn hCs hCt).mono ?_;rintro e w6 ⟨⟨uu,rfl⟩,hO6,hz⟩;have hok:=zRo (i:=m) hok;rw[<-hx2]at hz hok;have hO:=hO.trans hO6;have bx:=hO6.blk bx (fun hh=>by have:=hZ _ hh;omega);clear c1 c2 c3 c4 c5 c6 hx2 hneg;obtain⟨c1,c2,c3,c4,c5,c6⟩:=bx.three;go_wp2_with fail
    refine(zP5 hz hm hrn hn).mono ?_;rintro e w7 ⟨⟨uu7,rfl⟩,hO7,hz⟩;have hok:=zEB hok hm hrn;have hO:=hO.trans hO7;have bx:=hO7.blk bx (fun hh=>by have:=hZ _ hh;omega);have HOK:=xgv hok;clear c1 c2 c3 c4 c5 c6 hok;go_wp2;go_loopw [12] (fun iv wt=>∃(i:Nat) (xi:Bst),iv= .int .i64 i/\k'<=i/\i<=rank/\qG Z w wt/\Blk wt w.heap.size 176 #[.slice (some ⟨g,0,none⟩) n sc,.slice uo n tc,.slice io n ic]/\zCA Z wt (.slice (some ⟨g,0,none⟩) n sc) (.slice uo n tc) (.slice io n ic) n Cs Ct xi/\zAN (okB B n Cs Ct xi/\zVA k' (i-k') xi=y)) (fun iv _=>(intOf iv).toNat)
    case atStart=>exact⟨rank,_,rfl,hk',xgf _,hO,bx,hz,⟨⟨HOK.out,HT.out⟩⟩⟩
    rename World=>wv
    obtain⟨i,xi,rfl,hi1,hi2,hO,bx,hz,hx⟩:=hrel;obtain⟨c1,c2,c3,c4,c5,c6⟩:=bx.three;by_cases hik:k'<i
    ·obtain⟨p,rfl⟩:∃p,i=k'+p+1:=⟨i-k'-1,by omega⟩
     go_wp2_with fail
     refine(zOh (k'+p+1) (k'+p) hz oM oM hn oM oM).mono ?_;rintro e w8 ⟨⟨uu8,rfl⟩,hO8,hz⟩;have bx:=hO8.blk bx (fun hh=>by have:=hZ _ hh;omega);go_wp2;go_roundw
     case rel=>
      refine⟨k'+p,_,?_,by omega,by omega,hO.trans hO8,bx,hz,⟨⟨zEB hx.out.1 oM oM,?_⟩⟩⟩
      ·first|(simp;done)|(congr 1;omega)
      have h3:=hx.out.2;rw[show k'+p+1-k'=p+1 by omega]at h3;rw[show k'+p-k'=p by omega];exact h3
     case measure=>simp[intOf];omega
    obtain rfl:i=k':=by omega
    have h3:=hx.out.2;rw[jP]at h3;have HX3:=xgv (show xi=y from h3);clear h3;go_wp2;rw[Exit.jump_ret];go_ret;exact⟨rfl,hO,by rw[<-HX3.out];exact hz,by rw[<-HX3.out];exact hx.out.1⟩
   rw[if_neg hneg]at hx2;rw[<-hx2]at hz hok;have hc:=zIS hneg;obtain⟨k0,hk0⟩:∃k0,zAp (x'.s m c) 0=k0:=⟨_,rfl⟩;rw[hk0]at hc ⊢
   clear hx2 hk0 hneg;obtain⟨c1,c2,c3,c4,c5,c6⟩:=bx.three;go_wp2_with fail
   refine(zP5 hz hm hrn hn).mono ?_;rintro e w7 ⟨⟨uu7,rfl⟩,hO7,hz⟩;have hok:=zEB hok hm hrn;have hO:=hO.trans hO7;have bx:=hO7.blk bx (fun hh=>by have:=hZ _ hh;omega);have HOK:=xgv hok;clear c1 c2 c3 c4 c5 c6 hok;go_wp2;go_loopw [12] (fun iv wt=>∃(i:Nat) (xi:Bst),iv= .int .i64 i/\k'<=i/\i<=rank/\qG Z w wt/\Blk wt w.heap.size 176 #[.slice (some ⟨g,0,none⟩) n sc,.slice uo n tc,.slice io n ic]/\zCA Z wt (.slice (some ⟨g,0,none⟩) n sc) (.slice uo n tc) (.slice io n ic) n Cs Ct xi/\zAN (okB B n Cs Ct xi/\zVA k' (i-k') xi=y)) (fun iv _=>(intOf iv).toNat)
   case atStart=>exact⟨rank,_,rfl,hk',xgf _,hO,bx,hz,⟨⟨HOK.out,HT.out⟩⟩⟩
   rename World=>wv
   obtain⟨i,xi,rfl,hi1,hi2,hO,bx,hz,hx⟩:=hrel;obtain⟨c1,c2,c3,c4,c5,c6⟩:=bx.three;by_cases hik:k'<i
   ·obtain⟨p,rfl⟩:∃p,i=k'+p+1:=⟨i-k'-1,by omega⟩
    go_wp2_with fail
    refine(zOh (k'+p+1) (k'+p) hz oM oM hn oM oM).mono ?_;rintro e w8 ⟨⟨uu8,rfl⟩,hO8,hz⟩;have bx:=hO8.blk bx (fun hh=>by have:=hZ _ hh;omega);go_wp2;go_roundw
    case rel=>
     refine⟨k'+p,_,?_,by omega,by omega,hO.trans hO8,bx,hz,⟨⟨zEB hx.out.1 oM oM,?_⟩⟩⟩
     ·first|(simp;done)|(congr 1;omega)
     have h3:=hx.out.2;rw[show k'+p+1-k'=p+1 by omega]at h3;rw[show k'+p-k'=p by omega];exact h3
    case measure=>simp[intOf];omega
   obtain rfl:i=k':=by omega
   have h3:=hx.out.2;rw[jP]at h3;have HX3:=xgv (show xi=y from h3);clear h3;go_wp2;rw[Exit.jump_ret];go_ret;exact⟨rfl,hO,by rw[<-HX3.out];exact hz,by rw[<-HX3.out];exact hx.out.1⟩
  have ht:=HT.out;have hA:adv (lead Cs x'.s) (c:Int) (rank-k') k'=k':=by rw[show rank-k'=0 by omega];rfl
  rw[hadv.out,hA]at ht;have hok:=HOK.out;have hno:¬ (k'<rank/\lead Cs x'.s k'=(c:Int)):=fun hh=>hkr hh.1
  clear HT hA;go_upto_region 12 with(fail)
  clear hkr;rw[if_neg hno]at ht;injection ht with ht
  injection ht with ht1 ht2
  subst ht2;have HT:=xgv ht1;clear ht1 hno;obtain⟨c1,c2,c3,c4,c5,c6⟩:=bx.three;obtain⟨bm,o1,hrow⟩:=hz.row hm;obtain⟨zs,za,zl,zc,v1,v2,-,-,hv⟩:=hrow.cell (yE hcC);go_wp2_with fail
  refine(zAa _ (x'.s m c) _ hv.weak).mono ?_;rintro e w5 ⟨rfl,hb5⟩;have hz:=hz.below hb5;have bx:=bx.below hb5;have hO:=hO.trans (qG.of Z hb5);clear v1 v2 o1 hrow hv c1 c2 c3 c4 c5 c6;obtain⟨x2,hx2⟩:∃x2:Bst,x2=(if x'.s m c<0 then x'.neg m else x'):=⟨_,rfl⟩;rw[<-hx2]at HT;by_cases hneg:x'.s m c<0
  ·rw[zBW hneg]
   rw[if_pos hneg]at hx2;obtain⟨c1,c2,c3,c4,c5,c6⟩:=bx.three;go_wp2_with fail
   refine(zYW hB hz hok hm hn hCs hCt).mono ?_;rintro e w6 ⟨⟨uu,rfl⟩,hO6,hz⟩;have hok:=zRo (i:=m) hok;rw[<-hx2]at hz hok;have hO:=hO.trans hO6;have bx:=hO6.blk bx (fun hh=>by have:=hZ _ hh;omega);clear c1 c2 c3 c4 c5 c6 hx2 hneg;obtain⟨c1,c2,c3,c4,c5,c6⟩:=bx.three;go_wp2_with fail
   refine(zP5 hz hm hrn hn).mono ?_;rintro e w7 ⟨⟨uu7,rfl⟩,hO7,hz⟩;have hok:=zEB hok hm hrn;have hO:=hO.trans hO7;have bx:=hO7.blk bx (fun hh=>by have:=hZ _ hh;omega);have HOK:=xgv hok;clear c1 c2 c3 c4 c5 c6 hok;go_wp2;go_loopw [12] (fun iv wt=>∃(i:Nat) (xi:Bst),iv= .int .i64 i/\k'<=i/\i<=rank/\qG Z w wt/\Blk wt w.heap.size 176 #[.slice (some ⟨g,0,none⟩) n sc,.slice uo n tc,.slice io n ic]/\zCA Z wt (.slice (some ⟨g,0,none⟩) n sc) (.slice uo n tc) (.slice io n ic) n Cs Ct xi/\zAN (okB B n Cs Ct xi/\zVA k' (i-k') xi=y)) (fun iv _=>(intOf iv).toNat)
   case atStart=>exact⟨rank,_,rfl,hk',xgf _,hO,bx,hz,⟨⟨HOK.out,HT.out⟩⟩⟩
   rename World=>wv
   obtain⟨i,xi,rfl,hi1,hi2,hO,bx,hz,hx⟩:=hrel;obtain⟨c1,c2,c3,c4,c5,c6⟩:=bx.three;by_cases hik:k'<i
   ·obtain⟨p,rfl⟩:∃p,i=k'+p+1:=⟨i-k'-1,by omega⟩
    go_wp2_with fail
    refine(zOh (k'+p+1) (k'+p) hz oM oM hn oM oM).mono ?_;rintro e w8 ⟨⟨uu8,rfl⟩,hO8,hz⟩;have bx:=hO8.blk bx (fun hh=>by have:=hZ _ hh;omega);go_wp2;go_roundw
    case rel=>
     refine⟨k'+p,_,?_,by omega,by omega,hO.trans hO8,bx,hz,⟨⟨zEB hx.out.1 oM oM,?_⟩⟩⟩
     ·first|(simp;done)|(congr 1;omega)
     have h3:=hx.out.2;rw[show k'+p+1-k'=p+1 by omega]at h3;rw[show k'+p-k'=p by omega];exact h3
    case measure=>simp[intOf];omega
   obtain rfl:i=k':=by omega
   have h3:=hx.out.2;rw[jP]at h3;have HX3:=xgv (show xi=y from h3);clear h3;go_wp2;rw[Exit.jump_ret];go_ret;exact⟨rfl,hO,by rw[<-HX3.out];exact hz,by rw[<-HX3.out];exact hx.out.1⟩
  rw[if_neg hneg]at hx2;rw[<-hx2]at hz hok;have hc:=zIS hneg;obtain⟨k0,hk0⟩:∃k0,zAp (x'.s m c) 0=k0:=⟨_,rfl⟩;rw[hk0]at hc ⊢
  clear hx2 hk0 hneg;obtain⟨c1,c2,c3,c4,c5,c6⟩:=bx.three;go_wp2_with fail
  refine(zP5 hz hm hrn hn).mono ?_;rintro e w7 ⟨⟨uu7,rfl⟩,hO7,hz⟩;have hok:=zEB hok hm hrn;have hO:=hO.trans hO7;have bx:=hO7.blk bx (fun hh=>by have:=hZ _ hh;omega);have HOK:=xgv hok;clear c1 c2 c3 c4 c5 c6 hok;go_wp2;go_loopw [12] (fun iv wt=>∃(i:Nat) (xi:Bst),iv= .int .i64 i/\k'<=i/\i<=rank/\qG Z w wt/\Blk wt w.heap.size 176 #[.slice (some ⟨g,0,none⟩) n sc,.slice uo n tc,.slice io n ic]/\zCA Z wt (.slice (some ⟨g,0,none⟩) n sc) (.slice uo n tc) (.slice io n ic) n Cs Ct xi/\zAN (okB B n Cs Ct xi/\zVA k' (i-k') xi=y)) (fun iv _=>(intOf iv).toNat)
  case atStart=>exact⟨rank,_,rfl,hk',xgf _,hO,bx,hz,⟨⟨HOK.out,HT.out⟩⟩⟩
  rename World=>wv
  obtain⟨i,xi,rfl,hi1,hi2,hO,bx,hz,hx⟩:=hrel;obtain⟨c1,c2,c3,c4,c5,c6⟩:=bx.three;by_cases hik:k'<i
  ·obtain⟨p,rfl⟩:∃p,i=k'+p+1:=⟨i-k'-1,by omega⟩
   go_wp2_with fail
   refine(zOh (k'+p+1) (k'+p) hz oM oM hn oM oM).mono ?_;rintro e w8 ⟨⟨uu8,rfl⟩,hO8,hz⟩;have bx:=hO8.blk bx (fun hh=>by have:=hZ _ hh;omega);go_wp2;go_roundw
   case rel=>
    refine⟨k'+p,_,?_,by omega,by omega,hO.trans hO8,bx,hz,⟨⟨zEB hx.out.1 oM oM,?_⟩⟩⟩
    ·first|(simp;done)|(congr 1;omega)
    have h3:=hx.out.2;rw[show k'+p+1-k'=p+1 by omega]at h3;rw[show k'+p-k'=p by omega];exact h3
   case measure=>simp[intOf];omega
  obtain rfl:i=k':=by omega
  have h3:=hx.out.2;rw[jP]at h3;have HX3:=xgv (show xi=y from h3);clear h3;go_wp2;rw[Exit.jump_ret];go_ret;exact⟨rfl,hO,by rw[<-HX3.out];exact hz,by rw[<-HX3.out];exact hx.out.1⟩
abbrev tN:TypeId:=3
theorem Tryz.infoN:(Tryz.prog.info? tN).map (fun i=>(i.zero,i.size,i.bytes))=some (some (.int .i64 0),1,8):=by kernel_rfl
def zBZ(n:Nat)(g:Nat->Int):Array Value:=((List.range n).map fun i=>Value.int .i64 (g i)).toArray
theorem zEE{g:Nat->Int}(h:i<n):(zBZ n g)[i]?=some (.int .i64 (g i)):=by simp[zBZ,h]
theorem zJd{g:Nat->Int}:(zBZ n g).setIfInBounds i (.int .i64 z)=zBZ n (fun t=>if t=i then z else g t):=by
 apply zCI;simp[zBZ];intro a h1 h2;by_cases e:a=i
 ·subst e;simp[zBZ]
 have:i≠a:=fun h=>e h.symm
 simp[zBZ,this,e]
theorem zX3(n:Nat):madeCells (Value.int .i64 0).cells (n*1)=zBZ n (fun _=>0):=by
 apply zCI;simp[madeCells,zBZ];intro i h1 h2;simp[madeCells,zBZ,Nat.mod_one,Value.cells]
theorem mkN(m:Int)(n:Nat)(hm:m=n)(h:n<=1099511627776)(W:World):
  (Instr.makeSlice 96 (.int .i64 m) (.int .i64 m)).run Tryz.prog W= .ok (.slice (some ⟨W.heap.size,0,none⟩) n n) (W.alloc (.cells (zBZ n (fun _=>0)) tN)):=by
 subst hm;obtain⟨i0,hi,hz0,hz1,hz2⟩:=info_parts Tryz.infoN;have:=zCR (P:=Tryz.prog) 96 tN i0 _ Tryz.underlying96 hi hz0 .i64 .i64 n n (xgf _) (by rw[hz2];omega) oM W;rw[this,hz1,zX3]
theorem zDw{g:Nat->Int}(h:∀t,t<n->f t=g t):zBZ n f=zBZ n g:=by
 unfold zBZ;rw[zAu fun t ht=>by rw[h t (yI.1 ht)]]
def zHd(f:Nat->Int)(j:Nat):Nat->Int:=fun t=>if t<j then f t else 0
theorem zKM:zBZ n (fun t=>if t=j then f j else zHd f j t)=zBZ n (zHd f (j+1)):=
 zDw fun t _=>by
  unfold zHd;by_cases h:t=j
  ·subst h;rw[if_pos rfl,if_pos oM]
  rw[if_neg h];by_cases h2:t<j
  ·rw[if_pos h2,if_pos oM]
  rw[if_neg h2,if_neg oM]
theorem qA.same(h:qA w base A C bs M)(hb:∀b∈bs,w'.heap[b]?=w.heap[b]?)(ho:∀g,A.ownBlock=some g->w'.heap[g]?=w.heap[g]?)(x:zBq w w'):qA w' base A C bs M:=by
 refine⟨⟨h.own.1,?_⟩,h.len,fun k b r h1 h2=>by
  obtain⟨e1,e2,e3⟩:=h.row k b r h1 h2;exact⟨e1,e2,e3.old (hb b (xgd h1)) x⟩,h.nodup,h.cb⟩
 rcases h.own.2 with h1|⟨g,cap,cur,e1,e2,e3⟩
 exact .inl h1;exact .inr ⟨g,cap,cur,e1,e2,(ho g (by rw[e1];rfl)).trans e3.1,e3.2⟩
theorem zCA.same{x:Bst}(h:zCA Z w As At Ai n Cs Ct x)(e:∀k,Z k->w'.heap[k]?=w.heap[k]?)(hx:zBq w w'):zCA Z w' As At Ai n Cs Ct x:=by
 obtain⟨⟨bss,bst,bsi,⟨h1,h2,h3,h4,h5,h6,h7,h8,h9⟩,hz⟩,ho⟩:=h;exact⟨⟨bss,bst,bsi,⟨qA.same h1 (fun b hb=>e b (hz b (.inl hb))) (fun g hg=>e g (ho g (.inl hg))) hx,qA.same h2 (fun b hb=>e b (hz b (.inr (.inl hb)))) (fun g hg=>e g (ho g (.inr (.inl hg)))) hx,
  qA.same h3 (fun b hb=>e b (hz b (.inr (.inr hb)))) (fun g hg=>e g (ho g (.inr (.inr hg)))) hx,h4,h5,h6,h7,h8,h9⟩,hz⟩,ho⟩
theorem zRc(h:¬ lead C F i<0):(lead C F i).toNat<C:=by
 obtain⟨c,h1,h2,-⟩:=zGw h;omega
theorem zPt(hB:BSm B){x:Bst}{rank:Nat}{y:Bst}(hZ:∀b,Z b->b<w.heap.size)(h:zCA Z w As At Ai n Cs Ct x)(hok:okB B n Cs Ct x)
  (hr:rank<=n) (hn:n<=1000000) (hCs:Cs<=1000000) (hCt:Ct<=1000000) (hy:zIu B n Cs Ct rank x=some y):
  Calls Tryz.prog 186 #[.agg #[As,At,Ai],.int .i64 rank] w fun e w'=>(∃u,e= .returned u)/\qG Z w w'/\zCA Z w' As At Ai n Cs Ct y/\okB B n Cs Ct y:=by
 obtain⟨so,sc,uo,tc,io,ic,rfl,rfl,rfl,hsc,hsc2,hg⟩:=h.shape;have HX:=xgv (And.intro hok hy);obtain⟨cols,hcols⟩:∃cols:Nat->Int,cols=lead Cs x.s:=⟨_,rfl⟩;have HC:=xgv (fun t=>congrFun hcols t);have hmk:=fun W=>mkN (rank:Int) rank rfl oM W
 clear hok hy hcols;go_enter Tryz.func186,Tryz.ntmps186;go_upto_region 2 with(fail)
 refine zD ?_;intro W0 hW0;obtain⟨hB0,bx,bc,hs0⟩:=zAd hW0;have hz:=h.below hB0;have hO:=qG.of Z hB0;have hst:zBZ rank (fun _=>0)=zBZ rank (zHd cols 0):=zDw fun t _=>by unfold zHd;rw[if_neg oM]
 rw[hst]at bc;clear hW0 h hmk hst;go_wp2;go_loopw [16] (fun jv wt=>∃j:Nat,jv= .int .i64 j/\j<=rank/\qG Z w wt/\Blk wt w.heap.size 176 #[.slice so n sc,.slice uo n tc,.slice io n ic]/\Blk wt (w.heap.size+1) tN (zBZ rank (zHd cols j))/\zCA Z wt (.slice so n sc) (.slice uo n tc) (.slice io n ic) n Cs Ct x) (fun jv _=>rank-(intOf jv).toNat)
 case atStart=>exact⟨0,rfl,by omega,hO,bx,bc,hz⟩
 rename World=>wr
 obtain⟨j,rfl,hj,hO,bx,bc,hz⟩:=hrel;by_cases hlt:j<rank
 ·obtain⟨g,rfl⟩:=hg oM
  obtain⟨bj,o1,hrow⟩:=hz.row (i:=j) oM;obtain⟨c1,c2,c3,c4,c5,c6⟩:=bx.three;go_wp2_with fail
  refine(zFF _ (yL Cs (x.s j)) _ (hrow.vec (qC _ _) (xgf _) oM)).mono ?_;rintro e w1 ⟨rfl,hb1⟩;have hz:=hz.below hb1;have bx:=bx.below hb1;have bc:=bc.below hb1;have hO:=hO.trans (qG.of Z hb1);have hL:zCG 0 (yL Cs (x.s j))=cols j:=(HC.out j).symm;rw[hL];clear o1 hrow c1 c2 c3 c4 c5 c6 hL;have k1:=(bc.cell j).trans (zEE hlt);have k2:=bc.frozen j;have hbs:=bc.set_ j (.int .i64 (cols j));rw[zJd,zKM]at hbs;go_wp2;go_roundw
  case rel=>
   have hx1:zBq w1 (w1.setCell ⟨w.heap.size+1,j,none⟩ (.int .i64 (cols j))):=bc.lext dE _ _;have hO1:qG Z w (w1.setCell ⟨w.heap.size+1,j,none⟩ (.int .i64 (cols j))):=⟨yJ hO.bel (zE _) _ _,hO.lext.trans hx1,fun b hb hn=>(zW _ _ _ _ _ oM).trans (hO.old b hb hn)⟩;exact⟨j+1,by simp,by omega,hO1,(zW _ _ _ _ _ oM).trans bx,hbs,hz.same (fun k hk=>zW _ _ _ _ _ (by have:=hZ _ hk;omega)) hx1⟩
  case measure=>simp[intOf];omega
 obtain rfl:j=rank:=by omega
 have hcc:zBZ j (zHd cols j)=zBZ j cols:=zDw fun t ht=>by unfold zHd;rw[if_pos ht]
 rw[hcc]at bc;clear hcc;go_wp2;go_loopw [6] (fun iv wt=>∃(i:Nat) (z:Int) (xi:Bst),iv= .int .i64 z/\z=(i:Int)-1/\i<=j/\qG Z w wt/\Blk wt w.heap.size 176 #[.slice so n sc,.slice uo n tc,.slice io n ic]/\Blk wt (w.heap.size+1) tN (zBZ j cols)/\zCA Z wt (.slice so n sc) (.slice uo n tc) (.slice io n ic) n Cs Ct xi/\zAN (okB B n Cs Ct xi/\zWT B n Cs Ct cols j i xi=some y)) (fun iv _=>(intOf iv+1).toNat)
 case atStart=>
  refine⟨j,_,x,rfl,rfl,xgf _,hO,bx,bc,hz,⟨⟨HX.out.1,?_⟩⟩⟩;have h3:=HX.out.2;unfold zIu at h3;rw[show cols=lead Cs x.s from funext HC.out];exact h3
 rename World=>wr
 obtain⟨i,z,xi,rfl,hzi,hi,hO,bx,bc,hz,hx⟩:=hrel;cases i with
 |zero=>
  obtain rfl:z=-1:=by omega
  clear hzi;have h3:=hx.out.2;injection h3 with h3
  have H3:=xgv h3;clear h3;go_wp2;exact bodyPost_end (results_none rfl _ _ _) rfl ⟨⟨_,rfl⟩,hO,by rw[<-H3.out];exact hz,by rw[<-H3.out];exact hx.out.1⟩
 | succ i=>
  obtain rfl:z=(i:Int):=by omega
  clear hzi;have h3:=hx.out.2;unfold zWT at h3;rw[jY]at h3;obtain⟨r,h4,h5⟩:=h3;have HR:=xgv h5;have HJ:=xgv (And.intro hx.out.1 h4);clear h4 h5 hx;obtain⟨g,rfl⟩:=hg oM;go_wp2;go_loopw [7] (fun tv wt=>∃(t:Nat) (xt:Bst),tv= .int .i64 t/\i+1<=t/\t<=j/\qG Z w wt/\Blk wt w.heap.size 176 #[.slice (some ⟨g,0,none⟩) n sc,.slice uo n tc,.slice io n ic]/\Blk wt (w.heap.size+1) tN (zBZ j cols)/\zCA Z wt (.slice (some ⟨g,0,none⟩) n sc) (.slice uo n tc) (.slice io n ic) n Cs Ct xt/\zAN (okB B n Cs Ct xt/\zT8 B n Cs Ct cols i (j-t) t xt=some r)) (fun tv _=>j-(intOf tv).toNat)
  case atStart=>exact⟨i+1,xi,by simp,by omega,by omega,hO,bx,bc,hz,HJ⟩
  rename World=>wt
  obtain⟨t,xt,rfl,hit,htj,hO,bx,bc,hz,hx⟩:=hrel;by_cases hlt2:t<j
  ·obtain⟨m,hm⟩:∃m,j-t=m+1:=⟨j-t-1,by omega⟩
   have hm2:j-(t+1)=m:=by omega
   have h3:=hx.out.2;have hok:=hx.out.1;rw[hm]at h3;unfold zT8 at h3;by_cases hc0:cols t<0
   ·rw[if_pos hc0]at h3
    cases h3
   rw[if_neg hc0]at h3;have hcC:(cols t).toNat<Cs:=by
    have:=HC.out t;rw[this]at hc0 ⊢
    exact zRc hc0
   obtain⟨c,hc⟩:∃c:Nat,cols t=(c:Int):=⟨(cols t).toNat,by omega⟩;rw[hc,zBd]at h3 hcC;have H3:=xgv h3;have HOK:=xgv hok;clear h3 hc0 hok hx;obtain⟨c1,c2,c3,c4,c5,c6⟩:=bx.three;have k1:=(bc.cell t).trans (zEE hlt2);rw[hc]at k1;obtain⟨bi,o1,hrow⟩:=hz.row (i:=i) oM;obtain⟨xs,xa,xl,xc,v1,v2,-,-,hx⟩:=hrow.cell (yE hcC);have hin:i<n:=by omega
   go_wp2_with fail
   refine(zAa _ (xt.s i c) _ hx.weak).mono ?_;rintro e w1 ⟨rfl,hb1⟩;have hz:=hz.below hb1;have bx:=bx.below hb1;have bc:=bc.below hb1;have hO:=hO.trans (qG.of Z hb1);have h3:=H3.out;clear c1 c2 c3 c4 c5 c6 k1 o1 hrow v1 v2 hx H3;by_cases hs0:xt.s i c=0
   ·rw[if_pos hs0]at h3
    rw[zBX hs0];have H3:=xgv h3;clear h3 hs0;go_wp2;go_roundw
    case rel=>exact⟨t+1,xt,by simp,by omega,by omega,hO,bx,bc,hz,⟨⟨HOK.out,by rw[hm2];exact H3.out⟩⟩⟩
    case measure=>simp[intOf];omega
   rw[if_neg hs0]at h3;by_cases hne0:xt.s t c=0
   ·rw[if_pos hne0]at h3
    cases h3
   rw[if_neg hne0]at h3;have hcn:=zCi hs0;obtain⟨k0,hk0⟩:∃k0,zAp (xt.s i c) 0=k0:=⟨_,rfl⟩;rw[hk0]at hcn ⊢
   have htn:t<n:=by omega
   have HNE:=xgv hne0;have H3:=xgv h3;have SX:zAN (Sm (xt.s i c)):=⟨hB.sm _ (HOK.out.1 i hin c hcC)⟩;have SY:zAN (Sm (xt.s t c)):=⟨hB.sm _ (HOK.out.1 t htn c hcC)⟩;clear h3 hne0 hs0 hk0;obtain⟨bi,o1,hrow⟩:=hz.row (i:=i) hin;obtain⟨bk,o2,hrowk⟩:=hz.row (i:=t) htn;obtain⟨c1,c2,c3,c4,c5,c6⟩:=bx.three;obtain⟨xs,xa,xl,xc,v1,v2,-,-,hx⟩:=hrow.cell (yE hcC);obtain⟨ys,ya,yl,yc,r1,r2,-,-,hy⟩:=hrowk.cell (yE hcC);have hlast:=zKh (xt.s i c) (xt.s t c);have l0:=bx.lt;have l3:=bc.lt;have l1:=hrow.lt;have l2:=hrowk.lt;have lg:=hz.glt hin;go_upto_region 15 with(fail)
   refine zCn [pcD 16 [] (DMV (xt.s i c) (xt.s t c)),pcD 17 [16] (DMV (xt.s i c) (xt.s t c)),pcD 18 [17] (fun w v=>jT w v (xt.s i c/xt.s t c)),pcD 19 [17] (fun w v=>jT w v (xt.s i c%xt.s t c)),pcD 20 [17] (fun _ v=>v= .int .i64 0),pbA 21 43 2,pbA 22 43 2,pbS 23 21 43 2,pbS 24 22 43 2] ?_;refine sRd ?_;refine sRc (fun wS hI Gk hG=>by go_simp;exact ck hG (zKX _ _ (xt.s i c) (xt.s t c) _ (hx.ext hI.lext).weak (hy.ext hI.lext).weak SX.out SY.out HNE.out)) (fun va16 _=>?_);refine sRc (fun wS hI ha16 Gk hG=>?_) (fun va17 _=>?_)
   ·go_simp
    exact⟨hG _ _ ha16,zA _ _⟩
   refine sRc (fun wS hI ha17 Gk hG=>?_) (fun va18 hv=>?_)
   ·obtain⟨q,r,rfl,hq,hr⟩:=ha17
    go_simp;exact⟨hG _ _ hq,zA _ _⟩
   obtain⟨xa21,ya21,rfl,qa21⟩:=zLF hv;clear hv;refine sRc (fun wS hI ha17 Gk hG=>?_) (fun va19 hv=>?_)
   ·obtain⟨q,r,rfl,hq,hr⟩:=ha17
    go_simp;exact⟨hG _ _ hr,zA _ _⟩
   obtain⟨xa22,ya22,rfl,qa22⟩:=zLF hv;clear hv;refine sRc (fun wS hI ha17 Gk hG=>?_) (fun _ hv=>?_)
   ·obtain⟨q,r,rfl,hq,hr⟩:=ha17
    go_simp;exact⟨hG _ _ rfl,zA _ _⟩
   obtain⟨_,-,rfl⟩:=hv;refine sRa (cs:=#[.bool false,.slice none 0 0]) fun ca21 ga21=>?_
   refine sRa (cs:=#[.bool false,.slice none 0 0]) fun ca22 ga22=>?_
   refine sRs ca21 (.agg #[xa21,ya21]) ?_ qa21;refine sRs ca22 (.agg #[xa22,ya22]) ?_ qa22;refine sRd ?_;refine sRb ?_;simp only[FA,FC,FN,ptr,List.nil_append,List.cons_append,Act.put,xgh,xgi,xgj];intro w9 hbw9 ha16 ha17 ha18 ha19 _ ka21 ka22 na21 na22;replace ka21:Blk w9 ca21 43 #[xa21,ya21]:=ka21 _ rfl;have ia21:=ha18;replace ka22:Blk w9 ca22 43 #[xa22,ya22]:=ka22 _ rfl;have ia22:=ha19;have na21_22:ca21≠ca22:=na21 (22,ca22) sI;clear na21 na22;obtain⟨qs,qa,ql,qc,rfl,rfl⟩:=ia21.two;have hz:=hz.below hbw9;have bx:=bx.below hbw9;have bc:=bc.below hbw9;have hO:=hO.trans (qG.of Z hbw9);have lq:=ka21.lt;have hsz9:=hbw9.size;clear o1 o2 c1 c2 c3 c4 c5 c6 v1 v2 r1 r2;obtain⟨d1,d2,d3,d4⟩:=ka21.two;go_wp2_with fail
   refine(zAa _ (xt.s i c/xt.s t c) _ ia21.weak).mono ?_;rintro e w10 ⟨rfl,hb10⟩;have hz:=hz.below hb10;have bx:=bx.below hb10;have bc:=bc.below hb10;have hO:=hO.trans (qG.of Z hb10);have kq:=ka21.below hb10;have iq:=ia21.ext (lx hb10);have h3:=H3.out;clear d1 d2 d3 d4 H3 ka21 ia21;have hsz10:=hb10.size;by_cases hq0:xt.s i c/xt.s t c=0
   ·rw[if_pos hq0]at h3
    rw[zBX hq0];have H3:=xgv h3;clear h3 hq0;go_wp2;go_roundw
    case rel=>exact⟨t+1,xt,by simp,by omega,by omega,hO,bx,bc,hz,⟨⟨HOK.out,by rw[hm2];exact H3.out⟩⟩⟩
    case measure=>simp[intOf];omega
   rw[if_neg hq0]at h3;by_cases hadd:zFI B n Cs Ct xt i t (-(xt.s i c/xt.s t c))
   ·rw[if_pos hadd]at h3
    have hcq:=zCi hq0;obtain⟨k1,hk1⟩:∃k1,zAp (xt.s i c/xt.s t c) 0=k1:=⟨_,rfl⟩;rw[hk1]at hcq ⊢
    have H3:=xgv h3;have HADD:=xgv hadd;have SQ:zAN (Sm (xt.s i c/xt.s t c)):=⟨hB.sm _ (by have:=hadd.1;rwa[zT]at this)⟩;clear h3 hadd hq0 hk1;obtain⟨c1,c2,c3,c4,c5,c6⟩:=bx.three;obtain⟨d1,d2,d3,d4⟩:=kq.two;have lq:=kq.lt;have l0:=bx.lt;go_upto_region 17 with(fail)
    refine yX 5 [pcI 4 (-(xt.s i c/xt.s t c))] ?_;refine sRd ?_;refine sRc (fun wS hI Gk hG=>by go_simp;exact ck hG (zBS _ (xt.s i c/xt.s t c) _ (iq.ext hI.lext).weak SQ.out)) (fun vy4 _=>?_);refine sRe ?_;intro w11 hbw11 hy4;have hz:=hz.below hbw11;have bx:=bx.below hbw11;have bc:=bc.below hbw11;have hO:=hO.trans (qG.of Z hbw11);have hsz11:=hbw11.size;clear c1 c2 c3 c4 c5 c6 d1 d2 d3 d4;go_wp2_with fail
    refine(zYR hB hz HOK.out hin htn oM hy4 hn hCs hCt HADD.out).mono ?_;rintro e w12 ⟨⟨uu12,rfl⟩,hO12,hz⟩;have hok:=HADD.out.ok;have hO:=hO.trans hO12;have bx:=hO12.blk bx (fun hh=>by have:=hZ _ hh;omega);have bc:=hO12.blk bc (fun hh=>by have:=hZ _ hh;omega);have HOK2:=xgv hok;clear hok;go_wp2;go_roundw
    case rel=>exact⟨t+1,_,by simp,by omega,by omega,hO,bx,bc,hz,⟨⟨HOK2.out,by rw[hm2];exact H3.out⟩⟩⟩
    case measure=>simp[intOf];omega
   rw[if_neg hadd]at h3;cases h3
  obtain rfl:t=j:=by omega
  have h3:=hx.out.2;rw[jP]at h3;injection h3 with h3
  have H3:=xgv h3;clear h3;go_wp2;go_roundw
  case rel=>exact⟨i,_,xt,rfl,by omega,by omega,hO,bx,bc,hz,⟨⟨hx.out.1,by rw[H3.out];exact HR.out⟩⟩⟩
  case measure=>simp[intOf]
theorem zOX(hB:BSm B){x:Bst}{rr:Int}(rank:Nat){y:Bst}(hZ:∀b,Z b->b<w.heap.size)(h:zCA Z w As At Ai n Cs Ct x)(hok:okB B n Cs Ct x)
  (hr:rank<=n) (hn:n<=1000000) (hCs:Cs<=1000000) (hCt:Ct<=1000000) (hy:zIu B n Cs Ct rank x=some y) (hrr:rr=rank):
  Calls Tryz.prog 186 #[.agg #[As,At,Ai],.int .i64 rr] w fun e w'=>(∃u,e= .returned u)/\qG Z w w'/\zCA Z w' As At Ai n Cs Ct y/\okB B n Cs Ct y:=by
 subst hrr;exact zPt hB hZ h hok hr hn hCs hCt hy
theorem zIa(hB:BSm B){f:Nat}{x y:Bst}(hZ:∀b,Z b->b<w.heap.size)(h:zCA Z w As At Ai n Cs Ct x)(hok:okB B n Cs Ct x)
  (hn:n<=1000000) (hCs:Cs<=1000000) (hCt:Ct<=1000000) (hy:zXg B n Cs Ct f x=some y):
  Calls Tryz.prog 158 #[.agg #[As,At,Ai]] w fun e w'=>(∃u,e= .returned u)/\qG Z w w'/\zCA Z w' As At Ai n Cs Ct y/\okB B n Cs Ct y:=by
 obtain⟨so,sc,uo,tc,io,ic,rfl,rfl,rfl,hsc,hsc2,hg⟩:=h.shape;have HX:=xgv (And.intro hok hy);clear hok hy;go_enter Tryz.func158,Tryz.ntmps158;go_upto_region 1 with(fail)
 refine zD ?_;intro W0 hW0;obtain⟨hB0,bx,hs0⟩:=qM hW0;have hz:=h.below hB0;have hO:=qG.of Z hB0;obtain⟨c1,c2,c3,c4,c5,c6⟩:=bx.three;clear hW0 h;go_wp2;clear c1 c2 c3 c4 c5 c6;go_loopw [2,7] (fun rv mv wt=>∃(rank m:Nat) (xi:Bst),rv= .int .i64 rank/\mv= .int .i64 m/\rank<=m/\m<=n/\qG Z w wt/\Blk wt w.heap.size 176 #[.slice so n sc,.slice uo n tc,.slice io n ic]/\zCA Z wt (.slice so n sc) (.slice uo n tc) (.slice io n ic) n Cs Ct xi/\zAN (okB B n Cs Ct xi/\zO7 B n Cs Ct f (n-m) m rank xi=some y)) (fun _ mv _=>n-(intOf mv).toNat)
 case atStart=>exact⟨0,0,x,rfl,rfl,xgf _,zE _,hO,bx,hz,⟨⟨HX.out.1,by rw[Nat.sub_zero];exact HX.out.2⟩⟩⟩
 rename World=>wt
 obtain⟨rank,m,xi,rfl,rfl,hrm,hmn,hO,bx,hz,hx⟩:=hrel;obtain⟨c1,c2,c3,c4,c5,c6⟩:=bx.three;by_cases hlt:m<n
 ·obtain⟨l,hl⟩:∃l,n-m=l+1:=⟨n-m-1,by omega⟩
  have hl2:n-(m+1)=l:=by omega
  have h3:=hx.out.2;rw[hl]at h3;unfold zO7 at h3;rw[jY]at h3;obtain⟨⟨x1,bb⟩,h4,h5⟩:=h3;rw[jY]at h5;obtain⟨y1,h6,h7⟩:=h5;have HT:=xgv h4;have HRED:=xgv h6;have HN:=xgv h7;have HOK:=xgv hx.out.1;clear h4 h6 h7 hx;have hZt:∀b,Z b->b<wt.heap.size:=fun b hb=>by have:=hZ b hb;have:=hO.bel.size;omega
  go_wp2_with fail
  refine(zUO hB hZt hz HOK.out hlt hrm hn hCs hCt HT.out).mono ?_;rintro e w1 ⟨rfl,hO1,hz,hok⟩;have HOK:=xgv hok;have hO:=hO.trans hO1;have bx:=hO1.blk bx (fun hh=>by have:=hZ _ hh;omega);clear c1 c2 c3 c4 c5 c6 hok hZt HT;obtain⟨c1,c2,c3,c4,c5,c6⟩:=bx.three;have hZt:∀b,Z b->b<w1.heap.size:=fun b hb=>by have:=hZ b hb;have:=hO.bel.size;omega
  cases bb with
  |true=>
   rw[if_pos rfl]at HRED HN;go_wp2_with fail
   refine(zOX hB (rank+1) hZt hz HOK.out oM hn hCs hCt HRED.out sI).mono ?_;rintro e w2 ⟨⟨uu,rfl⟩,hO2,hz,hok⟩;have HOK:=xgv hok;have hO:=hO.trans hO2;have bx:=hO2.blk bx (fun hh=>by have:=hZ _ hh;omega);clear c1 c2 c3 c4 c5 c6 hok;go_wp2;go_roundw
   case rel=>exact⟨rank+1,m+1,y1,by simp,by simp,by omega,by omega,hO,bx,hz,⟨⟨HOK.out,by rw[hl2];exact HN.out⟩⟩⟩
   case measure=>simp[intOf];omega
  |false=>
   rw[if_neg dE]at HRED HN;go_wp2_with fail
   refine(zOX hB rank hZt hz HOK.out oM hn hCs hCt HRED.out rfl).mono ?_;rintro e w2 ⟨⟨uu,rfl⟩,hO2,hz,hok⟩;have HOK:=xgv hok;have hO:=hO.trans hO2;have bx:=hO2.blk bx (fun hh=>by have:=hZ _ hh;omega);clear c1 c2 c3 c4 c5 c6 hok;go_wp2;go_roundw
   case rel=>exact⟨rank,m+1,y1,by simp,by simp,by omega,by omega,hO,bx,hz,⟨⟨HOK.out,by rw[hl2];exact HN.out⟩⟩⟩
   case measure=>simp[intOf];omega
 obtain rfl:m=n:=by omega
 have h3:=hx.out.2;rw[jP]at h3;injection h3 with h3
 have H3:=xgv h3;clear h3;go_wp2;exact bodyPost_end (results_none rfl _ _ _) rfl ⟨⟨_,rfl⟩,hO,by rw[<-H3.out];exact hz,by rw[<-H3.out];exact hx.out.1⟩
theorem qA.rows2{ri rj:List Int}(h:qA w base A C bs M)(hbi:bs[i]?=some bi)(hbj:bs[j]?=some bj)(hij:i≠j)(ho:zBr [bi,bj] w w')
  (hri:jQ w' bi ri) (hrj:jQ w' bj rj) (hli:ri.length=C) (hlj:rj.length=C):qA w' base A C bs ((M.set i ri).set j rj):=by
 have hib:=(xge.1 hbi).1;have hjb:=(xge.1 hbj).1;have hiM:i<M.length:=by rw[h.len];exact hib
 have hjM:j<M.length:=by rw[h.len];exact hjb
 obtain⟨r1,r2,r3⟩:=h.row i bi M[i] hbi (xga hiM);obtain⟨q1,q2,q3⟩:=h.row j bj M[j] hbj (xga hjM);refine⟨⟨h.own.1,?_⟩,by simp[h.len],?_,h.nodup,h.cb⟩
 ·rcases h.own.2 with h1|⟨g,cap,cur,e1,e2,e3,e4⟩
  ·exact .inl h1
  refine .inr ⟨g,cap,cur,e1,e2,?_,e4⟩;refine(ho.old g (Array.getElem?_eq_some_iff.1 e3).1 ?_).trans e3;intro hg;have f1:=zGN h.own r3;have f2:=zGN h.own q3;rw[e1]at f1 f2;simp at hg;rcases hg with rfl|rfl
  exact f1 rfl;exact f2 rfl
 intro k b' r' hk hr';by_cases ej:k=j
 ·subst ej
  rw[hbj]at hk;injection hk with hk
  subst hk;rw[List.getElem?_set_self (by simpa using hjM)]at hr';injection hr' with hr'
  subst hr';exact⟨q1,hlj,hrj⟩
 rw[List.getElem?_set_ne (zP ej)]at hr';by_cases e:k=i
 ·subst e
  rw[hbi]at hk;injection hk with hk
  subst hk;rw[List.getElem?_set_self hiM]at hr';injection hr' with hr'
  subst hr';exact⟨r1,hli,hri⟩
 rw[List.getElem?_set_ne (zP e)]at hr';obtain⟨f1,f2,f3⟩:=h.row k b' r' hk hr';have hkb:=(xge.1 hk).1;have hne:∀{t bt:Nat},bs[t]?=some bt->k≠t->b'≠bt:=by
  intro t bt ht hkt hh;subst hh;have h1:=(xge.1 hk).2;have h2:=(xge.1 ht).2;exact hkt ((yT h.nodup).1 (h1.trans h2.symm))
 exact⟨f1,f2,f3.only ho (by simp;exact⟨hne hbi e,hne hbj ej⟩)⟩
theorem zHs{R C:Nat}{F:Nat->Nat->Int}{m0 m1 m2 m3:Int}(hij:i≠j):
  ((genM R C F).set i (yL C (fun t=>m0*F i t+m1*F j t))).set j (yL C (fun t=>m2*F i t+m3*F j t))=genM R C (yZ F i j m0 m1 m2 m3):=by
 apply qO;simp[genM];intro a h1 h2;by_cases ej:a=j
 ·subst ej
  rw[zA3];have:¬ a=i:=fun h=>hij h.symm
  simp[genM,yL,yZ,this]
 have e3:j≠a:=fun h=>ej h.symm
 rw[zBP e3];by_cases e:a=i
 ·subst e
  rw[zA3];simp[genM,yL,yZ]
 have e4:i≠a:=fun h=>e h.symm
 rw[zBP e4];simp[genM,yZ,e,ej]
theorem zLQ(h:Wri w A R C bs F)(hi:i<R)(hj:j<R)(hij:i≠j)(hbi:bs[i]?=some bi)(hbj:bs[j]?=some bj){mv:Value}(hm:M4V w mv m0 m1 m2 m3)
  (hC:C<=1000000) (hS:zQQ C (F i) (F j) m0 m1 m2 m3) (hms:Sm m0/\Sm m1/\Sm m2/\Sm m3):
  Calls Tryz.prog 204 #[.slice (some ⟨bi,0,none⟩) C C,.slice (some ⟨bj,0,none⟩) C C,mv] w fun e w'=>(∃u,e= .returned u)/\zBr [bi,bj] w w'/\Wri w' A R C bs (yZ F i j m0 m1 m2 m3):=by
 have hne:bi≠bj:=by
  intro hh;subst hh;obtain⟨f1,f2⟩:=xge.1 hbi;obtain⟨g1,g2⟩:=xge.1 hbj;exact hij ((yT (qA.nodup h)).1 (f2.trans g2.symm))
 refine(zQg bi bj C C C (F i) (F j) mv m0 m1 m2 m3 w (h.rowAt hi hbi) (h.rowAt hj hbj) hne hm hC (xgf _) oM (xgf _) oM hS hms).mono ?_;rintro e w' ⟨hu,ho,hr1,hr2⟩;refine⟨hu,ho,?_⟩;unfold Wri;rw[<-zHs hij];exact qA.rows2 h hbi hbj hij ho hr1 hr2 (qC _ _) (qC _ _)
theorem Wri.only2{q:List Int}(h:Wri w A R C bs F)(ho:zBr [b,c] w w')(hn:b ∉ bs)(hn2:c ∉ bs)(hr:jQ w b r)(hq:jQ w c q):Wri w' A R C bs F:=
 qA.only h ho (fun x hx=>by
  intro hh;simp at hh;rcases hh with rfl|rfl
  exact hn hx;exact hn2 hx) (fun g hg=>by
  simp at hg;rcases hg with rfl|rfl
  exact⟨_,hr⟩;exact⟨_,hq⟩)
def M2V(m0 m1:Int):World->Value->Prop:=fun w v=>∃s0 a0 l0 c0 s1 a1 l1 c1,v= .agg #[.bool s0,.slice a0 l0 c0,.bool s1,.slice a1 l1 c1]/\jT w (.agg #[.bool s0,.slice a0 l0 c0]) m0/\jT w (.agg #[.bool s1,.slice a1 l1 c1]) m1
theorem zDt(a b:Int):zHD (M2V a b):=by
 rintro w w' v e ⟨s0,a0,l0,c0,s1,a1,l1,c1,rfl,h0,h1⟩;exact⟨s0,a0,l0,c0,s1,a1,l1,c1,rfl,h0.ext e,h1.ext e⟩
theorem zFv(a b c d:Int):zHD (fun w v=>M4V w v a b c d):=fun _ _ _ e h=>h.ext e
theorem zMT(as_:Option Addr)(al ac:Nat)(At Ai mv:Value)(n C i j:Nat)(bst bsi:List Nat)(FT FI:Nat->Nat->Int)(m0 m1 m2 m3:Int)(w:World)(ht:Wri w At n C bst FT)(hi_:Wri w Ai n C bsi FI)(fti:Far bst bsi)(hm:M4V w mv m0 m1 m2 m3)
  (hi:i<n) (hj:j<n) (hij:i≠j) (hn:n<=1000000) (hC:C<=1000000) (hT:zQQ C (FT i) (FT j) m0 m1 m2 m3) (hI:zQQ C (FI i) (FI j) m3 (-m2) (-m1) m0) (hms:Sm m0/\Sm m1/\Sm m2/\Sm m3):
  Calls Tryz.prog 189 #[.agg #[.slice as_ al ac,At,Ai],.int .i64 i,.int .i64 j,mv] w fun e w'=>(∃u,e= .returned u)/\qG (fun b=>b∈bst∨b∈bsi) w w'∧
   Wri w' At n C bst (yZ FT i j m0 m1 m2 m3)/\Wri w' Ai n C bsi (yZ FI i j m3 (-m2) (-m1) m0):=by
 obtain⟨uo,tn,tc,rfl,t1,t2,t3,-⟩:=id (qA.rows ht);obtain⟨io,in_,ic,rfl,i1,i2,i3,-⟩:=id (qA.rows hi_);have HT:=xgv hT;have HI:=xgv hI;have HK:=xgv hms;have hms':Sm m3/\Sm (-m2)/\Sm (-m1)/\Sm m0:=⟨hms.2.2.2,hms.2.2.1.mono (by rw[zT];exact xgf _),hms.2.1.mono (by rw[zT];exact xgf _),hms.1⟩;have HK2:=xgv hms';have HM:=xgv hm;obtain⟨s0,a0,l0,c0,s1,a1,l1,c1,s2,a2,l2,c2,s3,a3,l3,c3,rfl,j0,j1,j2,j3⟩:=id hm;clear hT hI hms hm hms';have e2:n=tn:=by rw[<-t1];simp[genM]
 have e3:n=in_:=by rw[<-i1];simp[genM]
 subst e2;subst e3;clear t1 i1;obtain⟨gt,bi,rfl,hgt,hbi,hbi2,-,-⟩:=qA.at_ ht (i:=i) (by rw[ht.len];exact hi);obtain⟨bj,hbj,-⟩:=qA.rowAt ht hj;obtain⟨gi,ci,rfl,hgi,hci,hci2,-,-⟩:=qA.at_ hi_ (i:=i) (by rw[hi_.len];exact hi);obtain⟨cj,hcj,-⟩:=qA.rowAt hi_ hj;have lbi:=(ht.rowAt hi hbi).lt;have lbj:=(ht.rowAt hj hbj).lt;go_enter Tryz.func189,Tryz.ntmps189;go_upto_region 1 with(fail)
 refine zD ?_;intro W0 hW0;obtain⟨hB0,bx,bm,hs0⟩:=zAd hW0;have ht:=ht.below hB0;have hi_:=hi_.below hB0;have hm:=HM.out.ext (lx hB0);have j1:=j1.ext (lx hB0);have j2:=j2.ext (lx hB0);have j3:=j3.ext (lx hB0);have j0:=j0.ext (lx hB0);have HM:=xgv hm;have hO:=qG.of (fun b=>b∈bst∨b∈bsi) hB0;obtain⟨x1,x2,x3,x4,x5,x6⟩:=bx.three;obtain⟨k0,k1,k2,k3,k4,k5,k6,k7⟩:=bm.eight;have lx0:=bx.lt;have lm0:=bm.lt;have hmi:=xgd hbi;have hmj:=xgd hbj;have nmi:=xgd hci;have nmj:=xgd hcj;obtain⟨g1,b1,eg1,hg1,hb1,hb12,o1,-⟩:=qA.at_ ht (i:=i) (by rw[ht.len];exact hi);obtain⟨g2,b2,eg2,hg2,hb2,hb22,o2,-⟩:=qA.at_ ht (i:=j) (by rw[ht.len];exact hj);obtain rfl:gt=g1:=by injection eg1 with eg1;injection eg1
 obtain rfl:gt=g2:=by injection eg2 with eg2;injection eg2
 obtain rfl:bi=b1:=zX (hbi.symm.trans hb1);obtain rfl:bj=b2:=zX (hbj.symm.trans hb2);clear hW0 hm hb1 hb2 eg1 eg2;refine yX 11 [] ?_;refine sRd ?_;refine sRf ?_;intro w9 hbw9;have hO:=hO.trans (qG.of _ hbw9);have ht:=ht.below hbw9;have hi_:=hi_.below hbw9;have bx:=bx.below hbw9;have bm:=bm.below hbw9;have HM:=xgv (HM.out.ext (lx hbw9));have j1:=j1.ext (lx hbw9);have j2:=j2.ext (lx hbw9);have j3:=j3.ext (lx hbw9);have j0:=j0.ext (lx hbw9);clear o1 o2 x1 x2 x3 x4 x5 x6 k0 k1 k2 k3 k4 k5 k6 k7;go_wp2_with fail
 refine(zLQ ht hi hj hij hbi hbj HM.out hC HT.out HK.out).mono ?_;rintro e w10 ⟨⟨uu,rfl⟩,ho,ht2⟩;have hrbi:=ht.rowAt hi hbi;have hrbj:=ht.rowAt hj hbj;have hO:=hO.trans (⟨ho.bel,ho.lext,fun k hk hn=>ho.old k hk (by simp;exact⟨fun hh=>hn (.inl (hh ▸ hmi)),fun hh=>hn (.inl (hh ▸ hmj))⟩)⟩:qG (fun b=>b∈bst∨b∈bsi) w9 w10);have hi_:=hi_.only2 ho (fti _ hmi) (fti _ hmj) hrbi hrbj;have bx:=(ho.old _ bx.lt (by simp;omega)).trans bx;have bm:=(ho.old _ bm.lt (by simp;omega)).trans bm;have j1:=j1.ext ho.lext;have j2:=j2.ext ho.lext;have j3:=j3.ext ho.lext;have j0:=j0.ext ho.lext;clear hrbi hrbj;replace bx:Blk w10 w.heap.size 176 #[.slice as_ al ac,.slice (some ⟨gt,0,none⟩) n tc,.slice (some ⟨gi,0,none⟩) n ic]:=bx;replace bm:Blk w10 (w.heap.size+1) 191 #[.bool s0,.slice a0 l0 c0,.bool s1,.slice a1 l1 c1,.bool s2,.slice a2 l2 c2,.bool s3,.slice a3 l3 c3]:=bm;obtain⟨x1,x2,x3,x4,x5,x6⟩:=bx.three;obtain⟨k0,k1,k2,k3,k4,k5,k6,k7⟩:=bm.eight;have lx0:=bx.lt;have lm0:=bm.lt;obtain⟨g1,b1,eg1,hg1,hb1,hb12,o1,-⟩:=qA.at_ hi_ (i:=i) (by rw[hi_.len];exact hi);obtain⟨g2,b2,eg2,hg2,hb2,hb22,o2,-⟩:=qA.at_ hi_ (i:=j) (by rw[hi_.len];exact hj);obtain rfl:gi=g1:=by injection eg1 with eg1;injection eg1
 obtain rfl:gi=g2:=by injection eg2 with eg2;injection eg2
 obtain rfl:ci=b1:=zX (hci.symm.trans hb1);obtain rfl:cj=b2:=zX (hcj.symm.trans hb2);clear hb1 hb2 eg1 eg2;have hl2:=zDt m3 (-m2);have hl3:=zDt (-m1) m0;have hl4:=zFv m3 (-m2) (-m1) m0;go_upto_region 2 with(fail)
 refine yX 27 [pcI 16 (-m2),pcD 17 [16] (M2V m3 (-m2)),pcI 21 (-m1),pcD 25 [21] (M2V (-m1) m0),pcD 26 [17,25] (fun w v=>M4V w v m3 (-m2) (-m1) m0)] ?_;refine sRd ?_;refine sRc (fun wS hI Gk hG=>by go_simp;exact ck hG (zBS _ m2 _ (j2.ext hI.lext).weak HK.out.2.2.1)) (fun vb16 _=>?_);refine sRc (fun wS hI hb16 Gk hG=>?_) (fun vb17 _=>?_)
 ·obtain⟨a16,b16,d16,e16,x16,rfl,y16⟩:=id hb16
  go_simp;exact⟨hG _ _ ⟨_,_,_,_,_,_,_,_,rfl,j3.ext hI.lext,hb16⟩,zA _ _⟩
 refine sRd ?_;refine sRc (fun wS hI Gk hG=>by go_simp;exact ck hG (zBS _ m1 _ (j1.ext hI.lext).weak HK.out.2.1)) (fun vb21 _=>?_);refine sRd ?_;refine sRc (fun wS hI hb21 Gk hG=>?_) (fun vb25 _=>?_)
 ·obtain⟨a21,b21,d21,e21,x21,rfl,y21⟩:=id hb21
  go_simp;exact⟨hG _ _ ⟨_,_,_,_,_,_,_,_,rfl,hb21,j0.ext hI.lext⟩,zA _ _⟩
 refine sRc (fun wS hI hb17 hb25 Gk hG=>?_) (fun vb26 _=>?_)
 ·obtain⟨p0,p1,p2,p3,p4,p5,p6,p7,rfl,p8,p9⟩:=hb17
  obtain⟨q0,q1,q2,q3,q4,q5,q6,q7,rfl,q8,q9⟩:=hb25;go_simp;exact⟨hG _ _ ⟨_,_,_,_,_,_,_,_,_,_,_,_,_,_,_,_,rfl,p8,p9,q8,q9⟩,zA _ _⟩
 refine sRe ?_;intro w12 hbw12 hb16 hb17 hb21 hb25 hb26;have hO:=hO.trans (qG.of _ hbw12);have ht2:=ht2.below hbw12;have hi_:=hi_.below hbw12;clear o1 o2 x1 x2 x3 x4 x5 x6 k0 k1 k2 k3 k4 k5 k6 k7;have hb26':M4V w12 vb26 m3 (-m2) (-m1) m0:=hb26;obtain⟨p0,p1,p2,p3,p4,p5,p6,p7,p8,p9,p10,p11,p12,p13,p14,p15,rfl,-⟩:=id hb26';go_wp2_with fail
 refine(zLQ hi_ hi hj hij hci hcj hb26' hC HI.out HK2.out).mono ?_;rintro e w13 ⟨⟨uu2,rfl⟩,ho,hi2⟩;have hrbi:=hi_.rowAt hi hci;have hrbj:=hi_.rowAt hj hcj;have hO:=hO.trans (⟨ho.bel,ho.lext,fun k hk hn=>ho.old k hk (by simp;exact⟨fun hh=>hn (.inr (hh ▸ nmi)),fun hh=>hn (.inr (hh ▸ nmj))⟩)⟩:qG (fun b=>b∈bst∨b∈bsi) w12 w13);have ht2:=ht2.only2 ho (fun hh=>fti _ hh nmi) (fun hh=>fti _ hh nmj) hrbi hrbj;go_wp2;exact bodyPost_end (results_none rfl _ _ _) rfl ⟨⟨_,rfl⟩,hO,ht2,hi2⟩
theorem zRm(w:World):
  CallsD Tryz.prog 153 #[] .returning w fun e u' w'=>e= .returned (.tuple #[])/\u'= .returning/\w'=w:=by
 refine callsD_of_wpS Tryz.func153 rfl fun c₀ cs hu=>?_
 apply wpS_region;simp[wpOpsS,go_sem,recoverD,hu,Tryz.ntmps153,bodyPostS,results,Tryz.results153];cases c₀;simp_all
theorem mkR(m:Int)(n:Nat)(hm:m=n)(h:n<=1099511627776)(W:World):
  (Instr.makeSlice 30 (.int .i64 m) (.int .i64 m)).run Tryz.prog W= .ok (.slice (some ⟨W.heap.size,0,none⟩) n n) (W.alloc (.cells (madeCells (Value.slice none 0 0).cells (n*1)) tR)):=by
 subst hm;obtain⟨i0,hi,hz0,hz1,hz2⟩:=info_parts zDU;have:=zCR (P:=Tryz.prog) 30 tR i0 _ zAs hi hz0 .i64 .i64 n n (xgf _) (by rw[hz2];omega) oM W;rw[this,hz1]
def zBA(n C:Nat)(bs:List Nat):Array Value:=(zBJ C bs++List.replicate (n-bs.length) (Value.slice none 0 0)).toArray
theorem zEj(n C:Nat):madeCells #[Value.slice none 0 0] n=zBA n C []:=by
 apply zCI;simp[madeCells,zBA,zBJ];intro i h1 h2;simp[madeCells,zBA,zBJ,Nat.mod_one,Value.cells]
theorem zCl(h:bs.length<=n):(zBA n C bs).size=n:=by simp[zBA,zBJ];omega
theorem zFf(h:bs.length<n):(zBA n C bs).setIfInBounds bs.length (.slice (some ⟨b,0,none⟩) C C)=zBA n C (bs++ [b]):=by
 apply zCI;simp[zBA,zBJ];omega;intro i h1 h2;have hi:i<n:=by simpa[zCl (C:=C) (Nat.le_of_lt h)]using h1
 by_cases e:i=bs.length
 ·subst e
  simp[zBA,zBJ]
 have e2:bs.length≠i:=fun hh=>e hh.symm
 rw[Array.getElem_setIfInBounds_ne (by simpa using h1) e2];rcases zG i bs.length with hl|hl
 simp[zBA,zBJ,hl,List.getElem_append,Nat.lt_succ_of_lt hl];have h3:¬ i<bs.length:=by omega
 have h4:¬ i<bs.length+1:=by omega
 obtain⟨p,hp⟩:∃p,i-bs.length=p+1:=⟨i-bs.length-1,by omega⟩;simp[zBA,zBJ,List.getElem_append,h3,h4,hp]
theorem zIC(R C:Nat)(w:World)(hR:R<=1000000)(hC:C<=1000000):
  Calls Tryz.prog 108 #[.int .i64 R,.int .i64 C] w (zEo w R C (zDL R C)):=by
 have hmf:∀(fn:Fn) (first cap:Array Value) (w:World),(Instr.makeFunc fn first cap).run Tryz.prog w= .ok (.func fn first cap) w:=fun _ _ _ _=>rfl
 have hmkR:=fun W=>mkR (R:Int) R rfl oM W
 have hmkC:=fun W=>mkI (C:Int) C rfl oM W
 go_enter_defers Tryz.func108,Tryz.ntmps108;go_upto_region 4 with(fail)
 refine zD ?_;intro W0 hW0;obtain⟨hB0,br,bA,hs0⟩:=zAd hW0;rw[zEj R C]at bA;clear hW0 hmkR;go_wp2;go_loopw [15] (fun iv wr=>∃(k:Nat) (bs:List Nat),k<=R/\iv= .int .i64 k/\bs.length=k/\bs.Nodup/\(∀b∈bs,w.heap.size+1<b/\jQ wr b (yL C (fun _=>0)))/\Below w.heap.size w wr/\Blk wr w.heap.size 32 #[.int .i64 0,.int .i64 0,.slice none 0 0]/\Blk wr (w.heap.size+1) tR (zBA R C bs)) (fun iv _=>R-(intOf iv).toNat)
 case atStart=>exact⟨0,[],by omega,rfl,rfl,by simp,by simp,hB0,br,bA⟩
 obtain⟨k,bs,hk,rfl,hbl,hnd,hrows,hb,br,bA⟩:=hrel;have hsz:=hb.size;have HR:=xgv (And.intro hnd hrows);clear hnd hrows;by_cases hlt:k<R
 ·have hmkC:=hmkC wr
  have lA:=bA.lt;have lr:=br.lt;have bA1:Blk (wr.alloc (.cells (zeroCells C) tI)) (w.heap.size+1) tR (zBA R C bs):=bA.below ((zA _ _).alloc (xgf _) _);have f1:=bA1.frozen k;obtain⟨u,f2⟩:∃u,(wr.alloc (.cells (zeroCells C) tI)).cell? ⟨w.heap.size+1,k,none⟩=some u:=by
   rw[bA1.cell k];exact⟨_,Array.getElem?_eq_getElem (by rw[zCl oM];exact hlt)⟩
  go_wp2;go_roundw
  case rel=>
   have hset:=bA.set_ k (.slice (some ⟨wr.heap.size,0,none⟩) C C);rw[<-hbl,zFf oM,hbl]at hset;have hsw:(wr.setCell ⟨w.heap.size+1,k,none⟩ (.slice (some ⟨wr.heap.size,0,none⟩) C C)).heap.size=wr.heap.size:=by simp[World.setCell]
   have hx1:=bA.lext dE k (.slice (some ⟨wr.heap.size,0,none⟩) C C);have hb3:Below (wr.setCell ⟨w.heap.size+1,k,none⟩ (.slice (some ⟨wr.heap.size,0,none⟩) C C)).heap.size (wr.setCell ⟨w.heap.size+1,k,none⟩ (.slice (some ⟨wr.heap.size,0,none⟩) C C)) ((wr.setCell ⟨w.heap.size+1,k,none⟩ (.slice (some ⟨wr.heap.size,0,none⟩) C C)).alloc (.cells (zeroCells C) tI)):=(zA _ _).alloc (xgf _) _;refine⟨k+1,bs++ [wr.heap.size],by omega,by simp,by simp[hbl],?_,?_,(yJ hb oM _ _).alloc oM _,?_,hset.below hb3⟩
   ·rw[yF]
    refine⟨HR.out.1,by simp,fun x hx y hy=>?_⟩;simp at hy;subst hy;have:=(HR.out.2 x hx).2.lt;omega
   ·intro b hb'
    rcases List.mem_append.1 hb' with h1|h1
    ·obtain⟨h2,h3⟩:=HR.out.2 b h1
     exact⟨h2,(h3.old (zW _ _ _ _ _ oM) hx1).below hb3⟩
    simp at h1;subst h1;refine⟨by omega,?_⟩;have h4:=zG4 (wr.setCell ⟨w.heap.size+1,k,none⟩ (.slice (some ⟨wr.heap.size,0,none⟩) C C)) C;have h5:List.replicate C (0:Int)=yL C (fun _=>0):=by
     apply qO;simp[yL];intro i h1 h2;simp[yL]
    rw[h5,hsw]at h4;exact h4
   exact Blk.below (Blk.far br oM _ _) hb3
  case measure=>simp[intOf];omega
 obtain rfl:k=R:=by omega
 obtain⟨c1,c2,c3,c4,c5,c6⟩:=br.three;have hz0:List.replicate C (0:Int)=yL C (fun _=>0):=by
  apply qO;simp[yL];intro i h1 h2;simp[yL]
 have HZ:=xgv hz0;have hpr:(zBA k C bs).toList=zBJ C bs:=by simp[zBA,hbl]
 have HPR:=xgv hpr;clear hz0 hpr;go_wp2;refine leaves_cons (f:=153) (args:=#[]) sI (by simp[go_sem]) ?_;refine(zRm _).mono ?_;rintro e u' w'' ⟨rfl,rfl,rfl⟩;have hx:=br.lext3 dE (.int .i64 k) (.int .i64 C) (.slice (some ⟨w.heap.size+1,0,none⟩) k k);refine⟨_,results_cell_row rfl _ _ w.heap.size _ _ _ _ rfl (br.put3 _ _ _) zCp rfl (by rw[zE6];rfl),_,bs,rfl,⟨hbl,_,rfl,?_⟩,yJ (yJ (yJ hb oM 0 _) oM 1 _) oM 2 _⟩;refine⟨⟨by simp[zBJ],.inr ⟨w.heap.size+1,k,zBA k C bs,by rw[hbl],by omega,(zAe _ _ _ _ _ _ oM).trans bA,by omega,by simp[maxLen];omega,by rw[zCl oM];omega,?_⟩⟩,by simp[zDL,hbl],?_,HR.out.1,by omega⟩;rw[HPR.out,hbl,zAn,jE (by simp[zBJ,hbl])];intro i b r hi hr;have hm:=xgd hi;obtain⟨h1,h2⟩:=HR.out.2 b hm;have hik:i<k:=by have:=(xge.1 hi).1;omega
 obtain rfl:r=List.replicate C 0:=by
  unfold zDL at hr;rw[List.getElem?_replicate,if_pos hik]at hr;injection hr with hr
  exact hr.symm
 refine⟨by omega,by simp,?_⟩;rw[HZ.out];exact h2.old (zAe _ _ _ _ _ _ oM) hx
theorem zKp(n:Nat)(w:World)(hn:n<=1000000):Calls Tryz.prog 148 #[.int .i64 n] w (zEo w n n (genM n n idf)):=by
 go_enter Tryz.func148,Tryz.ntmps148;go_upto_region 1 with(fail)
 refine zD ?_;intro W0 hW0;obtain⟨hB0,br,hs0⟩:=qM hW0;go_wp2_with fail
 refine(zIC n n W0 hn hn).mono ?_;rintro e w2 ⟨u,bs,rfl,⟨hbl,A2,rfl,ho⟩,hb2⟩;obtain⟨oo,on,oc,rfl,hon,-,-,-⟩:=id ho.rows;obtain rfl:n=on:=by rw[<-hon];simp[zDL]
 clear hon;have hlts:=ho.lts;go_upto_region 2 with(fail)
 refine zD ?_;intro W3 hW3;obtain⟨hB3,T5,hs3⟩:=qM hW3;have br:=(br.below hb2).below hB3;have ho:=ho.below hB3;have hz0:zDL n n=genM n n (zMb 0):=by rw[zE0];exact zAM fun i _ j _=>by unfold zMb;rw[if_neg oM]
 rw[hz0]at ho;have hBt:=nx (nx hB0 hb2) hB3;have q1:=hB0.size;have q2:=hb2.size;obtain⟨f1,f2,f3,f4,f5,f6⟩:=T5.three;clear hW3 hW0 hz0;go_wp2;clear f1 f2 f3 f4 f5 f6;go_loopw [11] (fun iv wr=>∃i:Nat,i<=n/\iv= .int .i64 i/\Below w.heap.size w wr/\Blk wr w.heap.size 32 #[.int .i64 0,.int .i64 0,.slice none 0 0]/\Blk wr w2.heap.size 32 #[.int .i64 n,.int .i64 n,.slice oo n oc]/\qA wr W0.heap.size (.slice oo n oc) n bs (genM n n (zMb i))) (fun iv _=>n-(intOf iv).toNat)
 case atStart=>exact⟨0,by omega,rfl,hBt,br,T5,ho⟩
 obtain⟨i,hi,rfl,hb,br,T5,ho⟩:=hrel;obtain⟨f1,f2,f3,f4,f5,f6⟩:=T5.three;by_cases hlt:i<n
 ·obtain⟨g,bo,rfl,hg,hbo,hbo2,o1,ho3⟩:=ho.at_ (i:=i) oM
  clear ho3;have lt5:=T5.lt;go_upto_region 5 with(fail)
  refine yX 8 [pcI 6 (1)] ?_;refine sRd ?_;refine sRc (fun wS hI Gk hG=>by go_simp;exact ck hG (zGK 1 _ oM oM)) (fun va6 _=>?_);refine sRd ?_;refine sRe ?_;intro w9 hbw9 ha6;obtain⟨pn,pa,pl,pc,px,rfl,hpx⟩:=id ha6;have HPX:=xgw hpx;clear hpx;have ho9:=ho.below hbw9;obtain⟨sn,sa,sl,sc,z1,z2,z3,z4,-⟩:=ho9.cellAt hbo hlt;have hbolt:=hlts i bo hbo;have hset:=ho9.set hbo hlt ha6;go_wp2;go_roundw
  case rel=>
   have hq:zQM (genM n n (zMb i)) i i 1=genM n n (zMb (i+1)):=by
    rw[zEw _ hlt hlt];exact zAM fun a _ b _=>by
     unfold zMb;by_cases h:a=i/\b=i
     ·rw[if_pos h,if_pos oM]
     rw[if_neg h];by_cases h2:a=b/\a<i
     ·rw[if_pos h2,if_pos oM]
     rw[if_neg h2,if_neg oM]
   rw[hq]at hset;exact⟨i+1,by omega,by simp,yJ (yJ (nx hb hbw9) oM _ _) oM _ _,(yS _ _ _ _ _ _ _ oM).trans (br.below hbw9),(yS _ _ _ _ _ _ _ oM).trans (T5.below hbw9),hset.1⟩
  case measure=>simp[intOf];omega
 obtain rfl:i=n:=by omega
 have hq:genM i i (zMb i)=genM i i idf:=zAM fun a ha b _=>by
  unfold zMb idf;by_cases h:a=b
  ·rw[if_pos ⟨h,ha⟩,if_pos h]
  rw[if_neg (fun h2=>h h2.1),if_neg h]
 rw[hq]at ho;obtain⟨r1,r2,r3,r4,r5,r6⟩:=br.three;go_wp2;refine zAl rfl rfl rfl (br.put3 _ _ _) ⟨_,bs,rfl,⟨hbl,_,rfl,?_⟩,yJ (yJ (yJ hb oM 0 _) oM 1 _) oM 2 _⟩;exact(ho.keep (fun k hk=>zAe _ _ k _ _ _ oM) (br.lext3 dE _ _ _)).mono q1
end Go.Proofs.YtkidaebmhlijlaaGreat
