/- Joined. -/
import Derived.Test.YtkidaebmhlijlaaGreatE21
import Derived.Test.YtkidaebmhlijlaaGreatE25
set_option linter.unusedVariables false
set_option linter.unusedSimpArgs false
set_option linter.unusedSectionVars false
set_option maxHeartbeats 16000000
set_option maxRecDepth 100000
variable{last z:Int}{bs:List Nat}{C R bi bj c g i j n r:Nat}{f:Nat->Int}{F:Nat->Nat->Int}{w:Go.World}
namespace Go.Proofs.YtkidaebmhlijlaaGreat
open Go.RowKit
theorem zRy(H:Nat)(AM AU AV:Value)(R C i j:Nat)(l m n:List Nat)(x:Bst)(kv:Value)(k:Int)(w:World)(h:K9 w H AM AU AV R C l m n x.s x.t (fun a b=>x.i b a))(F:i<R)(I:j<R)(b8:i≠j)(O:jE w kv k)(b9:Sm k)(hR:R<=1000000)(hC:C<=1000000)
  (hS:∀t,t<C->Sm (x.s i t)/\Sm (x.s j t)/\Sm (k*x.s j t)) (hT:∀t,t<R->Sm (x.t i t)/\Sm (x.t j t)/\Sm (k*x.t j t)) (hV:∀t,t<R->Sm (x.i j t)/\Sm (x.i i t)/\Sm (k*x.i i t)):
  CPq 135 #[ptq H 0,niq i,niq j,kv] w fun e w'=>(∃u,e= .returned u)/\qK (Z3 AM AU AV l m n) w w'/\K9 w' H AM AU AV R C l m n (x.add i j k).s (x.add i j k).t (fun a b=>(x.add i j k).i b a):=by
 have c7:=xgv hS;have c8:=xgv hT;have c9:=xgv hV;obtain⟨p,v,rfl⟩:=h.m.base oM;obtain⟨q,y,rfl⟩:=h.u.base oM;obtain⟨r,z,rfl⟩:=h.v.base oM;obtain⟨a8,X⟩:=h.m.bex F;obtain⟨a9,Y⟩:=h.u.bex F;obtain⟨d0,b3⟩:=h.m.bex I;obtain⟨d1,b4⟩:=h.u.bex I;have a7:=xgv b9;have a6:=xgv b8;obtain⟨kn,Z,kl,kc,kx,rfl,c0⟩:=id O;have d3:=xgw c0;have b5:=fun b hb=>h.zlt (b:=b) hb
 clear hS hT hV b9 b8 c0;go_enter Tryz.func135,Tryz.ntmps135;go_upto_region 1 with(fail)
 refine zF ?_;intro W0 b7;obtain⟨b2,g,d4⟩:=qJ b7;have hK:=h.I b2;have o:=O.ext (lx b2);have A:=qK.of (Z3 (slq p R v) (slq q R y) (slq r R z) l m n) b2;clear b7 h;go_wp2;go_loopw [8] (fun G wr=>∃c:Nat,c<=C/\G=niq c/\qK (Z3 (slq p R v) (slq q R y) (slq r R z) l m n) w wr/\Blk wr w.heap.size 43 #[.bool kn,.slice Z kl kc]/\jE wr (.agg #[.bool kn,.slice Z kl kc]) k/\K9 wr H (slq p R v) (slq q R y) (slq r R z) R C l m n (upR x.s (x.add i j k).s i c) x.t (fun a b=>x.i b a)) (fun G _=>C-(intOf G).toNat)
 case atStart=>exact⟨0,oM,rfl,A,g,o,by rw[zJR];exact hK⟩
 clear hK A g o;obtain⟨c,hc,rfl,A,g,o,hK⟩:=hrel;obtain⟨q0,q1,q2,q3,q4,q5,q6,q7,q8⟩:=hK.blk.nine;have c4:=hK.blk.lt;have k1:=g.two;have c3:=g.lt;by_cases f:c<C
 .have lg:=hK.zlt (b:=p) (.inl (.inr rfl))
  have lb:=hK.zlt (b:=a8) (.inl (.inl (xgd X)));have d2:=hK.zlt (b:=d0) (.inl (.inl (xgd b3)));have o1:=hK.m.rowc F X;obtain⟨xs,xa,xl,xc,p1,p2,-,-,Q⟩:=hK.m.elem F X f;rw[zQs]at Q;have o2:=hK.m.rowc I b3;obtain⟨ys,ya,yl,yc,z1,z2,-,-,S⟩:=hK.m.elem I b3 f;rw[zXl _ _ a6.out]at S;obtain⟨T,U,V⟩:=c7.out c f;have T1:=xgv T;have T2:=xgv U;have T3:=xgv V;clear T U V;go_upto_region 4 with(fail)
  refine yA 35 [pcI 32 (k*x.s j c),pcD 33 [32] (fun w a5=>jE w a5 (x.s i c+k*x.s j c))] ?_;refine sRd ?_;refine sRc (fun wS hI Gk D=>by go_simp;exact ck D (zC8 _ _ k (x.s j c) _ (o.ext hI.lext) (S.ext hI.lext) a7.out T2.out)) (fun c5 _=>?_);refine sRc (fun wS hI M Gk D=>by go_simp;exact ck D (zFQ _ _ (x.s i c) (k*x.s j c) _ (Q.ext hI.lext) M T1.out T3.out)) (fun c6 _=>?_);refine sRd ?_;refine sRe ?_;intro w9 d M N;have c1:=lx d;have c2:=d.block;obtain⟨pn,pa,pl,pc,px,rfl,P⟩:=id N;have b6:=xgw P;clear P;have J:=hK.I d;have a1:=g.I d;have a3:=o.ext (lx d);obtain⟨sn,sa,sl,sc,y1,y2,y3,y4,-⟩:=J.m.elem F X f;obtain⟨K,E⟩:=J.putM F X f N;rw[zMq (by show _=zB4 x.s i j k i c;unfold zB4;rw[zB rfl])]at K;have a0:=A.trans (qK.of _ d);have L:Z3 (slq p R v) (slq q R y) (slq r R z) l m n a8:=.inl (.inl (xgd X));have a4:w.heap.size≠a8:=by have:=b5 _ L;omega
  clear o1 o2 p1 p2 z1 z2 k1;go_wp2;go_roundw
  case rel=>exact⟨c+1,oM,by simp,a0.trans (E.mono fun k _ O=>by rw[O];exact L),E.blk a1 a4,a3.ext E.lext,K⟩
  case measure=>exact meq
 have a2:c=C:=oM;replace hK:K9 wr H (slq p R v) (slq q R y) (slq r R z) R C l m n (x.add i j k).s x.t (fun a b=>x.i b a):=hK.congr (fun a _ b hb=>by
    show upR _ _ i c a b=_;unfold upR;by_cases B:a=i
    .rw[zB ⟨B,oM⟩]
    rw[zA (fun h=>B h.1)];show _=zB4 x.s i j k a b;unfold zB4;rw[zA B]) (fun _ _ _ _=>rfl) (fun _ _ _ _=>rfl)
 clear a2;go_wp2;go_loopw [9] (fun G wr=>∃c:Nat,c<=R/\G=niq c/\qK (Z3 (slq p R v) (slq q R y) (slq r R z) l m n) w wr/\Blk wr w.heap.size 43 #[.bool kn,.slice Z kl kc]/\jE wr (.agg #[.bool kn,.slice Z kl kc]) k/\K9 wr H (slq p R v) (slq q R y) (slq r R z) R C l m n (x.add i j k).s (upR x.t (x.add i j k).t i c) (fun a b=>x.i b a)) (fun G _=>R-(intOf G).toNat)
 case atStart=>exact⟨0,oM,rfl,A,g,o,by rw[zJR];exact hK⟩
 clear hK A g o;obtain⟨c,hc,rfl,A,g,o,hK⟩:=hrel;obtain⟨q0,q1,q2,q3,q4,q5,q6,q7,q8⟩:=hK.blk.nine;have c4:=hK.blk.lt;have k1:=g.two;have c3:=g.lt;by_cases f:c<R
 .have lg:=hK.zlt (b:=q) (.inr (.inl (.inr rfl)))
  have lb:=hK.zlt (b:=a9) (.inr (.inl (.inl (xgd Y))));have d2:=hK.zlt (b:=d1) (.inr (.inl (.inl (xgd b4))));have o1:=hK.u.rowc F Y;obtain⟨xs,xa,xl,xc,p1,p2,-,-,Q⟩:=hK.u.elem F Y f;rw[zQs]at Q;have o2:=hK.u.rowc I b4;obtain⟨ys,ya,yl,yc,z1,z2,-,-,S⟩:=hK.u.elem I b4 f;rw[zXl _ _ a6.out]at S;obtain⟨T,U,V⟩:=c8.out c f;have T1:=xgv T;have T2:=xgv U;have T3:=xgv V;clear T U V;go_upto_region 8 with(fail)
  refine yA 35 [pcI 32 (k*x.t j c),pcD 33 [32] (fun w a5=>jE w a5 (x.t i c+k*x.t j c))] ?_;refine sRd ?_;refine sRc (fun wS hI Gk D=>by go_simp;exact ck D (zC8 _ _ k (x.t j c) _ (o.ext hI.lext) (S.ext hI.lext) a7.out T2.out)) (fun c5 _=>?_);refine sRc (fun wS hI M Gk D=>by go_simp;exact ck D (zFQ _ _ (x.t i c) (k*x.t j c) _ (Q.ext hI.lext) M T1.out T3.out)) (fun c6 _=>?_);refine sRd ?_;refine sRe ?_;intro w9 d M N;have c1:=lx d;have c2:=d.block;obtain⟨pn,pa,pl,pc,px,rfl,P⟩:=id N;have b6:=xgw P;clear P;have J:=hK.I d;have a1:=g.I d;have a3:=o.ext (lx d);obtain⟨sn,sa,sl,sc,y1,y2,y3,y4,-⟩:=J.u.elem F Y f;obtain⟨K,E⟩:=J.putU F Y f N;rw[zMq (by show _=zB4 x.t i j k i c;unfold zB4;rw[zB rfl])]at K;have a0:=A.trans (qK.of _ d);have L:Z3 (slq p R v) (slq q R y) (slq r R z) l m n a9:=.inr (.inl (.inl (xgd Y)));have a4:w.heap.size≠a9:=by have:=b5 _ L;omega
  clear o1 o2 p1 p2 z1 z2 k1;go_wp2;go_roundw
  case rel=>exact⟨c+1,oM,by simp,a0.trans (E.mono fun k _ O=>by rw[O];exact L),E.blk a1 a4,a3.ext E.lext,K⟩
  case measure=>exact meq
 have a2:c=R:=oM;replace hK:K9 wr H (slq p R v) (slq q R y) (slq r R z) R C l m n (x.add i j k).s (x.add i j k).t (fun a b=>x.i b a):=hK.congr (fun _ _ _ _=>rfl) (fun a _ b hb=>by
    show upR _ _ i c a b=_;unfold upR;by_cases B:a=i
    .rw[zB ⟨B,oM⟩]
    rw[zA (fun h=>B h.1)];show _=zB4 x.t i j k a b;unfold zB4;rw[zA B]) (fun _ _ _ _=>rfl)
 clear a2;go_wp2;go_loopw [10] (fun G wr=>∃c:Nat,c<=R/\G=niq c/\qK (Z3 (slq p R v) (slq q R y) (slq r R z) l m n) w wr/\Blk wr w.heap.size 43 #[.bool kn,.slice Z kl kc]/\jE wr (.agg #[.bool kn,.slice Z kl kc]) k/\K9 wr H (slq p R v) (slq q R y) (slq r R z) R C l m n (x.add i j k).s (x.add i j k).t (upC (fun a b=>x.i b a) (fun a b=>(x.add i j k).i b a) j c)) (fun G _=>R-(intOf G).toNat)
 case atStart=>exact⟨0,oM,rfl,A,g,o,by rw[zQr];exact hK⟩
 clear hK A g o;obtain⟨c,hc,rfl,A,g,o,hK⟩:=hrel;obtain⟨q0,q1,q2,q3,q4,q5,q6,q7,q8⟩:=hK.blk.nine;have c4:=hK.blk.lt;have k1:=g.two;have c3:=g.lt;by_cases f:c<R
 .have lg:=hK.zlt (b:=r) (.inr (.inr (.inr rfl)))
  obtain⟨b0,W⟩:=hK.v.bex f;have lb:=hK.zlt (b:=b0) (.inr (.inr (.inl (xgd W))));have o1:=hK.v.rowc f W;obtain⟨xs,xa,xl,xc,p1,p2,-,-,Q⟩:=hK.v.elem f W I;rw[zXk]at Q;obtain⟨ys,ya,yl,yc,z1,z2,-,-,S⟩:=hK.v.elem f W F;rw[zZ9 _ _ (qF a6.out)]at S;obtain⟨T,U,V⟩:=c9.out c f;have T1:=xgv T;have T2:=xgv U;have T3:=xgv V;clear T U V;go_upto_region 12 with(fail)
  refine yA 35 [pcI 32 (k*x.i i c),pcD 33 [32] (fun w a5=>jE w a5 (x.i j c-k*x.i i c))] ?_;refine sRd ?_;refine sRc (fun wS hI Gk D=>by go_simp;exact ck D (zC8 _ _ k (x.i i c) _ (o.ext hI.lext) (S.ext hI.lext) a7.out T2.out)) (fun c5 _=>?_);refine sRc (fun wS hI M Gk D=>by go_simp;exact ck D (zH1 _ _ (x.i j c) (k*x.i i c) _ (Q.ext hI.lext) M T1.out T3.out)) (fun c6 _=>?_);refine sRd ?_;refine sRe ?_;intro w9 d M N;have c1:=lx d;have c2:=d.block;obtain⟨pn,pa,pl,pc,px,rfl,P⟩:=id N;have b6:=xgw P;clear P;have J:=hK.I d;have a1:=g.I d;have a3:=o.ext (lx d);obtain⟨sn,sa,sl,sc,y1,y2,y3,y4,-⟩:=J.v.elem f W I;obtain⟨K,E⟩:=J.putV f W I N;rw[zVD (by show _=zB4 x.i j i (-k) j c;unfold zB4;rw[zB rfl,yE,Int.sub_eq_add_neg])]at K;have a0:=A.trans (qK.of _ d);have L:Z3 (slq p R v) (slq q R y) (slq r R z) l m n b0:=.inr (.inr (.inl (xgd W)));have a4:w.heap.size≠b0:=by have:=b5 _ L;omega
  clear o1 p1 p2 z1 z2 k1;go_wp2;go_roundw
  case rel=>exact⟨c+1,oM,by simp,a0.trans (E.mono fun k _ O=>by rw[O];exact L),E.blk a1 a4,a3.ext E.lext,K⟩
  case measure=>exact meq
 have a2:c=R:=oM;replace hK:K9 wr H (slq p R v) (slq q R y) (slq r R z) R C l m n (x.add i j k).s (x.add i j k).t (fun a b=>(x.add i j k).i b a):=hK.congr (fun _ _ _ _=>rfl) (fun _ _ _ _=>rfl) (fun a ha b _=>by
    show upC _ _ j c a b=_;unfold upC;by_cases B:b=j
    .rw[zB ⟨B,oM⟩]
    rw[zA (fun h=>B h.1)];show _=zB4 x.i j i (-k) b a;unfold zB4;rw[zA B])
 clear a2;go_wp2;exact bodyPost_end (results_none rfl _ _ _) rfl ⟨⟨_,rfl⟩,A,hK⟩
theorem zIf{A:Value}{b:Nat}(a:i<bs.length)(c:j<bs.length)(h:Zn A (zKu bs i j) b):Zn A bs b:=h.imp (zEH a c) id
section
variable {w:World} {bw gm gu cm cu:Nat} {AM AU AV:Value} {R C:Nat} {bm bu bv:List Nat} {S T V:Nat->Nat->Int}
theorem K9.swapM(h:K9 w bw (.slice (some ⟨gm,0,none⟩) R cm) AU AV R C bm bu bv S T V)(q:i<R)(r:j<R)(o:bm[i]?=some bi)(p:bm[j]?=some bj):
  K9 ((w.setCell ⟨gm,i,none⟩ (.slice (some ⟨bj,0,none⟩) C C)).setCell ⟨gm,j,none⟩ (.slice (some ⟨bi,0,none⟩) C C)) bw (.slice (some ⟨gm,0,none⟩) R cm) AU AV R C (zKu bm i j) bu bv (fun a b=>S (swp i j a) b) T V∧
   qK (fun k=>k=gm) w ((w.setCell ⟨gm,i,none⟩ (.slice (some ⟨bj,0,none⟩) C C)).setCell ⟨gm,j,none⟩ (.slice (some ⟨bi,0,none⟩) C C)):=by
 obtain⟨m,n⟩:=h.m.swap q r o p;have s:=h.m.len;have c:=oz2 n;have f:Zn (.slice (some ⟨gm,0,none⟩) R cm) bm gm:=.inr rfl;have g:i<bm.length:=oM;have l:j<bm.length:=oM;exact⟨⟨c.blk h.blk (fun e=>h.nm (by rw[e];exact f)),m,h.u.keep1 c (h.mu _ f),h.v.keep1 c (h.mv _ f),fun b d=>h.mu b (zIf g l d),fun b d=>h.mv b (zIf g l d),h.uv⟩,c⟩
theorem K9.swapU(h:K9 w bw AM (.slice (some ⟨gu,0,none⟩) R cu) AV R C bm bu bv S T V)(r:i<R)(s:j<R)(p:bu[i]?=some bi)(q:bu[j]?=some bj):
  K9 ((w.setCell ⟨gu,i,none⟩ (.slice (some ⟨bj,0,none⟩) R R)).setCell ⟨gu,j,none⟩ (.slice (some ⟨bi,0,none⟩) R R)) bw AM (.slice (some ⟨gu,0,none⟩) R cu) AV R C bm (zKu bu i j) bv S (fun a b=>T (swp i j a) b) V∧
   qK (fun k=>k=gu) w ((w.setCell ⟨gu,i,none⟩ (.slice (some ⟨bj,0,none⟩) R R)).setCell ⟨gu,j,none⟩ (.slice (some ⟨bi,0,none⟩) R R)):=by
 obtain⟨n,o⟩:=h.u.swap r s p q;have t:=h.u.len;have c:=oz2 o;have g:Zn (.slice (some ⟨gu,0,none⟩) R cu) bu gu:=.inr rfl;have l:i<bu.length:=oM;have m:j<bu.length:=oM;exact⟨⟨c.blk h.blk (fun e=>h.nu (by rw[e];exact g)),h.m.keep1 c (fun f=>h.mu _ f g),n,h.v.keep1 c (h.uv _ g),fun b d f=>h.mu b d (zIf l m f),h.mv,fun b d=>h.uv b (zIf l m d)⟩,c⟩
theorem Wri.gb{b:Nat}(h:Wri w (slq g n b) R C bs F):∃a,Blk w g tR a/\n<=a.size:=qH.gblk h
theorem Blk.cell1{t:TypeId}{a:Array Value}{u:Value}(h:Blk w g t a)(b:j<a.size):∃z,(w.setCell ⟨g,i,none⟩ u).cell? ⟨g,j,none⟩=some z:=by
 rw[(h.set_ i u).cell j];exact⟨_,Array.getElem?_eq_getElem (by simpa using b)⟩
end
def zVQ(F:Nat->Nat->Int)(i j c:Nat):Nat->Nat->Int:=fun a b=>if a<c then F a (swp i j b)else F a b
theorem zU1(F:Nat->Nat->Int)(i j:Nat):zVQ F i j 0=F:=by funext a b;unfold zVQ;rw[zA oM]
theorem zU0(F:Nat->Nat->Int)(i j c b:Nat):zVQ F i j c c b=F c b:=by unfold zVQ;rw[zA oM]
theorem zWl(F:Nat->Nat->Int)(i j c:Nat):zUI (zUI (zVQ F i j c) c i (F c j)) c j (F c i)=zVQ F i j (c+1):=by
 funext a b
 unfold zUI zVQ swp;by_cases d:a=c
 .subst d
  by_cases f:b=j
  .subst f
   rw[zB ⟨rfl,rfl⟩,zB oM];split;rename_i e;rw[e];rw[zB rfl]
  rw[zA (fun h=>f h.2)];by_cases g:b=i
  .subst g
   rw[zB ⟨rfl,rfl⟩,zB oM,zB rfl]
  rw[zA (fun h=>g h.2),zA oM,zB oM,zA g,zA f]
 rw[zA (fun h=>d h.1),zA (fun h=>d h.1)];by_cases k:a<c
 .rw[zB k,zB (show a<c+1 by omega)]
 rw[zA k,zA (show ¬ a<c+1 by omega)]
theorem zPV(Q:Nat)(AM AU AV:Value)(R C i j:Nat)(I J E:List Nat)(x:Bst)(w:World)(h:K9 w Q AM AU AV R C I J E x.s x.t (fun a b=>x.i b a))(l:i<R)(M:j<R)(hR:R<=1000000)(hC:C<=1000000):
  CPq 136 #[ptq Q 0,niq i,niq j] w fun e w'=>(∃u,e= .returned u)/\qK (Z3 AM AU AV I J E) w w'/\K9 w' Q AM AU AV R C (zKu I i j) (zKu J i j) E (x.swap i j).s (x.swap i j).t (fun a b=>(x.swap i j).i b a):=by
 obtain⟨gm,cm,rfl⟩:=h.m.base oM;obtain⟨gu,cu,rfl⟩:=h.u.base oM;obtain⟨K,S,rfl⟩:=h.v.base oM;obtain⟨d3,a0⟩:=h.m.bex l;obtain⟨d4,a1⟩:=h.u.bex l;obtain⟨b0,b9⟩:=h.m.bex M;obtain⟨b2,c0⟩:=h.u.bex M;have d7:=fun b hb=>h.zlt (b:=b) hb
 go_enter Tryz.func136,Tryz.ntmps136;have hK:=h;have d:=qK.refl (Z3 (slq gm R cm) (slq gu R cu) (slq K R S) I J E) w;clear h;obtain⟨m,n,o,p,q,r,v,y,A⟩:=hK.blk.nine;have D:=hK.m.rowc l a0;have D:=hK.m.rowc l a0;have o2:=hK.m.rowc M b9;have a8:=hK.blk.lt;have lg:=hK.zlt (b:=gm) (.inl (.inr rfl));go_upto_region 1 with(fail)
 refine yA 15 [] ?_;refine sRd ?_;refine sRf ?_;intro w1 c1;have f:=hK.I c1;obtain⟨c4,L,c7⟩:=f.m.gb;have f1:=L.frozen i;have o3:=f.m.rowc l a0;have a6:Q≠gm:=fun e=>f.nm (by rw[e];exact .inr rfl)
 obtain⟨k,g⟩:=f.swapM l M a0 b9;have U:=xgv (And.intro k g);clear D o2 m n o p q r v y A k g;go_upto_region 2 with(fail)
 refine zF ?_;intro w2 B;have W:=f.blk.far a6 i (slq b0 C C);rw[<-B.out]at W;obtain⟨m,n,o,p,q,r,v,y,A⟩:=W.nine;have Y:=L.set_ i (slq b0 C C);have f2:w2.frozen? ⟨gm,j,none⟩=false:=by rw[B.out];exact Y.frozen j
 obtain⟨z,s1⟩:∃z,w2.cell? ⟨gm,j,none⟩=some z:=by rw[B.out];exact L.cell1 oM
 clear f1 o3 L Y;go_upto_region 3 with(fail)
 refine zF ?_;intro w3 V;obtain⟨k,g⟩:=U.out;rw[<-B.out,<-V.out]at k g;have d:=(d.trans (qK.of _ c1)).trans (g.mono fun a7 _ T=>by rw[T];exact(.inl (.inr rfl)));clear hK f U B V f2 s1 m n o p q r v y A;have hK:=k;clear k g;obtain⟨m,n,o,p,q,r,v,y,A⟩:=hK.blk.nine;have D:=hK.u.rowc l a1;have D:=hK.u.rowc l a1;have o2:=hK.u.rowc M c0;have a8:=hK.blk.lt;have lg:=hK.zlt (b:=gu) (.inr (.inl (.inr rfl)));go_upto_region 4 with(fail)
 refine yA 15 [] ?_;refine sRd ?_;refine sRf ?_;intro w4 c2;have f:=hK.I c2;obtain⟨c4,L,c7⟩:=f.u.gb;have f1:=L.frozen i;have o3:=f.u.rowc l a1;have a6:Q≠gu:=fun e=>f.nu (by rw[e];exact .inr rfl)
 obtain⟨k,g⟩:=f.swapU l M a1 c0;have U:=xgv (And.intro k g);clear D o2 m n o p q r v y A k g;go_upto_region 5 with(fail)
 refine zF ?_;intro w5 B;have W:=f.blk.far a6 i (slq b2 R R);rw[<-B.out]at W;obtain⟨m,n,o,p,q,r,v,y,A⟩:=W.nine;have Y:=L.set_ i (slq b2 R R);have f2:w5.frozen? ⟨gu,j,none⟩=false:=by rw[B.out];exact Y.frozen j
 obtain⟨z,s1⟩:∃z,w5.cell? ⟨gu,j,none⟩=some z:=by rw[B.out];exact L.cell1 oM
 clear f1 o3 L Y;go_upto_region 6 with(fail)
 refine zF ?_;intro w6 V;obtain⟨k,g⟩:=U.out;rw[<-B.out,<-V.out]at k g;have d:=(d.trans (qK.of _ c2)).trans (g.mono fun a7 _ T=>by rw[T];exact(.inr (.inl (.inr rfl))));clear hK f U B V f2 s1 m n o p q r v y A;have hK:=k;clear k g;go_wp2;go_loopw [7] (fun jv wr=>∃c:Nat,c<=R/\jv=niq c/\qK (Z3 (slq gm R cm) (slq gu R cu) (slq K R S) I J E) w wr/\K9 wr Q (slq gm R cm) (slq gu R cu) (slq K R S) R C (zKu I i j) (zKu J i j) E (x.swap i j).s (x.swap i j).t (zVQ (fun a b=>x.i b a) i j c)) (fun jv _=>R-(intOf jv).toNat)
 case atStart=>exact⟨0,oM,rfl,d,by rw[zU1];exact hK⟩
 clear hK d;obtain⟨c,hc,rfl,d,hK⟩:=hrel;obtain⟨m,n,o,p,q,r,v,y,A⟩:=hK.blk.nine;by_cases H:c<R
 .obtain⟨P,G⟩:=hK.v.bex H
  have Z:Zn (slq K R S) E P:=.inl (xgd G);have D:=hK.v.rowc H G;obtain⟨xs,xa,xl,xc,p1,p2,-,-,hx⟩:=hK.v.elem H G l;rw[zU0]at hx;go_upto_region 10 with(fail)
  refine zF ?_;intro W9 b5;obtain⟨a2,b7,d6⟩:=qJ b5;have N:=hK.I a2;have c9:=hx.ext (lx a2);have d:=d.trans (qK.of _ a2);have c8:wr.heap.size≠P:=by have:=hK.zlt (b:=P) (.inr (.inr Z));omega
  clear b5 hK hx D p1 p2 m n o p q r v y A;obtain⟨m,n,o,p,q,r,v,y,A⟩:=N.blk.nine;have a8:=N.blk.lt;have lg:=N.zlt (b:=K) (.inr (.inr (.inr rfl)));have lb:=N.zlt (b:=P) (.inr (.inr Z));have D:=N.v.rowc H G;obtain⟨ys,ya,yl,yc,p1,p2,-,-,hy⟩:=N.v.elem H G M;rw[zU0]at hy;refine yA 21 [] ?_;refine sRd ?_;refine sRf ?_;intro d9 X;have a3:=N.I X;have d2:=hy.ext (lx X);have d0:=c9.ext (lx X);have b8:=b7.I X;obtain⟨sn,sa,sl,sc,y1,y2,y3,y4,-⟩:=a3.v.elem H G l;obtain⟨F,O⟩:=a3.putV H G l d2;have a9:=xgv (And.intro F (And.intro O (And.intro (O.blk b8 c8) (d0.ext O.lext))));have d:=d.trans (qK.of _ X);clear F O D p1 p2 m n o p q r v y A;go_upto_region 11 with(fail)
  refine zF ?_;intro Wb b6;obtain⟨F,O,a4,c3⟩:=a9.out;rw[<-b6.out]at F O a4 c3;have d:=d.trans (O.mono fun a7 _ T=>by rw[T];exact(.inr (.inr Z):(Z3 (slq gm R cm) (slq gu R cu) (slq K R S) I J E) P));clear b6 a9 y1 y2 y3 y4 a3 N b8 b7 O;obtain⟨m,n,o,p,q,r,v,y,A⟩:=F.blk.nine;have k1:=a4.two;have a8:=F.blk.lt;have lg:=F.zlt (b:=K) (.inr (.inr (.inr rfl)));have lb:=F.zlt (b:=P) (.inr (.inr Z));have d8:=a4.lt;have D:=F.v.rowc H G;refine yA 11 [] ?_;refine sRd ?_;refine sRf ?_;intro e0 a5;have b3:=F.I a5;have d1:=c3.ext (lx a5);obtain⟨sn,sa,sl,sc,y1,y2,y3,y4,-⟩:=b3.v.elem H G M;obtain⟨b4,c6⟩:=b3.putV H G M d1;rw[zWl]at b4;have c5:=d.trans (qK.of _ a5);clear D k1 m n o p q r v y A;go_wp2;go_roundw
  case rel=>exact⟨c+1,oM,by simp,c5.trans (c6.mono fun a7 _ T=>by rw[T];exact(.inr (.inr Z):(Z3 (slq gm R cm) (slq gu R cu) (slq K R S) I J E) P)),b4⟩
  case measure=>exact meq
 have d5:c=R:=oM;replace hK:K9 wr Q (slq gm R cm) (slq gu R cu) (slq K R S) R C (zKu I i j) (zKu J i j) E (x.swap i j).s (x.swap i j).t (fun a b=>(x.swap i j).i b a):=hK.congr (fun _ _ _ _=>rfl) (fun _ _ _ _=>rfl) (fun a ha b _=>by
  show zVQ _ i j c a b=_;unfold zVQ;rw[zB oM];rfl)
 go_wp2;exact bodyPost_end (results_none rfl _ _ _) rfl ⟨⟨_,rfl⟩,d,hK⟩
structure zKy(n0 R C:Nat)(S T V:Nat->Nat->Int)(w:World)(v:Value):Prop where
 ex:∃so sc uo uc vo vc bs bu bv,v= .agg #[niq R,niq C,.slice so R sc,niq R,niq R,.slice uo R uc,niq R,niq R,.slice vo R vc]∧
  Wri w (.slice so R sc) R C bs S/\Wri w (.slice uo R uc) R R bu T/\Wri w (.slice vo R vc) R R bv V/\(∀b,Z3 (.slice so R sc) (.slice uo R uc) (.slice vo R vc) bs bu bv b->n0<=b)∧
  Ap (.slice so R sc) bs (.slice uo R uc) bu/\Ap (.slice so R sc) bs (.slice vo R vc) bv/\Ap (.slice uo R uc) bu (.slice vo R vc) bv
theorem zNb(n0 R C:Nat)(S T V:Nat->Nat->Int):zAj (zKy n0 R C S T V):=by
 intro w m v a ⟨h,g,j,i,l,k,bs,bu,bv,b,c,d,e,f⟩;exact⟨h,g,j,i,l,k,bs,bu,bv,b,c.I a,d.I a,e.I a,f⟩
theorem RG.three{W:World}{T0:Array Value}{vs:List VS}{L:Array Bool}{T:Array Value}{w:World}{c a d i j k R C:Nat}{e f g:Nat->Nat->Int}
  (h:RG W T0 vs [⟨c,i,R,C,e⟩,⟨a,j,R,R,f⟩,⟨d,k,R,R,g⟩] L T w) (U:c<a) (o2:a<d) (B:L[c]?=some true) (D:L[a]?=some true) (E:L[d]?=some true):
  ∃n m p o r q,T[i]?=some (.agg #[niq R,niq C,.slice n R m])/\T[j]?=some (.agg #[niq R,niq R,.slice p R o])/\T[k]?=some (.agg #[niq R,niq R,.slice r R q])∧
   zKy W.heap.size R C e f g w (.agg #[niq R,niq C,.slice n R m,niq R,niq R,.slice p R o,niq R,niq R,.slice r R q]):=by
 obtain⟨a0,a4,z,A⟩:=h.gh;have s:(⟨c,i,R,C,e⟩:MS)∈ [(⟨c,i,R,C,e⟩:MS),⟨a,j,R,R,f⟩,⟨d,k,R,R,g⟩]:=by simp
 have t:(⟨a,j,R,R,f⟩:MS)∈ [(⟨c,i,R,C,e⟩:MS),⟨a,j,R,R,f⟩,⟨d,k,R,R,g⟩]:=by simp
 have u:(⟨d,k,R,R,g⟩:MS)∈ [(⟨c,i,R,C,e⟩:MS),⟨a,j,R,R,f⟩,⟨d,k,R,R,g⟩]:=by simp
 obtain⟨F,Z,_,G,n,m,M,rfl,H,v⟩:=z _ s B;obtain⟨I,b2,_,J,p,o,N,rfl,K,x⟩:=z _ t D;obtain⟨P,c2,_,Q,r,q,O,rfl,S,y⟩:=z _ u E;have V:=A _ s _ t U B D;have X:=A _ s _ u (by dsimp only;omega) B E;have Y:=A _ t _ u (by dsimp only;omega) D E;refine⟨n,m,p,o,r,q,G,J,Q,⟨n,m,p,o,r,q,M,N,O,rfl,H,K,S,?_,zCS v x V,zCS v y X,zCS x y Y⟩⟩;rintro b (l|l|l);exact zD F (v b l).1;exact zD I (x b l).1;exact zD P (y b l).1
structure zZM(n0 R C:Nat)(S T V:Nat->Nat->Int)(w:World)(v:Value):Prop where
 ex:∃bw AM AU AV bm bu bv,v=ptq bw 0/\n0<=bw/\K9 w bw AM AU AV R C bm bu bv S T V/\∀b,Z3 AM AU AV bm bu bv b->n0<=b
theorem zOy(n0 R C:Nat)(S T V:Nat->Nat->Int):zAj (zZM n0 R C S T V):=by
 intro w m v l ⟨a,b,c,d,e,f,g,h,i,j,k⟩;exact⟨a,b,c,d,e,f,g,h,i,j.I l,k⟩
theorem zKy.new{n0:Nat}{S T V:Nat->Nat->Int}{cs:Array Value}(h:zKy n0 R C S T V w (.agg cs))(k:n0<=w.heap.size):zZM n0 R C S T V (w.alloc (.cells cs tWk)) (ptq w.heap.size 0):=by
 obtain⟨m,l,o,n,q,p,bs,bu,bv,e,b,c,d,f,g,i,j⟩:=h.ex;injection e with e
 subst e;have a:BWq w (w.alloc (.cells #[niq R,niq C,.slice m R l,niq R,niq R,.slice o R n,niq R,niq R,.slice q R p] tWk)):=(zC _ _).alloc (xgf _) _;exact⟨_,_,_,_,_,_,_,rfl,k,⟨yG _ _ _,b.I a,c.I a,d.I a,g,i,j⟩,f⟩
theorem zKP(n:Nat)(w:World)(a:n<=1000000):CPq 49 #[niq n] w fun e w'=>∃v,e= .returned v/\zFu n n idf w.heap.size w'.heap.size w' v/\BWq w w':=
 (zGx n w a).mono fun _ _ h=>h.within
theorem zUT(v:Value)(R C:Nat)(M:List (List Int))(w:World)(h:zG3 w v R C M)(hF:zBW R C M)(b:R<=1000000)(a:C<=1000000)(c:∀r∈M,∀z∈r,Sm z):
  CPq 147 #[v] w fun e w'=>∃v,e= .returned v/\zFu R C (ent M) w.heap.size w'.heap.size w' v/\BWq w w':=
 (zNt v R C M w h hF b a c).mono fun _ _ h=>zDl.within (by rwa[<-zGB hF])
theorem zNq(v:Value)(M:List (List Int))(R C:Nat)(w:World)(h:zG3 w v R C M)(hF:zBW R C M)(l:R<=1000000)(hC:C<=1000000)(B:∀r∈M,∀z∈r,Sm z):
  CPq 134 #[v] w fun e w'=>∃v,e= .returned v/\zZM w.heap.size R C (ent M) idf idf w' v/\BWq w w':=by
 have x:=h;obtain⟨a8,rfl,h⟩:=h;obtain⟨o,n,t,rfl,e2,e3,e4,-⟩:=id h;have Z:=xgv B;have Y:=xgv hF;have X:=xgv x;clear x hF e2 B h;go_enter Tryz.func134,Tryz.ntmps134;go_upto_region 1 with(fail)
 refine zF ?_;intro a E;obtain⟨i,p,b6⟩:=qJ E;obtain⟨f,q,s,c4,c5,c6⟩:=p.three;have b4:=zNb a.heap.size R C (ent M) idf idf;have b5:=zOy a.heap.size R C (ent M) idf idf;have b7:=p.lt;clear E;refine zDT 10 rfl (RG a _ [⟨0,3,fun _ v=>v= .agg #[niq R,niq C,.slice o n t]⟩,⟨2,5,fun _ v=>v=ptq w.heap.size 0⟩,⟨3,6,fun _ v=>v=niq R⟩,⟨5,8,fun _ v=>v=ptq w.heap.size 0⟩,⟨6,9,fun _ v=>v=niq R⟩,⟨8,11,zKy a.heap.size R C (ent M) idf idf⟩,⟨9,12,zZM a.heap.size R C (ent M) idf idf⟩] [⟨1,4,R,C,ent M⟩,⟨4,7,R,R,idf⟩,⟨7,10,R,R,idf⟩]) kR RG.start ?fin1 ?steps1
 case steps1=>
  (repeat' constructor)<;>(intro b0 T wS k hd m hI a9 hK;try refine qI rfl ?_)
  .have W:T[1]?=some (ptq w.heap.size 0):=hI.keep 1 sI sI
   have u:=hI.cell f;have b2:=hI.cell q;have b3:=hI.cell s;go_simp;exact hK _ _ (hI.y mm0 rfl)
  .obtain⟨_,d8,rfl⟩:=hI.v mm0 (hd 0)
   go_simp;refine(zUT _ R C M _ ((X.out.I i).I hI.bel) Y.out l hC Z.out).mono ?_;rintro e V ⟨v,rfl,d,c⟩;exact hK _ _ (hI.mat m k ⟨1,4,_,_,_⟩ mm0 rfl c d kR)
  .have W:T[1]?=some (ptq w.heap.size 0):=hI.keep 1 sI sI
   go_simp;exact hK _ _ (hI.y mm1 rfl)
  .obtain⟨_,d9,rfl⟩:=hI.v mm1 (hd 2)
   have u:=hI.cell f;go_simp;exact hK _ _ (hI.y mm2 rfl)
  .obtain⟨_,e0,rfl⟩:=hI.v mm2 (hd 3)
   go_simp;refine(zKP R _ l).mono ?_;rintro e V ⟨v,rfl,d,c⟩;exact hK _ _ (hI.mat m k ⟨4,7,_,_,_⟩ mm1 rfl c d kR)
  .have W:T[1]?=some (ptq w.heap.size 0):=hI.keep 1 sI sI
   go_simp;exact hK _ _ (hI.y mm3 rfl)
  .obtain⟨_,e1,rfl⟩:=hI.v mm3 (hd 5)
   have u:=hI.cell f;go_simp;exact hK _ _ (hI.y mm4 rfl)
  .obtain⟨_,e5,rfl⟩:=hI.v mm4 (hd 6)
   go_simp;refine(zKP R _ l).mono ?_;rintro e V ⟨v,rfl,d,c⟩;exact hK _ _ (hI.mat m k ⟨7,10,_,_,_⟩ mm2 rfl c d kR)
  .obtain⟨so,sc,uo,uc,vo,vc,t1,t2,t3,a3⟩:=hI.three oM oM (hd 1) (hd 4) (hd 7)
   go_simp;exact hK _ _ (hI.y mm5 a3)
  obtain⟨v8,e6,h8⟩:=hI.v mm5 (hd 8);have A:zKy a.heap.size R C (ent M) idf idf wS v8:=h8;obtain⟨so,sc,uo,uc,vo,vc,bs,bu,bv,rfl,-⟩:=A.ex;go_simp;exact hK _ _ ((hI.world ((zC _ _).alloc (xgf _) _)).y mm6 (A.new hI.bel.size))
 intro T w2 hI;obtain⟨d3,H,rfl⟩:=hI.v mm0 rfl;obtain⟨d4,J,rfl⟩:=hI.v mm1 rfl;obtain⟨d5,K,rfl⟩:=hI.v mm2 rfl;obtain⟨d6,N,rfl⟩:=hI.v mm3 rfl;obtain⟨d7,O,rfl⟩:=hI.v mm4 rfl;obtain⟨a7,Q,a0⟩:=hI.v mm5 rfl;obtain⟨U,S,F⟩:=hI.v mm6 rfl;obtain⟨a4,I,d0,b8,c7⟩:=hI.matv _ mm0 rfl;obtain⟨a5,L,d1,b9,c8⟩:=hI.matv _ mm1 rfl;obtain⟨a6,P,d2,c0,c9⟩:=hI.matv _ mm2 rfl;have D:=zFs [(3,.agg #[niq R,niq C,.slice o n t]),(5,ptq w.heap.size 0),(6,niq R),(8,ptq w.heap.size 0),(9,niq R),(11,a7),(12,U),(4,a4),(7,a5),(10,a6)]
  (fun j g=>hI.keep j (by simp only[xgm]at g ⊢;simp[g]) (by simp only[xgm]at g ⊢;simp[g]))
  (by simp only[xgm];simp[H,J,K,N,O,Q,S,I,L,P]) hI.size
 have a1:=hI.bel;clear hI;simp only[List.foldl_cons,List.foldl_nil,xgh,xgi,xgj,ptr]at D;subst D;clear H J K N O Q S I L P;simp only[xgl,xgk];have G:zZM a.heap.size R C (ent M) idf idf w2 U:=F;obtain⟨bw,AM,AU,AV,bm,bu,bv,rfl,k1,k2,k3⟩:=G.ex;have a2:=i.size;clear f q s c4 c5 c6 a0 F G;go_wp2;go_ret;exact⟨_,rfl,⟨_,_,_,_,_,_,_,rfl,oM,k2,fun b hb=>zD a2 (k3 b hb)⟩,nx i a1⟩
theorem zNp(t u:Value)(a b:Int)(w:World)(h1:jE w t a)(h2:jE w u b)(q:Smd a)(s:Smd b)(k:b≠0):
  CPq 138 #[t,u] w (zDJ w (a/b)):=by
 obtain⟨V,L,S,Q,x1,rfl,o⟩:=id h1;obtain⟨W,M,T,R,x2,rfl,p⟩:=id h2;have H:=xgw o;have I:=xgw p;have v:=xgv q;have x:=xgv s;have HB:=xgw k;clear o p q s k;go_enter Tryz.func138,Tryz.ntmps138;go_upto_region 1 with(fail)
 refine zF ?_;intro z i;obtain⟨g,A,B,c,O⟩:=zBc i;have C:=A.two;have h:=B.two;have h1:=h1.ext (lx g);have h2:=h2.ext (lx g);clear i;go_wp2_with fail
 refine(zGJ _ _ a b z h1 h2 v.out x.out HB.out).mono ?_;rintro e w2 ⟨X,r0,rfl,f,E,l⟩;obtain⟨qn,Y,ql,Z,qx,rfl,m⟩:=id f;obtain⟨rn,ra,rl,rc,rx,rfl,n⟩:=id E;have F:=xgw m;have G:=xgw n;have c:=c.I l;have U:=c.lt;have D:=nx g l;clear m n C h;go_upto_region 2 with(fail)
 refine zF ?_;intro K j;obtain⟨d,y,J,P⟩:=zAU j;have f:=f.ext (lx d);have c:=c.I d;have d:=nx D d;have h:=y.two;have N:=c.two;clear j;go_wp2;refine jL (r:=w.heap.size+1+1) rfl rfl rfl (c.put2 _ _) (f.ext (c.lext2 dE _ _)) (yB (yB d oM _ _) oM _ _)


instance (B R C Cu Cw:Nat) (z:W5):Decidable (okW B R C Cu Cw z):=by unfold okW;infer_instance
def zV9(B:Nat)(M:List (List Int)):Bool:=M.all fun r=>r.all fun z=>decide (z.natAbs<B)
def qA0(B:Nat)(X Y:List (List Int))(R m C:Nat):Prop:=∀i,i<R->∀j,j<C->∀k,k<m->(ent X i k).natAbs<B/\(ent Y k j).natAbs<B/\(ent X i k*ent Y k j).natAbs<B/\(zHU X Y k i j).natAbs<B
instance (B:Nat) (X Y:List (List Int)) (R m C:Nat):Decidable (qA0 B X Y R m C):=by unfold qA0;infer_instance
theorem zZC:BB^3*16<=B32^zOQ:=by
 have e:(B32:Nat)=2^32:=by decide
 have a:BB^3*16=2^(EB*3+4):=by unfold BB;rw[<-jT,yM]
 rw[a,e,<-jT];exact zDH oM (by rw[zXo,zC3];omega)
theorem zZB:1<=BB:=qG oM
theorem qAP:2^100<=BB:=zDH oM (by rw[zXo];omega)
theorem zXn(h:z.natAbs<BB^3*16):Smd z:=⟨zM h zZC⟩
theorem zZA{k:Nat}(a:k<=3)(b:n<=16):BB^k*n<=BB^3*16:=qO (zDH zZB a) b
theorem zXA(h:z.natAbs<BB):Smd z:=zXn (zM h (by have:=zZA (k:=1) (n:=1) oM oM;simpa using this))
theorem zY9:BSd BB:=⟨fun z h=>zXA h⟩
theorem zFU(h:z.natAbs<=2^99):Smd z:=zXA (zM (zI h dE) qAP)
theorem Inv.small{h:Nat}{A:Nat->Nat->Int}(hI:Inv R C r A F)(s:R<=4)(h1:1<=h)(k:leM h R C A):(jB r (fun i=>F i i)).natAbs<=24*h^4:=by
 have j:r<=min R C:=hI.dg.le;have t:0<jB r (fun i=>F i i):=zAT fun i n=>hI.dg.pos i n
 have o:=hI.minors j;have q:∃c d:Nat->Nat,(∀a,a<r->c a<R)/\(∀a,a<r->d a<C)/\det r (fun a b=>A (c a) (d b))≠0:=by
  refine zR fun p=>?_
  have:zVM R C r A 0:=fun c d e f=>by
   have:det r (fun a b=>A (c a) (d b))=0:=zR fun g=>p ⟨c,d,e,f,g⟩
   rw[this];exact zAh 0
  have:=Int.zero_dvd.1 (hI.gen j this);omega
 obtain⟨c,d,e,f,g⟩:=q;refine zD (zCA oM (Int.natAbs_dvd_natAbs.2 (o c d e f))) ?_;exact zP4 (F:=fun a b=>A (c a) (d b)) oM h1 fun a l b m=>k _ (e a l) _ (f b m)
theorem zRE(b:∀i,i<n->f i≠0):nzL (yV n f)=yV n f:=by
 unfold nzL yV;rw[List.filter_eq_self];intro z c;obtain⟨i,a,rfl⟩:=List.mem_map.1 c;exact zQ (b i (yP.1 a))
theorem zRF(k:r<=n)(a:∀i,i<r->f i≠0)(b:∀i,r<=i->i<n->f i=0):nzL (yV n f)=yV r f:=by
 induction n with
 |zero=>
  obtain rfl:r=0:=oM;rfl
 | succ n d=>
  have e:yV (n+1) f=yV n f++ [f n]:=by unfold yV;rw[zCy,zBl];rfl
  rw[e,zQO];by_cases h:r=n+1
  .subst h
   rw[zB (a n oM),zRE (fun i j=>a i oM),e]
  rw[zA (by rw[b n oM oM];simp),d oM fun i c g=>b i c oM]
theorem Inv.empty(C:Nat)(A:Nat->Nat->Int):Inv 0 C 0 A A:=
 ⟨⟨fun a c=>oM,fun i d=>oM,fun i _ d=>oM,oM⟩,fun a b _ e f=>oM,⟨idf,idf,fun a c=>oM⟩,⟨idf,idf,fun a c=>oM⟩⟩
theorem zQI(v:Value)(M:List (List Int))(R C:Nat)(w:World)(h:zAQ w v R C M)(hF:zBW R C M)(H:R<=4)(G:C<=4)(E:leM SW R C (ent M)):
  CPq 72 #[v] w fun e w'=>∃v F r,e= .returned v/\Inv R C r (ent M) F/\zEt w' w.heap.size v (yV r fun i=>F i i)/\BWq w w':=by
 rcases qV R with d|d
 .subst d
  refine(zJ5 v C M w h hF).mono ?_;rintro e w' ⟨v,rfl,g,k⟩;exact⟨v,ent M,0,rfl,Inv.empty C _,g,k⟩
 have c:∀n,leM 1 n 0 zf:=fun n a _ b P=>oM
 obtain⟨f,Q,L,r,g,k,y,o,p⟩:=zUq (z:=⟨ent M,zf,zf,zf,zf⟩) (Cu:=0) (Cw:=0) H G E (c R) (c R) (c C) (c C);have K:=Rel.rnds k (Rel.start R C (ent M));have N:(rnds L ⟨ent M,idf,idf,idf,idf⟩).s=(rnds L ⟨ent M,zf,zf,zf,zf⟩).s:=zXe L rfl;have I:zQz R C r (ent M) (rnds L ⟨ent M,zf,zf,zf,zf⟩).s:=by
  rw[<-N]at o ⊢
  exact⟨o,(rnds L ⟨ent M,idf,idf,idf,idf⟩).u,(rnds L ⟨ent M,idf,idf,idf,idf⟩).v,(rnds L ⟨ent M,idf,idf,idf,idf⟩).w,(rnds L ⟨ent M,idf,idf,idf,idf⟩).x,K⟩
 have J:=zQz.divI (min R C) 0 _ oM I;have hI:=Inv.of_relS J (zQ9 (n:=min R C) (min R C) 0 _ oM);refine(zKo zY9 v M R C w h hF d oM oM y g (fun m l i j A B D=>(p m l).2 i j A B D) (fun m l i q=>(p m l).1.1 i oM i oM)).mono ?_;rintro e w' ⟨v,rfl,t,O⟩;rw[zRF hI.dg.le (fun i q=>by have:=hI.dg.pos i q;omega) (fun i a b=>hI.dg.zero i a b)]at t;exact⟨v,_,r,rfl,hI,t,O⟩
theorem zNk(v:Value)(zs:List Int)(w:World)(h:zBy w v zs):
  CPq 131 #[v] w fun e w'=>e= .returned (niq (zCL 0 zs))/\BWq w w':=by
 obtain⟨C,n,F,rfl,p,G,H,u⟩:=id h;have m:=xgw p;clear p u;go_enter Tryz.func131,Tryz.ntmps131;go_wp2;go_loopw [3] (fun i wr=>∃k:Nat,k<=n/\i=niq k/\BWq w wr/\Hid (zCL 0 zs=zCL k (zs.drop k))) (fun i _=>n-(intOf i).toNat)
 case atStart=>exact⟨0,oM,rfl,zC _ _,by rw[xgk];exact xgw rfl⟩
 obtain⟨k,K,rfl,f,g⟩:=hrel;by_cases A:k<n
 .obtain⟨b,z,s,a,l,c,rfl,I,t,D,E,B⟩:=(h.I f).cell (k:=k) (by rw[m.out];exact A)
  have o:=xgw t;clear t;go_wp2_with fail
  refine(zBz _ z wr B).mono ?_;rintro e L ⟨rfl,x⟩;have q:=nx f x;by_cases d:z=0
  .rw[zBL d]
   go_wp2;go_roundw
   case rel=>
    refine⟨k+1,oM,by simp,q,xgw ?_⟩;rw[g.out,zDq o.out];conv=>lhs;unfold zCL
    rw[zA (by simp[d])]
   case measure=>exact meq
  have r:=zCm d;obtain⟨j,y⟩:∃j,zAv z 0=j:=⟨_,rfl⟩;rw[y]at r ⊢
  have J:(j !=0)=true:=by simpa using r
  go_wp2;go_ret;refine⟨?_,q⟩;rw[g.out,zDq o.out];conv=>rhs;unfold zCL
  rw[zB d];rfl
 obtain rfl:k=n:=oM;go_wp2;go_ret;refine⟨?_,f⟩;rw[g.out,qP (zBT m.out)];rfl
structure zFt(C:Nat)(F:Nat->Nat->Int)(i:Nat)(last:Int):Prop where
 ok:∀k,k<i->zF4 C F k
 lst:∀c:Nat,c<C->(last<c↔∀k,k<i->0<=lead C F k/\lead C F k<c)
theorem zFt.start(C:Nat)(F:Nat->Nat->Int):zFt C F 0 (-1):=
 ⟨fun k a=>oM,fun c b=>⟨fun _ k a=>oM,fun _=>oM⟩⟩
theorem zFt.zero(h:zFt C F i last)(a:lead C F i<0):zFt C F (i+1) C:=
 ⟨fun k d=>by
  by_cases e:k=i
  .rw[e];exact .inl a
  exact h.ok k oM,fun c b=>⟨fun h=>oM,fun h=>by have:=h i oM;omega⟩⟩
theorem zFt.row(h:zFt C F i last)(f:lead C F i=(c:Int)):
  zF4 C F i↔last<c/\0<F i c/\∀k,k<i->0<=F k c/\F k c<F i c:=by
 have g:=zDu f;constructor
 .rintro(j|⟨e,j,a,b,d⟩)
  .omega
  obtain rfl:e=c:=oM;exact⟨(h.lst e g.1).2 a,b,d⟩
 rintro⟨a,b,d⟩;exact .inr ⟨c,f,(h.lst c g.1).1 a,b,d⟩
theorem zFt.step(h:zFt C F i last)(l:lead C F i=(c:Int))(b:zF4 C F i):zFt C F (i+1) c:=by
 refine⟨fun k a=>?_,fun d hd=>⟨fun m k a=>?_,fun a=>by have:=(a i oM).2;omega⟩⟩
 .by_cases e:k=i
  .rw[e];exact b
  exact h.ok k oM
 by_cases e:k=i
 .rw[e];omega
 rcases b with f|⟨j,f,g,-⟩
 omega;have:=g k oM;omega
theorem zUP(v:Value)(R C:Int)(M:List (List Int))(w:World)(h:zAQ w v R C M)(hS:∀r∈M,∀z∈r,Sm z):
  CPq 83 #[v] w (zSi (zSg R C M) w):=by
 have m:=h;obtain⟨d8,rfl,h⟩:=h;obtain⟨ao,n,d3,rfl,e2,e3,e4,-⟩:=id h;have y:=xgw e2;have HS:=xgv hS;clear e2 hS;by_cases b:zBX R C M
 .have a4:=zQ b
  have c9:=b;obtain⟨v1,v2,v3,v4⟩:=b;obtain⟨d,rfl⟩:=zBZ v2;obtain rfl:R=(n:Int):=by rw[<-v3,y.out]
  have hF:zBW n d M:=⟨y.out,fun r l=>by have:=v4 r l;omega⟩;have HF:=xgv hF;have c4:Hid (zSg n d M↔∀i,i<n->zF4 d (ent M) i):=xgw ⟨fun h=>by have:=h.2;rw[y.out,zBr]at this;exact this,fun h=>⟨c9,by rw[y.out,zBr];exact h⟩⟩;clear v1 v2 v3 v4 c9 hF;go_enter Tryz.func83,Tryz.ntmps83;go_upto_region 1 with(fail)
  refine zF ?_;intro W0 P;obtain⟨N,a,d6⟩:=qJ P;have g:=a.three;clear P;go_wp2_with fail
  refine(zKR _ n d M W0 (m.I N)).mono ?_;rintro e w1 ⟨rfl,a1⟩;rw[a4];have a:=a.I a1;have d4:=nx N a1;clear g a4;have g:=a.three;go_wp2;go_loopw [4,5] (fun lv iv wr=>∃(i:Nat) (last:Int),i<=n/\lv= .int .i64 last/\iv= .int .i64 i/\BWq w wr/\Blk wr w.heap.size 32 #[.int .i64 n,.int .i64 d,.slice ao n d3]/\jI (zFt d (ent M) i last)) (fun _ iv _=>n-(intOf iv).toNat)
  case atStart=>exact⟨0,-1,oM,rfl,rfl,d4,a,⟨zFt.start _ _⟩⟩
  clear a g;obtain⟨i,last,hi,rfl,rfl,hb,a,a5⟩:=hrel;have g:=a.three;by_cases c8:i<n
  .obtain⟨a9,ra,rn,rc,zs,rfl,u,hz,J,E⟩:=(h.I hb).row (k:=i) (by rw[y.out];exact c8)
   obtain rfl:=HF.out.row_eq hz;have X:=E.len.1;rw[qN]at X;subst X;have HZ:=xgw hz;clear hz;go_wp2_with fail
   refine(zNk _ (yV d (ent M i)) wr E).mono ?_;rintro e w7 ⟨rfl,S⟩;obtain⟨L,hL⟩:∃L,zCL 0 (yV d (ent M i))=L:=⟨_,rfl⟩;rw[hL];have HL:=xgw (show lead d (ent M) i=L from hL);have a2:=nx hb S;have a:=a.I S;have E:=E.I S;have b9:=h.I a2;have J:=(S.cell (p:=⟨a9,i,none⟩) u).trans J;have u:=zM u S.size;clear hL g;have g:=a.three;by_cases V:L<0
   .have hd:decide (L<0)=true:=zQ V
    have HN:=xgw V;clear V;go_wp2;go_roundw
    case rel=>
     exact⟨i+1,d,oM,rfl,by simp,a2,a,⟨a5.out.zero (by rw[HL.out];exact HN.out)⟩⟩
    case measure=>exact meq
   obtain⟨c,rfl⟩:=zBZ (Int.not_lt.1 V);have U:c<d:=(zDu HL.out).1;have K:=xgw (a5.out.row HL.out);have W:¬ zF4 d (ent M) i->¬ zSg n d M:=fun l h=>l (c4.out.1 h i c8)
   have x:=xgv W;clear W V;by_cases D:(c:Int)<=last
   .have a7:=xgw D
    have hd:decide ((c:Int)<=last)=true:=zQ D;clear D;go_wp2;go_ret;exact zSi.no (x.out (fun l=>by have h1:=(K.out.1 l).1;have t:=a7.out;omega)) a2
   have a7:=xgw D;have hd:decide ((c:Int)<=last)=false:=zT D;clear D;obtain⟨bi,z,d2,c2,d1,kz,rfl,B,q,q1,q2,F⟩:=E.cell (k:=c) (by rw[qN];exact U);have d0:z=ent M i c:=by
    rw[yO U]at q;exact(qD q).symm
   have a0:=xgw d0;have d7:jI (Sm z):=⟨HS.out _ (xgd HZ.out) z (xgd q)⟩;clear q d0;go_wp2_with fail
   refine(zBz _ z w7 F).mono ?_;rintro e w9 ⟨rfl,o⟩;have a:=a.I o;have J:=(o.cell (p:=⟨a9,i,none⟩) u).trans J;have q1:=(o.cell (p:=⟨bi,c*2,none⟩) B).trans q1;have q2:=(o.cell (p:=⟨bi,c*2+1,none⟩) B).trans q2;have u:=zM u o.size;have B:=zM B o.size;have F:=F.ext (lx o);have b9:=b9.I o;have c3:=nx a2 o;clear g E;have g:=a.three;by_cases Y:z<=0
   .obtain⟨k0,b4⟩:∃k0,zAv z 0=k0:=⟨_,rfl⟩
    have n1:decide (k0<=0)=true:=zQ (by
     rw[<-b4];rcases Int.lt_or_eq_of_le Y with h|h
     rw[zBj h];decide;rw[zCw h];decide)
    rw[b4];have a8:=xgw Y;clear Y b4;go_wp2;go_ret;exact zSi.no (x.out (fun l=>by have h1:=(K.out.1 l).2.1;have t:=a8.out;have h3:=a0.out;omega)) c3
   rw[zCb oM];have a8:=xgw Y;clear Y;go_wp2;go_loopw [7] (fun kv wt=>∃k:Nat,k<=i/\kv= .int .i64 k/\BWq w9 wt/\Hid (∀j,j<k->0<=ent M j c/\ent M j c<z)) (fun kv _=>i-(intOf kv).toNat)
   case atStart=>exact⟨0,oM,rfl,zC _ _,xgw fun j h=>absurd h oM⟩
   rename World=>wt
   obtain⟨k,hk,rfl,s,c5⟩:=hrel;have a:=a.I s;clear g;have g:=a.three;have b3:=nx c3 s;by_cases c7:k<i
   .have e6:k<n:=oM
    have J:=(s.cell (p:=⟨a9,i,none⟩) u).trans J;have q1:=(s.cell (p:=⟨bi,c*2,none⟩) B).trans q1;have q2:=(s.cell (p:=⟨bi,c*2+1,none⟩) B).trans q2;have F:=F.ext (lx s);obtain⟨b',rb,e8,e7,zs,e1,e0,c0,p3,b8⟩:=(b9.I s).row (k:=k) (by rw[y.out];omega);cases e1;obtain rfl:=HF.out.row_eq c0;have X:=b8.len.1;rw[qN]at X;subst X;obtain⟨bk,f,sk,A,I,H,rfl,d9,q,o1,o2,b7⟩:=b8.cell (k:=c) (by rw[qN];exact U);have c6:f=ent M k c:=by
     rw[yO U]at q;exact(qD q).symm
    have a6:=xgw c6;have d5:jI (Sm f):=⟨HS.out _ (xgd c0) f (xgd q)⟩;have e5:c<d:=U;clear q c6 c0 b8;by_cases m:f<0
    .have hs:∀Q,jE Q (.agg #[.bool sk,.slice A I H]) f->CPq 48 #[.agg #[.bool sk,.slice A I H]] Q fun e w'=>e= .returned (.int .i64 (-1))/\BWq Q w':=fun Q hq=>by
      have:=zBz _ f Q hq;rwa[zBj m]at this
     have H0:=xgw m;clear m;go_upto_region 16 with(fail)
     refine zBP [pcD 8 [] (fun _ v=>v= .int .i64 (-1))] ?_;refine sRd ?_;refine sRc (fun wS hI Gk O=>?_) (fun _ b=>?_)
     .go_simp
      refine(hs _ (b7.ext (lx hI.bel))).mono ?_
      (rintro e wa ⟨rfl,T⟩;have b:(Value.int .i64 (-1))= .int .i64 (-1):=rfl)
      exact⟨_,rfl,O _ _ b,T⟩
     obtain⟨_,-,rfl⟩:=b;refine sRd ?_;refine sRe ?_;intro w2 a3 _;have b2:=nx b3 a3;go_wp2;go_ret;exact zSi.no (x.out (fun l=>by have h1:=((K.out.1 l).2.2 k c7).1;have t:=H0.out;have h3:=a6.out;omega)) b2
    obtain⟨Z,b5⟩:∃k,zAv f 0=k:=⟨_,rfl⟩;obtain⟨G,b6⟩:∃k,zAv f z=k:=⟨_,rfl⟩;have hs:∀Q,jE Q (.agg #[.bool sk,.slice A I H]) f->CPq 48 #[.agg #[.bool sk,.slice A I H]] Q fun e w'=>e= .returned (.int .i64 Z)/\BWq Q w':=fun Q hq=>by
     have:=zBz _ f Q hq;rwa[b5]at this
    have hc:∀Q,jE Q (.agg #[.bool sk,.slice A I H]) f->jE Q (.agg #[.bool d2,.slice c2 d1 kz]) z->CPq 46 #[.agg #[.bool sk,.slice A I H],.agg #[.bool d2,.slice c2 d1 kz]] Q fun e w'=>e= .returned (.int .i64 G)/\BWq Q w':=fun Q h1 t=>by
     have:=zNr _ _ f z Q h1 t d5.out d7.out;rwa[b6]at this
    have n1:decide (Z<0)=false:=zT (by rw[<-b5];have:=zJg m;omega);have n2:decide (0<=G)=decide (z<=f):=decide_eq_decide.2 (by
     rw[<-b6];constructor
     .intro h
      rcases zC4 f z with h1|h1
      rw[zBj h1]at h;omega;exact h1
     intro h;exact zD5 oM)
    obtain⟨b0,hd⟩:∃b0,decide (0<=G)=b0:=⟨_,rfl⟩;have HD:=xgw (hd.symm.trans n2);have H0:=xgw m;clear n2 m b5 b6;go_upto_region 16 with(fail)
    refine zBP [pcD 8 [] (fun _ v=>v= .int .i64 Z),pcD 27 [] (fun _ v=>v= .int .i64 G)] ?_;refine sRd ?_;refine sRc (fun wS hI Gk O=>?_) (fun _ b=>?_)
    .go_simp
     refine(hs _ (b7.ext (lx hI.bel))).mono ?_
     (rintro e wa ⟨rfl,T⟩;have b:(Value.int .i64 Z)= .int .i64 Z:=rfl)
     exact⟨_,rfl,O _ _ b,T⟩
    obtain⟨_,-,rfl⟩:=b;refine sRd ?_;refine sRc (fun wS hI Gk O=>?_) (fun _ b=>?_)
    .go_simp
     refine(hc _ (b7.ext (lx hI.bel)) (F.ext (lx hI.bel))).mono ?_
     (rintro e wa ⟨rfl,T⟩;have b:(Value.int .i64 G)= .int .i64 G:=rfl)
     exact⟨_,rfl,O _ _ b,T⟩
    obtain⟨_,-,rfl⟩:=b;refine sRd ?_;refine sRe ?_;intro w2 a3 _ _;have b2:=nx b3 a3;cases b0
    .go_wp2
     go_roundw
     case rel=>
      refine⟨k+1,oM,by simp,nx s a3,xgw fun j hj=>?_⟩;by_cases e:j=k
      .subst e
       rw[<-a6.out];have h1:=of_decide_eq_false HD.out.symm;have t:=H0.out;omega
      exact c5.out j oM
     case measure=>exact meq
    go_wp2;go_ret;exact zSi.no (x.out (fun l=>by have h1:=((K.out.1 l).2.2 k c7).2;have t:=yW HD.out.symm;have h3:=a6.out;have h4:=a0.out;omega)) b2
   obtain rfl:k=i:=oM;go_wp2;go_roundw
   case rel=>
    exact⟨k+1,c,oM,rfl,by simp,b3,a,⟨a5.out.step HL.out (K.out.2 ⟨by have:=a7.out;omega,by have h1:=a8.out;have t:=a0.out;omega,fun j hj=>by rw[<-a0.out];exact c5.out j hj⟩)⟩⟩
   case measure=>exact meq
  obtain rfl:i=n:=oM;go_wp2;go_ret;exact zSi.yes (c4.out.2 fun k hk=>a5.out.ok k hk) hb
 have a4:=zT b;have W:¬ zSg R C M:=fun h=>b h.1
 have x:=xgv W;clear b W;go_enter Tryz.func83,Tryz.ntmps83;go_upto_region 1 with(fail)
 refine zF ?_;intro W0 P;obtain⟨N,a,d6⟩:=qJ P;have g:=a.three;clear P;go_wp2_with fail
 refine(zKR _ R C M W0 (m.I N)).mono ?_;rintro e w1 ⟨rfl,a1⟩;rw[a4];go_wp2;go_ret;exact zSi.no x.out (nx N a1)
end Go.Proofs.YtkidaebmhlijlaaGreat
