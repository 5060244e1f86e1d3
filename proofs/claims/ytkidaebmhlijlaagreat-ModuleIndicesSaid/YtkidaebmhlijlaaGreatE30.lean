/- Joined. -/
import Derived.Laws.EntriesVeiled
import Derived.Test.YtkidaebmhlijlaaGreatE23
import Derived.Test.YtkidaebmhlijlaaGreatE26
import Derived.Test.YtkidaebmhlijlaaGreatE28
import Derived.Test.YtkidaebmhlijlaaGreatE29
set_option linter.unusedVariables false
set_option linter.unusedSimpArgs false
set_option linter.unusedSectionVars false
set_option maxHeartbeats 16000000
set_option maxRecDepth 100000
variable{cs:Array Go.Value}{z:Int}{M:List (List Int)}{C M0 R a b e h i j k m n p q r s:Nat}{x:Nat->Int}{c κ:Nat->Nat}{A G H X:Nat->Nat->Int}{v:Go.Value}{w:Go.World}
namespace Go.Proofs.YtkidaebmhlijlaaGreat
open Go.RowKit
theorem qK.to{Z Z':Nat->Prop}{w':World}(h:qK Z w w')(c:∀b,Z b->Z' b):qK Z' w w':=h.mono fun b _ a=>c b a
section
variable {Z:Nat->Prop} {w:World} {bw R C:Nat} {x:Bst}
theorem zXR(h:KW Z w bw R C x)(b:i<R)(c:j<R)(B:i≠j){d:Value}{k:Int}(D:jE w d k)(G:okB BD R C R x)(H:zEn BD R C R x i j k)(A:R<=1000000)(z:C<=1000000):
  CPq 135 #[ptq bw 0,niq i,niq j,d] w fun e w'=>(∃u,e= .returned u)/\qK Z w w'/\KW Z w' bw R C (x.add i j k):=by
 obtain⟨f,g,l,m,n,o,y,p⟩:=h;obtain⟨r,s,v⟩:=G;obtain⟨J,K,q,L⟩:=H;refine(zRy bw f g l R C i j m n o x d k w y b c B D (zGf J) A z (fun t a=>⟨zGf (r i b t a),zGf (r j c t a),zGf (K t a)⟩) (fun t a=>⟨zGf (s i b t a),zGf (s j c t a),zGf (q t a).1⟩)
  (fun t a=>⟨zGf (v j c t a),zGf (v i b t a),zGf (q t a).2⟩)).mono ?_
 rintro e w' ⟨I,F,E⟩;exact⟨I,F.to p,f,g,l,m,n,o,E,p⟩
theorem zZo(h:KW Z w bw R C x)(b:i<R)(r:okB BD R C R x)(o:R<=1000000)(n:C<=1000000):
  CPq 137 #[ptq bw 0,niq i] w fun e w'=>(∃u,e= .returned u)/\qK Z w w'/\KW Z w' bw R C (x.neg i):=by
 obtain⟨c,d,f,g,j,k,m,l⟩:=h;obtain⟨v,y,z⟩:=r;refine(zR0 bw c d f R C i g j k x w m b o n (fun t a=>zGf (v i b t a)) (fun t a=>zGf (y i b t a)) (fun t a=>zGf (z i b t a))).mono ?_;rintro e w' ⟨s,q,p⟩;exact⟨s,q.to l,c,d,f,g,j,k,p,l⟩
theorem zTg(h:KW Z w bw R C x)(q:i<R)(r:j<R)(o:R<=1000000)(n:C<=1000000):
  CPq 136 #[ptq bw 0,niq i,niq j] w fun e w'=>(∃u,e= .returned u)/\qK Z w w'/\KW Z w' bw R C (x.swap i j):=by
 obtain⟨c,d,f,g,k,l,a,m⟩:=h;refine(zPV bw c d f R C i j g k l x w a q r o n).mono ?_;rintro e w' ⟨v,t,s⟩;have y:=a.m.len;have z:=a.u.len;exact⟨v,t.to m,c,d,f,zKu g i j,zKu k i j,l,s,fun b p=>m b (p.imp (zIf oM oM) (Or.imp (zIf oM oM) id))⟩
end
structure MvI(R C M0 i:Nat)(x0 x:Bst):Prop where
 ops:∃l,jZ R l/\x=zCf l x0
 bd:leB (M0*4^i) R C R x
section
variable {R C M0 i:Nat} {x0 x:Bst}
end
theorem zAQ.keep3{R C:Int}(h:zAQ w v R C M)(a:Blk w b 32 cs)(x y z:Value):zAQ (((w.setCell ⟨b,0,none⟩ x).setCell ⟨b,1,none⟩ y).setCell ⟨b,2,none⟩ z) v R C M:=by
 obtain⟨A,rfl,h⟩:=h;exact⟨A,rfl,h.off a dE dE (fun k c=>zAm _ _ k _ _ _ c) (a.lext3 dE _ _ _)⟩
theorem zZ8:(Int.tmod z 4).natAbs<=3:=by
 rcases zCX 0 z with h|h
 rw[zAr h];omega;have:Int.tmod z 4=-(Int.tmod (-z) 4):=by rw[Int.neg_tmod];omega
 rw[this,zAr oM];omega
theorem KEu.okB{c:Nat}{x0 x:Bst}(a:1<=M0)(h:KEu R C R M0 x0 c r κ i x)(e:r<i)(f:i<R)(d:gx (eE R R) M0<BD):okB BD R C R x:=by
 have b:=h.2.le (zD a (zTQ a (zJr _ _ _)));rw[zVt (zJr _ _ _),<-zOj e]at b;exact b.ok (zI (zE6 a (zD (zX6 oM oM) (zJq R oM))) d)
theorem KEu.five(b:1<=M0)(c:r<i)(d:i<R)(a:gx (eE R R) M0<BD):gx 5 (gx (eI R r i) M0)<BD:=by
 rw[zVt (zJr _ _ _),<-zOj c];exact zI (zE6 b (zD (zX6 oM oM) (zJq R oM))) a
theorem zP0(h:z<0):zAv z 0=-1:=by unfold zAv;rw[zB h]
theorem zP1(h:0<z):zAv z 0=1:=by unfold zAv;(repeat' split)<;>omega
theorem OkB.smd{x:Bst}(h:okB BD R C R x)(c:a<R)(d:b<C):Smd (x.s a b):=zJT.smd _ (h.1 a c b d)
theorem zPT(a9:1<=M0)(v:Value)(M:List (List Int))(R C:Nat)(w:World)(h:zG3 w v R C M)(hF:zBW R C M)(hR:R<=1000000)(hC:C<=1000000)(hA:leM M0 R C (ent M))(hB:gx (eE R R) M0<BD):
  CPq 88 #[v] w fun e w'=>∃v c r κ x,e= .returned v/\KO R C R M0 ⟨ent M,idf,idf⟩ c r κ x/\(c=C∨r=R)/\zJZ w' v R C (genM R C x.s) (genM R R x.t) (genM R R fun a b=>x.i b a)/\BWq w w':=by
 have h0:=h;obtain⟨A,rfl,h⟩:=h;obtain⟨ao,n,c2,rfl,e2,e3,e4,-⟩:=id h;have g1:M0<BD:=zI (zTQ a9 (zTD R R)) hB;have k7:jI (∀r∈M,∀z∈r,Sm z):=⟨by rw[zGB hF];exact zQA fun a ha b l=>zGf (zI (hA a ha b l) g1)⟩;have f9:jI (KO R C R M0 ⟨ent M,idf,idf⟩ 0 0 (fun _=>0) ⟨ent M,idf,idf⟩):=⟨KO.start ⟨hA,zMH R M0 a9,zMH R M0 a9⟩⟩;have HF:=xgv hF;have HB:=xgv hB;have H0:=xgv h0;have a1:=xgv a9;obtain⟨x0,e7⟩:∃x0:Bst,(⟨ent M,idf,idf⟩:Bst)=x0:=⟨_,rfl⟩;have k8:=xgv e7;rw[e7]at f9 ⊢
 clear h0 hF e2 h hA hB g1 a9 e7;go_enter Tryz.func88,Tryz.ntmps88;go_upto_region 1 with(fail)
 refine zF ?_;intro W0 g2;obtain⟨c3,g,f,l6⟩:=zAU g2;have Q:=g.three;clear g2;go_wp2_with fail
 refine(zNq _ M R C W0 (H0.out.I c3) HF.out hR hC k7.out).mono ?_;rintro e w2 ⟨v,rfl,a7,b0⟩;obtain⟨bw,AM,AU,AV,bm,bu,bv,rfl,k1,k2,k3⟩:=a7.ex;have o:KW (fun b=>W0.heap.size<=b) w2 bw R C x0:=by
  rw[<-k8.out];exact⟨_,_,_,_,_,_,k2.congr (fun _ _ _ _=>rfl) (fun _ _ _ _=>rfl) (fun a _ b _=>zHe a b),k3⟩
 have g:=g.I b0;have f:=f.I b0;have l:=nx c3 b0;have y:=c3.size;have B:=b0.size;have o5:w.heap.size+1<W0.heap.size:=oM;clear Q a7 k2 k3 y B l6 c3 b0;go_wp2;go_loopw [4,5] (fun tv cv wr=>∃(r c:Nat) (κ:Nat->Nat) (x:Bst),tv=niq r/\cv=niq c/\c<=C/\r<=R/\BWq w wr/\Blk wr w.heap.size 32 #[niq R,niq C,.slice ao n c2]/\Blk wr (w.heap.size+1) tHe #[niq 0,niq 0,.slice none 0 0,niq 0,niq 0,.slice none 0 0,niq 0,niq 0,.slice none 0 0]/\KW (fun b=>W0.heap.size<=b) wr bw R C x/\jI (KO R C R M0 x0 c r κ x)) (fun _ cv _=>C-(intOf cv).toNat)
 case atStart=>exact⟨0,0,_,_,rfl,rfl,oM,oM,l,g,f,o,f9⟩
 clear o g f l;obtain⟨r,c,κ,x,rfl,rfl,n8,o4,l,g,f,o,e0⟩:=hrel;have Q:=g.three;by_cases c6:c<C/\r<R
 .obtain⟨D,p⟩:=c6
  have g9:=xgv e0.out.enter;go_wp2;clear Q;go_loopw [6] (fun iv wr=>∃(i:Nat) (x:Bst),iv=niq i/\r<i/\i<=R/\BWq w wr/\Blk wr w.heap.size 32 #[niq R,niq C,.slice ao n c2]/\Blk wr (w.heap.size+1) tHe #[niq 0,niq 0,.slice none 0 0,niq 0,niq 0,.slice none 0 0,niq 0,niq 0,.slice none 0 0]/\KW (fun b=>W0.heap.size<=b) wr bw R C x/\jI (KR R C R M0 x0 c r κ i x)) (fun iv _=>R-(intOf iv).toNat)
  case atStart=>exact⟨r+1,x,by simp,oM,oM,l,g,f,o,g9⟩
  clear o g f l g9 e0;obtain⟨i,x,rfl,b6,n9,l,g,f,o,a8⟩:=hrel;have Q:=g.three;by_cases O:i<R
  .have g6:=xgv a8.out.enter
   obtain⟨JF,d8⟩:∃JF:Nat->World->Prop,∀m wr,JF m wr↔∃x:Bst,(x.s i c).natAbs=m/\BWq w wr/\Blk wr w.heap.size 32 #[niq R,niq C,.slice ao n c2]/\Blk wr (w.heap.size+1) tHe #[niq 0,niq 0,.slice none 0 0,niq 0,niq 0,.slice none 0 0,niq 0,niq 0,.slice none 0 0]/\KW (fun b=>W0.heap.size<=b) wr bw R C x/\jI (KEu R C R M0 x0 c r κ i x):=⟨_,fun _ _=>yF⟩;have d3:=xgv d8;have g4:JF (x.s i c).natAbs _:=(d8 _ _).2 ⟨x,rfl,l,g,f,o,g6⟩;clear d8;go_wp2;clear Q;go_loopw [] (fun wr=>∃m,JF m wr) (fun wr=>leastOf (fun m=>JF m wr))
   case atStart=>exact⟨_,g4⟩
   clear o g f l g6 a8 g4;obtain⟨m,hJ⟩:=hrel;replace hJ:=(zE1 (P:=fun m=>JF m wr) hJ).1;generalize leastOf (fun m=>JF m wr)=m0 at hJ ⊢
   obtain⟨x,h4,l,g,f,o,a6⟩:=(d3.out _ _).1 hJ;have HM:=xgv h4;clear hJ h4;obtain⟨AM,AU,AV,bm,bu,bv,d,U⟩:=id o;obtain⟨gm,cm,rfl⟩:=d.m.base oM;obtain⟨F,y,B,G,H,I,J,K,L⟩:=d.blk.nine;have Y:=d.blk.lt;have Z:=d.zlt (b:=gm) (.inl (.inr rfl));obtain⟨bi,a0⟩:=d.m.bex O;have V:=d.m.rowc O a0;have b7:=d.zlt (b:=bi) (.inl (.inl (xgd a0)));obtain⟨i8,i5,i7,i6,W,X,-,-,q⟩:=d.m.elem O a0 D;have a3:=xgv (a6.out.okB a1.out b6 O HB.out);go_wp2_with fail
   refine(zBz _ (x.s i c) wr q).mono ?_;rintro e w3 ⟨rfl,T⟩;by_cases hY:x.s i c=0
   .have l2:=xgv (a6.out.exit a1.out b6 hY)
    rw[zBL hY];clear F y B G H I J K L V W X;have l:=nx l T;have g:=g.I T;have f:=f.I T;have o:=o.I T;go_wp2;go_roundw
    case rel=>exact⟨i+1,x,by simp,oM,oM,l,g,f,o,l2⟩
    case measure=>exact meq
   have a4:=zCm hY;obtain⟨kk,g7⟩:∃k,zAv (x.s i c) 0=k:=⟨_,rfl⟩;rw[g7]at a4 ⊢
   have a7:(kk !=0)=true:=by simpa using a4
   have b8:=xgv hY;clear g7 hY F y B G H I J K L V W X d U q b7 Z Y;have l:=nx l T;have g:=g.I T;have f:=f.I T;have o:=o.I T;obtain⟨AM,AU,AV,bm,bu,bv,d,U⟩:=id o;obtain⟨gm,cm,rfl⟩:=d.m.base oM;obtain⟨F,y,B,G,H,I,J,K,L⟩:=d.blk.nine;have Y:=d.blk.lt;have Z:=d.zlt (b:=gm) (.inl (.inr rfl));obtain⟨bt,t⟩:=d.m.bex p;have V:=d.m.rowc p t;have a2:=d.zlt (b:=bt) (.inl (.inl (xgd t)));obtain⟨d2,c9,d1,d0,W,X,-,-,q⟩:=d.m.elem p t D;go_wp2_with fail
   refine(zBz _ (x.s r c) w3 q).mono ?_;rintro e w4 ⟨rfl,N⟩;clear F y B G H I J K L V W X d U q a2 Z Y a7 a4;have l:=nx l N;have g:=g.I N;have f:=f.I N;have o:=o.I N;by_cases hX:x.s r c=0
   .rw[zBL hX]
    obtain⟨n1,n2,n3⟩:=a6.out.1.swap0 b6 O hX b8.out a6.out.2;have d9:jI (KEu R C R M0 x0 c r κ i (x.swap r i)):=⟨⟨n1,n2⟩⟩;have h5:((x.swap r i).s i c).natAbs<m0:=by
     have h1:=b8.out;have h2:=HM.out;rw[n3];omega
    have d4:=xgv h5;clear n1 n2 n3 h5;go_wp2_with fail
    refine(zTg o p O hR hC).mono ?_;rintro e wa ⟨⟨uu,rfl⟩,E,b5⟩;have g:=E.blk g oM;have f:=E.blk f oM;have b2:=zCs l E oM l.size;have b4:JF ((x.swap r i).s i c).natAbs wa:=(d3.out _ _).2 ⟨_,rfl,b2,g,f,b5,d9⟩;go_wp2;go_roundw
    case rel=>exact⟨_,b4⟩
    case measure=>exact zFL b4 d4.out
   have a4:=zCm hX;obtain⟨m5,g8⟩:∃k,zAv (x.s r c) 0=k:=⟨_,rfl⟩;rw[g8]at a4 ⊢
   have a7:(m5 !=0)=true:=by simpa using a4
   obtain⟨n1,n2,n3,n4⟩:=a6.out.1.step b6 O D (zD a1.out (zTQ a1.out (zJr _ _ _))) hX b8.out a6.out.2 (KEu.five a1.out b6 O HB.out);have d9:jI (KEu R C R M0 x0 c r κ i ((x.add r i (-(x.s r c/x.s i c))).swap r i)):=⟨⟨n2,n3⟩⟩;have d4:jI ((((x.add r i (-(x.s r c/x.s i c))).swap r i).s i c).natAbs<m0):=⟨by rw[<-HM.out];exact n4⟩;have d5:=xgv n1;have SX:=xgv (OkB.smd a3.out p D);have SY:=xgv (OkB.smd a3.out O D);have SQ:jI (Sm (x.s r c/x.s i c)):=⟨(SX.out.mono (zL8 _ _)).sm⟩;clear n1 n2 n3 n4 g8 hX;obtain⟨AM,AU,AV,bm,bu,bv,d,U⟩:=id o;obtain⟨gm,cm,rfl⟩:=d.m.base oM;obtain⟨F,y,B,G,H,I,J,K,L⟩:=d.blk.nine;have Y:=d.blk.lt;have Z:=d.zlt (b:=gm) (.inl (.inr rfl));obtain⟨bt,t⟩:=d.m.bex p;have V:=d.m.rowc p t;have a2:=d.zlt (b:=bt) (.inl (.inl (xgd t)));obtain⟨d2,c9,d1,d0,W,X,-,-,q⟩:=d.m.elem p t D;obtain⟨bi,a0⟩:=d.m.bex O;have o2:=d.m.rowc O a0;have b7:=d.zlt (b:=bi) (.inl (.inl (xgd a0)));obtain⟨i8,i5,i7,i6,p3,p4,-,-,hy⟩:=d.m.elem O a0 D;have o0:zG2 (fun w v=>∃v1 v2,v= .tuple #[v1,v2,niq 0]/\jE w v1 (x.s r c/x.s i c)/\jE w v2 (x.s r c%x.s i c)):=fun w w' v q h=>by
    obtain⟨v1,v2,e,h1,h2⟩:=h;exact⟨v1,v2,e,h1.ext q,h2.ext q⟩
   go_upto_region 11 with(fail)
   refine zBP [pcD 22 [] (fun w v=>∃v1 v2,v= .tuple #[v1,v2,niq 0]/\jE w v1 (x.s r c/x.s i c)/\jE w v2 (x.s r c%x.s i c)),pcD 23 [22] (fun w v=>∃v1 v2,v= .tuple #[v1,v2,niq 0]/\jE w v1 (x.s r c/x.s i c)/\jE w v2 (x.s r c%x.s i c)),pcD 24 [23] (fun w v=>jE w v (x.s r c/x.s i c)),pcD 25 [23] (fun w v=>jE w v (x.s r c%x.s i c)),pcD 26 [23] (fun _ v=>v=niq 0),pbA 27 43 2,pbA 28 43 2,pbS 29 27 43 2,pbS 30 28 43 2] ?_;refine sRd ?_;refine sRc (fun wS hI Gk S=>?_) (fun p8 _=>?_)
   .go_simp
    refine(zGJ _ _ _ _ _ (q.ext hI.lext) (hy.ext hI.lext) SX.out SY.out b8.out).mono ?_;rintro e wa ⟨u1,u2,rfl,l7,l8,l1⟩;exact⟨_,rfl,S _ _ ⟨u1,u2,rfl,l7,l8⟩,l1⟩
   refine sRc (fun wS hI g3 Gk S=>?_) (fun p9 _=>?_)
   .go_simp
    exact⟨S _ _ g3,zC _ _⟩
   refine sRc (fun wS hI a5 Gk S=>?_) (fun r9 hv=>?_)
   .obtain⟨u1,u2,rfl,e1,e2⟩:=a5
    go_simp;exact⟨S _ _ e1,zC _ _⟩
   obtain⟨i3,i9,rfl,m7⟩:=zJD hv;clear hv;refine sRc (fun wS hI a5 Gk S=>?_) (fun m9 hv=>?_)
   .obtain⟨u1,u2,rfl,e1,e2⟩:=a5
    go_simp;exact⟨S _ _ e2,zC _ _⟩
   obtain⟨i4,k0,rfl,m8⟩:=zJD hv;clear hv;refine sRc (fun wS hI a5 Gk S=>?_) (fun _ hv=>?_)
   .obtain⟨u1,u2,rfl,e1,e2⟩:=a5
    go_simp;exact⟨S _ _ rfl,zC _ _⟩
   obtain⟨_,-,rfl⟩:=hv;refine sRa (cs:=#[.bool false,.slice none 0 0]) fun d6 n6=>?_
   refine sRa (cs:=#[.bool false,.slice none 0 0]) fun c0 n7=>?_
   refine sRs d6 (.agg #[i3,i9]) ?_ m7;refine sRs c0 (.agg #[i4,k0]) ?_ m8;refine sRd ?_;refine sRb ?_;simp only[FA,FC,FN,ptr,List.nil_append,List.cons_append,Act.put,xgh,xgi,xgj];intro w5 u g3 a5 k9 c4 _ e8 h9 i0 m6;replace e8:Blk w5 d6 43 #[i3,i9]:=e8 _ rfl;have h8:=k9;replace h9:Blk w5 c0 43 #[i4,k0]:=h9 _ rfl;have o6:=c4;have o7:d6≠c0:=i0 (28,c0) sI;clear i0 m6;have l4:=lx u;have l5:=u.block;clear F y B G H I J K L V o2 W X p3 p4 d U q hy a2 b7 Z Y a7 a4;have l:=nx l u;have g:=g.I u;have f:=f.I u;have o:=o.I u;have m1:=e8.two;obtain⟨p5,o8,p0,o9,p6,c8,h7⟩:=id h8;injection c8 with c8
   simp only[Array.mk.injEq,List.cons.injEq,and_true]at c8;obtain⟨rfl,rfl⟩:=c8;have n5:=xgw h7;clear h7;go_wp2_with fail
   refine(zEN _ _ w5 h8.J SQ.out).mono ?_;rintro e w6 ⟨kv,rfl,h3,c5⟩;obtain⟨pn,pa,pl,pc,px,rfl,h6⟩:=id h3;have n0:=xgw h6;clear h6 m1;have l:=nx l c5;have g:=g.I c5;have f:=f.I c5;have o:=o.I c5;go_wp2_with fail
   refine(zXR o p O oM h3 a3.out d5.out hR hC).mono ?_;rintro e w7 ⟨⟨uu,rfl⟩,E,o⟩;have g:=E.blk g oM;have f:=E.blk f oM;have l:=zCs l E oM l.size;go_wp2_with fail
   refine(zTg o p O hR hC).mono ?_;rintro e wa ⟨⟨p7,rfl⟩,e6,b5⟩;have g:=e6.blk g oM;have f:=e6.blk f oM;have b2:=zCs l e6 oM l.size;have b4:JF (((x.add r i (-(x.s r c/x.s i c))).swap r i).s i c).natAbs wa:=(d3.out _ _).2 ⟨_,rfl,b2,g,f,b5,d9⟩;go_wp2;go_roundw
   case rel=>exact⟨_,b4⟩
   case measure=>exact zFL b4 d4.out
  obtain rfl:R=i:=oM;obtain⟨AM,AU,AV,bm,bu,bv,d,U⟩:=id o;obtain⟨gm,cm,rfl⟩:=d.m.base oM;obtain⟨F,y,B,G,H,I,J,K,L⟩:=d.blk.nine;have Y:=d.blk.lt;have Z:=d.zlt (b:=gm) (.inl (.inr rfl));obtain⟨bt,t⟩:=d.m.bex p;have V:=d.m.rowc p t;have a2:=d.zlt (b:=bt) (.inl (.inl (xgd t)));obtain⟨d2,c9,d1,d0,W,X,-,-,q⟩:=d.m.elem p t D;go_wp2_with fail
  refine(zBz _ (x.s r c) wr q).mono ?_;rintro e w3 ⟨rfl,T⟩;clear F y B G H I J K L V W X d U q a2 Z Y Q;have l:=nx l T;have g:=g.I T;have f:=f.I T;have o:=o.I T;have Q:=g.three;by_cases hX:x.s r c=0
  .have e5:=xgv (a8.out.none hX)
   rw[zBL hX];go_wp2;go_roundw
   case rel=>exact⟨r,c+1,κ,x,rfl,by simp,oM,oM,l,g,f,o,e5⟩
   case measure=>exact meq
  skip;obtain⟨AM,AU,AV,bm,bu,bv,d,U⟩:=id o;obtain⟨gm,cm,rfl⟩:=d.m.base oM;obtain⟨F,y,B,G,H,I,J,K,L⟩:=d.blk.nine;have Y:=d.blk.lt;have Z:=d.zlt (b:=gm) (.inl (.inr rfl));obtain⟨bt,t⟩:=d.m.bex p;have V:=d.m.rowc p t;have a2:=d.zlt (b:=bt) (.inl (.inl (xgd t)));obtain⟨d2,c9,d1,d0,W,X,-,-,q⟩:=d.m.elem p t D;by_cases hN:x.s r c<0;case' pos=>
   have g5:=xgv (a8.out.neg p hN);have a3:jI (okB BD R C R x):=⟨a8.out.2.ok (zI (zE6 a1.out (zD (zX6 p (xgf _)) (zJq R oM))) HB.out)⟩;rw[zP0 hN];go_wp2_with fail
   refine(zBz _ (x.s r c) w3 q).mono ?_;rintro e w4 ⟨rfl,N⟩;rw[zP0 hN];clear F y B G H I J K L V W X d U q a2 Z Y Q;have l:=nx l N;have g:=g.I N;have f:=f.I N;have o:=o.I N;go_wp2_with fail
   refine(zZo o p a3.out hR hC).mono ?_;rintro e w5 ⟨⟨uu,rfl⟩,E,o⟩;have g:=E.blk g oM;have f:=E.blk f oM;have l:=zCs l E oM l.size;have Q:=g.three;clear hX hN;go_wp2
  case' neg=>
   have hP:0<x.s r c:=oM;have g5:=xgv (a8.out.pos hP);rw[zP1 hP];go_wp2_with fail
   refine(zBz _ (x.s r c) w3 q).mono ?_;rintro e w4 ⟨rfl,N⟩;rw[zP1 hP];clear F y B G H I J K L V W X d U q a2 Z Y Q;have l:=nx l N;have g:=g.I N;have f:=f.I N;have o:=o.I N;have Q:=g.three;clear hX hN hP;go_wp2
  all_goals
   clear Q;go_loopw [10] (fun jv wr=>∃(j:Nat) (x:Bst),jv=niq j/\j<=r/\BWq w wr/\Blk wr w.heap.size 32 #[niq R,niq C,.slice ao n c2]/\Blk wr (w.heap.size+1) tHe #[niq 0,niq 0,.slice none 0 0,niq 0,niq 0,.slice none 0 0,niq 0,niq 0,.slice none 0 0]/\KW (fun b=>W0.heap.size<=b) wr bw R C x/\jI (KD R C R M0 x0 c r κ j x)) (fun jv _=>r-(intOf jv).toNat)
   case atStart=>exact⟨0,_,rfl,oM,l,g,f,o,g5⟩
   clear o g f l;obtain⟨j,x,rfl,hj,l,g,f,o,c7⟩:=hrel;by_cases l3:j<r
   .have d7:gx (eE R (r+1)) M0<BD:=zI (zE6 a1.out (zJq R oM)) HB.out
    obtain⟨n1,n2⟩:=c7.out.step a1.out l3 p D d7;have k6:=xgv n2;have d5:=xgv n1;have a3:jI (okB BD R C R x):=⟨c7.out.bd.ok (zI (zE6 a1.out (zMA R r j p oM)) d7)⟩;have b3:j<R:=oM;have SX:=xgv (OkB.smd a3.out b3 D);have SY:=xgv (OkB.smd a3.out p D);have SQ:jI (Sm (x.s j c/x.s r c)):=⟨(SX.out.mono (zL8 _ _)).sm⟩;have HP:jI (x.s r c≠0):=⟨by have:=c7.out.pos;omega⟩;clear n1 n2 d7;obtain⟨AM,AU,AV,bm,bu,bv,d,U⟩:=id o;obtain⟨gm,cm,rfl⟩:=d.m.base oM;obtain⟨F,y,B,G,H,I,J,K,L⟩:=d.blk.nine;have Y:=d.blk.lt;have Z:=d.zlt (b:=gm) (.inl (.inr rfl));obtain⟨bi,a0⟩:=d.m.bex b3;have V:=d.m.rowc b3 a0;have b7:=d.zlt (b:=bi) (.inl (.inl (xgd a0)));obtain⟨i8,i5,i7,i6,W,X,-,-,q⟩:=d.m.elem b3 a0 D;obtain⟨bt,t⟩:=d.m.bex p;have o2:=d.m.rowc p t;have a2:=d.zlt (b:=bt) (.inl (.inl (xgd t)));obtain⟨d2,c9,d1,d0,p3,p4,-,-,hy⟩:=d.m.elem p t D;go_upto_region 20 with(fail)
    refine yA 27 [pcI 25 (x.s j c/x.s r c),pcD 26 [25] (fun w v=>jE w v (-(x.s j c/x.s r c)))] ?_;refine sRd ?_;refine sRc (fun wS hI Gk S=>by go_simp;exact ck S (zNp _ _ (x.s j c) (x.s r c) _ (q.ext hI.lext) (hy.ext hI.lext) SX.out SY.out HP.out)) (fun m9 _=>?_);refine sRc (fun wS hI c4 Gk S=>by go_simp;exact ck S (zEN _ (x.s j c/x.s r c) _ c4.J SQ.out)) (fun s0 _=>?_);refine sRe ?_;intro w5 u c4 l0;have l4:=lx u;have l5:=u.block;clear F y B G H I J K L V o2 W X p3 p4 d U q hy a2 b7 Z Y;have l:=nx l u;have g:=g.I u;have f:=f.I u;have o:=o.I u;go_wp2_with fail
    refine(zXR o b3 p oM l0 a3.out d5.out hR hC).mono ?_;rintro e wa ⟨⟨uu,rfl⟩,E,b5⟩;have g:=E.blk g oM;have f:=E.blk f oM;have b2:=zCs l E oM l.size;go_wp2;go_roundw
    case rel=>exact⟨j+1,_,by simp,oM,b2,g,f,b5,k6⟩
    case measure=>exact meq
   obtain rfl:r=j:=oM;have e5:=xgv (c7.out.exit a1.out p D);go_wp2;go_roundw
   case rel=>exact⟨r+1,c+1,_,x,by simp,by simp,oM,oM,l,g,f,o,e5⟩
   case measure=>exact meq
 have k4:jI (c=C∨r=R):=⟨by
  by_cases h1:c<C
  .exact .inr (by have:¬ r<R:=fun h2=>c6 ⟨h1,h2⟩;omega)
  exact .inl oM⟩
 have k5:jI (∀b9:Prop,(c<C->¬ r<R->b9)->(¬ c<C->b9)->b9):=⟨fun b9 h1 h2=>by
  by_cases hs:c<C
  .exact h1 hs (fun hl=>c6 ⟨hs,hl⟩)
  exact h2 hs⟩
 obtain⟨AM,AU,AV,bm,bu,bv,d,U⟩:=o;obtain⟨mo,mc,rfl⟩:=d.m.shape;obtain⟨uo,uc,rfl⟩:=d.u.shape;obtain⟨vo,vc,rfl⟩:=d.v.shape;obtain⟨F,y,B,G,H,I,J,K,L⟩:=d.blk.nine;clear c6;refine k5.out _ (fun hl o3=>?_) (fun hl=>?_);all_goals
  obtain⟨⟨r0,r1,r2,r3,r4,r5,r6,r7,r8⟩,⟨f0,f1,f2,f3,f4,f5,f6,f7,f8⟩⟩:=f.all9;go_upto_region 22 with(fail)
  clear Q;refine yA 13 [] ?_;refine sRd ?_;refine sRf ?_;intro w5 u;have f:=f.I u;have l:=nx l u;have d:=d.I u;clear F y B G H I J K L r0 r1 r2 r3 r4 r5 r6 r7 r8 f0 f1 f2 f3 f4 f5 f6 f7 f8;obtain⟨⟨r0,r1,r2,r3,r4,r5,r6,r7,r8⟩,⟨f0,f1,f2,f3,f4,f5,f6,f7,f8⟩⟩:=f.all9;go_wp2;have l9:=f.lext9 dE (niq R) (niq C) (.slice mo R mc) (niq R) (niq R) (.slice uo R uc) (niq R) (niq R) (.slice vo R vc);have e9:∀{v:Value} {M:List (List Int)},zBg w5 v M->zBg _ v M:=fun h=>h.off f dE dE (fun b l=>zQe w5 (w.heap.size+1) b _ _ _ _ _ _ _ _ _ l) l9
  refine bodyPost_ret (results_cell_row rfl _ _ (w.heap.size+1) _ _ _ _ rfl (f.put9 _ _ _ _ _ _ _ _ _) Tryz.underlying108 rfl (by rw[Tryz.sizeHe];rfl)) rfl ⟨_,rfl,c,r,κ,x,e0.out,k4.out,⟨_,_,_,rfl,e9 (qH.rows d.m),e9 (qH.rows d.u),e9 (qH.rows d.v)⟩,zXF l oM _ _ _ _ _ _ _ _ _⟩
theorem zPU(v:Value)(R C r:Nat)(κ:Nat->Nat)(M:List (List Int))(w:World)(h:zAQ w v R C M)(hF:zBW R C M)(c:Hnf C R r κ (ent M)):
  CPq 90 #[v] w fun e w'=>e= .returned (niq r)/\BWq w w':=by
 obtain⟨A,rfl,h⟩:=h;obtain⟨I,n,K,rfl,j,T,U,-⟩:=id h;obtain rfl:R=n:=by rw[<-j,hF.1]
 have H:=xgw j;have F:=xgv hF;have Y:=c.le;have t:jI (∀k,k<r->0<=lead C (ent M) k):=⟨fun k O=>by rw[c.ech.lead O];omega⟩;have G:jI (∀k,r<=k->k<R->lead C (ent M) k<0):=⟨fun k l N=>by rw[zFh (c.zero k l N)];decide⟩;clear j hF c;go_enter Tryz.func90,Tryz.ntmps90;go_upto_region 1 with(fail)
 refine zF ?_;intro S x;obtain⟨u,a,a0⟩:=qJ x;clear x;go_wp2;go_loopw [3,4] (fun P s wr=>∃(i m:Nat),i<=R/\P=niq m/\s=niq i/\BWq w wr/\Blk wr w.heap.size 32 #[niq R,niq C,.slice I R K]/\jI (m=min i r)) (fun _ s _=>R-(intOf s).toNat)
 case atStart=>exact⟨0,0,oM,rfl,rfl,u,a,⟨oM⟩⟩
 clear a u;obtain⟨i,m,X,rfl,rfl,p,a,f⟩:=hrel;have J:=a.three;by_cases B:i<R
 .obtain⟨b,ra,rn,rc,zs,rfl,W,E,Q,D⟩:=(h.I p).row (k:=i) (by rw[H.out];exact B)
  obtain rfl:=F.out.row_eq E;have Z:m<R:=by have:=f.out;omega
  go_wp2_with fail
  refine(zNk _ (yV C (ent M i)) wr D).mono ?_;rintro e w7 ⟨rfl,y⟩;have z:=nx p y;have a:=a.I y;clear J Q E D;obtain⟨L,o⟩:∃L,zCL 0 (yV C (ent M i))=L:=⟨_,rfl⟩;rw[o];have g:=xgw (show lead C (ent M) i=L from o);clear o;by_cases d:i<r
  .have V:(L ≥ 0)=True:=eq_true (by rw[<-g.out];exact t.out i d)
   have l:0<=L:=by rw[<-g.out];exact t.out i d
   have q:jI (m+1=min (i+1) r):=⟨by have:=f.out;omega⟩;clear d;go_wp2;go_roundw
   case rel=>exact⟨i+1,m+1,oM,by simp,by simp,z,a,q⟩
   case measure=>exact meq
  have l:¬ 0<=L:=by rw[<-g.out];have:=G.out i oM B;omega
  have q:jI (m=min (i+1) r):=⟨by have:=f.out;omega⟩;clear d;go_wp2;go_roundw
  case rel=>exact⟨i+1,m,oM,rfl,by simp,z,a,q⟩
  case measure=>exact meq
 obtain rfl:m=r:=by have:=f.out;omega
 go_wp2;go_ret;exact⟨rfl,p⟩
theorem zWU(v:Value)(R C r:Nat)(κ:Nat->Nat)(M:List (List Int))(w:World)(h:zAQ w v R C M)(hF:zBW R C M)(c:Hnf C R r κ (ent M)):
  CPq 90 #[v] w fun e w'=>∃v,e= .returned v/\v=niq r/\BWq w w':=
 (zPU v R C r κ M w h hF c).mono fun _ _ ⟨a,b⟩=>⟨_,a,rfl,b⟩
theorem zR1(v:Value)(R C m:Nat)(M:List (List Int))(w:World)(h:zAQ w v R C M)(hF:zBW R C M)(o:m<=R):
  CPq 89 #[v,niq m] w fun e w'=>∃i,e= .returned i/\zAQ w' i m C (M.take m)/\BWq w w':=by
 obtain⟨A,rfl,h⟩:=h;obtain⟨s,n,k,rfl,c,t,u,-⟩:=id h;obtain rfl:R=n:=by rw[<-c,hF.1]
 have x:m<=k:=oM;clear hF c;go_enter Tryz.func89,Tryz.ntmps89;go_upto_region 1 with(fail)
 refine zF ?_;intro q f;obtain⟨l,b,a,y⟩:=zAU f;have j:=b.three;have z:=b.lt;clear f;refine yA 8 [] ?_;refine sRd ?_;refine sRf ?_;intro D g;have a:=a.I g;have d:=nx l g;have p:=(h.take o).I d;have B:=a.three;clear j;go_wp2;refine zAD (r:=w.heap.size+1) rfl rfl rfl (a.put3 _ _ _) ⟨_,rfl,zAQ.keep3 ⟨_,rfl,p⟩ a _ _ _,yB (yB (yB d oM 0 _) oM 1 _) oM 2 _⟩
theorem zU5(h:m<=R)(F:Nat->Nat->Int):(genM R C F).take m=genM m C F:=by
 unfold genM;rw[<-List.map_take,List.take_range,zA6 h]
theorem zRz(g:1<=M0)(v:Value)(M:List (List Int))(R C:Nat)(w:World)(h:zG3 w v R C M)(hF:zBW R C M)(m:R<=1000000)(l:C<=1000000)(j:leM M0 R C (ent M))(k:gx (eE R R) M0<BD):
  CPq 88 #[v] w fun e w'=>∃v r c H U V,e= .returned v/\zEh R C r c (ent M) H U V/\leM (gx (eE R R) M0) R R U/\leM (gx (eE R R) M0) R R V/\zJZ w' v R C (genM R C H) (genM R R U) (genM R R V)/\BWq w w':=by
 refine(zPT g v M R C w h hF m l j k).mono ?_;rintro q w' ⟨v,c,r,κ,x,rfl,f,o,p,d⟩;have i:=f.2.mono (zE6 g (zJq R f.1.rn));exact⟨v,r,κ,_,_,_,rfl,f.form o,i.2.1,fun a n b d=>i.2.2 b d a n,p,d⟩
theorem zPS(N:1<=M0)(v:Value)(M:List (List Int))(R C:Nat)(w:World)(h:zG3 w v R C M)(hF:zBW R C M)(hR:R<=1000000)(hC:C<=1000000)(I:leM M0 R C (ent M))(J:gx (eE R R) M0<BD):
  CPq 36 #[v] w fun e w'=>∃v r c H U V,e= .returned v/\zEh R C r c (ent M) H U V/\zAQ w' v r C (genM r C H)/\BWq w w':=by
 have G:=h;obtain⟨A,rfl,h⟩:=h;obtain⟨ao,n,a4,rfl,-,-,-,-⟩:=id h;have Z:=xgv G;have HF:=xgv hF;have HA:=xgv I;have E:=xgv (And.intro N J);clear G hF I J N h;go_enter Tryz.func36,Tryz.ntmps36;go_upto_region 1 with(fail)
 refine zF ?_;intro W0 O;obtain⟨K,bx,d,a5⟩:=zAU O;have c1:=bx.three;clear O;go_wp2_with fail
 refine(zRz E.out.1 _ M R C W0 (Z.out.I K) HF.out hR hC HA.out E.out.2).mono ?_;rintro ee w2 ⟨fv,r,κ,H,U,V,rfl,x,-,-,l,S⟩;obtain⟨f1,f2,f3,f4,f5,f6,f7,f8,f9,rfl,W⟩:=l.agg;have D:=xgv x;have u:Hnf C R r κ (ent (genM R C H)):=by
  obtain⟨z,f,q3,q4⟩:=x.hnf;have e:∀a,a<R->∀b,b<C->ent (genM R C H) a b=H a b:=fun a ha b hb=>yZ ha hb
  exact⟨z,⟨f.lt,fun k o=>by rw[e k oM _ (f.lt k o)];exact f.pos k o,fun k o t ht=>by rw[e k oM t (by have:=f.lt k o;omega)];exact f.zero k o t ht,f.inc⟩,
   fun i j q g p=>by rw[e i oM _ (f.lt j g),e j oM _ (f.lt j g)];exact q3 i j q g p,fun a q g t p=>by rw[e a g t p];exact q4 a q g t p⟩
 have a0:=xgv u;have X:=u.le;have d:=d.I S;have a1:=nx K S;clear c1 l x u;go_upto_region 2 with(fail)
 refine zF ?_;intro W3 P;obtain⟨m,T3,a6⟩:=qJ P;have B:=xgv (W.I m);have d:=d.I m;have m:=nx a1 m;have a7:=d.lt;clear P W;obtain⟨q0,z,f,-⟩:=T3.nine;refine yA 6 [pcD 4 [] (fun _ v=>v=niq r),pcD 5 [] (fun w v=>zAQ w v (r) (C) ((genM R C H).take r))] ?_;refine sRd ?_;refine sRc (fun wS hI Y s=>?_) (fun _ l=>?_)
 .go_simp
  refine(zWU _ R C r κ _ _ (B.out.I hI.bel) (jJ _ _ _) a0.out).mono ?_;rintro e wa ⟨v,rfl,l,a2⟩;exact⟨_,rfl,s _ _ l,a2⟩
 obtain⟨_,-,rfl⟩:=l;refine sRc (fun wS hI Y s=>by go_simp;exact ck s (zR1 _ R C r _ _ (B.out.I hI.bel) (jJ _ _ _) X)) (fun a3 _=>?_);refine sRe ?_;intro w4 T _ Q;have y:zAQ w4 a3 r C (genM r C H):=by rw[<-zU5 X];exact Q
 obtain⟨t1,t2,t3,rfl⟩:=y.agg;have F:=xgv y;have d:=d.I T;have L:=nx m T;have r1:=d.three;clear q0 z f y Q;go_wp2;refine zAD (r:=w.heap.size+1) rfl rfl rfl (d.put3 _ _ _) ?_;first|exact⟨_,rfl,r,κ,H,⟨_,_,D.out⟩,F.out.keep3 d _ _ _,yB (yB (yB L oM 0 _) oM 1 _) oM 2 _⟩|exact⟨_,r,κ,H,_,_,rfl,D.out,F.out.keep3 d _ _ _,yB (yB (yB L oM 0 _) oM 1 _) oM 2 _⟩
theorem zQB(b:2*M0<=2^e)(c:e*2^k<=32*zOQ):gk k M0<BD:=by
 rw[zSb];have d:=zTO k M0;have a:(2*M0)^(2^k)<=(2^e)^(2^k):=yU b _;rw[<-jT]at a;have f:=zFN c;have g:0<2^(e*2^k):=qG oM;omega
theorem zIZ(F:Nat->Nat->Int):(genM R C F).take R=genM R C F:=jM (by simp[genM])
theorem zJZ.agg3{f:Value}{H U V:List (List Int)}(h:zJZ w f R C H U V):∃l i d m j e n k g,f= .agg #[niq R,niq C,.slice l i d,niq R,niq R,.slice m j e,niq R,niq R,.slice n k g]∧
  zAQ w (.agg #[niq R,niq C,.slice l i d]) R C H/\zAQ w (.agg #[niq R,niq R,.slice m j e]) R R U/\zAQ w (.agg #[niq R,niq R,.slice n k g]) R R V:=by
 obtain⟨a,b,c,rfl,o,p,q⟩:=h.ex;obtain⟨l,i,d,rfl,-⟩:=id o;obtain⟨m,j,e,rfl,-⟩:=id p;obtain⟨n,k,g,rfl,-⟩:=id q;exact⟨_,_,_,_,_,_,_,_,_,rfl,⟨_,rfl,o⟩,⟨_,rfl,p⟩,⟨_,rfl,q⟩⟩
theorem zJo(F:Nat->Nat->Int):(genM R C F).drop r=genM (R-r) C (zOc r F):=by
 refine qX (by simp[genM]) fun i a b=>?_
 simp[genM,yV,zOc]
theorem zO0(R C:Int)(M:List (List Int)):zAj (fun w v=>zG3 w v R C M):=fun _ _ _ e h=>h.I e
theorem zZn(v:Value)(R C r:Nat)(κ:Nat->Nat)(M:List (List Int))(w:World)(h:zAQ w v R C M)(hF:zBW R C M)(a:Hnf C R r κ (ent M)):
  CPq 104 #[v] w fun e w'=>∃v,e= .returned v/\v=niq r/\BWq w w':=
 (zTf v R C r κ M w h hF a).mono fun _ _ h=>⟨_,h.1,rfl,h.2⟩
theorem Hnf.genM(h:Hnf C R r κ H):Hnf C R r κ (ent (Go.Proofs.YtkidaebmhlijlaaGreat.genM R C H)):=by
 obtain⟨p,c,q,s⟩:=h;have e:∀a,a<R->∀b,b<C->ent (Go.Proofs.YtkidaebmhlijlaaGreat.genM R C H) a b=H a b:=fun a m b n=>yZ m n
 exact⟨p,⟨c.lt,fun k f=>by rw[e k oM _ (c.lt k f)];exact c.pos k f,fun k f t o=>by rw[e k oM t (by have:=c.lt k f;omega)];exact c.zero k f t o,c.inc⟩,
  fun i j l d g=>by rw[e i oM _ (c.lt j d),e j oM _ (c.lt j d)];exact q i j l d g,fun a l d t g=>by rw[e a d t g];exact s a l d t g⟩
def zI1(R C:Nat)(A:Nat->Nat->Int)(m:Nat)(G:Nat->Nat->Int):Prop:=HB R m G (zOS R C A)/\∃r c H U V,zEh R C r c A H U V
theorem zI1.of{e:Nat}{c':Nat->Nat}{U V d f g:Nat->Nat->Int}(h:zEh R C r c A H U V)(j:M=genM (R-r) R (zOc r U))(i:zEh (R-r) R e c' (ent M) d f g):zI1 R C A e d:=by
 refine⟨i.lat.hb.of fun x=>?_,r,c,H,U,V,h⟩;rw[j,<-h.ker x];exact yD.congr (fun a k b l=>yZ k l) x
theorem zI1.rows(h:zI1 R C A m G):m<=R:=by
 obtain⟨a,r,c,H,U,V,b⟩:=h;have:=zHd b a;omega
def kb(h:Nat):Nat:=24*(8*(120*h^4))^4
def zQy(R C:Nat)(A:Nat->Nat->Int)(w:World)(v:Value):Prop:=∃m G,zI1 R C A m G/\zAQ w v m R (genM m R G)
theorem zOz(R C:Nat)(A:Nat->Nat->Int):zAj (zQy R C A):=fun _ _ _ e ⟨m,G,a,b⟩=>⟨m,G,a,b.I e⟩
theorem zYl(R C:Nat)(A:Nat->Nat->Int):∃q,zDk q R C A/\∀k,zDk k R C A->k<=q:=by
 have d:zDk 0 R C A:=⟨fun a=>a,fun a=>a,fun a e=>oM,fun a e=>oM,show(1:Int)≠0 by decide⟩;have h:∀n,(∀k,zDk k R C A->k<=n)->∃q,zDk q R C A/\∀k,zDk k R C A->k<=q:=fun n=>by
  induction n with
  |zero=>exact fun h=>⟨0,d,h⟩
  | succ n f=>
   intro h;by_cases c:zDk (n+1) R C A
   .exact⟨n+1,c,h⟩
   exact f fun k b=>by
    have:=h k b;rcases zK k (n+1)with h1|h1
    omega;obtain rfl:k=n+1:=oM;exact absurd b c
 exact h R fun k b=>b.tr.tr.le
theorem zXd(h:∀k,zDk k R C A->k<=q):RkB q R C ⟨A,idf,idf⟩:=fun l k e κ n _ j _ d=>by
 rw[zHL]at d;have m:zDk k k C (vw e (zBF l A)):=d.min1;obtain⟨o,p,f,g,i⟩:=m;exact h k (zDk.of_mul (F:=zBF l A) (X:=zBF l idf) (q:=R) (fun a c b r=>zKG n A a c b) ⟨fun a=>e (o a),p,fun a c=>j _ (f a c),g,i⟩)
theorem zYR{q j:Nat}(b8:1<=M0)(v:Value)(M:List (List Int))(R C:Nat)(w:World)(h:zAQ w v R C M)(hF:zBW R C M)(hR:R<=6)(hC:C<=1000000)(O:leM M0 R C (ent M))
  (a3:zDk q R C (ent M)) (a4:∀k,zDk k R C (ent M)->k<=q) (hg:gk (j+es (R-q)) M0<BD)
  (a0:∀(v:Value) (w:World),zAQ w v R C M->CPq 102 #[v] w fun e w'=>∃v r c H U V,e= .returned v/\zEh R C r c (ent M) H U V/\leM (gk j M0) R R U/\leM (gk j M0) R R V/\zJZ w' v R C (genM R C H) (genM R R U) (genM R R V)/\BWq w w'):
  CPq 62 #[v] w fun e w'=>∃v,e= .returned v/\zQy R C (ent M) w' v/\BWq w w':=by
 have N:=h;obtain⟨A,rfl,h⟩:=h;obtain⟨ao,n,c5,rfl,L,e3,e4,-⟩:=id h;obtain rfl:R=n:=by rw[<-L,hF.1]
 have Y:decide (zBX R C M)=true:=zQ hF.valid;have J:=xgv N;have HF:=xgv hF;have HA:=xgv O;have a7:=xgv a0;have a9:jI (gk (es (R-q)) (gk j M0)<BD):=⟨by rw[<-zGp];exact hg⟩;have K:jI (∀r κ H U V,zEh R C r κ (ent M) H U V->r=q):=⟨fun r κ H U V g=>zCz (a4 r g.lat.min1) (g.lat.rank a3)⟩;clear N hF L h O hg a3 a4 a0;go_enter Tryz.func62,Tryz.ntmps62;go_upto_region 1 with(fail)
 refine zF ?_;intro W0 S;obtain⟨P,f,d,c8⟩:=zAU S;have p:=f.three;clear S;go_wp2_with fail
 refine(zDf _ R C M W0 (J.out.I P)).mono ?_;rintro e w1 ⟨rfl,B⟩;rw[Y];have f:=f.I B;have d:=d.I B;have l:=nx P B;clear p Y;have p:=f.three;go_wp2_with fail
 refine(a7.out _ w1 (J.out.I l)).mono ?_;rintro e w2 ⟨fv,r,κ,H,U,V,rfl,g,Q,-,i,D⟩;obtain⟨f1,f2,f3,f4,f5,f6,f7,f8,f9,rfl,Z,a1,-⟩:=i.agg3;have c4:=xgv g;have c3:=g.hnf.le;have b2:jI (Hnf C R r κ (ent (genM R C H))):=⟨g.hnf.genM⟩;obtain rfl:r=q:=K.out _ _ _ _ _ g;have b0:=a9;clear K;have b6:jI (leM (gk j M0) (R-r) R (ent (((genM R R U).take R).drop r))):=⟨by
  rw[zIZ,zJo];exact zOk fun a ha b hb=>Q (r+a) oM b hb⟩
 have a6:jI (zBW (R-r) R (((genM R R U).take R).drop r)):=⟨by rw[zIZ,zJo];exact jJ _ _ _⟩;have b4:jI (∀u z o x y,zEh (R-r) R u z (ent (((genM R R U).take R).drop r)) o x y->zI1 R C (ent M) u o):=⟨fun u z o x y h'=>zI1.of g (by rw[zIZ,zJo]) h'⟩;have d:=d.I D;have f:=f.I D;have l:=nx l D;clear p g Q i;go_upto_region 4 with(fail)
 refine zF ?_;intro W3 T;obtain⟨s,T3,c9⟩:=qJ T;have a5:=xgv (Z.I s);have a8:=xgv (a1.I s);have f:=f.I s;have d:=d.I s;have l:=nx l s;have d0:=d.lt;clear T Z a1;have p:=f.three;obtain⟨q0,q1,q2,q3,q4,q5,q6,q7,q8⟩:=T3.nine;have c6:=zO0 ((R-r:Nat):Int) R (((genM R R U).take R).drop r);have c7:=zOz R C (ent M);refine yA 9 [pcD 4 [] (fun _ v=>v=niq r),pcD 7 [] (fun w' v=>zG3 w' v ((R-r:Nat):Int) R (((genM R R U).take R).drop r)),pcD 8 [7] (zQy R C (ent M))] ?_;refine sRd ?_;refine sRc (fun wS hI I t=>?_) (fun _ i=>?_)
 .go_simp
  refine(zZn _ R C r κ _ _ (a5.out.I hI.bel) (jJ _ _ _) b2.out).mono ?_;rintro e wa ⟨v,rfl,i,E⟩;exact⟨_,rfl,t _ _ i,E⟩
 obtain⟨_,-,rfl⟩:=i;refine sRd ?_;refine sRc (fun wS hI I t=>by go_simp;exact ck t (zXz _ R R r R _ _ (a8.out.I hI.bel) (jJ _ _ _) c3 (xgf _) oM)) (fun d1 _=>?_);refine sRc (fun wS hI W I t=>?_) (fun d2 _=>?_)
 .go_simp
  refine(zNT (zJ1 j b8) _ _ (R-r) R _ W a6.out oM oM b0.out b6.out).mono ?_;rintro e wa ⟨v,u,z,o,x,y,rfl,c0,c2,E⟩;have i:zQy R C (ent M) wa v:=⟨u,o,b4.out _ _ _ _ _ c0,c2⟩;exact⟨_,rfl,t _ _ i,E⟩
 refine sRe ?_;intro w4 X _ W b9;obtain⟨m,G,a2,F⟩:=b9;obtain⟨t1,t2,t3,rfl⟩:=F.agg;have d:=d.I X;have b7:=nx l X;have r1:=d.three;clear p q0 q1 q2 q3 q4 q5 q6 q7 q8;have b5:=xgv F;have b3:=xgv a2;clear F a2;go_wp2;refine zAD (r:=w.heap.size+1) rfl rfl rfl (d.put3 _ _ _) ⟨_,rfl,⟨m,G,b3.out,b5.out.keep3 d _ _ _⟩,yB (yB (yB b7 oM 0 _) oM 1 _) oM 2 _⟩
theorem zTe{q:Nat}(a:1<=M0)(v:Value)(M:List (List Int))(R C:Nat)(w:World)(h:zAQ w v R C M)(hF:zBW R C M)(d:R<=6)(c:C<=1000000)(b:leM M0 R C (ent M))(l:p<=R)(i:Ech C p κ (ent M))(j:zF0 (fun _ _=>True) p κ (ent M))
  (m:zDk q R C (ent M)) (g:∀k,zDk k R C (ent M)->k<=q) (f:gk (esp q p R+es (R-q)) M0<BD):
  CPq 62 #[v] w fun e w'=>∃v,e= .returned v/\zQy R C (ent M) w' v/\BWq w w':=
 zYR a v M R C w h hF d c b m g f fun v w h=>zTU a v M R C w h hF d c l i j (zI (zEj a oM) f) b (zXd g)
theorem zYA(a:p<=3)(c:s<=3)(b:q<=3)(h1:p<=q)(h2:s<=q):esp q p (p+s)+es (p+s-q)<=34:=by
 have h:∀p,p<4->∀s,s<4->∀q,q<4->p<=q->s<=q->esp q p (p+s)+es (p+s-q)<=34:=by decide
 exact h p oM s oM q oM h1 h2
def qBO(R C:Nat)(A:Nat->Nat->Int)(m:Nat)(S:Nat->Nat->Int):Prop:=HB C m S (qAV R C A)/\zDk m R C A
def qBP(R C:Nat)(A:Nat->Nat->Int)(w:World)(v:Value):Prop:=∃m S,qBO R C A m S/\zAQ w v m C (genM m C S)
abbrev tG:TypeId:=63
def qBF(f g:Nat)(t:TypeId)(w:World)(v:Value):Prop:=∃b,v= .func (.func f) #[] #[ptq b 0]/\Blk w b t #[.func (.func g) #[] #[]]
theorem zQk(a:2*h<=2^e)(b:e<=35000000000000):h<BD:=zQB (k:=0) a (by rw[zC3];omega)
theorem zLS(g:2*h<=2^e)(i:e<=35000000000000)(hF:zBW R C M)(c:leM h R C (ent M)):∀r∈M,∀z∈r,Sm z:=by
 rw[zGB hF];exact zQA fun a d b f=>zGf (zI (c a d b f) (zQk g i))
structure qBr(R C:Nat)(M:List (List Int))(k:Nat)(w:World)(v:Value):Prop where
 zero:k=0->zAQ w v R C M
 one:k=1->zQy C R (trF (ent M)) w v
 two:k=2->qBP R C (ent M) w v
theorem zUp(f g:Value)(c a d b:Int)(w:World)(h1:zEs c a w f)(h2:zEs d b w g)(i:¬ (c=d/\a=b)):
  CPq 125 #[f,g] w fun e w'=>∃v,e= .returned v/\v= .bool false/\BWq w w':=by
 refine(zIv f g c a d b w h1 h2).mono ?_;rintro e w' ⟨rfl,h⟩;exact⟨_,rfl,by rw[zT i],h⟩
theorem zPA(F G:Value)(R Q C:Nat)(m o:List (List Int))(w:World)(h1:zAQ w F R C m)(h2:zAQ w G Q C o)(r:zBW R C m)(s:zBW Q C o)(E:R≠Q):
  CPq 80 #[F,G] w fun e w'=>e= .returned (.bool false)/\BWq w w':=by
 have H:=xgv h1;have I:=xgv h2;obtain⟨X,rfl,h1⟩:=h1;obtain⟨Y,rfl,h2⟩:=h2;obtain⟨g,n,k,rfl,u,e3,e4,-⟩:=id h1;obtain⟨j,q,i,rfl,l,g3,g4,-⟩:=id h2;obtain rfl:R=n:=by rw[<-u,r.1]
 obtain rfl:Q=q:=by rw[<-l,s.1]
 have K:=xgv r.valid;have L:=xgv s.valid;have J:jI (¬ ((R:Int)=(Q:Int)/\(C:Int)=(C:Int))):=⟨fun h=>E oM⟩;clear r s u l E h1 h2;have a0:=zHE (niq R) (niq C) (.slice g R k) (niq Q) (niq C) (.slice j Q i);have a1:=zEl (niq R) (niq C) (.slice g R k);have a3:=zEl (niq Q) (niq C) (.slice j Q i);have a2:=zE0 R C;have a4:=zE0 Q C;go_enter Tryz.func80,Tryz.ntmps80;go_upto_region 1 with(fail)
 refine zF ?_;intro Z x;obtain⟨p,M,N,a5⟩:=zAU x;have c1:=M.three;have d1:=N.three;clear x;refine zBP [pcD 2 [] (qAJ (niq R) (niq C) (.slice g R k) (niq Q) (niq C) (.slice j Q i)),pcD 3 [2] (fun _ v=>v= .bool true),pcD 7 [] (zXt (niq R) (niq C) (.slice g R k)),pcD 8 [7] (zEs R C),pcD 10 [] (zXt (niq Q) (niq C) (.slice j Q i)),pcD 11 [10] (zEs Q C),pcD 12 [8,11] (fun _ v=>v= .bool false)] ?_;refine sRd ?_;refine sRc (fun f hI d a=>?_) (fun a8 _=>?_)
 .go_simp
  exact⟨a _ _ ⟨_,rfl,yG _ _ _⟩,(zC _ _).alloc (xgf _) _⟩
 refine sRc (fun f hI A d a=>?_) (fun _ b=>?_)
 .obtain⟨l,rfl,T⟩:=A
  go_simp;refine(zPp l 2 R C Q C _ _ m o _ T (xgf _) oM ((H.out.I p).I hI.bel).off ((I.out.I p).I hI.bel).off K.out L.out).mono ?_;rintro e t ⟨v,rfl,b,c⟩;exact⟨_,rfl,a _ _ b,c⟩
 obtain⟨_,-,rfl⟩:=b;refine sRd ?_;refine sRc (fun f hI d a=>?_) (fun a9 _=>?_)
 .go_simp
  exact⟨a _ _ ⟨_,rfl,yG _ _ _⟩,(zC _ _).alloc (xgf _) _⟩
 refine sRc (fun f hI B d a=>?_) (fun b0 _=>?_)
 .obtain⟨P,rfl,U⟩:=B
  go_simp;refine(zFT P 1 R C _ _ U ⟨_,_,_,rfl⟩ (xgf _) oM).mono ?_;rintro e t ⟨v,rfl,b,c⟩;exact⟨_,rfl,a _ _ b,c⟩
 refine sRd ?_;refine sRc (fun f hI d a=>?_) (fun a6 _=>?_)
 .go_simp
  exact⟨a _ _ ⟨_,rfl,yG _ _ _⟩,(zC _ _).alloc (xgf _) _⟩
 refine sRc (fun f hI y d a=>?_) (fun a7 _=>?_)
 .obtain⟨O,rfl,S⟩:=y
  go_simp;refine(zFT O 1 Q C _ _ S ⟨_,_,_,rfl⟩ (xgf _) oM).mono ?_;rintro e t ⟨v,rfl,b,c⟩;exact⟨_,rfl,a _ _ b,c⟩
 refine sRc (fun f hI D z d a=>?_) (fun _ b=>?_)
 .go_simp
  refine(zUp _ _ R C Q C _ D z J.out).mono ?_;rintro e t ⟨v,rfl,b,c⟩;exact⟨_,rfl,a _ _ b,c⟩
 obtain⟨_,-,rfl⟩:=b;refine sRd ?_;refine sRe ?_;intro w1 W A _ B D y z _;have V:=nx p W;go_wp2;go_ret;exact⟨rfl,V⟩
theorem zYX(c d:Value)(R Q C:Nat)(a b:List (List Int))(w:World)(h1:zAQ w c R C a)(h2:zAQ w d Q C b)(f:zBW R C a)(g:zBW Q C b)(i:C<=1000000):
  CPq 80 #[c,d] w fun e w'=>∃v,e= .returned v/\v= .bool (decide (a=b))/\BWq w w':=by
 by_cases e:R=Q
 .subst e
  exact(zRZ c d R C a b w h1 h2 f g i).mono fun e w' h=>⟨_,h.1,rfl,h.2⟩
 refine(zPA c d R Q C a b w h1 h2 f g e).mono fun j w' h=>⟨_,h.1,?_,h.2⟩
 rw[zT];rintro rfl;exact e (by rw[<-f.1,<-g.1])
def qBq(f g:Nat)(t:TypeId):World->Value->Prop:=fun w v=>∃s b1 b2,v=slq s 2 2/\Blk w s t #[.func (.func f) #[] #[ptq b1 0],.func (.func f) #[] #[ptq b2 0]]/\Blk w b1 t #[.func (.func g) #[] #[]]/\Blk w b2 t #[.func (.func g) #[] #[]]
theorem zMZ(v:Value)(R C:Nat)(M:List (List Int))(w:World)(h:zAQ w v R C M)(hF:zBW R C M):
  CPq 85 #[v] w fun e w'=>∃v,e= .returned v/\v= .bool true/\BWq w w':=
 (zDf v R C M w h).mono fun e w' h=>⟨_,h.1,by rw[zQ hF.valid],h.2⟩
def qBQ(R C:Nat)(A:Nat->Nat->Int):Prop:=∀x,qAV R C A x->yD R C A x
def zIg(R C:Nat)(A:Nat->Nat->Int)(w:World)(v:Value):Prop:=∃r c H,zJY R C r c A H/\zAQ w v r C (genM r C H)
theorem zIJ(R C:Nat)(A:Nat->Nat->Int):zAj (zIg R C A):=fun _ _ _ e ⟨r,c,H,a,b⟩=>⟨r,c,H,a,b.I e⟩
theorem zRH(f:1<=M0)(v:Value)(M:List (List Int))(R C:Nat)(w:World)(h:zG3 w v R C M)(hF:zBW R C M)(A:R<=6)(t:C<=1000000)(m:gk (esr q R) M0<BD)(l:leM M0 R C (ent M))(I:RkB q R C ⟨ent M,idf,idf⟩):
  CPq 59 #[v] w fun e w'=>∃v r c H,e= .returned v/\zJY R C r c (ent M) H/\zAQ w' v r C (genM r C H)/\BWq w w':=by
 have p:=zJT;have s:leB M0 R C 0 ⟨ent M,idf,idf⟩:=⟨l,fun _ _ b g=>oM,fun _ _ b g=>oM⟩;have u:=zTG (r:=q) (Cs:=C) (x0:=⟨ent M,idf,idf⟩) (Ct:=0) A f m I;have x:M0<BD:=zI (zKn _ f) m;refine(zLE p v M R C w h hF oM t (l.ok x) (zFC (z:=1) dE).sm (x0:=⟨ent M,idf,idf⟩) rfl u (zQJ s f)).mono ?_;rintro J w' ⟨v,y,L,rfl,d,k,g⟩;obtain⟨d,G⟩:=JH.fin d;have E:=zMe (d.lok (xgf _)) (fun a B F=>by rw[zFh (d.zero a B F)];decide);have D:=zMF d G E;refine⟨v,L.length,_,_,rfl,D.lat,?_,g⟩;rw[zJK (n:=L.length) sI]at k;have e:genM L.length C (fun a b=>y.s ((L.map (·.1)).getD a 0) b)=genM L.length C fun a b=>y.s (zGv R C y.s L a) b:=jX fun i o j _=>by
  rw[zGb o];unfold zB6;rw[xgb,List.getElem?_map,xgb,xga o];rfl
 rw[e]at k;exact k
theorem zTJ(b:R<=6)(a:C<=3):esr C R<=34:=by
 have h:∀R,R<7->∀C,C<4->esr C R<=34:=by decide
 exact h R oM C oM
theorem zYH(h1:1<=h)(j:2*h<=2^e)(n:e<=2000)(v:Value)(M:List (List Int))(R C:Nat)(w:World)(a:zAQ w v R C M)(hF:zBW R C M)(b:R<=6)(g:C<=3)(f:leM h R C (ent M)):
  CPq 59 #[v] w fun e w'=>∃v,e= .returned v/\zIg R C (ent M) w' v/\BWq w w':=
 (zRH (q:=C) h1 v M R C w a.off hF b oM (zI (zEj h1 (zTJ b g)) (zQB (k:=34) j (by rw[zC3];omega))) f (zXd fun k l=>l.cols)).mono fun e w' ⟨v,r,c,H,d,m,a,i⟩=>⟨v,d,⟨r,c,H,m,a⟩,i⟩
theorem zUD(h:a<=2^e)(c:e<=100000):a<BD:=by
 have b:2^(e+1)<=B32^zOQ:=zFN (by rw[zC3];omega);rw[zSb];exact zI h (zM (Nat.pow_lt_pow_right oM (zA0 e)) b)
theorem zYy(c:m<=2^e)(b:1+h<=2^e):m*(1+h)^i<=2^(e*(i+1)):=by
 have a:(1+h)^i<=(2^e)^i:=yU b i;rw[<-jT]at a;refine zD (qO c a) ?_;rw[<-yM,Nat.mul_succ,zDn];exact xgf _
theorem zT4(j:Hnf C n r c H)(s:n<=4)(p:e<=10000)(q:m<=2^e)(h1:1+h<=2^e)(g:leM h n C H)(l:∀b,b<C->(x b).natAbs<=m):qAm BD n C H x:=by
 have k:∀i,i<=5->m*(1+h)^i<BD:=fun i d=>zUD (zYy q h1) (by have:e*(i+1)<=10000*6:=qO p oM;omega)
 refine⟨fun a o b f=>zI (g a o b f) (zUD (e:=e) oM oM),fun i d b f=>zI (zUY j g l i d b f) (k i oM),fun i d=>⟨zI (zUX j g l d) (k i oM),fun b f=>zI ?_ (k (i+1) oM)⟩⟩;rw[qU,zY];refine zD (qO (zUX j g l d) (g i d b f)) ?_;rw[qE,<-zE];exact zG _ oM
theorem zNv(h:rest n C H x b=0):x b=qS n fun t=>zF3 C H x t*H t b:=by
 have e:rest n C H x b=_:=zNw C H x n b;have a:(qS n fun s=>-(zF3 C H x s)*H s b)+(qS n fun t=>zF3 C H x t*H t b)=0:=by
  rw[<-zBw];have:(qS n fun t=>-(zF3 C H x t)*H t b+zF3 C H x t*H t b)=qS n fun _=>0:=zL fun t _=>by rw[yE];omega
  rw[this];exact zBt fun _ _=>rfl
 omega
theorem zNx(a:Hnf C n r c H)(x:Nat->Int):(∀b,b<C->rest n C H x b=0)↔yD n C H x:=
 ⟨fun h=>⟨fun t=>zF3 C H x t,fun b d=>zNv (h b d)⟩,fun⟨_,h⟩=>zUa a h⟩
structure HNw(m C e:Nat)(M:List (List Int)):Prop where
 fit:zBW m C M
 hnf:∃r c,Hnf C m r c (ent M)
 bd:leM (2^e-1) m C (ent M)
theorem HNw.ok(h:HNw m C e M)(g:m<=4)(d:e<=10000)(f:k<=2^e)(i:∀b,b<C->(x b).natAbs<=k):qAm BD m C (ent M) x:=by
 obtain⟨r,c,a⟩:=h.hnf;have j:1<=2^e:=qG oM;exact zT4 a g d f oM h.bd i
theorem HNw.ans(h:HNw m C e M)(x:Nat->Int):decide (∀z∈yV C (zFB C (ent M) x m),z=0)=true↔yD m C (ent M) x:=by
 obtain⟨r,c,f⟩:=h.hnf;rw[decide_eq_true_iff,<-zNx f x];constructor
 .intro h b a
  exact h _ (xgd (yO a))
 intro h z g;obtain⟨b,a,e⟩:=qZ g;rw[qN]at a;have d:(yV C (zFB C (ent M) x m))[b]?=some z:=by rw[xga (by rw[qN];exact a),e]
 rw[yO a]at d;injection d with d
 rw[<-d];exact h b a
theorem zLU(hv q:Value)(M:List (List Int))(x:Nat->Int)(w:World)(h:zAQ w hv m C M)(c:HNw m C e M)(f:zBy w q (yV C x))(L:m<=4)(H:C<=1000000)(K:e<=10000)(o:k<=2^e)(l:∀b,b<C->(x b).natAbs<=k){ans:Bool}(j:ans=true↔yD m C (ent M) x):
  CPq 87 #[hv,q] w fun e w'=>∃v,e= .returned v/\v= .bool ans/\BWq w w':=by
 have E:=xgv h;obtain⟨A,rfl,h⟩:=h;obtain⟨P,n,Q,rfl,-⟩:=id h;obtain⟨xo,xn,xc,rfl,-⟩:=id f;have g:decide (∀z∈yV C (zFB C (ent M) x m),z=0)=ans:=Bool.eq_iff_iff.2 ((c.ans x).trans j.symm);have r:=xgv g;have t:=xgv (c.ok L K o l);have s:=xgv c.fit;have u:=xgv f;have HB:=xgv (zXZ (a:=0) dE);clear h f g c l j o;go_enter Tryz.func87,Tryz.ntmps87;go_upto_region 1 with(fail)
 refine zF ?_;intro y i;obtain⟨d,B,R⟩:=qJ i;have D:=B.three;clear i;go_wp2_with fail
 refine(zIn zJT _ _ m C M x y (E.out.I d) s.out (u.out.I d) oM H t.out HB.out).mono ?_;rintro e O ⟨V,Z,rfl,N,p,I⟩;have F:=nx d I;clear D;obtain⟨Y,X,W,rfl,-⟩:=id p;obtain⟨U,T,S,rfl,-⟩:=id N;go_wp2_with fail
 refine(zNd _ _ O p).mono ?_;rintro e w2 ⟨rfl,J⟩;rw[r.out];have G:=nx F J;go_wp2;go_ret;exact⟨_,rfl,rfl,G⟩
theorem zHG(u hv:Value)(N M:List (List Int))(w:World)(l:zAQ w u R C N)(hF:zBW R C N)(h:zAQ w hv m C M)(y:HNw m C e M)(Y:m<=4)(hR:R<=1000000)(W:C<=1000000)(X:e<=10000)(G:k<=2^e)(c:leM k R C (ent N)){ans:Bool}(D:ans=true↔∀i,i<R->yD m C (ent M) (ent N i)):
  CPq 69 #[u,hv] w fun e w'=>∃v,e= .returned v/\v= .bool ans/\BWq w w':=by
 have K:=xgv h;obtain⟨A,rfl,h⟩:=h;obtain⟨Q,n,T,rfl,-⟩:=id h;obtain⟨A2,rfl,j⟩:=l;obtain⟨bo,Z,a0,rfl,x,-⟩:=id j;obtain rfl:R=Z:=by rw[<-x,hF.1]
 have L:=xgv y;have s:=xgv hF;have P:=xgv j;have O:=xgv G;have HB:=xgv c;have t:=xgv D;clear h j y hF G c D x;go_enter Tryz.func69,Tryz.ntmps69;go_upto_region 1 with(fail)
 refine zF ?_;intro W0 z;obtain⟨V,S,d,a3⟩:=zAU z;have c1:=S.three;clear z;go_wp2;go_loopw [10] (fun r wr=>∃i:Nat,i<=R/\r=niq i/\BWq w wr/\Blk wr (w.heap.size+1) 32 #[niq m,niq C,.slice Q n T]/\jI (∀a,a<i->yD m C (ent M) (ent N a))) (fun r _=>R-(intOf r).toNat)
 case atStart=>exact⟨0,oM,rfl,V,d,⟨fun a l=>oM⟩⟩
 obtain⟨i,hi,rfl,c,d,I⟩:=hrel;by_cases p:i<R
 .obtain⟨b,ra,rn,rc,zs,rfl,a2,J,q1,q⟩:=(P.out.I c).row (k:=i) (by rw[s.out.1];exact p)
  have q:zBy wr (.slice ra rn rc) (yV C (ent N i)):=by rw[<-s.out.row_eq J];exact q
  have U:=d.three;obtain⟨g,B⟩:∃g:Bool,g=true↔yD m C (ent M) (ent N i):=by
   by_cases H:yD m C (ent M) (ent N i)
   .exact⟨true,by simp[H]⟩
   exact⟨false,by simp[H]⟩
  have f:=xgv B;clear J B;go_wp2_with fail
  refine(zLU _ _ M (ent N i) wr (K.out.I c) L.out q Y W X O.out (fun b c=>HB.out i p b c) f.out).mono ?_;rintro e w2 ⟨v,rfl,rfl,F⟩;have E:=nx c F;have d:=d.I F;clear U q1;cases g with
  | true=>
   go_wp2;go_roundw
   case rel=>
    refine⟨i+1,oM,by simp,E,d,⟨fun a l=>?_⟩⟩;rcases zK a i with h1|h1
    exact I.out a h1;obtain rfl:a=i:=oM;have:=f.out;simpa using this
   case measure=>exact meq
  | false=>
   have o:ans=false:=by
    cases ans with
    |false=>rfl
    |true=>exact absurd (f.out.2 (t.out.1 rfl i p)) dE
   subst o;go_wp2;go_ret;exact⟨_,rfl,rfl,E⟩
 obtain rfl:i=R:=oM;have o:ans=true:=t.out.2 I.out;subst o;go_wp2;go_ret;exact⟨_,rfl,rfl,c⟩
abbrev tBm:TypeId:=93
abbrev tCn:TypeId:=90
theorem Tryz.sizeBm:(Tryz.prog.info? tBm).map (·.size)=some 6:=by kernel_rfl
theorem Tryz.sizeCn:(Tryz.prog.info? tCn).map (·.size)=some 2:=by kernel_rfl
section
variable {w:World} {g:Nat} {t:TypeId} {c0 c1 c2 c3 c4 c5:Value}
theorem Blk.put6(h:Blk w g t #[c0,c1,c2,c3,c4,c5])(x0 a b c d e:Value):Blk ((((((w.setCell ⟨g,0,none⟩ x0).setCell ⟨g,1,none⟩ a).setCell ⟨g,2,none⟩ b).setCell ⟨g,3,none⟩ c).setCell ⟨g,4,none⟩ d).setCell ⟨g,5,none⟩ e) g t #[x0,a,b,c,d,e]:=by
 simpa using(((((h.set_ 0 x0).set_ 1 a).set_ 2 b).set_ 3 c).set_ 4 d).set_ 5 e
theorem Blk.lext6(h:Blk w g t cs)(c:t≠tU)(x0 a b d e f:Value):zBq w ((((((w.setCell ⟨g,0,none⟩ x0).setCell ⟨g,1,none⟩ a).setCell ⟨g,2,none⟩ b).setCell ⟨g,3,none⟩ d).setCell ⟨g,4,none⟩ e).setCell ⟨g,5,none⟩ f):=
 (h.lext3 c x0 a b).trans ((((h.set_ 0 x0).set_ 1 a).set_ 2 b).lext c 3 _|>.trans (((((h.set_ 0 x0).set_ 1 a).set_ 2 b).set_ 3 d).lext c 4 _|>.trans ((((((h.set_ 0 x0).set_ 1 a).set_ 2 b).set_ 3 d).set_ 4 e).lext c 5 _)))
theorem zWd(w:World)(g k:Nat)(x0 b c d e f:Value)(a:k≠g):((((((w.setCell ⟨g,0,none⟩ x0).setCell ⟨g,1,none⟩ b).setCell ⟨g,2,none⟩ c).setCell ⟨g,3,none⟩ d).setCell ⟨g,4,none⟩ e).setCell ⟨g,5,none⟩ f).heap[k]?=w.heap[k]?:=
 (qC _ g 5 k _ a).trans ((qC _ g 4 k _ a).trans ((qC _ g 3 k _ a).trans (zAm w g k x0 b c a)))
theorem zZV{B:Nat}{a:World}(h:Below B a w)(b:B<=g)(x0 c d e f i:Value):Below B a ((((((w.setCell ⟨g,0,none⟩ x0).setCell ⟨g,1,none⟩ c).setCell ⟨g,2,none⟩ d).setCell ⟨g,3,none⟩ e).setCell ⟨g,4,none⟩ f).setCell ⟨g,5,none⟩ i):=yB (yB (yB (yB (yB (yB h b _ _) b _ _) b _ _) b _ _) b _ _) b _ _
theorem zAQ.keep6{R C:Int}(h:zAQ w v R C M)(a:Blk w g t cs)(h1:t≠tR)(h2:t≠tI)(b:t≠tU)(x0 d e f i j:Value):zAQ ((((((w.setCell ⟨g,0,none⟩ x0).setCell ⟨g,1,none⟩ d).setCell ⟨g,2,none⟩ e).setCell ⟨g,3,none⟩ f).setCell ⟨g,4,none⟩ i).setCell ⟨g,5,none⟩ j) v R C M:=by
 obtain⟨A,rfl,h⟩:=h;exact⟨A,rfl,h.off a h1 h2 (fun k c=>zWd _ _ k _ _ _ _ _ _ c) (a.lext6 b _ _ _ _ _ _)⟩
end
theorem zEi(h i R C Q D:Nat)(f g:Value)(M N:List (List Int))(w:World)(h1:zAQ w (.agg #[niq R,niq C,f]) R C M)(k:zBW R C M)(h2:zAQ w (.agg #[niq Q,niq D,g]) Q D N)(l:zBW Q D N)
  (a:Blk w h 32 #[niq R,niq C,f]) (b:Blk w i 32 #[niq Q,niq D,g]) {ans:Bool} (q:((C:Int)==(D:Int))=ans):
  CPq 96 #[ptq h 0,ptq i 0] w fun e w'=>∃v,e= .returned v/\v= .bool ans/\BWq w w':=by
 have m:=xgv h1;have n:=xgv h2;have o:=xgv k;have p:=xgv l;clear h1 h2 k l;have c1:=a.three;go_enter Tryz.func96,Tryz.ntmps96;go_wp2_with fail
 refine(zMZ _ R C M w m.out o.out).mono ?_;rintro e r ⟨v,rfl,rfl,c⟩;have a:=a.I c;have b:=b.I c;clear c1;have j:=b.three;go_wp2_with fail
 refine(zMZ _ Q D N r (n.out.I c) p.out).mono ?_;rintro e s ⟨v,rfl,rfl,d⟩;have a:=a.I d;have b:=b.I d;clear j;have c1:=a.three;have j:=b.three;go_wp2;go_ret;refine⟨_,rfl,?_,nx c d⟩;rw[<-q];rfl
theorem zFd(f g h i j k:Value)(w:World):
  CPq 57 #[.agg #[f,g,h],.agg #[i,j,k]] w fun e w'=>e= .returned (.agg #[.func (.func 96) #[] #[ptq w.heap.size 0,ptq (w.heap.size+1) 0],niq 50])∧
   Blk w' w.heap.size 32 #[f,g,h]/\Blk w' (w.heap.size+1) 32 #[i,j,k]/\BWq w w':=by
 have p:∀(c:Fn) (first b:Array Value) (w:World),(Instr.makeFunc c first b).run Tryz.prog w= .ok (.func c first b) w:=fun _ _ _ _=>rfl
 go_enter Tryz.func57,Tryz.ntmps57;go_upto_region 1 with(fail)
 refine zF ?_;intro o d;obtain⟨n,l,m,a,q⟩:=zBc d;clear d;have r:=a.lt;have s:=a.two;go_wp2;refine bodyPost_ret (results_cell_row rfl _ _ (w.heap.size+1+1) _ _ _ _ rfl (a.put2 _ _) Tryz.underlying90 rfl (by rw[Tryz.sizeCn];rfl)) rfl ⟨rfl,(yL _ _ 0 1 _ _ _ oM).trans l,(yL _ _ 0 1 _ _ _ oM).trans m,yB (yB n oM 0 _) oM 1 _⟩
theorem zDd{g:FuncId}(A:g=96∨g=77)(n:Array Value)(b c:Nat)(p:Int)(w:World)(j:Blk w b tCn #[.func (.func g) #[] n,niq p]){ans:Bool}{k:Int}(u:(if ans=true then 0 else p)=k)
  (hc:∀(W:World),BWq w W->CPq g n W fun e w'=>∃v,e= .returned v/\v= .bool ans/\BWq W w'):
  CPq 56 #[slq b 1 c] w fun e w'=>∃v,e= .returned v/\v=niq k/\BWq w w':=by
 have m:=xgv u;clear u;have d:=xgv hc;clear hc;go_enter Tryz.func56,Tryz.ntmps56;go_wp2;go_loopw [7] (fun l wr=>∃i:Nat,i<=1/\l=niq i/\BWq w wr/\jI (i=1->ans=true)) (fun l _=>1-(intOf l).toNat)
 case atStart=>exact⟨0,oM,rfl,zC _ _,⟨fun h=>oM⟩⟩
 obtain⟨i,E,rfl,f,C⟩:=hrel;by_cases y:i=0
 .subst y
  have j:=j.I f;have D:=j.two;go_upto_region 4 with(fail)
  refine zF ?_;intro x s;obtain⟨z,a,F⟩:=qJ s;have o:=a.two;have q:=nx f z;have d:=xgv (d.out x q);clear D s;rcases A with rfl|rfl<;>(
   go_wp2_with fail
   refine d.out.mono ?_;rintro e G ⟨v,rfl,rfl,t⟩;have r:=nx q t;have a:=a.I t;clear o;have o:=a.two;cases ans with
   |true=>
    go_wp2;go_roundw
    case rel=>exact⟨1,oM,by simp,r,⟨by simp⟩⟩
    case measure=>simp[intOf]
   |false=>
    go_wp2;go_ret;exact⟨_,rfl,by rw[<-m.out];rfl,r⟩)
 obtain rfl:i=1:=oM;have B:=C.out rfl;subst B;go_wp2;go_ret;exact⟨_,rfl,by rw[<-m.out];rfl,f⟩
theorem zGX(r s:Value)(R C Q D:Nat)(M N:List (List Int))(w:World)(h1:zAQ w r R C M)(h2:zAQ w s Q D N)
  (o:∀(v:Value) (w:World),zAQ w v R C M->CPq 59 #[v] w fun e w'=>∃v,e= .returned v/\zIg R C (ent M) w' v/\BWq w w')
  (S:∀(v:Value) (w:World),zAQ w v Q D N->CPq 59 #[v] w fun e w'=>∃v,e= .returned v/\zIg Q D (ent N) w' v/\BWq w w'):
  CPq 61 #[r,s] w fun e w'=>∃(k:Nat) (p:Option Addr) (i c1:Nat) (l:Nat) (q:Option Addr) (j c2:Nat),e= .returned (.agg #[niq k,niq C,.slice p i c1,niq l,niq D,.slice q j c2])/\zIg R C (ent M) w' (.agg #[niq k,niq C,.slice p i c1])/\zIg Q D (ent N) w' (.agg #[niq l,niq D,.slice q j c2])/\BWq w w':=by
 have x:=xgv h1;have y:=xgv h2;obtain⟨W,rfl,h1⟩:=h1;obtain⟨X,rfl,h2⟩:=h2;obtain⟨ao,i,a1,rfl,-⟩:=id h1;obtain⟨bo,j,a0,rfl,-⟩:=id h2;have F:=xgv o;have G:=xgv S;clear h1 h2 o;go_enter Tryz.func61,Tryz.ntmps61;go_upto_region 1 with(fail)
 refine zF ?_;intro W0 m;obtain⟨b,H,I,a,a2⟩:=zBc m;obtain⟨c1,c2,c3,c4,c5,J⟩:=H.three;have K:=I.three;clear m;have d:=zIJ R C (ent M);have f:=zIJ Q D (ent N);refine yA 4 [pcD 1 [] (zIg R C (ent M)),pcD 3 [] (zIg Q D (ent N))] ?_;refine sRd ?_;refine sRc (fun V hI u c=>by go_simp;exact ck c (F.out _ _ ((x.out.I b).I hI.bel))) (fun T _=>?_);refine sRd ?_;refine sRc (fun V hI u c=>by go_simp;exact ck c (G.out _ _ ((y.out.I b).I hI.bel))) (fun U _=>?_);refine sRe ?_;intro t n O P;obtain⟨k,a3,Y,d,g⟩:zIg R C (ent M) t T:=O;obtain⟨l,a4,Z,f,h⟩:zIg Q D (ent N) t U:=P;obtain⟨x1,x2,x3,rfl⟩:=g.agg;obtain⟨y1,y2,y3,rfl⟩:=h.agg;have a:=a.I n;have L:=nx b n;clear c1 c2 c3 c4 c5 J K;have q1:=a.six;have z0:=a.frozen 0;have z1:=a.frozen 1;have z2:=a.frozen 2;have z3:=a.frozen 3;have z4:=a.frozen 4;have z5:=a.frozen 5;have z:=xgv d;have A:=xgv f;have B:=xgv g;have E:=xgv h;clear d f g h;go_wp2;refine bodyPost_ret (results_cell_row rfl _ _ (w.heap.size+1+1) _ _ _ _ rfl (a.put6 _ _ _ _ _ _) Tryz.underlying93 rfl (by rw[Tryz.sizeBm];rfl)) rfl ⟨_,_,_,_,_,_,_,_,rfl,⟨_,_,_,z.out,B.out.keep6 a dE dE dE _ _ _ _ _ _⟩,⟨_,_,_,A.out,E.out.keep6 a dE dE dE _ _ _ _ _ _⟩,zZV L oM _ _ _ _ _ _⟩
def qAG(x1 x2 x3 y1 y2 y3:Value):World->Value->Prop:=fun w v=>∃p q,v= .agg #[.func (.func 96) #[] #[ptq p 0,ptq q 0],niq 50]/\Blk w p 32 #[x1,x2,x3]/\Blk w q 32 #[y1,y2,y3]
def qAx(x1 x2 x3 y1 y2 y3:Value):World->Value->Prop:=fun w v=>∃g p q,v=slq g 1 1/\Blk w g tCn #[.func (.func 96) #[] #[ptq p 0,ptq q 0],niq 50]/\Blk w p 32 #[x1,x2,x3]/\Blk w q 32 #[y1,y2,y3]
theorem zOw(d f g h i j:Value):zAj (qAG d f g h i j):=fun _ _ _ e ⟨p,q,a,b,c⟩=>⟨p,q,a,b.I e,c.I e⟩
theorem zOv(f h i j k l:Value):zAj (qAx f h i j k l):=fun _ _ _ e ⟨g,p,q,a,b,c,d⟩=>⟨g,p,q,a,b.I e,c.I e,d.I e⟩
theorem qAZ(a b c d f g:Value)(w:World):
  CPq 57 #[.agg #[a,b,c],.agg #[d,f,g]] w fun e w'=>∃v,e= .returned v/\qAG a b c d f g w' v/\BWq w w':=
 (zFd a b c d f g w).mono fun e w' ⟨h,i,j,k⟩=>⟨_,h,⟨_,_,rfl,i,j⟩,k⟩
theorem zPE{Q D e k:Nat}(V W:Value)(M N:List (List Int))(w:World)(h1:zAQ w V R C M)(h2:zAQ w W Q D N)(H:zBW R C M)(I:zBW Q D N)(hR:R<=1000000)(hC:C<=4)(hD:C=D)
  (k2:∀(v:Value) (w:World),zAQ w v Q D N->CPq 59 #[v] w fun e w'=>∃v,e= .returned v/\zIg Q D (ent N) w' v/\BWq w w')
  (T:∀r c G,zJY Q C r c (ent N) G->HNw r C e (genM r C G)) (he:e<=10000) (S:k<=2^e) (x:leM k R C (ent M)) {ans:Bool} (P:ans=true↔∀i,i<R->yD Q C (ent N) (ent M i)):
  CPq 25 #[V,W] w fun e w'=>∃v,e= .returned v/\v= .bool ans/\BWq w w':=by
 subst hD;have B:=xgv h1;have E:=xgv h2;obtain⟨A1,rfl,h1⟩:=h1;obtain⟨A2,rfl,h2⟩:=h2;obtain⟨g,n,l,rfl,-⟩:=id h1;obtain⟨j,o,h,rfl,-⟩:=id h2;have F:=xgv H;have Y:=xgv I;have HN:=xgv P;have K2:=xgv k2;have HW:=xgv T;have Z:=xgv S;have HB:=xgv x;have X:jI (((C:Int)==(C:Int))=true):=⟨by simp⟩;clear h1 h2 H I P T S x;go_enter Tryz.func25,Tryz.ntmps25;go_upto_region 1 with(fail)
 refine zF ?_;intro W0 J;obtain⟨m,a1,a2,b5⟩:=zAU J;have c1:=a1.three;have d1:=a2.three;clear J;have b0:=zOw (niq R) (niq C) (.slice g n l) (niq Q) (niq C) (.slice j o h);have b3:=zOv (niq R) (niq C) (.slice g n l) (niq Q) (niq C) (.slice j o h);have b4:=zIJ Q C (ent N);refine zBP [pcD 2 [] (qAG (niq R) (niq C) (.slice g n l) (niq Q) (niq C) (.slice j o h)),pcD 3 [2] (qAx (niq R) (niq C) (.slice g n l) (niq Q) (niq C) (.slice j o h)),pcD 4 [3] (fun _ v=>v=niq 0),pcD 9 [] (zIg Q C (ent N)),pcD 10 [9] (fun _ v=>v= .bool ans)] ?_;refine sRd ?_;refine sRc (fun s hI t d=>by go_simp;exact ck d (qAZ _ _ _ _ _ _ _)) (fun a8 _=>?_);refine sRc (fun s hI K t d=>?_) (fun b6 _=>?_)
 .obtain⟨p,q,rfl,b1,b2⟩:qAG (niq R) (niq C) (.slice g n l) (niq Q) (niq C) (.slice j o h) s a8:=K
  go_simp;exact⟨d _ _ ⟨_,p,q,rfl,yG _ _ _,b1.I ((zC _ _).alloc (xgf _) _),b2.I ((zC _ _).alloc (xgf _) _)⟩,(zC _ _).alloc (xgf _) _⟩
 refine sRc (fun s hI L t d=>?_) (fun _ f=>?_)
 .obtain⟨g3,p3,q3,rfl,a3,a6,a7⟩:=L
  go_simp;refine(zDd (.inl rfl) _ g3 1 50 _ a3 (ans:=true) rfl (fun a0 u=>zEi p3 q3 R C Q C _ _ M N a0 (((B.out.I m).I hI.bel).I u) F.out (((E.out.I m).I hI.bel).I u) Y.out (a6.I u) (a7.I u) X.out)).mono ?_;rintro e wa ⟨v,rfl,f,y⟩;exact⟨_,rfl,d _ _ f,y⟩
 obtain⟨_,-,rfl⟩:=f;refine sRd ?_;refine sRc (fun s hI t d=>by go_simp;exact ck d (K2.out _ _ ((E.out.I m).I hI.bel))) (fun b7 _=>?_);refine sRc (fun s hI O t d=>?_) (fun _ f=>?_)
 .obtain⟨U,a9,A,z,m9⟩:=O
  go_simp;refine(zHG _ _ M (genM U C A) _ ((B.out.I m).I hI.bel) F.out m9 (HW.out U a9 A z) (zD z.hb.le_cols hC) hR oM he Z.out HB.out (HN.out.trans (forall_congr' fun i=>forall_congr' fun _=>(z.hb.iff _).trans (yD.congr (fun a ha b x=>(yZ ha x).symm) _)))).mono ?_;rintro e wa ⟨v,rfl,f,y⟩;exact⟨_,rfl,d _ _ f,y⟩
 obtain⟨_,-,rfl⟩:=f;refine sRd ?_;refine sRe ?_;intro w1 a5 K L _ O _;have a4:=nx m a5;go_wp2;go_ret;exact⟨_,rfl,rfl,a4⟩

def zEv(C:Nat)(M N:List (List Int))(i t:Nat):Int:=zF3 C (ent M) (ent N i) t
theorem zQ4(C m k:Nat)(M N:List (List Int))(j:Nat)(a:j<k):(genM k m (zEv C M N)).take (j+1)=(genM k m (zEv C M N)).take j++ [yV m (zF3 C (ent M) (ent N j))]:=by
 rw[jH];simp[genM,yV,a,zEv]
theorem zNG(B:Option Addr)(A x:Nat)(S:Option Addr)(R y:Nat)(M N:List (List Int))(w:World)(h1:zAQ w (.agg #[.int .i64 m,.int .i64 C,.slice B A x]) m C M)(W:HNw m C e M)(h2:zAQ w (.agg #[.int .i64 k,.int .i64 C,.slice S R y]) k C N)(hF:zBW k C N)(hm:m<=4)(hk:k<=1000000)(hC:C<=1000000)(he:e<=10000)(hh:h<=2^e)(i:leM h k C (ent N)):
  CPq 73 #[.agg #[.int .i64 m,.int .i64 C,.slice B A x,.int .i64 k,.int .i64 C,.slice S R y]] w fun e w'=>∃u,e= .returned u/\zAQ w' u k m (genM k m (zEv C M N))/\BWq w w':=by
 have H1:=xgv h1;obtain⟨A2,G,h2⟩:=h2;injection G with G
 simp only[Array.mk.injEq,List.cons.injEq]at G;obtain⟨-,-,rfl,-⟩:=G;have b9:=h2.len;obtain rfl:k=R:=by
  obtain⟨_,_,_,e,g1,-⟩:=id h2;injection e with _ e _
  rw[e,<-g1,hF.1]
 have H2:=xgv h2;have V:=xgv W;have U:=xgv hF;have a4:=xgv hh;have HB:=xgv i;have a3:=xgv (zXZ (a:=0) dE);obtain⟨T,v⟩:∃T:Nat->List (List Int),∀j,(genM k m (zEv C M N)).take j=T j:=⟨_,fun _=>rfl⟩;have a6:jI (T 0= []):=⟨by rw[<-v];rfl⟩;have a9:jI (∀j,j<k->T (j+1)=T j++ [yV m (zF3 C (ent M) (ent N j))]):=⟨fun j L=>by rw[<-v,<-v];exact zQ4 C m k M N j L⟩;have a7:jI (T k=genM k m (zEv C M N)):=⟨by rw[<-v];exact jM (by simp[genM])⟩;have a8:jI (∀j,j<=k->(T j).length=j):=⟨fun j L=>by rw[<-v,qR];simp[genM];omega⟩;clear h1 h2 W hF hh i v b9;go_enter Tryz.func73,Tryz.ntmps73;go_upto_region 1 with(fail)
 refine zF ?_;intro f X;obtain⟨b6,g,d,c7⟩:=zAU X;have D:=g.six;clear X;go_upto_region 2 with(fail)
 refine zF ?_;intro W1 Y;obtain⟨K,p,c8⟩:=qJ Y;have g:=g.I K;have d:=d.I K;have hB:=nx b6 K;have c5:=d.lt;clear Y D;have D:=g.six;go_wp2;clear D;go_loopw [20] (fun Q wr=>∃j:Nat,j<=k/\Q= .int .i64 j/\∃o n c,BWq w wr/\Blk wr w.heap.size tBm #[.int .i64 m,.int .i64 C,.slice B A x,.int .i64 k,.int .i64 C,.slice S k y]/\Blk wr (w.heap.size+1) 32 #[.int .i64 0,.int .i64 0,.slice none 0 0]∧
  Blk wr f.heap.size 32 #[.int .i64 k,.int .i64 m,.slice o n c]/\RsO wr (f.heap.size+1) (.slice o n c) (T j)) (fun Q _=>k-(intOf Q).toNat)
 case atStart=>exact⟨0,oM,rfl,_,_,_,hB,g,d,p,by rw[a6.out];exact⟨[],zCR _ _ _ _,rfl,fun k _ _ h=>by simp at h⟩⟩
 obtain⟨j,L,rfl,o,n,c,i,g,d,p,l⟩:=hrel;by_cases O:j<k
 .obtain⟨b,ra,rn,rc,zs,rfl,c4,a2,p1,I⟩:=(H2.out.I i).row (k:=j) (by rw[U.out.1];exact O)
  have I:zBy wr (.slice ra rn rc) (yV C (ent N j)):=by rw[<-U.out.row_eq a2];exact I
  have HZ:=xgv I;clear a2 I;have D:=g.six;go_wp2_with fail
  refine(zIn zJT _ _ m C M (ent N j) wr (H1.out.I i) V.out.fit HZ.out oM hC (V.out.ok hm he a4.out (fun b i=>HB.out j O b i)) a3.out).mono ?_;rintro e w1 ⟨qv,rv,rfl,P,hr,z⟩;obtain⟨ro,d2,d1,rfl,-⟩:=id hr;obtain⟨qo,qn,qc,rfl,-⟩:=id P;have Z:=nx i z;have g:=g.I z;have d:=d.I z;have p:=p.I z;have l:=l.I z;have HQ:=xgv P;have E:=xgv l.own;have J:=xgv l;have l3:=p.lt;have d0:=g.lt;have c9:=d.lt;have hd:=a9.out j O;have a0:=a8.out j oM;have HD:=xgv hd;have a5:=xgv a0;clear D P hr l p1 hd a0;obtain⟨t1,t2,t3,t4,t5,t6⟩:=p.three;go_wp2_with (at_builtin;go_loud (refine zXw rfl _ _ rfl (f.heap.size+1) (.slice o n c) (T j) rfl (J.out.I ((zC _ _).alloc (xgf _) _)) _ [yV m (zF3 C (ent M) (ent N j))] rfl (zMk HQ.out) (by rw[a5.out];simp;omega) (by simp;omega) ?_;intro v' w' a1 H c6;have q:BWq w1 (w1.alloc (.cells #[.slice qo qn qc] 46)):=(zC _ _).alloc (xgf _) _;have F:Blk w' f.heap.size 32 #[.int .i64 k,.int .i64 m,.slice o n c]:=(H.block _ (by have:=q.size;omega) (fun e=>by have:=(E.out _ e.symm).1;omega)).trans (p.I q);have b2:Blk w' (w.heap.size+1) 32 #[.int .i64 0,.int .i64 0,.slice none 0 0]:=(H.block _ (by have:=q.size;omega) (fun e=>by have:=(E.out _ e.symm).1;omega)).trans (d.I q);have b4:Blk w' w.heap.size tBm #[.int .i64 m,.int .i64 C,.slice B A x,.int .i64 k,.int .i64 C,.slice (some ⟨b,0,none⟩) k y]:=(H.block _ (by have:=q.size;omega) (fun e=>by have:=(E.out _ e.symm).1;omega)).trans (g.I q);have b7:BWq w w':=(nx Z q).grown H (by have:=Z.size;have:=q.size;omega) (fun g' hg=>by have:=(E.out g' hg).1;omega);obtain⟨t1,t2,t3,t4,t5,t6⟩:=F.three;obtain⟨t,s,pc,rfl,-⟩:=id a1.rows))
  have c3:zBq w' (w'.setCell ⟨f.heap.size,2,none⟩ (.slice t s pc)):=F.lext dE _ _;have c0:=a1.offS F dE dE (fun b i=>qC _ _ _ b _ i) c3;have b0:Blk (w'.setCell ⟨f.heap.size,2,none⟩ (.slice t s pc)) f.heap.size 32 #[.int .i64 k,.int .i64 m,.slice t s pc]:=by simpa using F.set_ 2 (.slice t s pc)
  have b3:Blk (w'.setCell ⟨f.heap.size,2,none⟩ (.slice t s pc)) (w.heap.size+1) 32 #[.int .i64 0,.int .i64 0,.slice none 0 0]:=(qC _ _ _ _ _ oM).trans b2;have b5:Blk (w'.setCell ⟨f.heap.size,2,none⟩ (.slice t s pc)) w.heap.size tBm #[.int .i64 m,.int .i64 C,.slice B A x,.int .i64 k,.int .i64 C,.slice (some ⟨b,0,none⟩) k y]:=(qC _ _ _ _ _ oM).trans b4;have b8:BWq w (w'.setCell ⟨f.heap.size,2,none⟩ (.slice t s pc)):=yB b7 oM _ _;go_roundw
  case rel=>exact⟨j+1,oM,by simp,_,_,_,b8,b5,b3,b0,by rw[HD.out];exact c0⟩
  case measure=>exact meq
 obtain rfl:j=k:=oM;obtain⟨t1,t2,t3,t4,t5,t6⟩:=p.three;have l:RsO wr (f.heap.size+1) (.slice o n c) (genM j m (zEv C M N)):=by rw[<-a7.out];exact l
 have J:=xgv l;clear l;have r1:=d.three;go_wp2;refine zAD (r:=w.heap.size+1) rfl rfl rfl (d.put3 _ _ _) ⟨_,rfl,⟨_,rfl,(J.out.offS d dE dE (fun k hk=>zAm _ _ k _ _ _ hk) (d.lext3 dE _ _ _)).rows⟩,yB (yB (yB i oM 0 _) oM 1 _) oM 2 _⟩
theorem zWG(S T:Value)(R Q C D:Nat)(M N:List (List Int))(w:World)(h1:zAQ w S R C M)(h2:zAQ w T Q D N)(y:zBW R C M)(A:zBW Q D N)(hR:R<=1000000)(hQ:Q<=1000000)(hC:C<=1000000)(B:∀r∈M,∀z∈r,Sm z)(E:∀r∈N,∀z∈r,Sm z)(m:C=D)
  (K:∀(v:Value) (w:World),zAQ w v ((R+Q:Nat):Int) C (M++N)->CPq 59 #[v] w fun e w'=>∃v,e= .returned v/\zIg (R+Q) C (ent (M++N)) w' v/\BWq w w'):
  CPq 16 #[S,T] w fun e w'=>∃v,e= .returned (.tuple #[v,niq 0])/\zIg (R+Q) C (ent (M++N)) w' v/\BWq w w':=by
 have p:=xgv h1;have q:=xgv h2;obtain⟨A1,rfl,h1⟩:=h1;obtain⟨A2,rfl,h2⟩:=h2;have t:=xgv y;have u:=xgv A;have Z:=xgv B;have a0:=xgv E;have W:=xgv K;have s:=xgv m;have V:jI (((C:Int)==(D:Int))=true):=⟨by rw[m];simp⟩;clear h1 h2 y A B E K m;go_enter Tryz.func16,Tryz.ntmps16;go_upto_region 1 with(fail)
 refine zF ?_;intro W0 F;obtain⟨a2,d,f,a,a4⟩:=zBc F;have c1:=d.three;have j:=f.three;clear F;go_wp2_with fail
 refine(zFd _ _ _ _ _ _ W0).mono ?_;rintro e w1 ⟨rfl,O,P,i⟩;have b:=nx a2 i;have d:=d.I i;have f:=f.I i;have a:=a.I i;clear c1 j;go_wp2_with fail
 refine(zDd (.inl rfl) _ _ 1 50 _ (yG _ _ _) (ans:=true) (k:=0) rfl (fun a1 g=>zEi _ _ R C Q D _ _ M N a1 (((p.out.I b).I ((zC _ _).alloc (xgf _) _)).I g) t.out (((q.out.I b).I ((zC _ _).alloc (xgf _) _)).I g) u.out ((O.I ((zC _ _).alloc (xgf _) _)).I g) ((P.I ((zC _ _).alloc (xgf _) _)).I g) V.out)).mono ?_;rintro e U ⟨v,rfl,rfl,a3⟩;have h:BWq w1 U:=nx ((zC _ _).alloc (xgf _) _) a3;have b:=nx b h;have d:=d.I h;have f:=f.I h;have a:=a.I h;clear O P;have c1:=d.three;have j:=f.three;go_wp2_with fail
 refine(zLY _ _ R Q C M N U (p.out.I b) (by simpa only[s.out]using q.out.I b) t.out (by simpa only[s.out]using u.out) hR hQ hC Z.out a0.out).mono ?_;rintro e w3 ⟨v,rfl,o,I⟩;have b:=nx b I;have a:=a.I I;obtain⟨s1,s2,s3,rfl⟩:=o.agg;have HV:=xgv o;clear c1 j d f o;go_upto_region 7 with(fail)
 refine zF ?_;intro W7 H;obtain⟨l,x,a5⟩:=qJ H;have t1:=x.three;have b:=nx b l;have a:=a.I l;clear H;go_wp2_with fail
 refine(W.out _ W7 (HV.out.I l)).mono ?_;rintro e w8 ⟨v,rfl,⟨r,c,G,L,n⟩,J⟩;obtain⟨m1,m2,m3,rfl⟩:=n.agg;have b:=nx b J;have a:=a.I J;have X:=xgv L;have Y:=xgv n;clear t1 x L n;have r1:=a.three;go_wp2;refine bodyPost_ret (zDh rfl _ rfl (a.put3 _ _ _) rfl) rfl ⟨_,rfl,⟨_,_,_,X.out,Y.out.keep3 a _ _ _⟩,yB (yB (yB b oM 0 _) oM 1 _) oM 2 _⟩
theorem zWH(q r:Value)(R Q C D:Nat)(M N:List (List Int))(w:World)(h1:zAQ w q R C M)(h2:zAQ w r Q D N)(l:zBW R C M)(m:zBW Q D N)(j:C≠D):
  CPq 16 #[q,r] w fun e w'=>∃v,e= .returned (.tuple #[v,niq 50])/\v= .agg #[niq 0,niq 0,.slice none 0 0]/\BWq w w':=by
 have s:=xgv h1;have t:=xgv h2;obtain⟨H,rfl,h1⟩:=h1;obtain⟨I,rfl,h2⟩:=h2;have x:=xgv l;have y:=xgv m;have u:jI (((C:Int)==(D:Int))=false):=⟨beq_eq_false_iff_ne.2 fun h=>j oM⟩;clear h1 h2 l m j;go_enter Tryz.func16,Tryz.ntmps16;go_upto_region 1 with(fail)
 refine zF ?_;intro z n;obtain⟨B,b,c,a,J⟩:=zBc n;have c1:=b.three;have A:=c.three;clear n;go_wp2_with fail
 refine(zFd _ _ _ _ _ _ z).mono ?_;rintro e F ⟨rfl,o,p,i⟩;have d:=nx B i;have b:=b.I i;have c:=c.I i;have a:=a.I i;clear c1 A;go_wp2_with fail
 refine(zDd (.inl rfl) _ _ 1 50 _ (yG _ _ _) (ans:=false) (k:=50) rfl (fun W f=>zEi _ _ R C Q D _ _ M N W (((s.out.I d).I ((zC _ _).alloc (xgf _) _)).I f) x.out (((t.out.I d).I ((zC _ _).alloc (xgf _) _)).I f) y.out ((o.I ((zC _ _).alloc (xgf _) _)).I f) ((p.I ((zC _ _).alloc (xgf _) _)).I f) u.out)).mono ?_;rintro e G ⟨v,rfl,rfl,E⟩;have g:BWq F G:=nx ((zC _ _).alloc (xgf _) _) E;have d:=nx d g;have b:=b.I g;have c:=c.I g;have a:=a.I g;clear o p;have K:=a.three;go_wp2;refine bodyPost_ret (zDh rfl _ rfl (a.put3 _ _ _) rfl) rfl ⟨_,rfl,rfl,yB (yB (yB d oM 0 _) oM 1 _) oM 2 _⟩
theorem zXT(f:Nat->Int):∀C,∃M,1<=M/\∀b,b<C->(f b).natAbs<=M
 |0=>⟨1,xgf _,fun b c=>oM⟩
 |C+1=>by
  obtain⟨M,d,a⟩:=zXT f C;refine⟨M+(f C).natAbs,oM,fun b c=>?_⟩;by_cases e:b=C
  .subst e;omega
  have:=a b oM;omega
theorem zXS(C:Nat)(F:Nat->Nat->Int):∀R,∃M,1<=M/\leM M R C F
 |0=>⟨1,xgf _,fun a g=>oM⟩
 |R+1=>by
  obtain⟨M,h,d⟩:=zXS C F R;obtain⟨N,i,f⟩:=zXT (F R) C;refine⟨M+N,oM,fun a g b c=>?_⟩;by_cases e:a=R
  .subst e;have:=f b c;omega
  have:=d a oM b c;omega
theorem zHc(v:R<=6)(A:Nat->Nat->Int):∃r c H U V,zEh R C r c A H U V:=by
 obtain⟨T,e,m⟩:=zXS C A R;obtain⟨E,u⟩:∃E,E=ecE R 0:=⟨_,rfl⟩;obtain⟨Z,w⟩:∃Z,Z=2*T:=⟨_,rfl⟩;obtain⟨f,p,r,c,-,d,-,q⟩:=zK7 (B:=T*Z^E+1) (n:=R) (Cs:=C) (Ct:=0) v R 0 0 ⟨A,idf,idf⟩ T T (fun _=>0) oM oM ⟨m,fun _ _ b x=>oM,fun _ _ b x=>oM⟩ m e e ⟨fun k o=>oM,fun k o=>oM,fun k o=>oM,fun k l e d=>oM⟩ (fun i j e d=>by omega) (fun a e d=>by omega) (fun G h=>by
  rw[<-u,<-w]at h;have s:G<=Z*G:=qQ _ oM;exact Nat.lt_succ_of_le (zG _ (zD s h)))
 exact⟨r,c,_,zBF p idf,fun a t=>zNh p idf t a,q,fun a g b _=>zKG d A a g b,zIP d (zIG R),fun a g b _=>zEZ d A a g b⟩
theorem zNJ(D:Int):∀(k:Nat) (F:Nat->Nat->Int),det k (fun a b=>D*F a b)=D^k*det k F
 |0,F=>by simp[det]
 |k+1,F=>by
  rw[zC0,zC0,<-jK];refine zL fun j d=>?_
  have c:mnr (fun a b=>D*F a b) 0 j=fun a b=>D*mnr F 0 j a b:=rfl
  rw[c,zNJ D k,Int.pow_succ];grind
theorem zDk.scale{D:Int}(g:D≠0)(h:zDk k R C A):zDk k R C fun a b=>D*A a b:=by
 obtain⟨i,j,d,e,f⟩:=h;refine⟨i,j,d,e,fun c=>?_⟩;rw[zNJ D k]at c;rcases Int.mul_eq_zero.1 c with h4|h4
 exact Int.pow_ne_zero g h4;exact f h4
theorem zZW{f g:Nat->Int}(h:∀a,a<m->f a=qS m fun t=>X a t*g t)(d:s<m):det m X*g s=qS m fun u=>det m (zDQ X s fun a=>idf u a)*f u:=by
 have i:det m (zDQ X s fun a=>qS m fun t=>g t*X a t)=qS m fun t=>g t*det m (zDQ X s fun a=>X a t):=zG7 d
 have j:(qS m fun t=>g t*det m (zDQ X s fun a=>X a t))=det m X*g s:=by
  rw[zBA (c:=s) d fun t n l=>?_];rw[zH5,zZ];have:det m (zDQ X s fun a=>X a t)=0:=by
   rcases zAb l with h3|h3
   exact zFD h3 d fun a=>by unfold zDQ;rw[zB rfl,zA oM]
   exact zFD h3 n fun a=>by unfold zDQ;rw[zB rfl,zA oM]
  rw[this,qB]
 have h3:det m (zDQ X s fun a=>qS m fun u=>f u*idf u a)=qS m fun u=>f u*det m (zDQ X s fun a=>idf u a):=zG7 d
 have k:det m (zDQ X s fun a=>qS m fun u=>f u*idf u a)=det m (zDQ X s fun a=>qS m fun t=>g t*X a t):=zAs fun a e b o=>by
  unfold zDQ;split
  .dsimp only
   rw[zIY e,h a e];exact zL fun t _=>zZ _ _
  rfl
 rw[<-j,<-i,<-k,h3];exact zL fun u _=>zZ _ _
theorem zDk.sq{F:Nat->Nat->Int}(hd:det m X≠0)(h:∀a,a<m->∀b,b<C->F a b=qS m fun t=>X a t*G t b)(e:zDk k m C G):zDk k m C F:=
 zDk.of_mul (F:=fun a b=>det m X*G a b) (X:=fun s u=>det m (zDQ X s fun a=>idf u a)) (fun s i b d=>zZW (f:=fun a=>F a b) (g:=fun t=>G t b) (fun a c=>h a c b d) i) (e.scale hd)
def iB(h:Nat):Nat:=bB (432*h^5)
theorem zNW{P Q:Nat->Nat->Int}(hp:p<=3)(hs:s<=3)(z:C<=4)(h1:1<=h)(E:leM h p C P)(hQ:leM h s C Q)(w:HB C m G (zDI (yD p C P) (yD s C Q))):leM (iB h) m C G:=by
 have hA:leM h (p+s) C (zJA p P Q):=fun a e b j=>by
  unfold zJA;split;exact E a oM b j;exact hQ _ oM b j
 obtain⟨r,c,H,U,a5,o⟩:=zHc (R:=p+s) (C:=C) oM (zJA p P Q);obtain⟨mk,c',K,U',V',M⟩:=zHc (R:=p+s-r) (C:=p+s) oM (ent (genM (p+s-r) (p+s) (zOc r U)));obtain⟨hK,-⟩:=zI1.of o rfl M;obtain⟨r',g,y,W,Z,S,T,k,Y⟩:=zTd (N:=6) h1 (.inr z) (p+s) oM hA;have e2:=zHd o hK;have e3:=o.lat.rank S;have e4:r<=r':=zAC fun O=>by
  refine T ?_;have:=o.lat.min1;obtain⟨d,rfl⟩:=Nat.exists_eq_add_of_lt O;clear Z e2 e3 O k Y S T o M;induction d with
  |zero=>exact this
  |succ d ih=>exact ih this.down
 obtain rfl:g=mk:=oM;obtain⟨X,L⟩:=zD4 (p:=g) (F:=W) fun a e=>(hK.iff _).1 (k a e).2.2.2.1
 have hd:det g X≠0:=fun h0=>by
  have v:(0:Int)∣det g fun a b=>qS g fun t=>X a t*K t (y b):=zEw (F:=X) (Q:=fun t b=>K t (y b)) fun a4 a3=>by
   have:=zHZ (A:=X) (fun a=>a) a4 (fun a e=>e) a3;rw[show det g X=0 from h0]at this;exact this
  rw[zAs (G:=fun a b=>W a (y b)) fun a e b j=>(L a e _ (k b j).1).symm,zEM fun a e b a1 a0=>(k a e).2.2.1 _ (Y a b a0 a1)]at v;exact zMg (fun i hi=>(k i hi).2.1) (Int.zero_dvd.1 v)
 obtain⟨u,D⟩:∃u:Nat->Nat->Int,u=fun a b=>qS p fun t=>K a t*P t b:=⟨_,rfl⟩
 obtain⟨l,I⟩:∃l:Nat->Nat->Int,l=fun a b=>qS p fun t=>W a t*P t b:=⟨_,rfl⟩
 have x:=zJ4 (P:=P) (Q:=Q) hK;rw[<-D]at x;have J:∀a,a<g->∀b,b<C->l a b=qS g fun t=>X a t*u t b:=fun a e b j=>by
  rw[I,D];dsimp only;rw[<-zGM (X a) K fun t=>P t b];exact zL fun t V=>by rw[L a e t oM]
 obtain⟨a6,hY⟩:=zD4 (p:=m) (F:=G) (q:=g) (G:=u) fun a e=>(x _).2 ((w.iff _).2 (yD.row _ e))
 have a2:zDk m g C l:=(zDk.of_mul hY w.min1).sq hd J;refine w.bound (R:=g) (W:=l) (zD w.le_cols z) (qM dE (qG h1)) (fun a e b j=>?_) (fun a e=>(x _).1 ⟨X a,fun b j=>J a e b j⟩) a2;rw[I];have v:=zD9 (n:=p) (f:=fun t=>W a t*P t b) (B:=6*(24*h^4)*h) fun t V=>by
  rw[qU];exact qO ((k a e).2.2.2.2 t) (E t V b j)
 refine zD v ?_;have h3:h^5=h^4*h:=qE h 4;have h4:p*(6*(24*h^4)*h)<=3*(6*(24*h^4)*h):=zP _ hp;rw[h3];refine zD h4 (zBT ?_);grind
theorem zLZ{h1 h2:Nat}{A B:List (List Int)}(b:leM h1 R m (ent A))(c:leM h2 m C (ent B))(r:m<=5)(n:2*(h1+h2+5*(h1*h2))<=2^e)(o:e<=35000000000000):zGh A B R m C:=fun i d j f k g=>by
 have a:∀z:Int,z.natAbs<=h1+h2+5*(h1*h2)->Sm z:=fun z p=>zGf (zI p (zQk n o))
 have h:=b i d k g;have l:=c k g j f;have q:(ent A i k*ent B k j).natAbs<=h1*h2:=by rw[qU];exact qO h l
 refine⟨a _ oM,a _ oM,a _ oM,a _ ?_⟩;unfold zHU;rw[zIX];refine zD (zD9 (B:=h1*h2) fun t s=>?_) (zD (zP _ (show k<=5 by omega)) oM);rw[qU];exact qO (b i d t oM) (c t oM j f)
def qBm(t:TypeId)(n0:Nat)(cs:Array Value)(w:World)(v:Value):Prop:=∃b,v=ptq b 0/\n0<=b/\Blk w b t cs
theorem zZd{E:Nat}(c:2*M0<=2^e)(b:1<=E)(d:e*E<=32*zOQ):gx E M0<BD:=by
 rw[zSb];have f:=zLC (M:=M0) b;have a:(2*M0)^E<=(2^e)^E:=yU c _;rw[<-jT]at a;have g:=zFN d;have h:0<2^(e*E):=qG oM;omega
theorem zX5(h:n<=4):eE n n<=1000000:=by
 rcases(by omega:n=0∨n=1∨n=2∨n=3∨n=4)with rfl|rfl|rfl|rfl|rfl<;>decide
end Go.Proofs.YtkidaebmhlijlaaGreat
