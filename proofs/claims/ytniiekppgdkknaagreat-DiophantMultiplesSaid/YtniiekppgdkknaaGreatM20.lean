/- Joined. -/
import Derived.Lib.AppendZeros
import Derived.Lib.AppendZerosOnto
import Derived.Lib.Overlaps
import Derived.Laws.CopyRow
import Derived.Laws.Externs
import Derived.Test.YtniiekppgdkknaaGreatM08
import Derived.Test.YtniiekppgdkknaaGreatM13
import Derived.Test.YtniiekppgdkknaaGreatM17
set_option linter.unusedVariables false
set_option linter.unusedSimpArgs false
set_option linter.unusedSectionVars false
set_option maxHeartbeats 16000000
set_option maxRecDepth 100000
variable{cs:Array Go.Value}{e e0:Bool}{B C Cs Ct R a b base bw c cap g i k n o r:Nat}{κ ρ:Nat->Nat}{F:Nat->Nat->Int}{P Z:Nat->Prop}{t:Go.TypeId}{Ah v:Go.Value}{w w':Go.World}
namespace Go.Proofs.YtniiekppgdkknaaGreat
open Go.RowKit
abbrev zDb:TypeId:=146
theorem zDd.row{x:Bst}(h:zDd e Z w bw (slq g a cap) n Cs Ct x)(f:i<n):
  ∃b,w.cell? ⟨g,i,none⟩=some (slq b Cs Cs)/\yY w b (qQ Cs (x.s i))/\g<w.heap.size:=by
 obtain⟨o,d,-⟩:=h.wri;obtain⟨j,b,c,l,k,-,m,-⟩:=yH.at_ d (i:=i) (by rw[d.len];exact f);obtain rfl:g=j:=by injection c with c;injection c
 exact⟨b,m,d.rowAt f k,l⟩
theorem zDd.only{x:Bst}(h:zDd e Z w bw Ah n Cs Ct x)(c:zA5 [b] w w')(i:¬ Z b)(v:Blk w b 51 cs):zDd e Z w' bw Ah n Cs Ct x:=by
 have d:yY w b []:=⟨cs,v,fun k z y=>by simp at y⟩;unfold zDd at h ⊢
 split at h
 .rename_i p
  rw[zC p];obtain⟨j,l,m,r,s,o,a,g⟩:=h;exact⟨j,l,m,r,s,o.row c d dE,⟨a.s.only c (fun f=>i (g _ (.inl f))) d,a.t.only c (fun f=>i (g _ (.inr (.inl f)))) d,a.i.only c (fun f=>i (g _ (.inr (.inr f)))) d,a.st,a.si,a.ti,a.ast,a.asi,a.ati⟩,g⟩
 rename_i p;rw[zA p];obtain⟨t,j,l,m,o,a,g,u,q⟩:=h;exact⟨t,j,l,m,o.row c d dE,a.only c (fun f=>i (q _ f)) d,g.row c d,u.row c d,q⟩
theorem zNM{x y a c:Value}(d:Blk w b 51 #[a,c]):zA5 [b] w ((w.setCell ⟨b,0,none⟩ x).setCell ⟨b,1,none⟩ y):=
 ⟨yM (yM (zB 0 _) (zG _) _ _) (zG _) _ _,d.lext2 dE _ _,fun k _ e=>yG _ _ _ _ _ _ _ (by simpa using e)⟩
theorem jB.new{d e:World}(h:jB Z w d)(a:zA5 [b] d e)(g:w.heap.size<=b):jB Z w e:=
 ⟨h.bel.trans a.bel,h.lext.trans a.lext,fun k c f=>(a.old k (zI c h.bel.size) (by simp;omega)).trans (h.old k c f)⟩
theorem zR1(hB:BSd B){m:Nat}{x:Bst}(h:zDd e0 Z w bw Ah n Cs Ct x)(b9:okB B n Cs Ct x)(hr:r<n)(hm:m<n)(g2:r≠m)(hc:c<Cs)(h0:x.s r c≠0)
  (hn:n<=1000000) (e5:Cs<=1000000) (e6:Ct<=1000000) (hZ:∀b,Z b->b<w.heap.size)
  (ha:x.s m c%x.s r c=0->zGu B n Cs Ct x m r (-(x.s m c/x.s r c)))
  (hx:∀s t,Bez (x.s r c) (x.s m c) s t->zQD B n Cs Ct x r m s t (-(x.s m c/((Int.gcd (x.s r c) (x.s m c):Nat):Int))) (x.s r c/((Int.gcd (x.s r c) (x.s m c):Nat):Int))):
  CPq 138 #[Ah,.agg #[niq r,niq c],niq m,.agg (zDw bw)] w fun e w'=>(∃u,e= .returned u)/\jB Z w w'/\∃y,zNo x r m c y/\zDd e0 Z w' bw Ah n Cs Ct y:=by
 obtain⟨i4,c0,-⟩:=h.wri;obtain⟨so,sn,cap,rfl,s1,-⟩:=id (yH.rows c0);have z:n=sn:=by rw[<-s1];simp[yV]
 subst z;obtain⟨g,_,rfl,-⟩:=yH.at_ c0 (i:=r) (by rw[c0.len];exact hr);clear s1 c0 i4;have d4:=xgv b9;have c3:=xgv ha;have b5:=xgv hx;obtain⟨X,hX⟩:∃X,x.s r c=X:=⟨_,rfl⟩;obtain⟨Y,hY⟩:∃Y,x.s m c=Y:=⟨_,rfl⟩;have a1:=xgw hX;have a2:=xgw hY;have SX:qS (Smd X):=⟨by rw[<-hX];exact hB.smd _ (b9.1 r hr c hc)⟩;have SY:qS (Smd Y):=⟨by rw[<-hY];exact hB.smd _ (b9.1 m hm c hc)⟩;rw[hX]at h0 c3 b5;rw[hY]at c3 b5;have d:=xgv h;obtain⟨br,o1,r1,hg⟩:=h.row hr;obtain⟨bm,o2,r2,-⟩:=h.row hm;obtain⟨xn,xa,xl,xc,q1,q2,-,-,b0⟩:=r1.cell (qU hc);obtain⟨yn,ya,yl,yc,q3,q4,-,-,b2⟩:=r2.cell (qU hc);rw[hX]at b0;rw[hY]at b2;have t0:=r1.lt;have t1:=r2.lt;clear b9 ha hx hX hY h r1 r2;go_enter Tryz.func138,Tryz.ntmps138;go_upto_region 1 with(fail)
 refine zE ?_;intro W0 e8;obtain⟨J,f,j,r7⟩:=jW e8;have j:Blk W0 (w.heap.size+1) 144 (zDw bw):=j;have o:=jB.of Z J;have d:=xgv (d.out.I J);have o1:=qK o1 J;have o2:=qK o2 J;have q1:=qK q1 J;have q2:=qK q2 J;have q3:=qK q3 J;have q4:=qK q4 J;have b0:=b0.ext (lx J);have b2:=b2.ext (lx J);obtain⟨p1,p2,p3,p4⟩:=f.two;have l5:=f.lt;have lz:=J.size;clear e8;refine zBK [pcI 8 (X),pcI 16 (Y),pbA 17 51 2,pbA 18 51 2,pbS 19 17 51 2,pbS 20 18 51 2] ?_;refine sRd ?_;refine sRc (fun wS hI V l=>?_) (fun w2 hv=>?_)
 .have i6:=hI.cell q1
  have i7:=hI.cell q2;go_simp;exact⟨l _ _ (b0.ext hI.lext),zB _ _⟩
 obtain⟨h4,h6,rfl,m5⟩:=zNr hv;clear hv;refine sRd ?_;refine sRc (fun wS hI V l=>?_) (fun w1 hv=>?_)
 .have i6:=hI.cell q3
  have i7:=hI.cell q4;go_simp;exact⟨l _ _ (b2.ext hI.lext),zB _ _⟩
 obtain⟨h5,h7,rfl,m6⟩:=zNr hv;clear hv;refine sRa (cs:=#[.bool false,.slice none 0 0]) fun W o7=>?_
 refine sRa (cs:=#[.bool false,.slice none 0 0]) fun R o8=>?_
 refine sRs W (.agg #[h4,h6]) ?_ m5;refine sRs R (.agg #[h5,h7]) ?_ m6;refine sRb ?_;simp only[FA,FC,FN,ptr,List.nil_append,List.cons_append,Act.put,xgh,xgi,xgj];intro w3 a6 f3 f2 c1 c2 h2 m0;replace c1:Blk w3 W 51 #[h4,h6]:=c1 _ rfl;have g7:=f3;replace c2:Blk w3 R 51 #[h5,h7]:=c2 _ rfl;have g8:=f2;have h3:W≠R:=h2 (18,R) sI;clear h2 m0;have o:=o.trans (jB.of Z a6);have d:=xgv (d.out.I a6);have f:=f.I a6;have j:=j.I a6;have H:=zCa.mk c1 g7;have I:=zCa.mk c2 g8;have t9:=a6.size;clear o1 o2 q1 q2 q3 q4 b0 b2 p1 p2 p3 p4 c1 c2 g7 g8 f3 f2;obtain⟨n8,a8,l8,c8,p,L⟩:=id H;obtain⟨n9,a9,l9,c9,q,M⟩:=id I;obtain⟨C,z,D,E⟩:=p.two;have N:=q.two;go_wp2_with fail
 refine(zCU _ _ Y X w3 M.J L.J SY.out.sm SX.out.sm h0).mono ?_;rintro e w4 ⟨q0,r0,rfl,F,O,f4⟩;obtain⟨qn,qa,ql,qc,qx,rfl,Q⟩:=id F;obtain⟨rn,ra,rl,rc,rx,rfl,g1⟩:=id O;have d5:=xgw Q;have n2:=xgw g1;clear Q g1 C z D E N p q L M;go_upto_region 3 with(fail)
 refine zE ?_;intro W5 e9;obtain⟨c4,a3,d6,r8⟩:=jW e9;have P:=nx f4 c4;have o:=o.trans (jB.of Z P);have d:=xgv (d.out.I P);have f:=f.I P;have j:=j.I P;have H:=H.I P;have I:=I.I P;have F:=F.ext (lx c4);have O:=O.ext (lx c4);have v5:=P.size;clear e9 P;obtain⟨C,z,D,E⟩:=d6.two;go_wp2_with fail
 refine(zAn _ (Y%X) W5 O.J).mono ?_;rintro e w6 ⟨rfl,K⟩;have o:=o.trans (jB.of Z K);have d:=xgv (d.out.I K);have f:=f.I K;have j:=j.I K;have a3:=a3.I K;have H:=H.I K;have I:=I.I K;have F:=F.ext (lx K);have v6:=K.size;have v0:=f4.size;clear C z D E d6 O;by_cases a7:Y%X=0
 .rw[zDi a7]
  have x1:=j.three;obtain⟨p1,p2,p3,p4⟩:=f.two;have d1:=a3.two;have l5:=f.lt;have l7:=j.lt;have s0:=a3.lt;have l1:qS (Sm (Y/X)):=⟨SY.out.sm.mono (zBH Y X)⟩;go_upto_region 4 with(fail)
  refine yD 7 [pcI 6 (-(Y/X))] ?_;refine sRd ?_;refine sRc (fun wS hI V l=>by go_simp;exact ck l (zCN _ (Y/X) _ (F.ext hI.lext).J l1.out)) (fun m8 _=>?_);refine sRe ?_;intro w7 f7 K;have k4:yA w7 m8 (-(Y/X)):=K;have o:=o.trans (jB.of Z f7);have d:=xgv (d.out.I f7);have h8:=xgv (c3.out a7);clear x1 p1 p2 p3 p4 d1;go_wp2_with fail
  refine(zWv hB.bsm d.out d4.out hm hr (zL g2) k4 hn e5 e6 h8.out).mono ?_;rintro e w8 ⟨⟨uu,rfl⟩,l0,k2⟩;go_wp2;have hJ:zNo x r m c (x.add m r (-(Y/X))):=by
   rw[<-a1.out,<-a2.out];exact .add (by rw[a1.out,a2.out];exact a7)
  exact bodyPost_ret (results_none rfl _ _ _) rfl ⟨⟨_,rfl⟩,o.trans l0,_,hJ,k2⟩
 have f8:=zFq a7;obtain⟨k0,k5⟩:∃k0,zAB (Y%X) 0=k0:=⟨_,rfl⟩;rw[k5]at f8 ⊢
 have o9:(k0==0)=false:=by simpa using f8
 obtain⟨G,l⟩:∃G:Int,((Int.gcd X Y:Nat):Int)=G:=⟨_,rfl⟩;have e7:G≠0:=by
  rw[<-l];intro hh;have:Int.gcd X Y=0:=oM;exact h0 (Int.eq_zero_of_gcd_eq_zero_left this)
 have SG:qS (Smd G):=⟨SX.out.mono (by rw[<-l];exact zB6 oM (by have:=zBN X Y;exact Int.natAbs_dvd_natAbs.2 this))⟩;have HG:=xgw l;rw[l]at b5;clear l a3 F;have t3:=H.lt;have t4:=I.lt;obtain⟨n8,a8,l8,c8,p,L⟩:=id H;obtain⟨n9,a9,l9,c9,q,M⟩:=id I;obtain⟨C,z,D,E⟩:=p.two;have N:=q.two;go_wp2_with fail
 refine(zT9 _ _ X Y w6 L M SX.out SY.out).mono ?_;rintro e w7 ⟨v1,v2,v3,s,t,rfl,b8,d0,d2,f5,g4,g6,a5⟩;have d3:qS (Bez X Y s t):=⟨⟨f5,g4,g6⟩⟩;have h9:=xgv (b5.out s t d3.out);rw[HG.out]at b8;obtain⟨gn,ga,gl,gc,gx,rfl,f9⟩:=id b8;obtain⟨sn,sa,sl,w0,sx,rfl,g3⟩:=id d0;obtain⟨tn,ta,tl,tc,tx,rfl,g5⟩:=id d2;have n1:=xgw f9;have n3:=xgw g3;have n4:=xgw g5;clear f9 g3 g5 f5 g4 g6 C z D E N p q L M;go_upto_region 6 with(fail)
 refine zE ?_;intro W8 f0;obtain⟨b7,d7,d8,d9,r9⟩:=zBB f0;have S:=nx a5 b7;have o:=o.trans (jB.of Z S);have d:=xgv (d.out.I S);have f:=f.I S;have j:=j.I S;have H:=H.I S;have I:=I.I S;have a0:=zCa.mk d7 (b8.ext (lx b7));have T:=zCa.mk d8 (d0.ext (lx b7));have U:=zCa.mk d9 (d2.ext (lx b7));have v8:=S.size;have v7:=a5.size;clear f0 d7 d8 d9 b8 d0 d2;obtain⟨n8,a8,l8,c8,p,L⟩:=id H;obtain⟨l6,i3,l4,i5,b4,b3⟩:=id a0;obtain⟨C,z,D,E⟩:=p.two;have N:=b4.two;have s8:=p.lt;go_wp2_with fail
 refine(zCU _ _ X G W8 L.J b3.J SX.out.sm SG.out.sm e7).mono ?_;rintro e w9 ⟨q0,r0,rfl,F,O,k⟩;obtain⟨qn,qa,ql,qc,qx,rfl,Q⟩:=id F;have d5:=xgw Q;clear Q C z D E N b4 b3;have p:=p.I k;obtain⟨C,z,D,E⟩:=p.two;go_upto_region 7 with(fail)
 refine zE ?_;intro a4 c5;have a:zA5 [W] w9 a4:=by rw[c5.out];exact zNM p
 have c7:¬ Z W:=fun h=>by have:=hZ _ h;omega
 have o:=(o.trans (jB.of Z k)).new a oM;have d:=xgv ((d.out.I k).only a c7 p);have H:zCa a4 W (X/G):=by rw[c5.out];exact zCa.put p F
 have f:Blk a4 w.heap.size zDb #[niq r,niq c]:=(a.old _ (f.I k).lt (by simp;omega)).trans (f.I k);have j:Blk a4 (w.heap.size+1) 144 (zDw bw):=(a.old _ (j.I k).lt (by simp;omega)).trans (j.I k);have I:=(I.I k).old (a.old _ (I.I k).lt (by simpa using zL h3)) a.lext;have a0:=(a0.I k).old (a.old _ (a0.I k).lt (by simp;omega)) a.lext;have T:=(T.I k).old (a.old _ (T.I k).lt (by simp;omega)) a.lext;have U:=(U.I k).old (a.old _ (U.I k).lt (by simp;omega)) a.lext;have t7:=a.bel.size;have v9:=k.size;clear c5 a C z D E p F O L;obtain⟨n9,a9,l9,c9,q,M⟩:=id I;obtain⟨l6,i3,l4,i5,b4,b3⟩:=id a0;obtain⟨C,z,D,E⟩:=q.two;have N:=b4.two;have s9:=q.lt;go_wp2_with fail
 refine(zCU _ _ Y G a4 M.J b3.J SY.out.sm SG.out.sm e7).mono ?_;rintro e m9 ⟨q0,r0,rfl,F,O,A⟩;obtain⟨qn,qa,ql,qc,qx,rfl,Q⟩:=id F;have d5:=xgw Q;clear Q C z D E N b4 b3;have q:=q.I A;obtain⟨C,z,D,E⟩:=q.two;go_upto_region 8 with(fail)
 refine zE ?_;intro b6 c6;have a:zA5 [R] m9 b6:=by rw[c6.out];exact zNM q
 have c7:¬ Z R:=fun h=>by have:=hZ _ h;omega
 have o:=(o.trans (jB.of Z A)).new a oM;have d:=xgv ((d.out.I A).only a c7 q);have I:zCa b6 R (Y/G):=by rw[c6.out];exact zCa.put q F
 have f:Blk b6 w.heap.size zDb #[niq r,niq c]:=(a.old _ (f.I A).lt (by simp;omega)).trans (f.I A);have j:Blk b6 (w.heap.size+1) 144 (zDw bw):=(a.old _ (j.I A).lt (by simp;omega)).trans (j.I A);have H:=(H.I A).old (a.old _ (H.I A).lt (by simpa using h3)) a.lext;have T:=(T.I A).old (a.old _ (T.I A).lt (by simp;omega)) a.lext;have U:=(U.I A).old (a.old _ (U.I A).lt (by simp;omega)) a.lext;clear c6 a C z D E q F O M a0;have i0:qS (Sm (Y/G)):=⟨SY.out.sm.mono (zBH Y G)⟩;obtain⟨n8,a8,l8,c8,p,L⟩:=id H;obtain⟨n9,a9,l9,c9,q,M⟩:=id I;obtain⟨t5,n5,s2,o3,g9,l2⟩:=id T;obtain⟨t6,n6,s4,o4,h1,l3⟩:=id U;obtain⟨C,z,D,E⟩:=p.two;have N:=q.two;have u1:=g9.two;obtain⟨v1,v2,v3,v4⟩:=h1.two;have x1:=j.three;obtain⟨p1,p2,p3,p4⟩:=f.two;have l5:=f.lt;have l7:=j.lt;have s6:=p.lt;have s7:=q.lt;have s3:=g9.lt;have s5:=h1.lt;have r4:=zFM s t;have r5:=zFM (-(Y/G)) (X/G);have r6:=zJu s t (-(Y/G)) (X/G);refine yD 13 [pcD 7 [] (M2V s t),pcI 9 (-(Y/G)),pcD 11 [9] (M2V (-(Y/G)) (X/G)),pcD 12 [7,11] (fun w v=>M4V w v s t (-(Y/G)) (X/G))] ?_;refine sRd ?_;refine sRc (fun wS hI V l=>?_) (fun x0 _=>?_)
 .skip
  go_simp;exact⟨l _ _ ⟨_,_,_,_,_,_,_,_,rfl,l2.ext hI.lext,l3.ext hI.lext⟩,zB _ _⟩
 refine sRd ?_;refine sRc (fun wS hI V l=>by go_simp;exact ck l (zCN _ (Y/G) _ (M.ext hI.lext).J i0.out)) (fun x2 _=>?_);refine sRd ?_;refine sRc (fun wS hI k V l=>?_) (fun w5 _=>?_)
 .obtain⟨n7,o0,o5,o6,x4,rfl,x5⟩:=id k
  go_simp;exact⟨l _ _ ⟨_,_,_,_,_,_,_,_,rfl,k,L.ext hI.lext⟩,zB _ _⟩
 refine sRc (fun wS hI a5 A V l=>?_) (fun m7 _=>?_)
 .obtain⟨p0,p1,p2,p3,p4,p5,p6,p7,rfl,p8,p9⟩:=a5
  obtain⟨q0,q1,q2,q3,q4,q5,q6,q7,rfl,q8,q9⟩:=A;go_simp;exact⟨l _ _ ⟨_,_,_,_,_,_,_,_,_,_,_,_,_,_,_,_,rfl,p8,p9,q8,q9⟩,zB _ _⟩
 refine sRe ?_;intro n0 f6 a5 k A k3;have k6:M4V n0 m7 s t (-(Y/G)) (X/G):=k3;have o:=o.trans (jB.of Z f6);have d:=xgv (d.out.I f6);clear C z D E N u1 v1 v2 v3 v4 x1 p1 p2 p3 p4;go_wp2_with fail
 refine(zXV hB.bsm d.out d4.out hr hm g2 k6 hn e5 e6 h9.out).mono ?_;rintro e x3 ⟨⟨uu,rfl⟩,k7,k1⟩;go_wp2;have hJ:zNo x r m c (x.mix r m s t (-(Y/G)) (X/G)):=by
  rw[<-HG.out,<-a1.out,<-a2.out];exact .mix s t (by rw[a1.out,a2.out];exact a7) (by rw[a1.out,a2.out];exact d3.out)
 exact bodyPost_end (results_none rfl _ _ _) rfl ⟨⟨_,rfl⟩,o.trans k7,_,hJ,k1⟩
def zLs(w:World)(v:Value)(r:Nat)(ρ κ:Nat->Nat):Prop:=
 ∃ao cap,v= .slice ao r cap/\r<=cap/\cap<=9223372036854775807/\(0<r->∃b cs,ao=some ⟨b,0,none⟩/\Blk w b zDb cs/\∀k,k<r->cs[k*2]?=some (niq (ρ k))/\cs[k*2+1]?=some (niq (κ k)))
theorem zLs.old(h:zLs w v r ρ κ)(i:∀b,v.ownBlock=some b->b<w.heap.size->w'.heap[b]?=w.heap[b]?):zLs w' v r ρ κ:=by
 obtain⟨c,cap,rfl,d,e,f⟩:=h;refine⟨c,cap,rfl,d,e,fun j=>?_⟩;obtain⟨b,cs,rfl,a,g⟩:=f j;exact⟨b,cs,rfl,(i b rfl a.lt).trans a,g⟩
theorem zLs.I(h:zLs w v r ρ κ)(a:BWq w w'):zLs w' v r ρ κ:=h.old fun b _ c=>a.block b c
theorem zLs.onlyZ(h:zLs w v r ρ κ)(d:jB Z w w')(e:∀b,v.ownBlock=some b->¬ Z b):zLs w' v r ρ κ:=h.old fun b a c=>d.old b c (e b a)
theorem zLs.cell(h:zLs w (.slice (some ⟨b,o,none⟩) r cap) r ρ κ)(n:k<r):o=0/\b<w.heap.size/\w.cell? ⟨b,k*2,none⟩=some (niq (ρ k))/\w.cell? ⟨b,k*2+1,none⟩=some (niq (κ k)):=by
 obtain⟨p,s,e,v,x,l⟩:=h;obtain⟨q,cs,g,c,m⟩:=l oM;injection e with a t u
 rw[g]at a;injection a with a
 injection a with i j
 subst i;obtain⟨d,f⟩:=m k n;exact⟨j,c.lt,c.cell _ ▸ d,c.cell _ ▸ f⟩
def zIR(B n Cs Ct:Nat)(ρ κ:Nat->Nat)(i:Nat):Nat->Nat->Bst->Option Bst
 |0,_,x=>some x
 |m+1,j,x=>
  if x.s (ρ i) (κ j)=0 then zIR B n Cs Ct ρ κ i m (j+1) x
  else if x.s (ρ j) (κ j)=0 then none
  else if x.s (ρ i) (κ j)/x.s (ρ j) (κ j)=0 then zIR B n Cs Ct ρ κ i m (j+1) x
  else if zGu B n Cs Ct x (ρ i) (ρ j) (-(x.s (ρ i) (κ j)/x.s (ρ j) (κ j)))then zIR B n Cs Ct ρ κ i m (j+1) (x.add (ρ i) (ρ j) (-(x.s (ρ i) (κ j)/x.s (ρ j) (κ j))))
  else none
def zK6(B n Cs Ct:Nat)(ρ κ:Nat->Nat)(r:Nat):Nat->Bst->Option Bst
 |0,x=>some x
 |i+1,x=>(zIR B n Cs Ct ρ κ i (r-(i+1)) (i+1) x).bind (zK6 B n Cs Ct ρ κ r i)
theorem zFu(hB:BSd B){pv:Value}{x y:Bst}(h:zDd e0 Z w bw Ah n Cs Ct x)(V:okB B n Cs Ct x)(hp:zLs w pv r ρ κ)(d0:∀b,pv.ownBlock=some b->¬ Z b)
  (d7:∀k,k<r->ρ k<n) (c5:∀i j,i<j->j<r->ρ i≠ρ j) (d6:∀k,k<r->κ k<Cs) (hn:n<=1000000) (f6:Cs<=1000000) (f7:Ct<=1000000) (i5:r<=n) (hZ:∀b,Z b->b<w.heap.size) (g5:0<n)
  (hy:zK6 B n Cs Ct ρ κ r r x=some y):
  CPq 140 #[Ah,pv,.agg (zDw bw)] w fun e w'=>(∃u,e= .returned u)/\jB Z w w'/\zDd e0 Z w' bw Ah n Cs Ct y/\okB B n Cs Ct y:=by
 obtain⟨f5,a6,-⟩:=h.wri;obtain⟨so,sn,e5,rfl,s1,-⟩:=id (yH.rows a6);have e2:n=sn:=by rw[<-s1];simp[yV]
 subst e2;obtain⟨g,_,rfl,-⟩:=yH.at_ a6 (i:=0) (by rw[a6.len];exact g5);obtain⟨ao,cap,rfl,i3,i4,-⟩:=id hp;have HY:=xgv (And.intro V hy);have l:=xgv hp;have f4:=xgv d0;have b9:=xgv d7;have f0:=xgv c5;have f1:=xgv d6;have g6:0<r->∃pb,ao=some ⟨pb,0,none⟩:=fun W=>by
  obtain⟨h1,h2,e,-,-,h4⟩:=hp;obtain⟨b,cs,e1,-⟩:=h4 W;injection e with e2
  exact⟨b,e2.trans e1⟩
 clear s1 a6 f5 V hy hp d0 d7 c5 d6;go_enter Tryz.func140,Tryz.ntmps140;go_upto_region 1 with(fail)
 refine zE ?_;intro W0 c0;obtain⟨a9,f,G⟩:=qL c0;have f:Blk W0 w.heap.size 144 (zDw bw):=f;have o:=jB.of Z a9;have m:=h.I a9;have l:=xgv (l.out.I a9);clear c0 h;go_wp2;go_loopw [6] (fun tv wr=>∃(i:Nat) (a0:Int) (O:Bst),tv=niq a0/\a0=(i:Int)-1/\i<=r/\jB Z w wr/\Blk wr w.heap.size 144 (zDw bw)/\qS (zLs wr (.slice ao r cap) r ρ κ)/\zDd e0 Z wr bw (slq g n e5) n Cs Ct O/\qS (okB B n Cs Ct O/\zK6 B n Cs Ct ρ κ r i O=some y)) (fun tv _=>(intOf tv+1).toNat)
 case atStart=>exact⟨r,(r:Int)-1,x,by simp,rfl,xgf _,o,f,l,m,HY⟩
 obtain⟨i,a0,O,rfl,d5,hi,o,f,l,m,t⟩:=hrel;cases i with
 |zero=>
  obtain rfl:a0=-1:=oM;clear d5;have a:=t.out.2;unfold zK6 at a;injection a with a
  have q:=xgv a;clear a;go_wp2;exact bodyPost_end (results_none rfl _ _ _) rfl ⟨⟨_,rfl⟩,o,by rw[<-q.out];exact m,by rw[<-q.out];exact t.out.1⟩
 | succ i=>
  obtain rfl:a0=(i:Int):=oM;clear d5;have a:=t.out.2;unfold zK6 at a;rw[Option.bind_eq_some_iff]at a;obtain⟨y1,h4,h5⟩:=a;have HR:=xgv h5;have Q:=xgv (And.intro t.out.1 h4);clear h4 h5 t;obtain⟨pb,rfl⟩:=g6 oM;obtain⟨-,d9,k1,-⟩:=l.out.cell (k:=i) oM;have i8:IntKind.i64.wrap ((i:Int)+1)=(i:Int)+1:=yB _ oM;obtain⟨M,hM⟩:∃M,r-(i+1)=M:=⟨_,rfl⟩;by_cases h8:cap=i+1
  .have f8:M=0:=oM
   have c6:(i:Int)+1<=(r:Int):=oM;subst f8;go_wp2;try rw[hM]
   go_loopw [30] (fun uv wt=>uv=niq 0/\wt=wr) (fun _ _=>0)
   case atStart=>exact⟨rfl,rfl⟩
   rename World=>wt
   obtain⟨rfl,b6⟩:=hrel;have b6:=b6.symm;subst b6;have a:=Q.out.2;rw[hM]at a;unfold zIR at a;injection a with a
   have q:=xgv a;clear a;go_wp2;go_roundw
   case rel=>exact⟨i,(i:Int)-1,O,by simp,rfl,oM,o,f,l,m,⟨⟨Q.out.1,by rw[q.out];exact HR.out⟩⟩⟩
   case measure=>simp[intOf]
  go_wp2;try rw[hM]
  go_loopw [30] (fun uv wt=>∃(u:Nat) (d:Bst),uv=niq u/\u<=M/\jB Z w wt/\Blk wt w.heap.size 144 (zDw bw)/\qS (zLs wt (slq pb r cap) r ρ κ)/\zDd e0 Z wt bw (slq g n e5) n Cs Ct d/\qS (okB B n Cs Ct d/\zIR B n Cs Ct ρ κ i (M-u) (i+1+u) d=some y1)) (fun uv _=>M-(intOf uv).toNat)
  case atStart=>exact⟨0,O,rfl,oM,o,f,l,m,⟨⟨Q.out.1,by rw[<-hM];exact Q.out.2⟩⟩⟩
  rename World=>wt
  clear o f l m Q k1 d9;obtain⟨u,d,rfl,i7,o,f,l,m,t⟩:=hrel;by_cases i0:u<M
  .obtain⟨j,hj⟩:∃j,j=i+1+u:=⟨_,rfl⟩
   obtain⟨b7,hm⟩:∃b7,M-u=b7+1:=⟨M-u-1,oM⟩;have b4:M-(u+1)=b7:=oM;have b2:i+1+(u+1)=j+1:=oM;have a:=t.out.2;rw[hm,<-hj]at a;unfold zIR at a;have E:=xgv t.out.1;have q:=xgv a;obtain⟨-,d9,C,D⟩:=l.out.cell (k:=j) oM;have c7:j*2=(i+1)*2+u*2:=oM;rw[c7]at C D;have b3:j<r:=oM;have c6:i<r:=oM;have J:=f1.out j b3;have U:=b9.out i c6;have a5:=b9.out j b3;have b5:=f0.out i j oM b3;obtain⟨p,d2⟩:∃p,ρ i=p:=⟨_,rfl⟩;obtain⟨s,d3⟩:∃s,ρ j=s:=⟨_,rfl⟩;obtain⟨c,hc⟩:∃c,κ j=c:=⟨_,rfl⟩;rw[d2]at U b5 q ⊢
   rw[d3]at a5 b5 q C;rw[hc]at J q D;clear a t hj c7 d2 d3 hc;go_upto_region 8 with(fail)
   refine zE ?_;intro W7 c2;obtain⟨a2,z,i6⟩:=qL c2;have z:Blk W7 wt.heap.size zDb #[niq s,niq c]:=z;have o:=o.trans (jB.of Z a2);have f:=f.I a2;have l:=xgv (l.out.I a2);have m:=m.I a2;have k2:=o.bel.size;have k3:=f.lt;clear c2 C D;obtain⟨bi,o1,L,lg⟩:=m.row (i:=p) U;obtain⟨xs,xa,xl,xc,v1,v2,-,-,t⟩:=L.cell (qU J);obtain⟨C,D,X,Y⟩:=z.two;have l1:=L.lt;have l9:=z.lt;refine yD 8 [] ?_;refine sRd ?_;refine sRf ?_;intro w8 c4;go_wp2_with fail
   refine(zAn _ (d.s p c) _ (t.ext (lx c4)).J).mono ?_;rintro e w1 ⟨rfl,f9⟩;have S:=nx c4 f9;have m:=m.I S;have f:=f.I S;have z:=z.I S;have l:=xgv (l.out.I S);have o:=o.trans (jB.of Z S);have a:=q.out;clear o1 L v1 v2 t q C D X Y;by_cases G:d.s p c=0
   .rw[zC G]at a
    rw[zDi G];have q:=xgv a;clear a G;go_wp2;go_roundw
    case rel=>exact⟨u+1,d,by simp,oM,o,f,l,m,⟨⟨E.out,by rw[b4,b2];exact q.out⟩⟩⟩
    case measure=>exact meq
   rw[zA G]at a;by_cases a4:d.s s c=0
   .rw[zC a4]at a
    cases a
   rw[zA a4]at a;have g3:=zFq G;obtain⟨k0,c8⟩:∃k0,zAB (d.s p c) 0=k0:=⟨_,rfl⟩;rw[c8]at g3 ⊢
   have f2:=xgv a4;have q:=xgv a;have SX:qS (Sm (d.s p c)):=⟨hB.bsm.sm _ (E.out.1 p U c J)⟩;have SY:qS (Sm (d.s s c)):=⟨hB.bsm.sm _ (E.out.1 s a5 c J)⟩;clear a a4 G c8;obtain⟨bi,o1,L,lg⟩:=m.row (i:=p) U;obtain⟨bk,o2,d4,-⟩:=m.row (i:=s) a5;obtain⟨xs,xa,xl,xc,v1,v2,-,-,t⟩:=L.cell (qU J);obtain⟨ys,ya,yl,yc,r1,r2,-,-,hy⟩:=d4.cell (qU J);obtain⟨C,D,X,Y⟩:=z.two;have h9:=zR3 (d.s p c) (d.s s c);have l9:=z.lt;have l5:=f.lt;have l1:=L.lt;have l2:=d4.lt;go_upto_region 9 with(fail)
   refine zBK [pcD 17 [] (DMV (d.s p c) (d.s s c)),pcD 18 [17] (DMV (d.s p c) (d.s s c)),pcD 19 [18] (fun w v=>yA w v (d.s p c/d.s s c)),pcD 20 [18] (fun w v=>yA w v (d.s p c%d.s s c)),pcD 21 [18] (fun _ v=>v=niq 0),pbA 22 51 2,pbA 23 51 2,pbS 24 22 51 2,pbS 25 23 51 2] ?_;refine sRd ?_;refine sRc (fun wS hI P A=>by go_simp;exact ck A (zL4 _ _ (d.s p c) (d.s s c) _ (t.ext hI.lext).J (hy.ext hI.lext).J SX.out SY.out f2.out)) (fun k6 _=>?_);refine sRc (fun wS hI c3 P A=>?_) (fun k7 _=>?_)
   .go_simp
    exact⟨A _ _ c3,zB _ _⟩
   refine sRc (fun wS hI I P A=>?_) (fun k8 H=>?_)
   .obtain⟨e4,r,rfl,hq,W⟩:=I
    go_simp;exact⟨A _ _ hq,zB _ _⟩
   obtain⟨e6,e8,rfl,g9⟩:=zNr H;clear H;refine sRc (fun wS hI I P A=>?_) (fun k9 H=>?_)
   .obtain⟨e4,r,rfl,hq,W⟩:=I
    go_simp;exact⟨A _ _ W,zB _ _⟩
   obtain⟨e7,e9,rfl,h0⟩:=zNr H;clear H;refine sRc (fun wS hI I P A=>?_) (fun _ H=>?_)
   .obtain⟨e4,r,rfl,hq,W⟩:=I
    go_simp;exact⟨A _ _ rfl,zB _ _⟩
   obtain⟨_,-,rfl⟩:=H;refine sRa (cs:=#[.bool false,.slice none 0 0]) fun a8 h6=>?_
   refine sRa (cs:=#[.bool false,.slice none 0 0]) fun a1 h7=>?_
   refine sRs a8 (.agg #[e6,e8]) ?_ g9;refine sRs a1 (.agg #[e7,e9]) ?_ h0;refine sRd ?_;refine sRb ?_;simp only[FA,FC,FN,ptr,List.nil_append,List.cons_append,Act.put,xgh,xgi,xgj];intro w9 T c3 I g1 g2 _ N d8 e3 g8;replace N:Blk w9 a8 51 #[e6,e8]:=N _ rfl;have a7:=g1;replace d8:Blk w9 a1 51 #[e7,e9]:=d8 _ rfl;have i9:=g2;have k4:a8≠a1:=e3 (23,a1) sI;clear e3 g8;obtain⟨qs,qa,ql,qc,rfl,rfl⟩:=a7.two;have m:=m.I T;have f:=f.I T;have z:=z.I T;have l:=xgv (l.out.I T);have o:=o.trans (jB.of Z T);have lq:=N.lt;clear o1 o2 v1 v2 r1 r2 C D X Y;have d1:=N.two;go_wp2_with fail
   refine(zAn _ (d.s p c/d.s s c) _ a7.J).mono ?_;rintro e l4 ⟨rfl,F⟩;have m:=m.I F;have f:=f.I F;have z:=z.I F;have l:=xgv (l.out.I F);have o:=o.trans (jB.of Z F);have kq:=N.I F;have iq:=a7.ext (lx F);have a:=q.out;clear d1 q N a7;by_cases K:d.s p c/d.s s c=0
   .rw[zC K]at a
    rw[zDi K];have q:=xgv a;clear a K;go_wp2;go_roundw
    case rel=>exact⟨u+1,d,by simp,oM,o,f,l,m,⟨⟨E.out,by rw[b4,b2];exact q.out⟩⟩⟩
    case measure=>exact meq
   rw[zA K]at a;by_cases R:zGu B n Cs Ct d p s (-(d.s p c/d.s s c))
   .rw[zC R]at a
    have g4:=zFq K;obtain⟨k1,c9⟩:∃k1,zAB (d.s p c/d.s s c) 0=k1:=⟨_,rfl⟩;rw[c9]at g4 ⊢
    have q:=xgv a;have b8:=xgv R;have SQ:qS (Sm (d.s p c/d.s s c)):=⟨hB.bsm.sm _ (by have:=R.1;rwa[qO]at this)⟩;clear a R K c9;have c1:=f.three;have d1:=kq.two;obtain⟨C,D,X,Y⟩:=z.two;have lq:=kq.lt;have l0:=f.lt;have l9:=z.lt;go_upto_region 11 with(fail)
    refine yD 7 [pcI 6 (-(d.s p c/d.s s c))] ?_;refine sRd ?_;refine sRc (fun wS hI P A=>by go_simp;exact ck A (zCN _ (d.s p c/d.s s c) _ (iq.ext hI.lext).J SQ.out)) (fun l3 _=>?_);refine sRe ?_;intro l6 a3 g7;have m:=m.I a3;have f:=f.I a3;have l:=xgv (l.out.I a3);have o:=o.trans (jB.of Z a3);clear c1 d1 C D X Y;go_wp2_with fail
    refine(zWv hB.bsm m E.out U a5 b5 g7 hn f6 f7 b8.out).mono ?_;rintro e l7 ⟨⟨k5,rfl⟩,b0,m⟩;have V:=b8.out.ok;have o:=o.trans b0;have f:=b0.blk f (fun hh=>by have:=hZ _ hh;omega);have l:=xgv (l.out.onlyZ b0 f4.out);have f3:=xgv V;clear V;go_wp2;go_roundw
    case rel=>exact⟨u+1,_,by simp,oM,o,f,l,m,⟨⟨f3.out,by rw[b4,b2];exact q.out⟩⟩⟩
    case measure=>exact meq
   rw[zA R]at a;cases a
  obtain rfl:u=M:=oM;have a:=t.out.2;rw[zAu]at a;unfold zIR at a;injection a with a
  have q:=xgv a;have E:=xgv t.out.1;clear a t;go_wp2;go_roundw
  case rel=>exact⟨i,(i:Int)-1,d,by simp,rfl,oM,o,f,l,m,⟨⟨E.out,by rw[q.out];exact HR.out⟩⟩⟩
  case measure=>simp[intOf]
theorem Tryz.infoPiv:(Tryz.prog.info? zDb).map (fun i=>(i.zero,i.size,i.bytes))=some (some (.agg #[niq 0,niq 0]),2,16):=by kernel_rfl
def pc(L:List (Nat × Nat)):List Value:=L.flatMap fun p=>[niq (p.1:Nat),niq (p.2:Nat)]
theorem zQM:pc []= []:=rfl
theorem zGw(p:Nat × Nat)(L:List (Nat × Nat)):pc (p::L)=niq (p.1:Nat)::niq (p.2:Nat)::pc L:=rfl
theorem zQK(L M:List (Nat × Nat)):pc (L++M)=pc L++pc M:=by unfold pc;rw[List.flatMap_append]
theorem zID(L:List (Nat × Nat)):(pc L).length=L.length*2:=by
 induction L with
 |nil=>rfl
 |cons p L a=>rw[zGw];simp[a];omega
theorem zQN(L:List (Nat × Nat))(k:Nat):(pc L).take (k*2)=pc (L.take k):=by
 induction L generalizing k with
 |nil=>simp[zQM]
 |cons p L a=>
  cases k with
  |zero=>simp[zQM]
  |succ k=>rw[zCC,zGw,zGw,show(k+1)*2=k*2+1+1 by omega,zCC,zCC,a]
theorem zQL(L:List (Nat × Nat))(k:Nat):(pc L).drop (k*2)=pc (L.drop k):=by
 induction L generalizing k with
 |nil=>simp[zQM]
 |cons p L a=>
  cases k with
  |zero=>simp
  |succ k=>rw[xgl,zGw,show(k+1)*2=k*2+1+1 by omega,xgl,xgl,a]
theorem zVn{L:List (Nat × Nat)}{p:Nat × Nat}(h:L[k]?=some p):(pc L)[k*2]?=some (niq (p.1:Nat))/\(pc L)[k*2+1]?=some (niq (p.2:Nat)):=by
 induction L generalizing k with
 |nil=>simp at h
 | cons q L c=>
  cases k with
  |zero=>simp at h;subst h;exact⟨rfl,rfl⟩
  |succ k=>
   rw[List.getElem?_cons_succ]at h;obtain⟨a,b⟩:=c h;rw[zGw,show(k+1)*2=k*2+1+1 by omega];exact⟨a,b⟩
theorem zNR(L:List (Nat × Nat)):∀u∈pc L,u.oneCell'=true:=by
 induction L with
 |nil=>intro u hu;cases hu
 |cons p L a=>
  intro u hu;rw[zGw]at hu;rcases List.mem_cons.1 hu with rfl|hu
  rfl;rcases List.mem_cons.1 hu with rfl|hu
  rfl;exact a u hu
def zHA(w:World)(base:Nat)(v:Value)(L:List (Nat × Nat)):Prop:=w.ownsRow base zDb 2 v L.length (pc L)
theorem zHA.piv{L:List (Nat × Nat)}(h:zHA w base v L):zLs w v L.length (fun k=>(L.getD k (0,0)).1) (fun k=>(L.getD k (0,0)).2):=by
 rcases h.2 with⟨rfl,e⟩|⟨g,cap,c,rfl,o,j,l,m,p,n⟩
 exact⟨none,0,by rw[e],oM,oM,fun h=>oM⟩;refine⟨_,cap,rfl,l,m,fun _=>⟨g,c,rfl,j,fun k i=>?_⟩⟩;have d:=xga i;obtain⟨a,b⟩:=zVn d;have f:L.getD k (0,0)=L[k]:=by rw[xgb,d];rfl
 show c[k*2]?=some (Value.int .i64 (((L.getD k (0,0)).1:Nat):Int))/\c[k*2+1]?=some (Value.int .i64 (((L.getD k (0,0)).2:Nat):Int));rw[f];rw[<-n,List.getElem?_take]at a b;constructor
 .split at a
  .simpa using a
  cases a
 split at b;simpa using b;cases b
theorem zHA.I{L:List (Nat × Nat)}(h:zHA w base v L)(a:BWq w w'):zHA w' base v L:=
 World.ownsRow.kept h (row:=none) ⟨a.os,a.tape,a.output,a.size,fun k b _=>a.block k b⟩ (by cases c:v.ownBlock<;>simp)
theorem zHA.own{L:List (Nat × Nat)}(h:zHA w base v L):∀g,v.ownBlock=some g->base<=g/\g<w.heap.size:=zBz h
theorem zHA.old{L:List (Nat × Nat)}(h:zHA w base v L)(d:∀g,v.ownBlock=some g->w'.heap[g]?=w.heap[g]?):zHA w' base v L:=by
 obtain⟨c,a⟩:=h;refine⟨c,?_⟩;rcases a with a|⟨g,cap,b,rfl,e,f,r⟩
 exact .inl a;exact .inr ⟨g,cap,b,rfl,e,(d g rfl).trans f,r⟩
theorem zHA.nil(w:World)(base:Nat):zHA w base (.slice none 0 0) []:=⟨rfl,.inl ⟨rfl,rfl⟩⟩
theorem zFV{w:World}{ops:Array Oper}{rest:List Oper}{o:Oper}{a:Act}{Q:Exit->Act->World->Prop}(e:o.guard=none)(d s:Operand)(t b:TypeId)
  (f:o.op= .call {callee:=.builtin .copy,args:=#[d,s],argTypes:=#[t,b]}) (v u:Value) (hd:a.eval d=v) (i:a.eval s=u) {c:Value} {w':World}
  (g:(Builtin.copy_ #[t,b] o.type #[v,u]).run Tryz.prog w= .ok c w') (h:wpList Tryz.prog ops Q rest (a.put o.dst c) w'):wpList Tryz.prog ops Q (o::rest) a w:=by
 refine wpList_plain e fun K hK=>?_
 unfold Oper.wp execOp;simp only[f,resolve,invoke,builtin,Sem.run_bind,Sem.run_pure,Result.andThen_ok,List.map_toArray,List.map_cons,List.map_nil,hd,i,g];exact hK _ _ h
theorem zGV(w:World)(u:TypeId)(g o c e:Nat)(a:Addr)(d s:Nat)(b:Array Value)(t:TypeId)(cs:List Value)
  (i:w.heap[g]?=some (.cells b t (0,0))) (m:cs.length=Nat.min d c*2)
  (n:∀j v,cs[j]?=some v->w.cell? (a.add j)=some v) (h:o+cs.length<=b.size) (f:∀v∈cs,v.oneCell'=true):
  ∃v,(Builtin.copy_ #[138,138] u #[.slice (some ⟨g,o,none⟩) c e,.slice (some a) d s]).run Tryz.prog w=
   .ok v (w.setRow g (b.toList.take o++cs++b.toList.drop (o+cs.length)).toArray):=by
 obtain⟨z,k,x,r,y⟩:=info_parts Tryz.infoPiv;have l:=run_loadCells_list (P:=Tryz.prog) w a cs n;have p:=run_storeCells_at Tryz.prog g o t cs 0 b w i (by simpa using h) f;have q:=Tryz.underlying138;refine⟨goInt (Nat.min d c),?_⟩;simp[Builtin.copy_,run_underlying q,Builtin.lenOf,Builtin.firstCells,sizeOf,typeInfo,k,r,<-m,l,p]
theorem zSK(f:Blk w g t cs)(i:t≠tU)(hbel:Below 0 w w')(c:∀k,k≠g->w'.heap[k]?=w.heap[k]?):zA5 [g] w w':=
 ⟨hbel,fun b j l a=>(c b (by
  rintro rfl
  have d:w.heap[b]?=some (.cells cs t (0,0)):=f
  rw[d]at a
  injection a with a
  injection a with _ e
  exact i e)).trans a,fun k _ h=>c k (by simpa using h)⟩
theorem zDn(w:World)(g:Nat)(cs:Array Value):Below 0 w (w.setRow g cs):=⟨rfl,rfl,rfl,by unfold World.setRow;simp,fun k a=>oM⟩
theorem zLE(h:Blk w g t cs):w.shape? g=some (t,cs.size):=by
 have a:w.heap[g]?=some (.cells cs t (0,0)):=h;unfold World.shape?;rw[a]
theorem zIy(h:Blk w g t cs):w.frozen? ⟨g,o,none⟩=false:=by
 have a:w.heap[g]?=some (.cells cs t (0,0)):=h;unfold World.frozen?;rw[a];simp
theorem zPw{a:List Value}{L:List (Nat × Nat)}(d:L.length=n)(i:k<=n)(hc:a.take (n*2)=pc L)(j:n*2+2<=a.length)(r c:Nat):
  (((a.take ((k+1)*2)++pc (L.drop k)++a.drop ((k+1)*2+(pc (L.drop k)).length)).take (k*2)++pc [(r,c)]++(a.take ((k+1)*2)++pc (L.drop k)++a.drop ((k+1)*2+(pc (L.drop k)).length)).drop (k*2+(pc [(r,c)]).length)).take ((n+1)*2))=pc (L.take k++(r,c)::L.drop k):=by
 have e:(pc (L.drop k)).length=(n-k)*2:=by rw[zID,zBw,d]
 have b:(pc [(r,c)]).length=2:=rfl;have l:(a.take ((k+1)*2)).length=(k+1)*2:=by rw[qM];omega
 have g:(a.take ((k+1)*2)++pc (L.drop k)++a.drop ((k+1)*2+(pc (L.drop k)).length)).take (k*2)=pc (L.take k):=by
  rw[zAJ,jV oM,zC7,zAt oM,<-zQN,<-hc,zC7,zAt oM]
 have h:(a.take ((k+1)*2)++pc (L.drop k)++a.drop ((k+1)*2+(pc (L.drop k)).length)).drop (k*2+(pc [(r,c)]).length)=pc (L.drop k)++a.drop ((k+1)*2+(pc (L.drop k)).length):=by
  rw[zAJ,List.drop_append_of_le_length oM,b,qX oM,zA6]
 rw[g,h,zQK,show pc ((r,c)::L.drop k)=pc [(r,c)]++pc (L.drop k) from rfl,<-zAJ,<-zAJ];have f:(pc (L.take k)++pc [(r,c)]++pc (L.drop k)).length=(n+1)*2:=by
  rw[zAD,zAD,e,b,zID,qM];omega
 rw[<-f,zCT]
theorem zI3(base:Nat)(v:Value)(L:List (Nat × Nat))(k r c i:Nat)(w:World)(h:zHA w base v L)(o:k<=L.length)(A:Blk w i zDb #[.int .i64 r,.int .i64 c])(b3:∀g,v.ownBlock=some g->g≠i)(hb:base<=w.heap.size)(hL:L.length<=1000000):
  CPq 139 #[v,.int .i64 k,.slice (some ⟨i,0,none⟩) 1 1] w fun e w'=>∃p,e= .returned p/\zHA w' base p (L.take k++(r,c)::L.drop k)/\zA5 v.ownBlock.toList w w':=by
 obtain⟨T,P,a8,R,S⟩:=info_parts Tryz.infoPiv;have a7:=h;obtain⟨c0,c1,-,-⟩:=A.two;have b4:∀(j:Nat) (u:Value),[Value.int .i64 (r:Nat),Value.int .i64 (c:Nat)][j]?=some u->w.cell? ((⟨i,0,none⟩:Addr).add j)=some u:=by
  intro j u a;rw[jI];match j with
  |0=>simp at a;subst a;exact c0
  |1=>simp at a;subst a;exact c1
  |j+2=>simp at a
 have b5:∀u∈ [Value.int .i64 (r:Nat),Value.int .i64 (c:Nat)],u.oneCell'=true:=by
  intro u hu;simp at hu;rcases hu with rfl|rfl<;>rfl
 have b0:∀p w',w'.ownsRow base zDb 2 p (L.length+1) (pc L++ [.int .i64 (r:Nat),.int .i64 (c:Nat)])->w.grownBy w' v.ownBlock->k=L.length->zHA w' base p (L.take k++(r,c)::L.drop k)/\zA5 v.ownBlock.toList w w':=fun p w' H B J=>by
  subst J;refine⟨?_,zJD B (zCA a7 dE B)⟩;unfold zHA;rw[zAG,List.drop_length,zQK,zAD];exact H
 rcases h.2 with⟨rfl,h0⟩|⟨g,cap,t,rfl,k1,k2,k3,k4,k5,F⟩
 .obtain rfl:k=0:=oM
  have d3:L= []:=zY h0;subst d3;go_enter Tryz.func139,Tryz.ntmps139;go_wp2_with (at_builtin;refine wpList_append_own w rfl _ _ 138 rfl base zDb T _ 2 16 Tryz.underlying138 P a8 R S rfl oM (.slice none 0 0) 0 (pc []) rfl a7 ⟨i,0,none⟩ 1 1 [.int .i64 (r:Nat),.int .i64 (c:Nat)] rfl rfl b4 b5 (by simp[maxLen]) oM hb ?_;intro p w' H B _)
  go_ret;exact⟨_,rfl,b0 _ _ H B rfl⟩
 have e1:cap<=9223372036854775807:=k4;by_cases J:k=L.length
 .obtain⟨n,z⟩:∃n,L.length=n:=⟨_,rfl⟩
  rw[z]at J o hL a7 k3 F ⊢
  subst J;by_cases c6:cap=k;all_goals
   go_enter Tryz.func139,Tryz.ntmps139;go_wp2_with (at_builtin;refine wpList_append_own w rfl _ _ 138 rfl base zDb T _ 2 16 Tryz.underlying138 P a8 R S rfl oM (.slice (some ⟨g,0,none⟩) k cap) k (pc L) rfl (z ▸ h) ⟨i,0,none⟩ 1 1 [.int .i64 (r:Nat),.int .i64 (c:Nat)] rfl rfl b4 b5 (by simp[maxLen];omega) oM hb ?_;intro p w' H B _)
   go_ret;exact⟨_,rfl,b0 _ _ (z ▸ H) B z.symm⟩
 have c9:k<L.length:=oM;obtain⟨n,z⟩:∃n,L.length=n:=⟨_,rfl⟩;have s:=xgw z;rw[z]at J o hL k3 F c9 ⊢
 have c6:¬ cap=k:=oM;have e3:((k:Int)==(n:Int))=false:=by simp;omega
 have e5:IntKind.i64.wrap ((n:Int)+1)=(n:Int)+1:=yB _ oM;have e6:IntKind.i64.wrap ((k:Int)+1)=(k:Int)+1:=yB _ oM;have y:(pc (L.drop k)).length=(n-k)*2:=by rw[zID,zBw,s.out]
 by_cases e4:n+1<=cap
 .have c7:¬ cap=k+1:=oM
  have d4:¬ ((cap:Int)<(n:Int)+1):=oM;have d2:(k:Int)<=(n:Int)+1:=oM;have a6:g≠i:=b3 g rfl;have D:Blk w g zDb t:=k2;have d8:∀w:World,(sizeOf zDb).run Tryz.prog w= .ok 2 w:=fun w=>by simp[sizeOf,typeInfo,P,R]
  have d6:∀lb V,(callFunc 168 #[.slice (some ⟨i,0,none⟩) 1 1,.slice (some ⟨g,(k+1)*2,none⟩) lb V]).run Tryz.prog w= .ok (.value (.bool false)) w:=fun lb V=>by
   rw[run_callFunc_extern Tryz.func168 kR kR kR (e:=Extern.SlicesOverlaps.overlaps #[138,138] #[4]) kR,
    Lib.run_overlaps_apart w 138 4 zDb Tryz.underlying138 2 d8 ⟨i,0,none⟩ ⟨g,(k+1)*2,none⟩ 1 1 lb V (zL a6) zDb zDb 2 t.size (zLE A) (zLE D) oM (zIy A) (zIy A)]
   rfl
  go_enter Tryz.func139,Tryz.ntmps139;go_upto_region 15 with(simp only[d6])
  have c8:(0:Int)<=(k:Int)+1:=oM;refine yD 8 [] ?_;refine sRd ?_;refine sRf ?_;intro q a3;have x:=D.I a3;have a2:=A.I a3;obtain⟨v1,b6⟩:=zGV q 3 g ((k+1)*2) (n-k) (cap-(k+1)) ⟨g,k*2,none⟩ (n+1-k) (cap-k) t zDb (pc (L.drop k)) x (by rw[y];congr 1;simp only[Nat.min_def];split<;>omega)
   (fun j u a=>by
    rw[jI,x.cell];rw[<-zQL,<-F,List.getElem?_drop,List.getElem?_take]at a;split at a;rw[<-a,Array.getElem?_toList];cases a) (by rw[y];omega) (zNR _)
  obtain⟨b,l⟩:∃b:Array Value,(t.toList.take ((k+1)*2)++pc (L.drop k)++t.toList.drop ((k+1)*2+(pc (L.drop k)).length)).toArray=b:=⟨_,rfl⟩;rw[l]at b6;have c2:b.size=cap*2:=by
   rw[<-l];simp[y];omega
  have O:Blk (q.setRow g b) g zDb b:=setRow_heap q g t b zDb (0,0) x;have c5:Blk (q.setRow g b) i zDb #[.int .i64 r,.int .i64 c]:=(setRow_other q g i b (zL a6)).trans a2;obtain⟨W,X,-,-⟩:=c5.two;obtain⟨v2,E⟩:=zGV (q.setRow g b) 3 g (k*2) (n+1-k) (cap-k) ⟨i,0,none⟩ 1 1 b zDb (pc [(r,c)]) O (by show 2=_;simp only[Nat.min_def];split<;>omega)
   (fun j u a=>by
    rw[jI];match j with
    |0=>simp[pc]at a;subst a;exact W
    |1=>simp[pc]at a;subst a;exact X
    |j+2=>simp[pc]at a) (by show k*2+2<=_;omega) (zNR _)
  obtain⟨d,m⟩:∃d:Array Value,(b.toList.take (k*2)++pc [(r,c)]++b.toList.drop (k*2+(pc [(r,c)]).length)).toArray=d:=⟨_,rfl⟩;rw[m]at E;have a5:zHA ((q.setRow g b).setRow g d) base (.slice (some ⟨g,0,none⟩) (n+1) cap) (L.take k++(r,c)::L.drop k)/\zA5 [g] w ((q.setRow g b).setRow g d):=by
   have K:(L.take k++(r,c)::L.drop k).length=n+1:=by simp[s.out];omega
   refine⟨⟨zID _,.inr ⟨g,cap,d,by rw[K],k1,setRow_heap _ g b d zDb (0,0) O,oM,k4,?_,?_⟩⟩,?_⟩
   .rw[<-m]
    have:(pc [(r,c)]).length=2:=rfl;simp[this];omega
   .rw[K,<-m,<-l]
    exact zPw s.out oM (s.out ▸ F) (by simp;omega) r c
   refine(zA5.of [g] a3).trans (zSK x dE ((zDn _ _ _).trans (zDn _ _ _)) fun k o=>(setRow_other _ g k d o).trans (setRow_other _ g k b o))
  clear l m;go_wp2_with (first
   |(at_builtin;refine zFV rfl _ _ 138 138 rfl _ _ rfl rfl b6 ?_)
   |(at_builtin;refine zFV rfl _ _ 138 138 rfl _ _ rfl rfl E ?_))
  go_ret;exact⟨_,rfl,a5⟩
 obtain rfl:cap=n:=oM;have d4:((cap:Int)<(cap:Int)+1):=oM;have D:Blk w g zDb t:=k2;have a6:g≠i:=b3 g rfl;have lg:=D.lt;have e7:=A.lt;obtain⟨N,hN⟩:∃N,w.heap.size=N:=⟨_,rfl⟩;have d5:(Builtin.firstCells T.size k (.slice (some ⟨g,0,none⟩) k cap)).run Tryz.prog w.drew= .ok (pc (L.take k)).toArray w.drew:=by
  rw[R];exact run_firstCells_some w.drew 2 k ⟨g,0,none⟩ k cap (pc (L.take k)) (by rw[zID,qM,s.out];omega) (fun j u a=>by
   rw[jI];show w.cell? _=_;rw[D.cell,jC];rw[<-zQN,<-F,List.getElem?_take,List.getElem?_take]at a;split at a
   .split at a
    .rw[<-a,Array.getElem?_toList]
    cases a
   cases a)
 have b2:k+(cap+1-k)=cap+1:=oM;obtain⟨G,Z⟩:∃G,grownCap w (cap+1) cap zDb=G:=⟨_,rfl⟩;have d9:cap+1<=G:=by rw[<-Z];exact grownCap_ge w _ _ _
 have b8:G<=9223372036854775807:=by
  have:=grownCap_le_maxLen w (cap+1) cap zDb (by unfold maxLen;omega);rw[Z]at this;unfold maxLen at this;omega
 obtain⟨f,a0⟩:∃f:Array Value,(pc (L.take k)).toArray++Builtin.zeroCells (Value.agg #[.int .i64 0,.int .i64 0]).cells (cap+1-k)++Builtin.zeroCells (Value.agg #[.int .i64 0,.int .i64 0]).cells (G-(cap+1))=f:=⟨_,rfl⟩;have d7:∀ty,(Builtin.append_ #[138,3] ty #[.slice (some ⟨g,0,none⟩) k cap,.int .i64 ((cap:Int)+1-(k:Int))]).run Tryz.prog w= .ok (.slice (some ⟨N,0,none⟩) (cap+1) G) (w.drew.alloc (.cells f zDb)):=fun ty=>by
  have h:=Lib.run_append_grow_zeros w 138 3 ty zDb T _ .i64 .i64 Tryz.underlying138 zCi P a8 (some ⟨g,0,none⟩) k cap (pc (L.take k)) d5 (cap+1-k) oM oM oM oM (by rw[S];omega) (by rw[S,b2];exact growslice_fits oM oM);rw[b2,Z,a0,hN]at h;rw[show(cap:Int)+1-(k:Int)=((cap+1-k:Nat):Int) by omega];exact h
 have Q:(pc (L.take k)).length=k*2:=by rw[zID,qM,s.out];omega
 have e0:f.size=G*2:=by
  rw[<-a0];simp[Builtin.zeroCells,Value.cells,Q];omega
 have c4:f.toList.take (k*2)=pc (L.take k):=by
  rw[<-a0];simp only[Array.toList_append,List.append_assoc];rw[<-Q,zCT]
 have x:Blk ((w.alloc (.cells f zDb)).drew) N zDb f:=by rw[<-hN];exact yJ w.drew zDb f
 have C:BWq w ((w.alloc (.cells f zDb)).drew):=((zB _ _).alloc (xgf _) _).drew;have a2:=A.I C;obtain⟨W,X,-,-⟩:=a2.two;obtain⟨v2,E⟩:=zGV ((w.alloc (.cells f zDb)).drew) 3 N (k*2) (cap+1-k) (G-k) ⟨i,0,none⟩ 1 1 f zDb (pc [(r,c)]) x (by show 2=_;simp only[Nat.min_def];split<;>omega)
  (fun j u a=>by
   rw[jI];match j with
   |0=>simp[pc]at a;subst a;exact W
   |1=>simp[pc]at a;subst a;exact X
   |j+2=>simp[pc]at a) (by show k*2+2<=_;omega) (zNR _)
 obtain⟨b,l⟩:∃b:Array Value,(f.toList.take (k*2)++pc [(r,c)]++f.toList.drop (k*2+(pc [(r,c)]).length)).toArray=b:=⟨_,rfl⟩;rw[l]at E;have l2:(pc [(r,c)]).length=2:=rfl;have c2:b.size=G*2:=by
  rw[<-l];simp[l2];omega
 have c3:b.toList.take ((k+1)*2)=pc (L.take k)++pc [(r,c)]:=by
  rw[<-l];show List.take _ (_++_++_)=_;rw[c4,<-(show(pc (L.take k)++pc [(r,c)]).length=(k+1)*2 by rw[zAD,Q,l2];omega),zCT]
 obtain⟨M,a1⟩:∃M,((w.alloc (.cells f zDb)).drew).setRow N b=M:=⟨_,rfl⟩;have O:Blk M N zDb b:=by rw[<-a1];exact setRow_heap _ N f b zDb (0,0) x
 have Y:BWq w M:=by
  rw[<-a1];exact⟨C.os,C.tape,C.output,by have:=(zDn ((w.alloc (.cells f zDb)).drew) N b).size;have:=C.size;omega,fun k o=>(setRow_other _ N k b oM).trans (C.block k o)⟩
 rw[a1]at E;have c7:¬ G=k+1:=oM;have e2:¬ G=k:=oM;have d2:(k:Int)<=(cap:Int)+1:=oM;go_enter Tryz.func139,Tryz.ntmps139;go_upto_region 11 with(first
  |(at_builtin;refine Lib.wpList_append_run _ rfl _ _ _ _ rfl _ _ rfl rfl _ _ (d7 _) ?_)
  |(at_builtin;refine zFV rfl _ _ 138 138 rfl _ _ rfl rfl E ?_))
 have c8:(0:Int)<=(k:Int)+1:=oM;refine yD 8 [] ?_;refine sRd ?_;refine sRf ?_;intro U a4;have a9:=O.I a4;have b9:=(D.I Y).I a4;obtain⟨v3,b7⟩:=zGV U 3 N ((k+1)*2) (cap-k) (G-(k+1)) ⟨g,k*2,none⟩ (cap-k) (cap-k) b zDb (pc (L.drop k)) a9 (by rw[y];congr 1;simp only[Nat.min_def];split<;>omega)
  (fun j u a=>by
   rw[jI,b9.cell];rw[<-zQL,<-F,List.getElem?_drop,List.getElem?_take]at a;split at a;rw[<-a,Array.getElem?_toList];cases a) (by rw[y];omega) (zNR _)
 obtain⟨d,m⟩:∃d:Array Value,(b.toList.take ((k+1)*2)++pc (L.drop k)++b.toList.drop ((k+1)*2+(pc (L.drop k)).length)).toArray=d:=⟨_,rfl⟩;rw[m]at b7;have a5:zHA (U.setRow N d) base (.slice (some ⟨N,0,none⟩) (cap+1) G) (L.take k++(r,c)::L.drop k)/\zA5 [g] w (U.setRow N d):=by
  have K:(L.take k++(r,c)::L.drop k).length=cap+1:=by simp[s.out];omega
  refine⟨⟨zID _,.inr ⟨N,G,d,by rw[K],oM,setRow_heap _ N b d zDb (0,0) a9,oM,b8,?_,?_⟩⟩,?_⟩
  .rw[<-m]
   simp[y];omega
  .rw[K,<-m]
   show List.take _ (_++_++_)=_;rw[c3,zQK,show pc ((r,c)::L.drop k)=pc [(r,c)]++pc (L.drop k) from rfl,<-zAJ];rw[<-(show(pc (L.take k)++pc [(r,c)]++pc (L.drop k)).length=(cap+1)*2 by rw[zAD,zAD,y,Q,l2];omega),zCT]
  refine zA5.of [g] ?_;have I:=Y.trans (a4.mono Y.size);exact⟨I.os,I.tape,I.output,by have:=(zDn U N d).size;have:=I.size;omega,fun k o=>(setRow_other _ N k d oM).trans (I.block k o)⟩
 clear l m;go_wp2_with (at_builtin;refine zFV rfl _ _ 138 138 rfl _ _ rfl rfl b7 ?_)
 go_ret;exact⟨_,rfl,a5⟩
structure LOk(n Cs m:Nat)(x:Bst)(L:List (Nat × Nat)):Prop where
 mem:∀k,k<L.length->(L.getD k (0,0)).1<m/\(L.getD k (0,0)).1<n/\(L.getD k (0,0)).2<Cs/\x.s (L.getD k (0,0)).1 (L.getD k (0,0)).2≠0
 inc:∀i j,i<j->j<L.length->(L.getD i (0,0)).2<(L.getD j (0,0)).2
 inj:∀i j,i<j->j<L.length->(L.getD i (0,0)).1≠(L.getD j (0,0)).1
 len:L.length<=n
structure zUz(B n Cs Ct:Nat)(J J':Nat->Bst->List (Nat × Nat)->Prop):Prop where
 ok:∀m x L,J m x L->okB B n Cs Ct x/\LOk n Cs m x L
 ok':∀m x L,m<n->J' m x L->okB B n Cs Ct x/\LOk n Cs (m+1) x L
 zero:∀m x L,m<n->J m x L->lead Cs x.s m<0->J' m x L
 join:∀(m:Nat) (x:Bst) (L:List (Nat × Nat)) (k c:Nat),m<n->J m x L->lead Cs x.s m=(c:Int)->k<L.length->(L.getD k (0,0)).2=c->
  (x.s m c%x.s (L.getD k (0,0)).1 c=0->zGu B n Cs Ct x m (L.getD k (0,0)).1 (-(x.s m c/x.s (L.getD k (0,0)).1 c)))∧
  (∀s t,Bez (x.s (L.getD k (0,0)).1 c) (x.s m c) s t->zQD B n Cs Ct x (L.getD k (0,0)).1 m s t (-(x.s m c/((Int.gcd (x.s (L.getD k (0,0)).1 c) (x.s m c):Nat):Int))) (x.s (L.getD k (0,0)).1 c/((Int.gcd (x.s (L.getD k (0,0)).1 c) (x.s m c):Nat):Int)))∧
  ∀y,zNo x (L.getD k (0,0)).1 m c y->J m y L/\(lead Cs y.s m<0∨(c:Int)<lead Cs y.s m)
 ins:∀(m:Nat) (x:Bst) (L:List (Nat × Nat)) (k c:Nat),m<n->J m x L->lead Cs x.s m=(c:Int)->k<=L.length->(∀i,i<k->(L.getD i (0,0)).2<c)->(∀i,k<=i->i<L.length->c<(L.getD i (0,0)).2)->
  J' m (if x.s m c<0 then x.neg m else x) (L.take k++(m,c)::L.drop k)
 red:∀m x L,m<n->J' m x L->∃y,zK6 B n Cs Ct (fun k=>(L.getD k (0,0)).1) (fun k=>(L.getD k (0,0)).2) L.length L.length x=some y/\J (m+1) y L
theorem zDd.rowB{x:Bst}(h:zDd e Z w' bw (slq g a cap) n Cs Ct x)(f:i<n)(hc:w.cell? ⟨g,i,none⟩=some (slq b Cs Cs))(j:w'.heap[g]?=w.heap[g]?):yY w' b (qQ Cs (x.s i)):=by
 obtain⟨l,c,k,-⟩:=h.row f;have d:w'.cell? ⟨g,i,none⟩=w.cell? ⟨g,i,none⟩:=by unfold World.cell?;rw[j]
 rw[d,hc]at c;injection c with c
 injection c with c
 injection c with c
 injection c with c
 subst c;exact k
theorem zDs(h:lead C F i=(c:Int)):c<C/\F i c≠0:=by
 rcases zDO C F i with⟨a,-⟩|⟨j,a,b,d,-⟩
 omega;obtain rfl:j=c:=oM;exact⟨b,d⟩
theorem zJv:zEp 0 (qQ C (F i))=lead C F i:=rfl
theorem zV4{A:Value}{c:List Nat}(h:Wri w A R C c F)(d:Blk w b zDb cs):¬ Zn A c b:=by
 rintro(a|a)
 .obtain⟨r,i⟩:=h.blk a
  exact zKX d i dE rfl
 rcases(yH.own h).2 with⟨rfl,-⟩|⟨g,cap,j,rfl,-,e,-⟩
 cases a;simp only[Value.ownBlock,Option.some.injEq]at a;subst a;have f:zDb=tR:=congrArg (fun o:Option Obj=>match o with|some (Obj.cells _ t _)=>t|_=>0) (d.symm.trans e);exact absurd f dE
theorem zHv(h:Blk w g t cs)(f:¬ t=zDb)(e:jB P w w')(c:∀b,P b->∃cs,Blk w b zDb cs):Blk w' g t cs:=
 e.blk h fun d=>by
  obtain⟨i,a⟩:=c g d;exact f (congrArg (fun o:Option Obj=>match o with|some (Obj.cells _ t _)=>t|_=>0) (h.symm.trans a))
theorem zDd.pivs{x:Bst}(h:zDd e Z w bw Ah n Cs Ct x)(j:jB P w w')(f:∀b,P b->∃cs,Blk w b zDb cs):zDd e Z w' bw Ah n Cs Ct x:=by
 have i:∀{A:Value} {R C:Nat} {p:List Nat} {F:Nat->Nat->Int},Wri w A R C p F->Wri w' A R C p F:=fun {A R C p F} k=>k.keepZ j fun b z B=>by
  obtain⟨cs,c⟩:=f b B;exact zV4 k c z
 have t:∀{A:Value} {n:Nat},zET w A n->zET w' A n:=fun {A n} k=>by
  obtain⟨g,cap,cs,c,a,d,q,r⟩:=k;exact⟨g,cap,cs,c,a,d,zHv q dE j f,r⟩
 unfold zDd at h ⊢
 split at h
 .rename_i s
  rw[zC s];obtain⟨l,m,o,u,v,c,a,d⟩:=h;exact⟨l,m,o,u,v,zHv c dE j f,⟨i a.s,i a.t,i a.i,a.st,a.si,a.ti,a.ast,a.asi,a.ati⟩,d⟩
 rename_i s;rw[zA s];obtain⟨y,l,m,o,c,a,d,q,r⟩:=h;exact⟨y,l,m,o,zHv c dE j f,i a,t d,t q,r⟩
theorem zHA.blk{L:List (Nat × Nat)}(h:zHA w base v L):∀g,v.ownBlock=some g->∃cs,Blk w g zDb cs:=by
 intro g a;rcases h.2 with⟨rfl,e⟩|⟨d,cap,b,rfl,f,c,i,j,k,l⟩
 cases a;simp only[Value.ownBlock,Option.some.injEq]at a;subst a;exact⟨b,c⟩
theorem zA5.z{S:List Nat}(h:zA5 S w w'):jB (fun b=>b∈S) w w':=⟨h.bel,h.lext,fun k a c=>h.old k a c⟩
theorem zJm(hB:BSd B){x:Bst}{a7 J':Nat->Bst->List (Nat × Nat)->Prop}(hE:zUz B n Cs Ct a7 J')(h:zDd e0 Z w bw Ah n Cs Ct x)(h0:a7 0 x [])
  (N:n<=1000000) (a3:Cs<=1000000) (a4:Ct<=1000000) (b9:0<n) (A:∀b,Z b->b<w.heap.size) (c6:∀g,Ah.ownBlock=some g->¬ Z g):
  CPq 105 #[Ah,.agg (zDw bw)] w fun e w'=>∃v y d,e= .returned v/\jB Z w w'/\zDd e0 Z w' bw Ah n Cs Ct y/\a7 n y d/\zHA w' w.heap.size v d:=by
 have F:=xgv hE;obtain⟨f3,c2,-⟩:=h.wri;obtain⟨so,sn,e4,rfl,s1,s2,s3,-⟩:=id (yH.rows c2);have e2:n=sn:=by rw[<-s1];simp[yV]
 subst e2;obtain⟨g,_,rfl,-⟩:=yH.at_ c2 (i:=0) (by rw[c2.len];exact b9);have c6:=c6 g rfl;have d5:=xgv h0;clear s1 c2 f3 h0 hE;go_enter Tryz.func105,Tryz.ntmps105;go_upto_region 1 with(fail)
 refine zE ?_;intro W0 d8;obtain⟨d6,l,g5⟩:=qL d8;have l:Blk W0 w.heap.size 144 (zDw bw):=l;have f:=jB.of Z d6;have j:=h.I d6;have a:=xgv (zHA.nil W0 w.heap.size);clear d8 h;go_wp2;go_loopw [5,12] (fun pv mv wr=>∃(m:Nat) (x:Bst) (d:List (Nat × Nat)),mv= .int .i64 m/\m<=n/\jB Z w wr/\Blk wr w.heap.size 144 (zDw bw)/\zDd e0 Z wr bw (.slice (some ⟨g,0,none⟩) n e4) n Cs Ct x/\qS (a7 m x d)/\qS (zHA wr w.heap.size pv d)) (fun _ mv _=>n-(intOf mv).toNat)
 case atStart=>exact⟨0,x,[],rfl,oM,f,l,j,d5,a⟩
 clear f l j a d5;obtain⟨m,x,d,rfl,hm,f,l,j,t,a⟩:=hrel;by_cases D:m<n
 .obtain⟨bm,o1,Y,lg⟩:=j.row D
  obtain⟨wc,d2⟩:∃wc,wc=wr:=⟨_,rfl⟩;have oc:=o1;rw[<-d2]at oc;have I:wr.heap[g]?=wc.heap[g]?:=by rw[d2]
  have a9:=Y.vec (zO _ _) (xgf _) oM;go_wp2_with fail
  refine(zDr _ _ _ a9).mono ?_;rintro e w1 ⟨rfl,b0⟩;rw[zJv];have j:=j.I b0;have l:=l.I b0;have f:=f.trans (jB.of Z b0);have a:=xgv (a.out.I b0);have I:=(b0.block g oM).trans I;clear o1 Y a9 d2;obtain⟨c0,b3⟩:∃c0,lead Cs x.s m=c0:=⟨_,rfl⟩;have d4:=xgw b3;rw[b3];clear b3;obtain⟨g7,f7⟩:∃g2,g2=u5:=⟨_,rfl⟩;subst f7;obtain⟨ao,e3,rfl,g4,g3,c5⟩:=id a.out.piv;have c5:=xgv c5;go_wp2;go_loopw [5,8,9] (fun pv kv cv wt=>∃(x:Bst) (k:Nat) (c:Int),pv= .slice ao d.length e3/\kv= .int .i64 k/\cv= .int .i64 c/\k<=d.length/\Hid (lead Cs x.s m=c)/\qS (∀i,i<k->((d.getD i (0,0)).2:Int)<c∨c<0)/\jB Z w wt/\Blk wt w.heap.size 144 (zDw bw)/\zDd e0 Z wt bw (.slice (some ⟨g,0,none⟩) n e4) n Cs Ct x/\qS (a7 m x d)/\qS (zHA wt w.heap.size (.slice ao d.length e3) d)/\wt.heap[g]?=wc.heap[g]?) (fun _ _ cv _=>if intOf cv<0 then 0 else Cs-(intOf cv).toNat)
  case atStart=>exact⟨x,0,c0,rfl,rfl,rfl,zG _,d4,⟨fun i hi=>oM⟩,f,l,j,t,a,I⟩
  clear f l j a t d4 I;rename World=>wt
  obtain⟨x,k,c,rfl,rfl,rfl,J,HC,HI,f,l,j,t,a,I⟩:=hrel;by_cases b3:c<0
  .have f5:¬ (0<=c):=oM
   have s:=xgv (F.out.zero m x d D t.out (by rw[HC.out];exact b3));have P:=l.three;go_wp2_with fail
   obtain⟨z,u⟩:=F.out.ok' m x d D s.out;obtain⟨y,hy,Q⟩:=F.out.red m x d D s.out;have o:=a.out.own;refine(zFu hB j z a.out.piv (fun b q E=>by have:=(o b q).1;have:=A b E;omega) (fun k J=>(u.mem k J).2.1) u.inj (fun k J=>(u.mem k J).2.2.1) N a3 a4 u.len (fun b q=>zI (A b q) f.bel.size) b9 hy).mono ?_;rintro e wz ⟨⟨uz,rfl⟩,R,j,-⟩;have l:=R.blk l (fun T=>by have:=A _ T;omega);have a:=xgv (a.out.old (fun g C=>R.old g (o g C).2 (fun E=>by have:=(o g C).1;have:=A g E;omega)));have f:=f.trans R;have t:=xgv Q;clear z u hy Q o P;go_wp2;go_roundw
   case rel=>exact⟨m+1,y,_,by simp,oM,f,l,j,t,a⟩
   case measure=>exact meq
  obtain⟨p,rfl⟩:∃p:Nat,c=(p:Int):=⟨c.toNat,oM⟩;have f5:(0:Int)<=p:=oM;go_wp2;go_loopw [8] (fun kv wv=>∃k:Nat,kv= .int .i64 k/\k<=d.length/\qS (∀i,i<k->(d.getD i (0,0)).2<p)/\wv=wt) (fun kv _=>d.length-(intOf kv).toNat)
  case atStart=>exact⟨k,rfl,J,⟨fun i hi=>by rcases HI.out i hi with h|h<;>omega⟩,rfl⟩
  obtain⟨G,rfl,f6,b6,d3⟩:=hrel;have d3:=d3.symm;subst d3;by_cases d0:G<d.length
  .obtain⟨bp,_,rfl,-,-⟩:=c5.out oM
   obtain⟨-,g6,p1,p2⟩:=a.out.piv.cell d0;obtain⟨a0,hq⟩:∃a0,(d.getD G (0,0)).2=a0:=⟨_,rfl⟩;rw[hq]at p2;have HQ:=xgv hq;clear hq;by_cases f9:a0<p
   .go_wp2
    go_roundw
    case rel=>
     refine⟨G+1,by simp,oM,⟨?_⟩,trivial⟩;intro i hi;rcases Nat.lt_succ_iff_lt_or_eq.1 hi with h|rfl
     exact b6.out i h;rw[HQ.out];exact f9
    case measure=>exact meq
   by_cases g1:a0=p
   .subst g1
    have O:=zDs HC.out;have z:=F.out.ok m x d t.out;obtain⟨c7,c8,c9⟩:=F.out.join m x d G a0 D t.out HC.out d0 HQ.out;obtain⟨m1,m2,m3,m4⟩:=z.2.mem G d0;rw[HQ.out]at m3 m4;have P:=l.three;obtain⟨g8,e1⟩:∃r,(d.getD G (0,0)).1=r:=⟨_,rfl⟩;rw[e1]at p1 c7 c8 c9 m1 m2 m4;have l3:=l.lt;obtain⟨-,-,-,lg⟩:=j.row D;have a6:=xgv z.1;have e6:=xgv c7;have e7:=xgv c8;have e8:=xgv c9;have f0:=xgv m4;have f8:=O.1;clear O z c7 c8 c9 m4 e1;go_upto_region 12 with(fail)
    refine yD 7 [] ?_;refine sRd ?_;refine sRf ?_;intro w5 a5;have j:=j.I a5;have l:=l.I a5;have f:=f.trans (jB.of Z a5);have a:=xgv (a.out.I a5);have I:=(a5.block g lg).trans I;have lg:=zI lg a5.size;clear p1 p2 P;go_wp2_with fail
    refine(zR1 hB j a6.out m2 D oM f8 f0.out N a3 a4 (fun b q=>zI (A b q) f.bel.size) e6.out e7.out).mono ?_;rintro e wj ⟨⟨uj,rfl⟩,b7,y,d7,j⟩;obtain⟨Q,d9⟩:=e8.out y d7;have l:=b7.blk l (fun T=>by have:=A _ T;omega);have o:=a.out.own;have a:=xgv (a.out.old (fun g C=>b7.old g (o g C).2 (fun E=>by have:=(o g C).1;have:=A g E;omega)));have f:=f.trans b7;have I:=(b7.old g lg c6).trans I;have e9:=xgv Q;have c3:=xgv d9;clear d7 Q d9 o;have a9:=(j.rowB D oc I).vec (zO _ _) (xgf _) oM;go_wp2_with fail
    refine(zDr _ _ _ a9).mono ?_;rintro e wl ⟨rfl,b2⟩;rw[zJv];obtain⟨-,-,-,lg⟩:=j.row D;have j:=j.I b2;have l:=l.I b2;have f:=f.trans (jB.of Z b2);have a:=xgv (a.out.I b2);have I:=(b2.block g lg).trans I;clear a9;obtain⟨cy,b8⟩:∃cy,lead Cs y.s m=cy:=⟨_,rfl⟩;have e5:=xgw b8;rw[b8];rw[b8]at c3;clear b8;go_wp2;go_roundw
    case rel=>
     refine⟨y,G,cy,rfl,rfl,rfl,f6,e5,⟨fun i hi=>?_⟩,f,l,j,e9,a,I⟩;have:=b6.out i hi;rcases c3.out with h|h
     exact .inr h;left;omega
    have:=c3.out;have C:(if cy<0 then 0 else Cs-cy.toNat)<(if(a0:Int)<0 then 0 else Cs-((a0:Int)).toNat):=by
     rw[zA (show ¬ ((a0:Int)<0) by omega)];split<;>omega
    exact C
   have u:=(F.out.ok m x d t.out).2.inc;have HG:∀i,G<=i->i<d.length->p<(d.getD i (0,0)).2:=by
    intro i h1 h2;rcases Nat.lt_or_eq_of_le h1 with h|rfl
    .have:=u G i h h2
     have:=HQ.out;omega
    have:=HQ.out;omega
   clear u;have O:=zDs HC.out;have Y:=j.rowB D oc I;obtain⟨xs,xa,xl,xc,v1,v2,f1,f2,hx⟩:=Y.cell (qU O.1);have f4:=O.1;go_wp2_with fail
   refine(zAn _ (x.s m p) wt hx.J).mono ?_;rintro e ws ⟨rfl,W⟩;have j:=j.I W;have l:=l.I W;have f:=f.trans (jB.of Z W);have a:=xgv (a.out.I W);have b4:=O.2;have s:=F.out.ins m x d G p D t.out HC.out oM b6.out HG;have z:=(F.out.ok m x d t.out).1;have d1:d.length<=1000000:=zF (F.out.ok m x d t.out).2.len N;clear O Y v1 v2 f1 f2 hx HG;by_cases L:x.s m p<0;case' pos=>
    rw[zC L]at s;have s:=xgv s;rw[show zAB (x.s m p) 0=-1 by unfold zAB;rw[zC L]];have a6:=xgv z;clear L b4 z;have P:=l.three;go_wp2_with fail
    refine(zW0 hB.bsm j a6.out D N a3 a4).mono ?_;rintro e U ⟨⟨un,rfl⟩,a1,j⟩;have l:=a1.blk l (fun T=>by have:=A _ T;omega);have o:=a.out.own;have a:=xgv (a.out.old (fun g C=>a1.old g (o g C).2 (fun E=>by have:=(o g C).1;have:=A g E;omega)));have f:=f.trans a1;clear o P;obtain⟨H,S⟩:∃H,x.neg m=H:=⟨_,rfl⟩;rw[S]at j s;clear S
   case' neg=>
    rw[zA L]at s;have s:=xgv s;rw[show zAB (x.s m p) 0=1 by unfold zAB;rw[zA L,zC oM]];clear L b4 z;obtain⟨H,S⟩:∃H,x=H:=⟨_,rfl⟩;rw[S]at j s;clear S;obtain⟨U,hE⟩:∃c4,c4=ws:=⟨_,rfl⟩;subst hE
   all_goals
    go_wp2_with fail
    obtain⟨M,X⟩:∃M,M=U.alloc (Obj.cells #[Value.int IntKind.i64 m,Value.int IntKind.i64 p] 146):=⟨_,rfl⟩;rw[<-X];have V:BWq U M:=by rw[X];exact(zB _ _).alloc (xgf _) _
    have a8:Blk M U.heap.size zDb #[Value.int IntKind.i64 m,Value.int IntKind.i64 p]:=by rw[X];exact yJ _ _ _
    have o:=a.out.own;have j:=j.I V;have l:=l.I V;have f:=f.trans (jB.of Z V);have a:=a.out.I V;clear X;refine(zI3 w.heap.size _ d G m p U.heap.size M a oM a8 (fun b q=>Nat.ne_of_lt (o b q).2) f.bel.size d1).mono ?_;rintro e wk ⟨v',rfl,b5,K⟩;have a2:∀b,b∈(Value.ownBlock _).toList->∃cs,Blk M b zDb cs:=fun b q=>a.blk b (by simpa using q)
    have j:=j.pivs K.z a2;have l:=zHv l dE K.z a2;have f:jB Z w wk:=⟨f.bel.trans K.bel,f.lext.trans K.lext,fun b q N=>(K.old b (zI q f.bel.size) (fun hm=>by
     have:=(a.own b (by simpa using hm)).1;omega)).trans (f.old b q N)⟩
    have a:=xgv b5;clear o b5 K a2 a8;have P:=l.three;go_wp2_with fail
    obtain⟨z,u⟩:=F.out.ok' m H (d.take G++(m,p)::d.drop G) D s.out;obtain⟨y,hy,Q⟩:=F.out.red m H (d.take G++(m,p)::d.drop G) D s.out;have o:=a.out.own;refine(zFu hB j z a.out.piv (fun b q E=>by have:=(o b q).1;have:=A b E;omega) (fun k J=>(u.mem k J).2.1) u.inj (fun k J=>(u.mem k J).2.2.1) N a3 a4 u.len (fun b q=>zI (A b q) f.bel.size) b9 hy).mono ?_;rintro e wz ⟨⟨uz,rfl⟩,R,j,-⟩;have l:=R.blk l (fun T=>by have:=A _ T;omega);have a:=xgv (a.out.old (fun g C=>R.old g (o g C).2 (fun E=>by have:=(o g C).1;have:=A g E;omega)));have f:=f.trans R;have t:=xgv Q;clear z u hy Q o P;go_wp2;go_roundw
    case rel=>exact⟨m+1,y,_,by simp,oM,f,l,j,t,a⟩
    case measure=>exact meq
  obtain rfl:G=d.length:=oM;have HG:∀i,d.length<=i->i<d.length->p<(d.getD i (0,0)).2:=fun i h1 h2=>oM
  have O:=zDs HC.out;have Y:=j.rowB D oc I;obtain⟨xs,xa,xl,xc,v1,v2,f1,f2,hx⟩:=Y.cell (qU O.1);have f4:=O.1;go_wp2_with fail
  refine(zAn _ (x.s m p) wt hx.J).mono ?_;rintro e ws ⟨rfl,W⟩;have j:=j.I W;have l:=l.I W;have f:=f.trans (jB.of Z W);have a:=xgv (a.out.I W);have b4:=O.2;have s:=F.out.ins m x d d.length p D t.out HC.out oM b6.out HG;have z:=(F.out.ok m x d t.out).1;have d1:d.length<=1000000:=zF (F.out.ok m x d t.out).2.len N;clear O Y v1 v2 f1 f2 hx HG;by_cases L:x.s m p<0;case' pos=>
   rw[zC L]at s;have s:=xgv s;rw[show zAB (x.s m p) 0=-1 by unfold zAB;rw[zC L]];have a6:=xgv z;clear L b4 z;have P:=l.three;go_wp2_with fail
   refine(zW0 hB.bsm j a6.out D N a3 a4).mono ?_;rintro e U ⟨⟨un,rfl⟩,a1,j⟩;have l:=a1.blk l (fun T=>by have:=A _ T;omega);have o:=a.out.own;have a:=xgv (a.out.old (fun g C=>a1.old g (o g C).2 (fun E=>by have:=(o g C).1;have:=A g E;omega)));have f:=f.trans a1;clear o P;obtain⟨H,S⟩:∃H,x.neg m=H:=⟨_,rfl⟩;rw[S]at j s;clear S
  case' neg=>
   rw[zA L]at s;have s:=xgv s;rw[show zAB (x.s m p) 0=1 by unfold zAB;rw[zA L,zC oM]];clear L b4 z;obtain⟨H,S⟩:∃H,x=H:=⟨_,rfl⟩;rw[S]at j s;clear S;obtain⟨U,hE⟩:∃c4,c4=ws:=⟨_,rfl⟩;subst hE
  all_goals
   go_wp2_with fail
   obtain⟨M,X⟩:∃M,M=U.alloc (Obj.cells #[Value.int IntKind.i64 m,Value.int IntKind.i64 p] 146):=⟨_,rfl⟩;rw[<-X];have V:BWq U M:=by rw[X];exact(zB _ _).alloc (xgf _) _
   have a8:Blk M U.heap.size zDb #[Value.int IntKind.i64 m,Value.int IntKind.i64 p]:=by rw[X];exact yJ _ _ _
   have o:=a.out.own;have j:=j.I V;have l:=l.I V;have f:=f.trans (jB.of Z V);have a:=a.out.I V;clear X;refine(zI3 w.heap.size _ d d.length m p U.heap.size M a oM a8 (fun b q=>Nat.ne_of_lt (o b q).2) f.bel.size d1).mono ?_;rintro e wk ⟨v',rfl,b5,K⟩;have a2:∀b,b∈(Value.ownBlock _).toList->∃cs,Blk M b zDb cs:=fun b q=>a.blk b (by simpa using q)
   have j:=j.pivs K.z a2;have l:=zHv l dE K.z a2;have f:jB Z w wk:=⟨f.bel.trans K.bel,f.lext.trans K.lext,fun b q N=>(K.old b (zI q f.bel.size) (fun hm=>by
    have:=(a.own b (by simpa using hm)).1;omega)).trans (f.old b q N)⟩
   have a:=xgv b5;clear o b5 K a2 a8;have P:=l.three;go_wp2_with fail
   obtain⟨z,u⟩:=F.out.ok' m H (d.take d.length++(m,p)::d.drop d.length) D s.out;obtain⟨y,hy,Q⟩:=F.out.red m H (d.take d.length++(m,p)::d.drop d.length) D s.out;have o:=a.out.own;refine(zFu hB j z a.out.piv (fun b q E=>by have:=(o b q).1;have:=A b E;omega) (fun k J=>(u.mem k J).2.1) u.inj (fun k J=>(u.mem k J).2.2.1) N a3 a4 u.len (fun b q=>zI (A b q) f.bel.size) b9 hy).mono ?_;rintro e wz ⟨⟨uz,rfl⟩,R,j,-⟩;have l:=R.blk l (fun T=>by have:=A _ T;omega);have a:=xgv (a.out.old (fun g C=>R.old g (o g C).2 (fun E=>by have:=(o g C).1;have:=A g E;omega)));have f:=f.trans R;have t:=xgv Q;clear z u hy Q o P;go_wp2;go_roundw
   case rel=>exact⟨m+1,y,_,by simp,oM,f,l,j,t,a⟩
   case measure=>exact meq
 obtain rfl:m=n:=oM;go_wp2;go_ret;exact⟨_,x,d,rfl,f,j,t.out,a.out⟩
theorem zIg{x:Bst}(h:zDd e0 Z w bw Ah 0 Cs Ct x):
  CPq 105 #[Ah,.agg (zDw bw)] w fun e w'=>e= .returned (.slice none 0 0)/\BWq w w':=by
 obtain⟨f,b,-⟩:=h.wri;obtain⟨q,l,p,rfl,d,-⟩:=id (yH.rows b);have g:0=l:=by rw[<-d];simp[yV]
 subst g;clear d b f h;go_enter Tryz.func105,Tryz.ntmps105;go_upto_region 1 with(fail)
 refine zE ?_;intro n a;obtain⟨i,m,o⟩:=qL a;clear a;go_wp2;go_loopw [5,12] (fun k c wr=>k= .slice none 0 0/\c=niq 0/\BWq w wr) (fun _ c _=>0)
 case atStart=>exact⟨rfl,rfl,i⟩
 obtain⟨rfl,rfl,j⟩:=hrel;go_wp2;go_ret;exact⟨rfl,j⟩
theorem zJl(f:BSd B){x:Bst}{J d:Nat->Bst->List (Nat × Nat)->Prop}(k:zUz B n Cs Ct J d)(h:zDd e0 Z w bw Ah n Cs Ct x)(a:J 0 x [])
  (o:n<=1000000) (i:Cs<=1000000) (j:Ct<=1000000) (l:∀b,Z b->b<w.heap.size) (m:∀g,Ah.ownBlock=some g->¬ Z g):
  CPq 105 #[Ah,.agg (zDw bw)] w fun e w'=>∃v y L,e= .returned v/\jB Z w w'/\zDd e0 Z w' bw Ah n Cs Ct y/\J n y L/\zHA w' w.heap.size v L:=by
 by_cases p:0<n
 .exact zJm f k h a o i j p l m
 obtain rfl:n=0:=oM;refine(zIg h).mono ?_;rintro e w' ⟨rfl,c⟩;exact⟨_,x,[],rfl,jB.of Z c,h.I c,a,zHA.nil _ _⟩
theorem zDV.J{xs:List Nat}(h:zDV w b v xs)(j:a<=b):zDV w a v xs:=by
 obtain⟨e,f,c⟩:=h;refine⟨e,f,?_⟩;rcases c with c|⟨g,cap,d,rfl,k,i⟩
 exact .inl c;exact .inr ⟨g,cap,d,rfl,oM,i⟩
theorem zDV.nil(w:World)(base:Nat):zDV w base (.slice none 0 0) []:=⟨by simp,rfl,.inl ⟨rfl,rfl⟩⟩
theorem zRs(hB:BSd B){x:Bst}{J J':Nat->Bst->List (Nat × Nat)->Prop}(H:zUz B n Cs Ct J J')(h:zDd e0 Z w bw Ah n Cs Ct x)(F:J 0 x [])
  (P:n<=1000000) (a1:Cs<=1000000) (a2:Ct<=1000000) (hZ:∀b,Z b->b<w.heap.size) (a3:∀g,Ah.ownBlock=some g->¬ Z g):
  CPq 68 #[ptq bw 0] w fun e w'=>∃v y L,e= .returned v/\jB Z w w'/\zDd e0 Z w' bw Ah n Cs Ct y/\J n y L/\zDV w' w.heap.size v (L.map (·.1)):=by
 obtain⟨Au,Av,M⟩:=h.blk;have c1:=M.three;have m:=xgv H;have E:=xgv F;have D:=xgv h;clear h H F;go_enter Tryz.func68,Tryz.ntmps68;go_wp2_with fail
 refine(zJl hB m.out D.out E.out P a1 a2 hZ a3).mono ?_;rintro e l ⟨pv,y,a,rfl,I,S,p,t⟩;obtain⟨a5,s⟩:=m.out.ok n y a p;have W:=xgv s;have b5:a.length<=1000000:=zF s.len P;have V:=xgv p;have X:=xgv t;have HZ:=xgv S;obtain⟨ao,b9,rfl,b4,b3,u⟩:=t.piv;have u:=xgv u;have a7:=I.bel.size;clear p t s a5 S m D E c1 M;go_wp2;go_loopw [3,19] (fun b0 C wr=>∃k:Nat,C=niq k/\k<=a.length/\zDV wr l.heap.size b0 ((a.take k).map (·.1))/\BWq l wr) (fun _ C _=>a.length-(intOf C).toNat)
 case atStart=>exact⟨0,rfl,oM,zDV.nil _ _,zB _ _⟩
 obtain⟨k,rfl,i,j,d⟩:=hrel;by_cases O:k<a.length
 .obtain⟨bp,_,rfl,-,-⟩:=u.out oM
  obtain⟨-,b8,T,U⟩:=(X.out.I d).piv.cell O;obtain⟨r,c⟩:∃r,(a.getD k (0,0)).1=r:=⟨_,rfl⟩;obtain⟨q,Q⟩:∃q,(a.getD k (0,0)).2=q:=⟨_,rfl⟩;have b6:r<=1000000:=by have:=(W.out.mem k O).1;omega
  rw[c]at T;rw[Q]at U;have R:(a.take (k+1)).map (·.1)=(a.take k).map (·.1)++ [r]:=by
   rw[zAK,List.map_append];congr 1;rw[xgb]at c;cases N:a[k]? with
   |none=>rw[List.getElem?_eq_none_iff]at N;omega
   |some c0=>rw[N]at c;simp at c;simp[c]
  have Y:=xgv R;have a8:((a.take k).map (·.1)).length=k:=by simp;omega
  clear c Q R;go_upto_region 5 with(fail)
  refine zE ?_;intro f K;obtain⟨G,o,b7⟩:=qL K;have o:Blk f wr.heap.size zDb #[niq r,niq q]:=o;have a4:=j.I G;have z:=d.trans (G.mono d.size);have t1:=o.two;have a9:∀w':World,zBI (w'.alloc (.cells #[niq r] tNn)) (some ⟨w'.heap.size,0,none⟩) [r]:=fun w'=>⟨by simp;omega,fun _=>⟨_,0,_,rfl,heap_alloc_new w' _,fun k x i=>by
   match k with
   |0=>simp at i;subst i;rfl
   |k+1=>simp at i⟩⟩
  have b2:=z.size;clear K T U;go_wp2_with (at_builtin;refine zV9 rfl _ _ rfl l.heap.size u3 ((a.take k).map (·.1)) rfl (a4.alloc _) (some ⟨f.heap.size,0,none⟩) 1 1 [r] rfl (a9 f) rfl (by rw[a8];omega) (by simp;omega) ?_;intro v' w' a6 A)
  have A:World.grownBy (f.alloc (.cells #[niq r] tNn)) w' (Value.ownBlock u3):=A;have a0:BWq l w':=(z.alloc z.size _).grown A (by simp;omega) (fun g hg=>(j.own g hg).1);go_roundw
  case rel=>exact⟨k+1,by simp,oM,by rw[Y.out];exact a6,a0⟩
  case measure=>exact meq
 obtain rfl:k=a.length:=oM;go_wp2;go_ret;exact⟨_,y,a,rfl,I.trans (jB.of Z d),HZ.out.I d,V.out,(by rw[zAG]at j;exact j.J a7)⟩
def StH(lo R C:Nat)(F:Nat->Nat->Int):World->Value->Prop:=fun w v=>∃bs,Wri w v R C bs F/\∀b,Zn v bs b->lo<=b
def StM(lo R C:Nat)(F:Nat->Nat->Int):World->Value->Prop:=fun w v=>∃o c,v= .agg #[niq R,niq C,.slice o R c]/\StH lo R C F w (.slice o R c)
def zWL(R:Nat):World->Value->Prop:=fun w v=>zET w v R
def StB(lo R C:Nat)(F:Nat->Nat->Int):World->Value->Prop:=fun w v=>∃Ah Au Av,v= .agg #[Ah,Au,Av]/\StH lo R C F w Ah/\zET w Au R/\zET w Av R
def StP(lo R C:Nat)(F:Nat->Nat->Int):World->Value->Prop:=fun w v=>∃g Ah Au Av,v=ptq g 0/\lo<=g/\Blk w g tHW #[Ah,Au,Av]/\StH lo R C F w Ah/\zET w Au R/\zET w Av R
theorem StH.I{lo:Nat}(h:StH lo R C F w v)(d:BWq w w'):StH lo R C F w' v:=by
 obtain⟨a,b,c⟩:=h;exact⟨a,b.I d,c⟩
theorem zOD(lo R C:Nat)(F:Nat->Nat->Int):zAA (StM lo R C F):=fun _ _ _ x ⟨o,c,a,b⟩=>⟨o,c,a,b.I x⟩
theorem zOC(lo R C:Nat)(F:Nat->Nat->Int):zAA (StH lo R C F):=fun _ _ _ x h=>h.I x
theorem zN6(R:Nat):zAA (zWL R):=fun _ _ _ x h=>zET.I h x
theorem zOB(lo R C:Nat)(F:Nat->Nat->Int):zAA (StB lo R C F):=fun _ _ _ x ⟨a,b,c,d,e,f,g⟩=>⟨a,b,c,d,e.I x,f.I x,g.I x⟩
theorem zI6(lo R C:Nat)(F:Nat->Nat->Int):zAA (StP lo R C F):=fun _ _ _ x ⟨g,a,b,c,e,d,j,f,h,i⟩=>⟨g,a,b,c,e,d,j.I x,f.I x,h.I x,i.I x⟩
theorem zJ5(w:World)(n:Nat)(b:n<=1000000):zET (w.alloc (.cells (madeCells (Value.slice none 0 0).cells (n*1)) tR)) (.slice (some ⟨w.heap.size,0,none⟩) n n) n:=by
 refine⟨_,_,_,rfl,xgf _,oM,yJ _ _ _,fun i a=>?_⟩;unfold madeCells;rw[Array.getElem?_eq_getElem (by simp;omega)];simp[Value.cells,Nat.mod_one]
theorem zKr(w:World)(n:Nat)(a:n<=1000000):zET (w.alloc (.cells (madeCells #[Value.slice none 0 0] n) tR)) (.slice (some ⟨w.heap.size,0,none⟩) n n) n:=by
 have h:=zJ5 w n a;rw[zAp]at h;exact h
theorem zUF(u:BSm B)(v f:Value)(M:List (List Int))(R C lo:Nat)(w:World)(h:zLq w v R C M)(hF:zBe R C M)(D:yA w f 1)(y:R<=1000000)(x:C<=1000000)(F:okF B R C (ent M))(I:Sm 1)(E:lo<=w.heap.size):
  CPq 103 #[v,f] w fun e w'=>∃v,e= .returned v/\StM lo R C (ent M) w' v/\BWq w w':=by
 refine(zOG v f M R C 1 w h hF D y x ?_ I).mono fun e w' a=>?_
 .intro r a z H
  obtain⟨i,g,n⟩:=yL a;obtain⟨j,A,p⟩:=yL H;have l:M[i]?=some r:=by rw[xga g,n]
  have m:r[j]?=some z:=by rw[xga A,p]
  have J:=hF.2 r a;have:=F i (by rw[<-hF.1];exact g) j oM;rw[zDL l m]at this;exact u.sm _ this
 have G:yV R C (fun i j=>1*ent M i j)=yV R C (ent M):=zAE fun i _ j _=>jR _
 rw[G]at a;obtain⟨v,rfl,⟨o,c,k,q,s,t⟩,d⟩:=zDW.within a;exact⟨v,rfl,⟨o,c,q,k,s,fun b d=>zF E (t b d).1⟩,d⟩
theorem zQx(hB:BSm B)(v:Value)(M:List (List Int))(R C:Nat)(w:World)(h:zLq w v R C M)(hF:zBe R C M)(m:R<=1000000)(hC:C<=1000000)(J:okF B R C (ent M))(K:Sm 1):
  CPq 66 #[v] w fun e w'=>∃v,e= .returned v/\StP w.heap.size R C (ent M) w' v/\BWq w w':=by
 have G:=h;obtain⟨b2,rfl,h⟩:=h;obtain⟨ao,n,cap,rfl,F,e3,e4,-⟩:=id h;obtain rfl:R=n:=by rw[<-F,hF.1]
 have N:=xgv hF;have O:=xgv J;have L:=xgv G;have P:=xgv K;clear J G hF F K;go_enter Tryz.func66,Tryz.ntmps66;go_upto_region 1 with(fail)
 refine zE ?_;intro d H;obtain⟨u,T,b8⟩:=qL H;obtain⟨U,V,r,X,Y,s⟩:=T.three;have b3:=zOD d.heap.size R C (ent M);have b4:=zOC d.heap.size R C (ent M);have b5:=zN6 R;have b6:=zOB d.heap.size R C (ent M);have b7:=zI6 d.heap.size R C (ent M);have a4:=fun W=>mkR (R:Int) R rfl oM W
 clear H;refine yD 12 [pcI 1 (1),pcD 2 [1] (StM d.heap.size R C (ent M)),pcD 3 [2] (StH d.heap.size R C (ent M)),pcD 6 [] (zWL R),pcD 9 [] (zWL R),pcD 10 [3,6,9] (StB d.heap.size R C (ent M)),pcD 11 [10] (StP d.heap.size R C (ent M))] ?_;refine sRd ?_;refine sRc (fun a hI i f=>by go_simp;exact ck f (zDt 1 _ oM oM)) (fun c0 _=>?_);refine sRc (fun a hI I i f=>by go_simp;exact ck f (zUF hB _ _ M R C d.heap.size _ ((L.out.I u).I hI.bel) N.out I m hC O.out P.out hI.bel.size)) (fun a7 _=>?_);refine sRc (fun a hI y i f=>?_) (fun a8 _=>?_)
 .obtain⟨o,c,rfl,a0⟩:StM d.heap.size R C (ent M) a a7:=y
  go_simp;exact⟨f _ _ a0,zB _ _⟩
 refine sRd ?_;refine sRc (fun a hI i f=>?_) (fun a9 _=>?_)
 .go_simp
  exact⟨f _ _ (by first|exact zJ5 a R m|exact zKr a R m),(zB _ _).alloc (xgf _) _⟩
 refine sRd ?_;refine sRc (fun a hI i f=>?_) (fun b0 _=>?_)
 .go_simp
  exact⟨f _ _ (by first|exact zJ5 a R m|exact zKr a R m),(zB _ _).alloc (xgf _) _⟩
 refine sRc (fun a hI z A D i f=>?_) (fun a5 _=>?_)
 .have j:StH d.heap.size R C (ent M) a a8:=z
  have k:zET a a9 R:=A;have l:zET a b0 R:=D;obtain⟨S,t,a1⟩:=id j;obtain⟨o3,r,rfl⟩:=t.shape;obtain⟨g6,s,_,rfl,-⟩:=id k;obtain⟨g9,Z,_,rfl,-⟩:=id l;go_simp;exact⟨f _ _ ⟨_,_,_,rfl,j,k,l⟩,zB _ _⟩
 refine sRc (fun a hI x i f=>?_) (fun a6 _=>?_)
 .obtain⟨Ah,p,q,rfl,j,k,l⟩:StB d.heap.size R C (ent M) a a5:=x
  have E:=(zB a.heap.size a).alloc (xgf _) (.cells #[Ah,p,q] tHW);obtain⟨S,t,a1⟩:=id j;obtain⟨o3,r,rfl⟩:=t.shape;obtain⟨g6,s,_,rfl,-⟩:=id k;obtain⟨g9,Z,_,rfl,-⟩:=id l;go_simp;exact f _ _ ⟨_,_,_,_,rfl,hI.bel.size,yJ _ _ _,j.I E,k.I E,l.I E⟩
 refine sRe ?_;intro w2 a3 I y z A D x a2;obtain⟨g,Ah,p,q,rfl,g1,g2,g3,g4,g5⟩:StP d.heap.size R C (ent M) w2 a6:=a2;obtain⟨Q,k1,k2⟩:=g3;have b9:=u.size;clear U V r X Y s a4 x D A z y;go_wp2;go_ret;exact⟨_,rfl,⟨g,Ah,p,q,rfl,oM,g2,⟨Q,k1,fun b hb=>by have:=k2 b hb;omega⟩,g4,g5⟩,nx u a3⟩
end Go.Proofs.YtniiekppgdkknaaGreat
