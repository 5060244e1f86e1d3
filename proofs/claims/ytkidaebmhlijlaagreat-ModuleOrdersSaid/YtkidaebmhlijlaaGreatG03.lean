/- torsionlaw16.ModuleOrders: whatever the input, it returns true, and the input reads as it did. No conditions. -/
import Derived.Test.YtkidaebmhlijlaaGreatG02
set_option linter.unusedVariables false
set_option linter.unusedSimpArgs false
set_option linter.unusedSectionVars false
set_option maxHeartbeats 16000000
set_option maxRecDepth 100000
namespace Go.Proofs.YtkidaebmhlijlaaGreat
open Go.RowKit
theorem zI8(v1 v2 v3:Value)(c R S N:Nat)(P Q M:List Int)(w:World)(h1:I8V w v1 P)(h2:I8V w v2 Q)(Z:I8V w v3 M)(hc:c<=255)(d0:R<=255)(d2:S<=255)(c5:N<=255):
  CPq 8 #[.agg #[.int .u8 c,.int .u8 R,v1,.int .u8 S,v2,.int .u8 N,v3]] w fun e w'=>e= .returned (.bool true)/\BWq w w':=by
 obtain⟨o1,n1,k1,rfl,-⟩:=id h1;obtain⟨o2,n2,k2,rfl,-⟩:=id h2;obtain⟨o3,n3,k3,rfl,-⟩:=id Z;have H1:=xgv h1;have H2:=xgv h2;have H3:=xgv Z;obtain⟨C,hC⟩:∃C:Nat,C=c%4:=⟨_,rfl⟩;have j:C<=3:=oM;have a7:jI (∀w,I8V w (.slice o1 n1 k1) P->I8V w (.slice o2 n2 k2) Q->I8V w (.slice o3 n3 k3) M->CPq 13 #[.agg #[.int .u8 c,.int .u8 R,.slice o1 n1 k1,.int .u8 S,.slice o2 n2 k2,.int .u8 N,.slice o3 n3 k3]] w fun e w'=>∃b6 b7 b8,e= .returned (.tuple #[b6,b7,b8])/\MX C 4 (zD1 C R P) w' b6/\MX C 4 (zD1 C S Q) w' b7/\MX C 4 (zD1 C N M) w' b8/\BWq w w'):=⟨fun w h1 h2 Z=>zGW _ _ _ c R S N P Q M w h1 h2 Z hc d0 d2 c5 hC⟩;have B:jI (Gd C 33 (zD1 C R P)):=⟨zFv j P⟩;have W:jI (Gd C 33 (zD1 C S Q)):=⟨zFv j Q⟩;have DC:jI (Gd C 33 (zD1 C N M)):=⟨zFv j M⟩;skip;obtain⟨i,V⟩:∃i,zD1 C R P=i:=⟨_,rfl⟩;obtain⟨q,a1⟩:∃q,zD1 C S Q=q:=⟨_,rfl⟩;obtain⟨Lc,b3⟩:∃Lc,zD1 C N M=Lc:=⟨_,rfl⟩;rw[V,a1,b3]at a7;rw[V]at B;rw[a1]at W;rw[b3]at DC;have DS:jI (Gd C 33 (zCB C i q)):=⟨by rw[<-V,<-a1];exact zHA j _ _⟩;have DM:jI (Gd C 117 (zDI i q)):=⟨by rw[<-V,<-a1];exact zJx j _ _⟩;have T:jI (Gd C 33 (zCB C i i)):=⟨by rw[<-V];exact zHA j _ _⟩;clear V a1 b3;obtain⟨O,a2⟩:∃f:Bool,f=true↔∀x,i x->q x:=zJv _;obtain⟨U,g⟩:∃f:Bool,f=true↔∀x,q x->i x:=zJv _;obtain⟨bc,c4⟩:∃f:Bool,f=true↔∀x,q x->Lc x:=zJv _;have b4:jI (Ans O (∀x,i x->q x)):=⟨a2⟩;have c8:jI (Ans U (∀x,q x->i x)):=⟨g⟩;have b5:jI (Ans bc (∀x,q x->Lc x)):=⟨c4⟩;have FE:jI (Ans (O && U) (∀x,i x↔q x)):=⟨by unfold Ans;rw[zDU,a2,g];exact⟨fun h x=>⟨h.1 x,h.2 x⟩,fun h=>⟨fun x=>(h x).1,fun x=>(h x).2⟩⟩⟩;have FS:jI (Ans O (∀x,zCB C i q x↔q x)):=⟨a2.trans (zYt B.out.lat W.out.lat).symm⟩;have FM:jI (Ans O (∀x,zDI i q x↔i x)):=⟨a2.trans zYP.symm⟩;clear a2 g c4;clear h1 h2 Z hC;go_enter Tryz.func8,Tryz.ntmps8;go_upto_region 1 with(fail)
 refine zF ?_;intro W0 b9;obtain⟨c9,k,d8⟩:=qJ b9;clear b9;go_wp2_with fail
 refine(zE2 W0).mono ?_;rintro e w1 ⟨rfl,l⟩;have n:=nx c9 l;have k:=k.I l;have f0:=k.cell 0;have f1:=k.cell 1;have f2:=k.cell 2;have f3:=k.cell 3;have f4:=k.cell 4;have X:=k.cell 5;have Y:=k.cell 6;go_wp2_with fail
 refine(a7.out w1 (H1.out.I n) (H2.out.I n) (H3.out.I n)).mono ?_;rintro e w2 ⟨va,vb,vc,rfl,ha,hb,hc,c3⟩;have n:=nx n c3;have k:=k.I c3;obtain⟨aR,ao,an,az,rfl⟩:=ha.agg;obtain⟨bR,bo,bn,bz,rfl⟩:=hb.agg;obtain⟨cR,co,cn,cz,rfl⟩:=hc.agg;clear f0 f1 f2 f3 f4 X Y a7;go_upto_region 3 with(fail)
 refine zF ?_;intro W3 c0;obtain⟨a0,r,bB,t,d9⟩:=zBc c0;clear c0;have d:=xgv (ha.I a0);have m:=xgv (hb.I a0);have s:=xgv (hc.I a0);clear ha hb hc;have n:=nx n a0;have k:=k.I a0;have A:=r.three;have X:=k.cell 5;have Y:=k.cell 6;go_wp2_with fail
 refine(zJi _ _ N M W3 j d.out (H3.out.I n) c5).mono ?_;rintro e w4 ⟨v4,Lp,rfl,hp,c6,l⟩;have a8:=xgv c6;have n:=nx n l;have k:=k.I l;have r:=r.I l;have d:=xgv (d.out.I l);have bB:=bB.I l;have m:=xgv (m.out.I l);have t:=t.I l;have s:=xgv (s.out.I l);obtain⟨pR,po,pn,pk,rfl⟩:=hp.agg;clear X Y A c6;go_upto_region 4 with(fail)
 refine zF ?_;intro W4 c2;obtain⟨l,y,e0⟩:=qJ c2;have u:=xgv (hp.I l);clear c2 hp;have n:=nx n l;have k:=k.I l;have r:=r.I l;have d:=xgv (d.out.I l);have bB:=bB.I l;have m:=xgv (m.out.I l);have t:=t.I l;have s:=xgv (s.out.I l);go_upto_region 4 with(fail)
 have A:=r.three;have D:=bB.three;obtain⟨f1,f2,f3,f4,X,Y⟩:=t.three;refine zBP [pcD 2 [] (fun _ v=>v= .bool O),pcD 5 [] (fun _ v=>v= .bool U),pcD 8 [] (fun _ v=>v= .bool bc)] ?_;refine sRd ?_;refine sRc (fun p hI o b=>?_) (fun _ a=>?_)
 .go_simp
  refine(zET (e:=33) _ _ _ j dE ((d.out.I hI.bel).mono dE) ((m.out.I hI.bel).mono dE) W.out.bd (ans:=O) b4.out).mono ?_;rintro e z ⟨v,rfl,a,g⟩;exact⟨_,rfl,b _ _ a,g⟩
 obtain⟨_,-,rfl⟩:=a;refine sRd ?_;refine sRc (fun p hI o b=>?_) (fun _ a=>?_)
 .go_simp
  refine(zET (e:=33) _ _ _ j dE ((m.out.I hI.bel).mono dE) ((d.out.I hI.bel).mono dE) B.out.bd (ans:=U) c8.out).mono ?_;rintro e z ⟨v,rfl,a,g⟩;exact⟨_,rfl,b _ _ a,g⟩
 obtain⟨_,-,rfl⟩:=a;refine sRd ?_;refine sRc (fun p hI o b=>?_) (fun _ a=>?_)
 .go_simp
  refine(zET (e:=33) _ _ _ j dE ((m.out.I hI.bel).mono dE) ((s.out.I hI.bel).mono dE) DC.out.bd (ans:=bc) b5.out).mono ?_;rintro e z ⟨v,rfl,a,g⟩;exact⟨_,rfl,b _ _ a,g⟩
 obtain⟨_,-,rfl⟩:=a;refine sRd ?_;refine sRe ?_;intro e2 E _ _ _;clear A D f1 f2 f3 f4 X Y;have n:=nx n E;have k:=k.I E;have r:=r.I E;have d:=xgv (d.out.I E);have bB:=bB.I E;have m:=xgv (m.out.I E);have t:=t.I E;have s:=xgv (s.out.I E);have y:=y.I E;have u:=xgv (u.out.I E);rcases O with _|_
 .
  go_upto_region 5 with(fail)
  have A:=r.three;have D:=bB.three;have K:=zAc C (zCB C i q);have a9:=zAc C (q);have b0:=zAc C (zDI i q);have b2:=zAc C (i);refine zBP [pcD 3 [] (BX C (zCB C i q)),pcD 5 [] (BX C (q)),pcD 6 [3,5] (fun _ v=>v= .bool false),pcD 12 [] (BX C (zDI i q)),pcD 14 [] (BX C (i)),pcD 15 [12,14] (fun _ v=>v= .bool false),pcD 21 [] (fun _ v=>v= .bool false)] ?_;refine sRd ?_;refine sRc (fun p hI o b=>by go_simp;exact ck b (zHn (e:=4) (f:=33) _ _ _ j dE (d.out.I hI.bel) (m.out.I hI.bel) DS.out.bd dE)) (fun d5 _=>?_);refine sRd ?_;refine sRc (fun p hI o b=>by go_simp;exact ck b (zFP (e:=4) _ _ j dE (m.out.I hI.bel))) (fun d6 _=>?_);refine sRc (fun p hI a5 a6 o b=>?_) (fun _ a=>?_)
  .go_simp
   refine(zIW _ _ _ a5 a6 (ans:=false) FS.out).mono ?_;rintro e z ⟨v,rfl,a,g⟩;exact⟨_,rfl,b _ _ a,g⟩
  obtain⟨_,-,rfl⟩:=a;refine sRd ?_;refine sRc (fun p hI o b=>by go_simp;exact ck b (zEm (e:=33) (f:=117) _ _ _ j dE ((d.out.I hI.bel).mono dE) ((m.out.I hI.bel).mono dE) B.out.bd W.out.bd DM.out.bd dE)) (fun d3 _=>?_);refine sRd ?_;refine sRc (fun p hI o b=>by go_simp;exact ck b (zFP (e:=4) _ _ j dE (d.out.I hI.bel))) (fun d4 _=>?_);refine sRc (fun p hI a3 a4 o b=>?_) (fun _ a=>?_)
  .go_simp
   refine(zIW _ _ _ a3 a4 (ans:=false) FM.out).mono ?_;rintro e z ⟨v,rfl,a,g⟩;exact⟨_,rfl,b _ _ a,g⟩
  obtain⟨_,-,rfl⟩:=a;refine sRd ?_;refine sRc (fun p hI o b=>?_) (fun _ a=>?_)
  .go_simp
   refine(zK8 (e:=4) _ _ _ j dE (d.out.I hI.bel) (m.out.I hI.bel) (ans:=false) FE.out).mono ?_;rintro e z ⟨v,rfl,a,g⟩;exact⟨_,rfl,b _ _ a,g⟩
  obtain⟨_,-,rfl⟩:=a;refine sRd ?_;refine sRe ?_;intro e3 F a5 a6 _ a3 a4 _ _;clear K a9 b0 b2;clear A D;have n:=nx n F;have k:=k.I F;have r:=r.I F;have d:=xgv (d.out.I F);have bB:=bB.I F;have m:=xgv (m.out.I F);have t:=t.I F;have s:=xgv (s.out.I F);have y:=y.I F;have u:=xgv (u.out.I F);go_upto_region 7 with(fail)
  have A:=r.three;have D:=y.three;have K:=zAc C (zCB C i i);refine zBP [pcD 7 [] (fun _ v=>v= .bool true),pcD 13 [] (BX C (zCB C i i)),pcD 14 [13] (fun _ v=>v= .bool true),pcD 19 [] (fun _ v=>v= .bool true)] ?_;refine sRd ?_;refine sRc (fun p hI o b=>?_) (fun _ a=>?_)
  .go_simp
   refine(zET (e:=33) _ _ _ j dE ((d.out.I hI.bel).mono dE) ((d.out.I hI.bel).mono dE) B.out.bd (ans:=true) ⟨fun _=>fun _ h=>h,fun _=>rfl⟩).mono ?_;rintro e z ⟨v,rfl,a,g⟩;exact⟨_,rfl,b _ _ a,g⟩
  obtain⟨_,-,rfl⟩:=a;refine sRd ?_;refine sRc (fun p hI o b=>by go_simp;exact ck b (zHn (e:=4) (f:=33) _ _ _ j dE (d.out.I hI.bel) (d.out.I hI.bel) T.out.bd dE)) (fun c7 _=>?_);refine sRc (fun p hI L o b=>?_) (fun _ a=>?_)
  .go_simp
   refine(zK8 (e:=33) _ _ _ j dE ((d.out.I hI.bel).mono dE) (BX.mx L j T.out.bd) (ans:=true) ⟨fun _=>fun x=>(zJP B.out.lat x).symm,fun _=>rfl⟩).mono ?_;rintro e z ⟨v,rfl,a,g⟩;exact⟨_,rfl,b _ _ a,g⟩
  obtain⟨_,-,rfl⟩:=a;refine sRd ?_;refine sRc (fun p hI o b=>?_) (fun _ a=>?_)
  .go_simp
   refine(zET (e:=33) _ _ _ j dE ((u.out.I hI.bel).mono dE) ((d.out.I hI.bel).mono dE) B.out.bd (ans:=true) ⟨fun _=>a8.out,fun _=>rfl⟩).mono ?_;rintro e z ⟨v,rfl,a,g⟩;exact⟨_,rfl,b _ _ a,g⟩
  obtain⟨_,-,rfl⟩:=a;refine sRd ?_;refine sRe ?_;intro e4 G _ L _ _;clear K;clear A D;have n:=nx n G;have k:=k.I G;have r:=r.I G;have d:=xgv (d.out.I G);have bB:=bB.I G;have m:=xgv (m.out.I G);have t:=t.I G;have s:=xgv (s.out.I G);have y:=y.I G;have u:=xgv (u.out.I G);go_wp2;go_ret;exact⟨rfl,n⟩
 go_upto_region 5 with(fail)
 have A:=r.three;have D:=bB.three;have K:=zAc C (zCB C i q);have a9:=zAc C (q);have b0:=zAc C (zDI i q);have b2:=zAc C (i);refine zBP [pcD 3 [] (BX C (zCB C i q)),pcD 5 [] (BX C (q)),pcD 6 [3,5] (fun _ v=>v= .bool true),pcD 12 [] (BX C (zDI i q)),pcD 14 [] (BX C (i)),pcD 15 [12,14] (fun _ v=>v= .bool true),pcD 21 [] (fun _ v=>v= .bool U)] ?_;refine sRd ?_;refine sRc (fun p hI o b=>by go_simp;exact ck b (zHn (e:=4) (f:=33) _ _ _ j dE (d.out.I hI.bel) (m.out.I hI.bel) DS.out.bd dE)) (fun d5 _=>?_);refine sRd ?_;refine sRc (fun p hI o b=>by go_simp;exact ck b (zFP (e:=4) _ _ j dE (m.out.I hI.bel))) (fun d6 _=>?_);refine sRc (fun p hI a5 a6 o b=>?_) (fun _ a=>?_)
 .go_simp
  refine(zIW _ _ _ a5 a6 (ans:=true) FS.out).mono ?_;rintro e z ⟨v,rfl,a,g⟩;exact⟨_,rfl,b _ _ a,g⟩
 obtain⟨_,-,rfl⟩:=a;refine sRd ?_;refine sRc (fun p hI o b=>by go_simp;exact ck b (zEm (e:=33) (f:=117) _ _ _ j dE ((d.out.I hI.bel).mono dE) ((m.out.I hI.bel).mono dE) B.out.bd W.out.bd DM.out.bd dE)) (fun d3 _=>?_);refine sRd ?_;refine sRc (fun p hI o b=>by go_simp;exact ck b (zFP (e:=4) _ _ j dE (d.out.I hI.bel))) (fun d4 _=>?_);refine sRc (fun p hI a3 a4 o b=>?_) (fun _ a=>?_)
 .go_simp
  refine(zIW _ _ _ a3 a4 (ans:=true) FM.out).mono ?_;rintro e z ⟨v,rfl,a,g⟩;exact⟨_,rfl,b _ _ a,g⟩
 obtain⟨_,-,rfl⟩:=a;refine sRd ?_;refine sRc (fun p hI o b=>?_) (fun _ a=>?_)
 .go_simp
  refine(zK8 (e:=4) _ _ _ j dE (d.out.I hI.bel) (m.out.I hI.bel) (ans:=U) FE.out).mono ?_;rintro e z ⟨v,rfl,a,g⟩;exact⟨_,rfl,b _ _ a,g⟩
 obtain⟨_,-,rfl⟩:=a;refine sRd ?_;refine sRe ?_;intro d7 H a5 a6 _ a3 a4 _ _;clear K a9 b0 b2;clear A D;have n:=nx n H;have k:=k.I H;have r:=r.I H;have d:=xgv (d.out.I H);have bB:=bB.I H;have m:=xgv (m.out.I H);have t:=t.I H;have s:=xgv (s.out.I H);have y:=y.I H;have u:=xgv (u.out.I H);rcases bc with _|_
 .
  go_upto_region 7 with(fail)
  have A:=r.three;have D:=y.three;have K:=zAc C (zCB C i i);refine zBP [pcD 7 [] (fun _ v=>v= .bool true),pcD 13 [] (BX C (zCB C i i)),pcD 14 [13] (fun _ v=>v= .bool true),pcD 19 [] (fun _ v=>v= .bool true)] ?_;refine sRd ?_;refine sRc (fun p hI o b=>?_) (fun _ a=>?_)
  .go_simp
   refine(zET (e:=33) _ _ _ j dE ((d.out.I hI.bel).mono dE) ((d.out.I hI.bel).mono dE) B.out.bd (ans:=true) ⟨fun _=>fun _ h=>h,fun _=>rfl⟩).mono ?_;rintro e z ⟨v,rfl,a,g⟩;exact⟨_,rfl,b _ _ a,g⟩
  obtain⟨_,-,rfl⟩:=a;refine sRd ?_;refine sRc (fun p hI o b=>by go_simp;exact ck b (zHn (e:=4) (f:=33) _ _ _ j dE (d.out.I hI.bel) (d.out.I hI.bel) T.out.bd dE)) (fun c7 _=>?_);refine sRc (fun p hI L o b=>?_) (fun _ a=>?_)
  .go_simp
   refine(zK8 (e:=33) _ _ _ j dE ((d.out.I hI.bel).mono dE) (BX.mx L j T.out.bd) (ans:=true) ⟨fun _=>fun x=>(zJP B.out.lat x).symm,fun _=>rfl⟩).mono ?_;rintro e z ⟨v,rfl,a,g⟩;exact⟨_,rfl,b _ _ a,g⟩
  obtain⟨_,-,rfl⟩:=a;refine sRd ?_;refine sRc (fun p hI o b=>?_) (fun _ a=>?_)
  .go_simp
   refine(zET (e:=33) _ _ _ j dE ((u.out.I hI.bel).mono dE) ((d.out.I hI.bel).mono dE) B.out.bd (ans:=true) ⟨fun _=>a8.out,fun _=>rfl⟩).mono ?_;rintro e z ⟨v,rfl,a,g⟩;exact⟨_,rfl,b _ _ a,g⟩
  obtain⟨_,-,rfl⟩:=a;refine sRd ?_;refine sRe ?_;intro e5 I _ L _ _;clear K;clear A D;have n:=nx n I;have k:=k.I I;have r:=r.I I;have d:=xgv (d.out.I I);have bB:=bB.I I;have m:=xgv (m.out.I I);have t:=t.I I;have s:=xgv (s.out.I I);have y:=y.I I;have u:=xgv (u.out.I I);go_wp2;go_ret;exact⟨rfl,n⟩
 have A:=r.three;have D:=t.three;go_wp2_with fail
 refine(zET (e:=33) _ _ d7 j dE (d.out.mono dE) (s.out.mono dE) DC.out.bd (ans:=true) ⟨fun _=>fun x h=>b5.out.1 rfl x (b4.out.1 rfl x h),fun _=>rfl⟩).mono ?_;rintro e e1 ⟨v,rfl,rfl,l⟩;have n:=nx n l;have k:=k.I l;have r:=r.I l;have d:=xgv (d.out.I l);have bB:=bB.I l;have m:=xgv (m.out.I l);have t:=t.I l;have s:=xgv (s.out.I l);have y:=y.I l;have u:=xgv (u.out.I l);clear A D;go_upto_region 7 with(fail)
 have A:=r.three;have D:=y.three;have K:=zAc C (zCB C i i);refine zBP [pcD 7 [] (fun _ v=>v= .bool true),pcD 13 [] (BX C (zCB C i i)),pcD 14 [13] (fun _ v=>v= .bool true),pcD 19 [] (fun _ v=>v= .bool true)] ?_;refine sRd ?_;refine sRc (fun p hI o b=>?_) (fun _ a=>?_)
 .go_simp
  refine(zET (e:=33) _ _ _ j dE ((d.out.I hI.bel).mono dE) ((d.out.I hI.bel).mono dE) B.out.bd (ans:=true) ⟨fun _=>fun _ h=>h,fun _=>rfl⟩).mono ?_;rintro e z ⟨v,rfl,a,g⟩;exact⟨_,rfl,b _ _ a,g⟩
 obtain⟨_,-,rfl⟩:=a;refine sRd ?_;refine sRc (fun p hI o b=>by go_simp;exact ck b (zHn (e:=4) (f:=33) _ _ _ j dE (d.out.I hI.bel) (d.out.I hI.bel) T.out.bd dE)) (fun c7 _=>?_);refine sRc (fun p hI L o b=>?_) (fun _ a=>?_)
 .go_simp
  refine(zK8 (e:=33) _ _ _ j dE ((d.out.I hI.bel).mono dE) (BX.mx L j T.out.bd) (ans:=true) ⟨fun _=>fun x=>(zJP B.out.lat x).symm,fun _=>rfl⟩).mono ?_;rintro e z ⟨v,rfl,a,g⟩;exact⟨_,rfl,b _ _ a,g⟩
 obtain⟨_,-,rfl⟩:=a;refine sRd ?_;refine sRc (fun p hI o b=>?_) (fun _ a=>?_)
 .go_simp
  refine(zET (e:=33) _ _ _ j dE ((u.out.I hI.bel).mono dE) ((d.out.I hI.bel).mono dE) B.out.bd (ans:=true) ⟨fun _=>a8.out,fun _=>rfl⟩).mono ?_;rintro e z ⟨v,rfl,a,g⟩;exact⟨_,rfl,b _ _ a,g⟩
 obtain⟨_,-,rfl⟩:=a;refine sRd ?_;refine sRe ?_;intro e6 J _ L _ _;clear K;clear A D;have n:=nx n J;have k:=k.I J;have r:=r.I J;have d:=xgv (d.out.I J);have bB:=bB.I J;have m:=xgv (m.out.I J);have t:=t.I J;have s:=xgv (s.out.I J);have y:=y.I J;have u:=xgv (u.out.I J);go_wp2;go_ret;exact⟨rfl,n⟩
open Go.ChangeShapes Go.WideShapes Go.ChangeAt
theorem zHI(o:Os)(O:o.Started)(H:Type)(enc:TypeId × Value->H):
  ReturnsInHanded {} Tryz.checked o 8 .any (Rows.moduleOrdersSpec.pre6 enc Tryz.prog Tryz.f8 Rows.moduleOrdersRow.domain false) (Rows.moduleOrdersSpec.post enc Tryz.prog Tryz.f8 false true false false):=by
 refine returnsInHanded_of_change (C:=Tryz.checked) Tryz.own O kR Tryz.func8
  (ChangeSpec.witness6 (enc:=enc) (C:=Tryz.checked) false ⟨#[],#[.agg #[.int .u8 0,.int .u8 0,.slice none 0 0,.int .u8 0,.slice none 0 0,.int .u8 0,.slice none 0 0]],[]⟩ 8 kR kR kR kR) ?_
 intro W w b y T R n k U _;have m:∀(j:Nat) t v,Tryz.f8.params[j]?=some t->b[j]?=some v->Value.okWide Tryz.prog W .any w t v:=n;have a:=k;obtain⟨p,q,g,z,rfl,V,X⟩:=k;have f:DataW.TrodAll enc Tryz.prog W 0 (fun _=>true) true Tryz.f8.params.toList b.toList y p:=g;rw[Tryz.params8]at f m;obtain⟨P,S,rfl,rfl,d⟩:=trodAll_one f;obtain⟨rfl,rfl⟩:=trodVars_none z;clear g n;simp only[List.append_nil]at a;have l:∀x∈p,x.block<W.heap.size:=fun x G=>a.lt x (by simp[G])
 obtain⟨c,L,M,N,u1,u2,u3,I,J,K,rfl,A,D,E,F,r,s,u⟩:=zFl (m 0 26 P rfl rfl) d l;refine(zI8 u1 u2 u3 c L M N I J K W r s u A D E F).mono fun e Q ⟨B,i⟩=>?_
 subst B;refine⟨_,rfl,_,_,_,[],p,[],a,?_,?_,rfl,i.frame _,fun h=>by cases h⟩;exact trodAll_mk1 (shut_bool Tryz.underlying4 true);exact trodAll_mk1 (Below.trod zCa kR (yW kR) d i l)
theorem zKB:(Rows.moduleOrdersRow.inPlace==Tryz.pinned.checked.prog.inPlace 8)=true:=by kernel_rfl
theorem zKC:(Rows.moduleOrdersRow.unfollowed==Tryz.pinned.checked.prog.unfollowed 8)=true:=by kernel_rfl
theorem zKD:(Rows.moduleOrdersRow.recurses==Tryz.pinned.checked.prog.recurses 8)=true:=by kernel_rfl
theorem zKE:(Rows.moduleOrdersRow.named==Tryz.pinned.checked.prog.varsNamed 8)=true:=by kernel_rfl
theorem zHH:joinedFacts Tryz.pinned.checked.prog 8 Tryz.f8 Rows.moduleOrdersSpec Rows.moduleOrdersRow=true:=by
 unfold joinedFacts;rw[zKB,zKC,zKD,zKE];kernel_rfl
theorem moduleOrders_holds:Rows.ModuleOrdersSaid:=
 OpenClaim.holds_of_wide 8 Tryz.f8 rfl rfl rfl rfl rfl rfl rfl ⟨rfl,rfl,rfl,rfl,rfl⟩ rfl rfl rfl rfl rfl kR Tryz.func8 zHH
  (yW kR) (by unfold Func.isWrapper;first|(rw[zB (by decide+kernel)];kernel_rfl)|(rw[zA (by decide+kernel)];exact⟨rfl,rfl⟩))
  (fun b c H a _=>zHI b c H a)
end Go.Proofs.YtkidaebmhlijlaaGreat
