/- torsionlaw16.ModuleQuotients: whatever the input, it returns true, and the input reads as it did. No conditions. -/
import Derived.Test.YtkidaebmhlijlaaGreatG02
import Derived.Test.YtkidaebmhlijlaaGreatG04
set_option linter.unusedVariables false
set_option linter.unusedSimpArgs false
set_option linter.unusedSectionVars false
set_option maxHeartbeats 16000000
set_option maxRecDepth 100000
namespace Go.Proofs.YtkidaebmhlijlaaGreat
open Go.RowKit
theorem zHJ(v1 v2 v3:Value)(c H E I:Nat)(M G U:List Int)(w:World)(h1:I8V w v1 M)(h2:I8V w v2 G)(Z:I8V w v3 U)(hc:c<=255)(k7:H<=255)(g2:E<=255)(k8:I<=255):
  CPq 10 #[.agg #[.int .u8 c,.int .u8 H,v1,.int .u8 E,v2,.int .u8 I,v3]] w fun e w'=>e= .returned (.bool true)/\BWq w w':=by
 obtain⟨o1,n1,T,rfl,-⟩:=id h1;obtain⟨o2,n2,B,rfl,-⟩:=id h2;obtain⟨o3,n3,k3,rfl,-⟩:=id Z;have H1:=xgv h1;have H2:=xgv h2;have H3:=xgv Z;obtain⟨C,hC⟩:∃C:Nat,C=c%4:=⟨_,rfl⟩;have x:C<=3:=oM;have c0:jI (∀w,I8V w (.slice o1 n1 T) M->I8V w (.slice o2 n2 B) G->I8V w (.slice o3 n3 k3) U->CPq 13 #[.agg #[.int .u8 c,.int .u8 H,.slice o1 n1 T,.int .u8 E,.slice o2 n2 B,.int .u8 I,.slice o3 n3 k3]] w fun e w'=>∃a4 b d5,e= .returned (.tuple #[a4,b,d5])/\MX C 4 (zD1 C H M) w' a4/\MX C 4 (zD1 C E G) w' b/\MX C 4 (zD1 C I U) w' d5/\BWq w w'):=⟨fun w h1 h2 Z=>zGW _ _ _ c H E I M G U w h1 h2 Z hc k7 g2 k8 hC⟩;have DA:jI (Gd C 33 (zD1 C H M)):=⟨zFv x M⟩;have DB:jI (Gd C 33 (zD1 C E G)):=⟨zFv x G⟩;have DC:jI (Gd C 33 (zD1 C I U)):=⟨zFv x U⟩;skip;obtain⟨O,c3⟩:∃O,zD1 C H M=O:=⟨_,rfl⟩;obtain⟨Lb,c4⟩:∃Lb,zD1 C E G=Lb:=⟨_,rfl⟩;obtain⟨Lc,c5⟩:∃Lc,zD1 C I U=Lc:=⟨_,rfl⟩;rw[c3,c4,c5]at c0;rw[c3]at DA;rw[c4]at DB;rw[c5]at DC;clear c3 c4 c5;clear h1 h2 Z hC;go_enter Tryz.func10,Tryz.ntmps10;go_upto_region 1 with(fail)
 refine zF ?_;intro W0 d9;obtain⟨c2,g,m9⟩:=qJ d9;clear d9;go_wp2_with fail
 refine(zE2 W0).mono ?_;rintro e w1 ⟨rfl,a⟩;have d:=nx c2 a;have g:=g.I a;have f0:=g.cell 0;have f1:=g.cell 1;have f2:=g.cell 2;have f3:=g.cell 3;have f4:=g.cell 4;have f5:=g.cell 5;have f6:=g.cell 6;go_wp2_with fail
 refine(c0.out w1 (H1.out.I d) (H2.out.I d) (H3.out.I d)).mono ?_;rintro e w2 ⟨va,vb,vc,rfl,ha,hb,hc,R⟩;have d:=nx d R;have g:=g.I R;obtain⟨aR,ao,an,az,rfl⟩:=ha.agg;obtain⟨bR,bo,bn,bz,rfl⟩:=hb.agg;obtain⟨cR,co,cn,cz,rfl⟩:=hc.agg;clear f0 f1 f2 f3 f4 f5 f6 c0;go_upto_region 3 with(fail)
 refine zF ?_;intro W3 e3;obtain⟨a5,l,bB,bC,n5⟩:=zBc e3;clear e3;have k:=xgv (ha.I a5);have XB:=xgv (hb.I a5);have XC:=xgv (hc.I a5);clear ha hb hc;have d:=nx d a5;have g:=g.I a5;clear bB;clear XB;clear bC;clear XC;have Q:=l.three;have f3:=g.cell 3;have f4:=g.cell 4;go_wp2_with fail
 refine(zJi _ _ E G W3 x k.out (H2.out.I d) g2).mono ?_;rintro e w4 ⟨v4,Y,rfl,hp,g3,a⟩;have d0:=xgv g3;have d:=nx d a;have g:=g.I a;have l:=l.I a;have k:=xgv (k.out.I a);obtain⟨pR,po,pn,pk,rfl⟩:=hp.agg;clear f3 f4 Q g3 g;go_upto_region 4 with(fail)
 refine zF ?_;intro W4 e4;obtain⟨a,u,n6⟩:=qJ e4;have t:=xgv (hp.I a);have DP:jI (Gd C 49 Y):=⟨hp.gd x⟩;clear e4 hp;have d:=nx d a;have l:=l.I a;have k:=xgv (k.out.I a);obtain⟨mA,PA,d7⟩:=DA.out.hb;obtain⟨mB,PB,d8⟩:=DP.out.hb;have b0:=xgv d7;have b2:=xgv d8;obtain⟨p,e8⟩:∃p:Bool,p=true↔mA=mB:=zJv _;have b9:jI (Ans p (mA=mB)):=⟨e8⟩;clear d7 d8 e8;have Q:=l.three;have d1:=u.three;go_wp2_with fail
 refine(zZ3 (e:=49) (f:=49) (a1:=true) _ _ W4 x dE (k.out.mono dE) (t.out.mono dE) (DA.out.mono dE).bd DP.out.bd dE dE ⟨fun _=>d0.out,fun _=>rfl⟩).mono ?_;rintro e w5 ⟨v5,k5,rfl,L,a⟩;obtain⟨h,-⟩|⟨-,rfl,b,N,tq,tn,tk,rfl,g4,f9⟩:=L
 cases h;obtain⟨e9,hO,d6⟩:=zUN f9 b0.out b2.out x DP.out.bd dE;have c9:=xgv e9;have K:=xgv hO;have h6:=xgv d6;clear f9 e9 hO d6;have d:=nx d a;have l:=l.I a;have k:=xgv (k.out.I a);have u:=u.I a;have t:=xgv (t.out.I a);clear Q d1;go_upto_region 5 with(fail)
 refine zF ?_;intro W5 e5;obtain⟨a,m,n7⟩:=qJ e5;have o:=xgv (g4.I a);clear e5 g4;have d:=nx d a;have l:=l.I a;have k:=xgv (k.out.I a);have u:=u.I a;have t:=xgv (t.out.I a);have Q:=l.three;have d1:=u.three;go_wp2_with fail
 refine(zHf (e:=49) (f:=49) (a1:=true) (a2:=p) _ _ W5 x dE (k.out.mono dE) (t.out.mono dE) (DA.out.mono dE).bd DP.out.bd dE dE ⟨fun _=>d0.out,fun _=>rfl⟩ (fun h0 o6 P l7 h1 h2=>by
  obtain⟨rfl,-⟩:=b0.out.eq h1 fun a3=>yF
  obtain⟨rfl,-⟩:=b2.out.eq h2 fun a3=>yF
  exact b9.out)).mono ?_
 rintro e w6 ⟨v6,k6,rfl,L,a⟩;have k4:∃a3 a4 b c,v6= .agg #[.bool a3,.slice a4 b c]/\(k6==0)=p/\(p=true->∃z,jE w6 v6 z/\zHT C O Y z):=by
  obtain⟨h,-⟩|⟨-,rfl,rfl,rfl⟩|⟨-,rfl,rfl,z,hz,hi⟩:=L
  cases h;exact⟨_,_,_,_,rfl,rfl,fun h=>by cases h⟩;obtain⟨c8,a4,o7,c,a3,rfl,-⟩:=id hz;exact⟨_,_,_,_,rfl,rfl,fun _=>⟨z,hz,hi⟩⟩
 obtain⟨x6,b6,b7,b8,rfl,a9,g6⟩:=k4;have d2:=xgv g6;clear L g6;have d:=nx d a;have l:=l.I a;have k:=xgv (k.out.I a);have u:=u.I a;have t:=xgv (t.out.I a);have m:=m.I a;have o:=xgv (o.out.I a);clear Q d1;go_upto_region 6 with(fail)
 refine zF ?_;intro W6 e6;obtain⟨a,A,n8⟩:=qJ e6;have J:jI (p=true->∃z,jE W6 (.agg #[.bool x6,.slice b6 b7 b8]) z/\zHT C O Y z):=⟨fun h=>(d2.out h).elim fun z h=>⟨z,h.1.ext (lx a),h.2⟩⟩;clear e6 d2;have d:=nx d a;have l:=l.I a;have k:=xgv (k.out.I a);have u:=u.I a;have t:=xgv (t.out.I a);have m:=m.I a;have o:=xgv (o.out.I a);have l0:mA<=3:=zD b0.out.le_cols x;have l4:mB<=3:=zD b2.out.le_cols x;have o5:IntKind.i64.wrap ((mA:Int)-(mB:Int))=b:=by rw[c9.out];exact yC _ oM
 have m0:(b==0)=p:=by
  have h2:p=true↔mA=mB:=b9.out;rw[Bool.eq_iff_iff,beq_iff_eq,c9.out,h2];omega
 clear l0 l4;have Q:=l.three;have d1:=u.three;have g1:=m.two;refine zBP [pcD 6 [] (fun _ v=>v=niq (mA:Nat)),pcD 8 [] (fun _ v=>v=niq (mB:Nat))] ?_;refine sRd ?_;refine sRc (fun V hI W r=>?_) (fun _ F=>?_)
 .go_simp
  refine(zH0 (e:=4) _ _ x dE (k.out.I hI.bel)).mono ?_;rintro e wa ⟨h0,rfl,⟨h4,hg⟩,S⟩;obtain⟨rfl,-⟩:=b0.out.eq hg fun a3=>yF
  exact⟨_,rfl,r _ _ rfl,S⟩
 obtain⟨_,-,rfl⟩:=F;refine sRd ?_;refine sRc (fun V hI W r=>?_) (fun _ F=>?_)
 .go_simp
  refine(zH0 (e:=8) _ _ x dE (t.out.I hI.bel)).mono ?_;rintro e wa ⟨h0,rfl,⟨h4,hg⟩,S⟩;obtain⟨rfl,-⟩:=b2.out.eq hg fun a3=>yF
  exact⟨_,rfl,r _ _ rfl,S⟩
 obtain⟨_,-,rfl⟩:=F;refine sRd ?_;refine sRe ?_;intro w7 a _ _;clear Q d1 g1 k t l u;have d:=nx d a;have m:=m.I a;have o:=xgv (o.out.I a);have A:=A.I a;have J:jI (p=true->∃z,jE w7 (.agg #[.bool x6,.slice b6 b7 b8]) z/\zHT C O Y z):=⟨fun h=>(J.out h).elim fun z h=>⟨z,h.1.ext (lx a),h.2⟩⟩;go_wp2_with fail
 refine(zBa 1 w7 oM oM).mono ?_;rintro e w8 ⟨u8,rfl,hu,a⟩;obtain⟨un,ua,ul,uc,ux,rfl,-⟩:=id hu;have d:=nx d a;have m:=m.I a;have o:=xgv (o.out.I a);have A:=A.I a;have J:jI (p=true->∃z,jE w8 (.agg #[.bool x6,.slice b6 b7 b8]) z/\zHT C O Y z):=⟨fun h=>(J.out h).elim fun z h=>⟨z,h.1.ext (lx a),h.2⟩⟩;go_wp2_with fail
 refine(zBa 1 w8 oM oM).mono ?_;rintro e y ⟨u9,rfl,c6,a⟩;obtain⟨yn,ya,yl,yc,yx,rfl,-⟩:=id c6;have hu:=hu.ext (lx a);have d:=nx d a;have m:=m.I a;have o:=xgv (o.out.I a);have A:=A.I a;have J:jI (p=true->∃z,jE y (.agg #[.bool x6,.slice b6 b7 b8]) z/\zHT C O Y z):=⟨fun h=>(J.out h).elim fun z h=>⟨z,h.1.ext (lx a),h.2⟩⟩;have i5:=m;have i6:=A;have i4:=o;have h7:=J;have c2:=d;have M:=m.lt;have G:=A.lt;have o0:N.length=tn/\tn<=9223372036854775807:=by
  obtain⟨_,_,_,e,h,h2,Z,-⟩:=o.out;injection e with _ e e2
  rw[h,e];exact⟨rfl,oM⟩
 go_upto_region 9 with(fail)
 refine zF ?_;intro W9 e7;obtain⟨b3,d3,d4,n9⟩:=zAU e7;have n:zB9 W9 y.heap.size 1:=zB9.mk d3 (hu.ext (lx b3));have D:zB9 W9 (y.heap.size+1) 1:=zB9.mk d4 (c6.ext (lx b3));clear e7 hu c6 d3 d4 J m A o d;go_wp2;go_loopw [14] (fun iv wr=>∃i:Nat,i<=tn/\iv=niq i/\BWq y wr/\zB9 wr y.heap.size (zEo (N.take i))/\zB9 wr (y.heap.size+1) (zKp N i)) (fun iv _=>tn-(intOf iv).toNat)
 case atStart=>exact⟨0,oM,rfl,b3,n,D⟩
 clear n D b3;obtain⟨i,hi,rfl,j,n,D⟩:=hrel;have m:=i5.I j;have o:=xgv (i4.out.I j);have g1:=m.two;by_cases m7:i<tn
 .obtain⟨b',z,sg,al,ll,cl,rfl,m5,c7,q1,q2,g7⟩:=o.out.cell (k:=i) oM
  have X:=xgv c7;have g5:=K.out.ge i z c7;clear c7;have gW:=D.lt;have o4:IntKind.i64.wrap ((i:Int)+1)=(i:Int)+1:=yC _ oM;go_upto_region 13 with(fail)
  refine zF ?_;intro i0 e0;obtain⟨R,q,n0⟩:=qJ e0;have s:=g7.ext (lx R);have n:=n.I R;have D:=D.I R;have j:=nx j R;have lD:=q.lt;have gD:y.heap.size+2<=i0.heap.size:=D.lt;clear e0 q1 q2 g7 g1 m;obtain⟨t1,t2,t3,t4⟩:=q.two;obtain⟨b5,L⟩:∃b5,zAv z 2=b5:=⟨_,rfl⟩;have m8:decide (b5<0)=false:=by
   rw[<-L,decide_eq_false_iff_not];unfold zAv;split<;>(try split)<;>omega
  have HQ:=xgv L;have l6:=xgv g5;clear L g5;refine zBP [pcD 1 [] (fun _ v=>v= .bool true),pcI 5 2,pcD 6 [5] (fun _ v=>v=niq b5)] ?_;refine sRd ?_;refine sRc (fun V hI W r=>?_) (fun _ F=>?_)
  .go_simp
   refine(zKO _ z _ (s.ext hI.lext)).mono ?_;rintro e wa ⟨rfl,S⟩;exact⟨_,rfl,r _ _ rfl,S⟩
  obtain⟨_,-,rfl⟩:=F;refine sRd ?_;refine sRc (fun V hI W r=>?_) (fun v5 _=>?_)
  .go_simp
   exact ck r (zBa 2 _ oM oM)
  refine sRc (fun V hI h5 W r=>?_) (fun _ F=>?_)
  .go_simp
   refine(zNr _ _ z 2 _ (s.ext hI.lext) h5 (K.out.one i z X.out).sm (zFU dE).sm).mono ?_;rintro e wa ⟨rfl,S⟩;rw[HQ.out];exact⟨_,rfl,r _ _ rfl,S⟩
  obtain⟨_,-,rfl⟩:=F;refine sRd ?_;refine sRe ?_;intro l5 a6 _ h5 _;clear t1 t2 t3 t4 h5;have s:=s.ext (lx a6);have n:=n.I a6;obtain⟨yn,ya,yl,yc,B,i2⟩:=D.I a6;have j:=nx j a6;have q:=q.I a6;obtain⟨t1,t2,t3,t4⟩:=q.two;have s1:=B.two;go_wp2_with fail
  refine(zGJ _ _ z (zKp N i) l5 s i2 (K.out.one i z X.out) (K.out.last i oM) (by have:=K.out.pos i oM;omega)).mono ?_;rintro e p1 ⟨dv,rv,rfl,f7,b4,a7⟩;obtain⟨dn,da,dl,dc,dx,rfl,-⟩:=id f7;obtain⟨rn,ra,rl,rc,rx,rfl,-⟩:=id b4;rw[Int.emod_eq_zero_of_dvd (K.out.dvd i z X.out)]at b4;have s:=s.ext (lx a7);have n:=n.I a7;have B:=B.I a7;have j:=nx j a7;have q:=q.I a7;clear t1 t2 t3 t4 s1 i2 f7 dx rx;go_upto_region 16 with(fail)
  refine zF ?_;intro i3 e1;obtain⟨a0,bQ,bR,n4⟩:=zAU e1;have s:=s.ext (lx a0);have ir:=b4.ext (lx a0);have n:=n.I a0;have B:=B.I a0;have j:=nx j a0;have q:=q.I a0;clear e1 b4 bQ;obtain⟨H,E,I,r4⟩:=bR.two;go_wp2_with fail
  refine(zBz _ 0 i3 ir).mono ?_;rintro e p2 ⟨rfl,a8⟩;rw[show zAv 0 0=0 from rfl];have s:=s.ext (lx a8);obtain⟨xn,xa,xl,xc,T,i1⟩:=n.I a8;have B:=B.I a8;have j:=nx j a8;have q:=q.I a8;clear H E I r4 bR ir n;obtain⟨t1,t2,t3,t4⟩:=q.two;have s1:=T.two;have o9:=T.lt;have p0:=B.lt;have o8:=q.lt;obtain⟨P,hP⟩:∃P,zEo (N.take i)=P:=⟨_,rfl⟩;have h9:jI (Smd P):=⟨hP ▸ K.out.part i⟩;have h8:jI (zEo (N.take (i+1))=P*z):=⟨by rw[zLc X.out,hP]⟩;rw[hP]at i1;clear hP;go_upto_region 18 with(fail)
  refine zLz [pcI 2 (P*z),pcD 3 [] (fun _ v=>v= .agg #[.bool sg,.slice al ll cl]),pbE 4 y.heap.size 43 2,pbE 5 (y.heap.size+1) 43 2] ?_;refine sRd ?_;refine sRg (fun V hI W r=>?_) (fun v2 k9=>?_)
  .go_simp
   exact ck r (zC8 _ _ P z V (i1.ext hI.lext) (s.ext hI.lext) h9.out.sm (K.out.one i z X.out).sm)
  obtain⟨m1,m2,rfl,i8⟩:=zJD k9;refine sRg (fun V hI W r=>?_) (fun _ F=>?_)
  .have l8:=hI.cell t1
   have l9:=hI.cell t2;go_simp;exact⟨r _ _ rfl,zC _ _⟩
  obtain⟨_,-,rfl⟩:=F;refine sRx (.agg #[m1,m2]) ?_ i8;refine sRx (.agg #[.bool sg,.slice al ll cl]) ?_;refine sRb ?_;simp only[FA,FC,FN,ptr,List.nil_append,List.cons_append,Act.put,xgh,xgi,xgj];intro Wz hR h2 _ g8 g9;have n:zB9 Wz y.heap.size (P*z):=zB9.mk (g8 _ rfl) h2;have D:zB9 Wz (y.heap.size+1) z:=zB9.mk (g9 _ rfl) (s.ext hR.lext);have j:=j.trans (hR.bel y.heap.size);clear t1 t2 t3 t4 s1 h2 g8 g9 hR;go_wp2;go_roundw
  case rel=>exact⟨i+1,oM,by simp,j,h8.out ▸ n,(zLI X.out).symm ▸ D⟩
  case measure=>exact meq
 obtain rfl:i=tn:=oM;have f8:zEo (N.take i)=zEo N:=by rw[jM oM]
 rw[f8]at n;clear D f8;have d:=nx c2 j;have A:=i6.I j;obtain⟨f1,f2,f3,f4⟩:=A.two;obtain⟨xn,xa,xl,xc,T,i1⟩:=n;have s1:=T.two;cases p with
 |false=>
  have m6:¬ k6=0:=fun h=>by rw[h]at a9;cases a9
  clear a9;go_wp2;go_ret;exact⟨rfl,d⟩
 |true=>
  obtain rfl:k6=0:=by simpa using a9
  clear a9;obtain⟨c8,hn,i9⟩:=h7.out rfl;have k0:=h6.out (b9.out.1 rfl) c8 i9;rw[k0]at i1;go_wp2_with fail
  refine(zKM _ _ c8 wr i1 (hn.ext (lx j))).mono ?_;rintro e wq ⟨_,rfl,rfl,i7⟩;have d:=nx d i7;go_wp2;go_ret;exact⟨rfl,d⟩
open Go.ChangeShapes Go.WideShapes Go.ChangeAt
theorem zF2(o:Os)(O:o.Started)(H:Type)(enc:TypeId × Value->H):
  ReturnsInHanded {} Tryz.checked o 10 .any (Rows.moduleQuotientsSpec.pre6 enc Tryz.prog Tryz.f10 Rows.moduleQuotientsRow.domain false) (Rows.moduleQuotientsSpec.post enc Tryz.prog Tryz.f10 false true false false):=by
 refine returnsInHanded_of_change (C:=Tryz.checked) Tryz.own O kR Tryz.func10
  (ChangeSpec.witness6 (enc:=enc) (C:=Tryz.checked) false ⟨#[],#[.agg #[.int .u8 0,.int .u8 0,.slice none 0 0,.int .u8 0,.slice none 0 0,.int .u8 0,.slice none 0 0]],[]⟩ 8 kR kR kR kR) ?_
 intro W w b y T R n k U _;have m:∀(j:Nat) t v,Tryz.f10.params[j]?=some t->b[j]?=some v->Value.okWide Tryz.prog W .any w t v:=n;have a:=k;obtain⟨p,q,g,z,rfl,V,X⟩:=k;have f:DataW.TrodAll enc Tryz.prog W 0 (fun _=>true) true Tryz.f10.params.toList b.toList y p:=g;rw[Tryz.params10]at f m;obtain⟨P,S,rfl,rfl,d⟩:=trodAll_one f;obtain⟨rfl,rfl⟩:=trodVars_none z;clear g n;simp only[List.append_nil]at a;have l:∀x∈p,x.block<W.heap.size:=fun x G=>a.lt x (by simp[G])
 obtain⟨c,L,M,N,u1,u2,u3,I,J,K,rfl,A,D,E,F,r,s,u⟩:=zFl (m 0 26 P rfl rfl) d l;refine(zHJ u1 u2 u3 c L M N I J K W r s u A D E F).mono fun e Q ⟨B,i⟩=>?_
 subst B;refine⟨_,rfl,_,_,_,[],p,[],a,?_,?_,rfl,i.frame _,fun h=>by cases h⟩;exact trodAll_mk1 (shut_bool Tryz.underlying4 true);exact trodAll_mk1 (Below.trod zCa kR (yW kR) d i l)
theorem zHo:(Rows.moduleQuotientsRow.inPlace==Tryz.pinned.checked.prog.inPlace 10)=true:=by kernel_rfl
theorem zHp:(Rows.moduleQuotientsRow.unfollowed==Tryz.pinned.checked.prog.unfollowed 10)=true:=by kernel_rfl
theorem zHq:(Rows.moduleQuotientsRow.recurses==Tryz.pinned.checked.prog.recurses 10)=true:=by kernel_rfl
theorem zHr:(Rows.moduleQuotientsRow.named==Tryz.pinned.checked.prog.varsNamed 10)=true:=by kernel_rfl
theorem zF1:joinedFacts Tryz.pinned.checked.prog 10 Tryz.f10 Rows.moduleQuotientsSpec Rows.moduleQuotientsRow=true:=by
 unfold joinedFacts;rw[zHo,zHp,zHq,zHr];kernel_rfl
theorem moduleQuotients_holds:Rows.ModuleQuotientsSaid:=
 OpenClaim.holds_of_wide 10 Tryz.f10 rfl rfl rfl rfl rfl rfl rfl ⟨rfl,rfl,rfl,rfl,rfl⟩ rfl rfl rfl rfl rfl kR Tryz.func10 zF1
  (yW kR) (by unfold Func.isWrapper;first|(rw[zB (by decide+kernel)];kernel_rfl)|(rw[zA (by decide+kernel)];exact⟨rfl,rfl⟩))
  (fun b c H a _=>zF2 b c H a)
end Go.Proofs.YtkidaebmhlijlaaGreat
