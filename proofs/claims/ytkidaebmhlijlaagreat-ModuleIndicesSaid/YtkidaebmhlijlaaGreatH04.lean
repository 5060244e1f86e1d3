/- torsionlaw16.ModuleIndices: whatever the input, it returns true, and the input reads as it did. No conditions. -/
import Derived.Test.YtkidaebmhlijlaaGreatH03
import Derived.Test.YtkidaebmhlijlaaGreatH02
set_option linter.unusedVariables false
set_option linter.unusedSimpArgs false
set_option linter.unusedSectionVars false
set_option maxHeartbeats 16000000
set_option maxRecDepth 100000
variable{L M:(Nat->Int)->Prop}{f z:Int}{C e m:Nat}{G P Q:Nat->Nat->Int}{v:Go.Value}{w:Go.World}
namespace Go.Proofs.YtkidaebmhlijlaaGreat
open Go.RowKit
theorem qBf(b:z.natAbs<=5):∀n:Nat,n<=3->(z^n).natAbs<=125:=fun n a=>by
 rw[Int.natAbs_pow];exact zD (yU b n) (zD (zX dE a) dE)
theorem zUS(v:Value)(z:Int)(n:Nat)(w:World)(h:jE w v z)(l:z.natAbs<=5)(U:n<=3):
  CPq 41 #[v,niq n] w fun e w'=>∃u,e= .returned (.tuple #[u,niq 0])/\jE w' u (z^n)/\BWq w w':=by
 obtain⟨zn,za,zl,zc,S,rfl,-⟩:=id h;have M:jI (∀i,i<=n->Sm (z^i)):=⟨fun i B=>(zFU (zD (qBf l i oM) dE)).sm⟩;have N:jI (Sm z):=⟨(zFU (zD l dE)).sm⟩;clear l S;go_enter Tryz.func41,Tryz.ntmps41;go_upto_region 1 with(fail)
 refine zF ?_;intro G x;obtain⟨g,f,b,W⟩:=zAU x;clear x;have V:¬ (256:Int)<(n:Int):=oM;go_wp2_with fail
 refine(zBa 1 G oM oM).mono ?_;rintro e p ⟨u,rfl,k,c⟩;obtain⟨un,ua,ul,uc,R,rfl,-⟩:=id k;go_upto_region 4 with(fail)
 refine zF ?_;intro H y;obtain⟨j,q,X⟩:=qJ y;have F:zB9 H p.heap.size 1:=zB9.mk q (k.ext (lx j));have t:=nx g c;have s:=f.I c;have r:=b.I c;have Y:=s.lt;have Z:=r.lt;have O:=h.ext (lx t);have q0:=g.size;have q1:=c.size;clear y q k R f b c g;go_wp2;go_loopw [7] (fun o wr=>∃i:Nat,i<=n/\o=niq i/\BWq p wr/\zB9 wr p.heap.size (z^i)) (fun o _=>n-(intOf o).toNat)
 case atStart=>exact⟨0,oM,rfl,j,by rw[Int.pow_zero];exact F⟩
 clear F j;obtain⟨i,B,rfl,a,xn,xa,xl,xc,d,D⟩:=hrel;have f:=s.I a;have P:=O.ext (lx a);have E:=d.two;by_cases T:i<n
 .obtain⟨I,J,K,L⟩:=f.two
  go_wp2_with fail
  refine(zC8 _ _ (z^i) z wr D P (M.out i B) N.out).mono ?_;rintro e w5 ⟨m,rfl,C,A⟩;obtain⟨mn,ma,ml,mc,Q,rfl,-⟩:=id C;have a:=nx a A;have d:=d.I A;clear I J K L E Q;have E:=d.two;go_wp2;go_roundw
  case rel=>exact⟨i+1,oM,by simp,yB (yB a oM _ _) oM _ _,zB9.put d (by rw[Int.pow_succ];exact C)⟩
  case measure=>exact meq
 obtain rfl:i=n:=oM;have b:=r.I a;have r1:=b.two;go_wp2;refine bodyPost_ret (zGc (fn:=Tryz.f41) rfl _ rfl (b.put2 _ _) rfl) rfl ⟨_,rfl,D.ext (b.lext2 dE _ _),yB (yB (nx t a) oM _ _) oM _ _⟩
def ScL(C:Nat)(f:Int)(L:(Nat->Int)->Prop)(x:Nat->Int):Prop:=∃y,L y/\∀b,b<C->x b=y b*f
theorem zUt{R:Nat}{A:Nat->Nat->Int}(x:Nat->Int):yD R C (fun a b=>A a b*f) x↔ScL C f (yD R C A) x:=by
 have e:∀(y:Nat->Int) b,(qS R fun a=>y a*(A a b*f))=(qS R fun a=>y a*A a b)*f:=fun y b=>by
  rw[<-zC9];exact zL fun a _=>by rw[qA]
 constructor
 .rintro⟨y,d⟩
  exact⟨fun b=>qS R fun a=>y a*A a b,⟨y,fun b _=>rfl⟩,fun b c=>by rw[d b c,e]⟩
 rintro⟨u,⟨y,d⟩,g⟩;exact⟨y,fun b c=>by rw[g b c,d b c,e]⟩
theorem ScL.congr{c:(Nat->Int)->Prop}(h:∀x,L x↔c x)(x:Nat->Int):ScL C f L x↔ScL C f c x:=⟨fun⟨y,a,b⟩=>⟨y,(h y).1 a,b⟩,fun⟨y,a,b⟩=>⟨y,(h y).2 a,b⟩⟩
theorem zUf(h:HB C m G L):∀x,ScL C f L x->L x:=by
 rintro x ⟨y,d,c⟩;refine(h.iff x).2 (yD.ext (yD.smul f ((h.iff y).1 d)) fun b a=>?_);rw[c b a,zZ]
theorem zVu(c:f≠0)(h:HB C m G L):HB C m (fun a b=>(f.natAbs:Int)*G a b) (ScL C f L):=
 (HB.scale (R:=m) (A:=G) c ⟨h.hnf,fun x=>yF⟩).of fun x=>(zUt x).trans (ScL.congr (fun y=>(h.iff y).symm) x)
theorem zXf(v g:Value)(w:World)(t:C<=3)(y:e<=1000)(h:MX C e L w v)(n:jE w g f)(m:f.natAbs<=5):
  CPq 40 #[v,g] w fun j w'=>∃u,j= .returned u/\MX C (e+3) (ScL C f L) w' u/\BWq w w':=by
 obtain⟨R,M,p,k,q,i,r⟩:=h;refine(zPX v g R C M f w p k n oM oM (zPg oM k i) (zFU (zD m dE)).sm).mono ?_;rintro j w' ⟨u,s,rfl,o,d⟩;refine⟨u,rfl,⟨R,_,o.mat.1,jJ _ _ _,q,fun a c b l=>?_,fun x=>?_⟩,d⟩
 .rw[yZ c l,qU,yM]
  exact qO (i a c b l) (zD m dE)
 exact(yD.congr (fun a c b d=>yZ c d) x).trans ((zUt x).trans (ScL.congr r x))
theorem zVz(h:HB C m G L)(d:zHT C L L z):z=1:=by
 obtain⟨c,a⟩:=h.hnf;have b:=d.val h h a.ech a.ech;have e:=zHR a.ech;exact Int.eq_of_mul_eq_mul_right (show zMw m c G≠0 by omega) (by rw[b,zAG])
theorem zZi(j:f≠0)(h:HB C m G L)(e:zHT C L (ScL C f L) z):z=(f.natAbs:Int)^m:=by
 obtain⟨c,d⟩:=h.hnf;obtain⟨o,q⟩:=(zVu j h).hnf;have k:(0:Int)<f.natAbs:=oM;have l:Ech C m c fun a b=>(f.natAbs:Int)*G a b:=⟨d.ech.lt,fun i e=>Int.mul_pos k (d.ech.pos i e),fun i e t n=>by rw[d.ech.zero i e t n,qB],d.ech.inc⟩
 have g:=e.val h (zVu j h) d.ech l;have p:=zHR d.ech;rw[zVF]at g;exact Int.eq_of_mul_eq_mul_right (show zMw m c G≠0 by omega) g
theorem zYM{x y:Int}{N:(Nat->Int)->Prop}(h1:HB C m P L)(h2:HB C m Q M)(a:HB C m G N)(j:zHT C L M x)(l:zHT C M N y)(n:zHT C L N z):z=x*y:=by
 obtain⟨c,b⟩:=h1.hnf;obtain⟨d,hd⟩:=h2.hnf;obtain⟨k,e⟩:=a.hnf;have f:=j.val h1 h2 b.ech hd.ech;have g:=l.val h2 a hd.ech e.ech;have i:=n.val h1 a b.ech e.ech;have h:=zHR b.ech;refine Int.eq_of_mul_eq_mul_right (show zMw m c P≠0 by omega) ?_;rw[i,<-g,<-f,zZ x y,qA]
theorem zNV(h1:HB C m P L)(h2:HB C m Q M)(g:C<=3)(h:Bd C e M)(j:zHT C L M z):z.natAbs<=(2^e)^3:=by
 obtain⟨c,a⟩:=h1.hnf;obtain⟨d,hd⟩:=h2.hnf;have b:=j.val h1 h2 a.ech hd.ech;have q:=zHR a.ech;have k:m<=3:=zD h1.le_cols g;have l:∀n,n<=m->(jB n fun i=>Q i (d i)).natAbs<=(2^e)^n:=by
  intro n;induction n with
  |zero=>intro _;exact xgf _
  |succ n o=>
   intro p;show(jB n (fun i=>Q i (d i))*Q n (d n)).natAbs<=_;rw[qU,qE];exact qO (o oM) (h m Q h2 n oM _ (hd.ech.lt n oM))
 have f:z.natAbs<=(zMw m d Q).natAbs:=by
  rw[<-b,qU];exact zO _ oM
 exact zD f (zD (l m (xgf _)) (zX (zE8 e) k))
def qAz(z:Int)(w:World)(v:Value):Prop:=∃u,v= .tuple #[u,niq 0]/\jE w u z
theorem zRV(z:Int):zG2 (qAz z):=fun _ _ _ e ⟨u,a,b⟩=>⟨u,a,b.ext e⟩
def zZL(a2:Bool)(C:Nat)(L M:(Nat->Int)->Prop)(w:World)(v:Value):Prop:=a2=true->∃z,jE w v z/\zHT C L M z
theorem zZL.ext{a2:Bool}{w':World}(h:zZL a2 C L M w v)(e:zBq w w'):zZL a2 C L M w' v:=fun a=>(h a).elim fun z k=>⟨z,k.1.ext e,k.2⟩
theorem zIM(v1 v2 v3:Value)(c r1 r2 r3:Nat)(l1 l2 l3:List Int)(kk:Int)(yv:Value)(ry:Nat)(ly:List Int)(w:World)(h1:I8V w v1 l1)(h2:I8V w v2 l2)(h3:I8V w v3 l3)(s5:-128<=kk)(s6:kk<=127)(hy:I8V w yv ly)(o4:ry<=255)(hc:c<=255)(n6:r1<=255)(n7:r2<=255)(n8:r3<=255):
  CPq 9 #[.agg #[.int .u8 c,.int .u8 r1,v1,.int .u8 r2,v2,.int .u8 r3,v3],.int .i8 kk,.agg #[.int .u8 ry,yv]] w fun e w'=>e= .returned (.bool true)/\BWq w w':=by
 obtain⟨o1,n1,k1,rfl,-⟩:=id h1;obtain⟨o2,n2,k2,rfl,-⟩:=id h2;obtain⟨o3,n3,k3,rfl,-⟩:=id h3;have H1:=xgv h1;have H2:=xgv h2;have H3:=xgv h3;obtain⟨C,hC⟩:∃C:Nat,C=c%4:=⟨_,rfl⟩;have H:C<=3:=oM;have d7:jI (∀w,I8V w (.slice o1 n1 k1) l1->I8V w (.slice o2 n2 k2) l2->I8V w (.slice o3 n3 k3) l3->CPq 13 #[.agg #[.int .u8 c,.int .u8 r1,.slice o1 n1 k1,.int .u8 r2,.slice o2 n2 k2,.int .u8 r3,.slice o3 n3 k3]] w fun e w'=>∃a b g9,e= .returned (.tuple #[a,b,g9])/\MX C 4 (zD1 C r1 l1) w' a/\MX C 4 (zD1 C r2 l2) w' b/\MX C 4 (zD1 C r3 l3) w' g9/\BWq w w'):=⟨fun w h1 h2 h3=>zGW _ _ _ c r1 r2 r3 l1 l2 l3 w h1 h2 h3 hc n6 n7 n8 hC⟩;have DA:jI (Gd C 33 (zD1 C r1 l1)):=⟨zFv H l1⟩;have DB:jI (Gd C 33 (zD1 C r2 l2)):=⟨zFv H l2⟩;have DC:jI (Gd C 33 (zD1 C r3 l3)):=⟨zFv H l3⟩;obtain⟨yo,yn,yk,rfl,-⟩:=id hy;have HY:=xgv hy;clear hy;obtain⟨La,d8⟩:∃La,zD1 C r1 l1=La:=⟨_,rfl⟩;obtain⟨Lb,d9⟩:∃Lb,zD1 C r2 l2=Lb:=⟨_,rfl⟩;obtain⟨Lc,e0⟩:∃Lc,zD1 C r3 l3=Lc:=⟨_,rfl⟩;rw[d8,d9,e0]at d7;rw[d8]at DA;rw[d9]at DB;rw[e0]at DC;clear d8 d9 e0;obtain⟨a3,hu⟩:∃a3:Nat,(a3:Int)=kk%256:=⟨(kk%256).toNat,oM⟩;have p0:IntKind.u8.wrap kk=(a3:Int):=by rw[hu];simp[IntKind.wrap_u8]
 obtain⟨g,hg⟩:∃g:Nat,g=1+a3%5:=⟨_,rfl⟩;have HG:jI (1<=g/\g<=5/\g=1+a3%5):=⟨oM,oM,hg⟩;obtain⟨f,e6⟩:∃f:Int,(if kk<0 then-(g:Int)else g)=f:=⟨_,rfl⟩;have HF:jI (f.natAbs<=5/\f≠0/\f.natAbs=g):=⟨by rw[<-e6];split<;>omega⟩;have d0:=xgv e6;have o5:a3<=255:=oM;clear e6 hg hu;clear h1 h2 h3 hC;go_enter Tryz.func9,Tryz.ntmps9;go_upto_region 1 with(fail)
 refine zF ?_;intro W0 h0;obtain⟨m9,Y,r,s7⟩:=zAU h0;clear h0;go_wp2_with fail
 refine(zE2 W0).mono ?_;rintro e w1 ⟨rfl,d⟩;have i:=nx m9 d;have Y:=Y.I d;have r:=r.I d;have f0:=Y.cell 0;have f1:=Y.cell 1;have f2:=Y.cell 2;have f3:=Y.cell 3;have f4:=Y.cell 4;have f5:=Y.cell 5;have f6:=Y.cell 6;go_wp2_with fail
 refine(d7.out w1 (H1.out.I i) (H2.out.I i) (H3.out.I i)).mono ?_;rintro e w2 ⟨va,vb,vc,rfl,ha,hb,hc,e4⟩;have i:=nx i e4;have Y:=Y.I e4;have r:=r.I e4;obtain⟨aR,ao,an,az,rfl⟩:=ha.agg;obtain⟨bR,bo,bn,bz,rfl⟩:=hb.agg;obtain⟨cR,co,cn,cz,rfl⟩:=hc.agg;clear f0 f1 f2 f3 f4 f5 f6 d7;go_upto_region 3 with(fail)
 refine zF ?_;intro W3 i5;obtain⟨b0,k,bB,bC,s8⟩:=zBc i5;clear i5;have j:=xgv (ha.I b0);have XB:=xgv (hb.I b0);have XC:=xgv (hc.I b0);clear ha hb hc;have i:=nx i b0;have Y:=Y.I b0;have r:=r.I b0;clear Y bB bC XB XC;obtain⟨u5,b4⟩:∃u5:Nat,u5=a3%5:=⟨_,rfl⟩;have n9:(a3:Int).tmod 5=(u5:Int):=by rw[b4];rfl
 have o0:(a3:Int)%5=(u5:Int):=by rw[b4];omega
 have o6:u5<5:=by rw[b4];exact yQ _ dE
 have n0:(1:Int)+(u5:Int)=(g:Int):=by rw[HG.out.2.2,b4];omega
 have o7:IntKind.i64.wrap (u5:Int)=(u5:Int):=yC _ oM;have o8:IntKind.i64.wrap (g:Int)=(g:Int):=yC _ (by have:=HG.out.2.1;omega);have o9:IntKind.u8.wrap (u5:Int)=(u5:Int):=by simp only[IntKind.wrap_u8];omega
 clear b4;go_wp2_with fail
 refine(zBa (g:Int) W3 oM (by have:=HG.out.2.1;omega)).mono ?_;rintro e w4 ⟨v4,rfl,e8,d⟩;obtain⟨fn,fa,fl,fc,fq,rfl,-⟩:=id e8;have i:=nx i d;have r:=r.I d;have k:=k.I d;have j:=xgv (j.out.I d);clear n9 o0 o6 n0 o7 o8 o9 p0 o5;go_upto_region 4 with(fail)
 refine zF ?_;intro W5 a9;obtain⟨a5,l,s9⟩:=qJ a9;have n:=e8.ext (lx a5);have q4:=i.size;clear a9 e8;by_cases e7:kk<0;case' pos=>
  have b2:jI (-(g:Int)=f):=⟨by have:=d0.out;rwa[zB e7]at this⟩;have t1:=l.two;go_wp2_with fail
  refine(zEN _ (g:Int) W5 n.J (zFU (by have:=HG.out.2.1;exact zD (show((g:Int)).natAbs<=5 by omega) dE)).sm).mono ?_;rintro e w6 ⟨v6,rfl,b9,e5⟩;rw[b2.out]at b9;obtain⟨un,ua,ul,uc,uq,rfl,-⟩:=id b9;have l:=l.I e5;have a5:=nx a5 e5;clear t1 n;have t1:=l.two;go_upto_region 6 with(fail)
  refine zF ?_;intro W5 a9;have n:jE W5 (.agg #[.bool un,.slice ua ul uc]) f:=by rw[a9.out];exact b9.ext (l.lext2 dE _ _)
  have a5:BWq w4 W5:=by rw[a9.out];exact yB (yB a5 (xgf _) _ _) (xgf _) _ _
  have l:Blk W5 w4.heap.size 43 #[.bool un,.slice ua ul uc]:=by rw[a9.out];exact l.put2 _ _
  clear a9 b9 t1 e5 uq b2
 case' neg=>
  have b2:jI ((g:Int)=f):=⟨by have:=d0.out;rwa[zA e7]at this⟩;rw[b2.out]at n;clear b2;go_upto_region 6 with(fail)
 all_goals
  have i:=nx i a5;have r:=r.I a5;have k:=k.I a5;have j:=xgv (j.out.I a5);have n:=xgv n;clear a5 e7 d0;obtain⟨mA,PA,e2⟩:=DA.out.hb;have a0:=xgv e2;have l0:jI (HB C mA (fun a b=>(f.natAbs:Int)*PA a b) (ScL C f La)):=⟨zVu HF.out.2.1 e2⟩;clear e2;obtain⟨I,J,K,L,N,O⟩:=k.three;obtain⟨R,S,T,U⟩:=l.two;go_wp2_with fail
  refine(zXf (e:=4) _ _ W5 H dE j.out n.out HF.out.1).mono ?_;rintro e v8 ⟨v,rfl,hm,d⟩;have i:=nx i d;have r:=r.I d;have k:=k.I d;have j:=xgv (j.out.I d);have l:=l.I d;have n:=xgv (n.out.ext (lx d));obtain⟨SR,So,Sn,Sk,rfl⟩:=hm.agg;clear I J K L N O R S T U;go_upto_region 7 with(fail)
  refine zF ?_;intro s2 h5;obtain⟨d,p,t0⟩:=qJ h5;have o:=xgv (hm.I d);have DS:jI (Gd C 45 (ScL C f La)):=⟨hm.gd H⟩;clear h5 hm;have i:=nx i d;have r:=r.I d;have k:=k.I d;have j:=xgv (j.out.I d);have l:=l.I d;have n:=xgv (n.out.ext (lx d));obtain⟨I,J,K,L,N,O⟩:=k.three;obtain⟨R,S,T,U⟩:=l.two;have hL:=zRV ((f.natAbs:Int)^mA);have k9:mA<=3:=zD a0.out.le_cols H;refine zBP [pcI 1 ((f.natAbs:Nat):Int),pcD 3 [] (fun _ v=>v=niq (mA:Nat)),pcD 4 [1] (qAz ((f.natAbs:Int)^mA)),pbA 8 43 2,pbS 9 8 43 2] ?_;refine sRd ?_;refine sRc (fun M hI Gk A=>?_) (fun v1 _=>?_)
  .go_simp
   exact ck A (zUQ _ f M (n.out.ext hI.lext).J (zFU (zD HF.out.1 dE)).sm)
  refine sRd ?_;refine sRc (fun M hI Gk A=>?_) (fun _ Q=>?_)
  .go_simp
   refine(zH0 (e:=4) _ _ H dE (j.out.I hI.bel)).mono ?_;rintro e wa ⟨m,rfl,⟨G,hg⟩,V⟩;obtain⟨rfl,-⟩:=a0.out.eq hg fun x=>yF
   exact⟨_,rfl,A _ _ rfl,V⟩
  obtain⟨_,-,rfl⟩:=Q;refine sRc (fun M hI h1 Gk A=>?_) (fun _ Q=>?_)
  .go_simp
   refine(zUS _ (f.natAbs:Int) mA M h1 (by have:=HF.out.1;omega) k9).mono ?_;rintro e wa ⟨a3,rfl,hu,V⟩;exact⟨_,rfl,A _ _ ⟨a3,rfl,hu⟩,V⟩
  obtain⟨_,-,a3,rfl,hu⟩:=Q;obtain⟨pn,pa,pl,pc,pq,rfl,-⟩:=id hu;clear hu pq;refine sRd ?_;refine sRa (cs:=#[.bool false,.slice none 0 0]) fun g8 s3=>?_
  refine sRs g8 (.agg #[.bool pn,.slice pa pl pc]) ?_;refine sRd ?_;refine sRb ?_;simp only[FA,FC,FN,ptr,List.nil_append,List.cons_append,Act.put,xgh,xgi,xgj];intro w7 d _ _ h4 k8 _;have q:Blk w7 g8 43 #[.bool pn,.slice pa pl pc]:=k8 _ rfl;have t:jI (jE w7 (.agg #[.bool pn,.slice pa pl pc]) ((f.natAbs:Int)^mA)):=⟨by
   obtain⟨a3,e,h⟩:=h4;injection e with e
   injection e with e
   injection e with e _
   rw[e];exact h⟩
  clear I J K L N O R S T U hL k9 h4 k8;have i:=nx i d;have r:=r.I d;have k:=k.I d;have j:=xgv (j.out.I d);have l:=l.I d;have n:=xgv (n.out.ext (lx d));have p:=p.I d;have o:=xgv (o.out.I d);obtain⟨I,J,K,L,N,O⟩:=k.three;go_wp2_with fail
  refine(zHf (e:=61) (f:=61) (a1:=true) (a2:=true) _ _ w7 H dE (j.out.mono dE) (j.out.mono dE) (DA.out.mono dE).bd (DA.out.mono dE).bd dE dE ⟨fun _=>fun x h=>h,fun _=>rfl⟩ (fun m c7 P b8 h1 h2=>by
   obtain⟨rfl,-⟩:=(a0.out).eq h1 fun x=>yF
   obtain⟨rfl,-⟩:=(a0.out).eq h2 fun x=>yF
   exact⟨fun _=>rfl,fun _=>rfl⟩)).mono ?_
  rintro e p6 ⟨v,p1,rfl,Z,d⟩;have a7:∃x a b c,v= .agg #[.bool x,.slice a b c]/\p1=0/\jE p6 v (1)/\zHT C (La) (La) (1):=by
   obtain⟨h,-⟩|⟨-,h,-⟩|⟨-,-,rfl,z,s,hi⟩:=Z
   cases h;cases h;obtain rfl:z=1:=zVz a0.out hi;obtain⟨c9,a,c8,c,x,rfl,-⟩:=id s;exact⟨_,_,_,_,rfl,rfl,s,hi⟩
  obtain⟨w3,x0,x1,x2,rfl,rfl,s,-⟩:=a7;clear Z;have i:=nx i d;have r:=r.I d;have k:=k.I d;have j:=xgv (j.out.I d);have l:=l.I d;have n:=xgv (n.out.ext (lx d));have p:=p.I d;have o:=xgv (o.out.I d);have q:=q.I d;have t:=xgv (t.out.ext (lx d));clear I J K L N O;go_upto_region 9 with(fail)
  refine zF ?_;intro l8 h6;obtain⟨d,u,t2⟩:=qJ h6;have y:=xgv (s.ext (lx d));clear h6 s;have i:=nx i d;have r:=r.I d;have k:=k.I d;have j:=xgv (j.out.I d);have l:=l.I d;have n:=xgv (n.out.ext (lx d));have p:=p.I d;have o:=xgv (o.out.I d);have q:=q.I d;have t:=xgv (t.out.ext (lx d));obtain⟨I,J,K,L,N,O⟩:=k.three;obtain⟨R,S,T,U,d5,d6⟩:=p.three;go_wp2_with fail
  refine(zHf (e:=61) (f:=61) (a1:=true) (a2:=true) _ _ l8 H dE (j.out.mono dE) (o.out.mono dE) (DA.out.mono dE).bd (DS.out.mono dE).bd dE dE ⟨fun _=>zUf a0.out,fun _=>rfl⟩ (fun m c7 P b8 h1 h2=>by
   obtain⟨rfl,-⟩:=(a0.out).eq h1 fun x=>yF
   obtain⟨rfl,-⟩:=(l0.out).eq h2 fun x=>yF
   exact⟨fun _=>rfl,fun _=>rfl⟩)).mono ?_
  rintro e p7 ⟨v,p2,rfl,Z,d⟩;have a7:∃x a b c,v= .agg #[.bool x,.slice a b c]/\p2=0/\jE p7 v ((f.natAbs:Int)^mA)/\zHT C (La) (ScL C f La) ((f.natAbs:Int)^mA):=by
   obtain⟨h,-⟩|⟨-,h,-⟩|⟨-,-,rfl,z,s,hi⟩:=Z
   cases h;cases h;obtain rfl:z=(f.natAbs:Int)^mA:=zZi HF.out.2.1 a0.out hi;obtain⟨c9,a,c8,c,x,rfl,-⟩:=id s;exact⟨_,_,_,_,rfl,rfl,s,hi⟩
  obtain⟨w5,x3,x4,x5,rfl,rfl,s,-⟩:=a7;clear Z;have i:=nx i d;have r:=r.I d;have k:=k.I d;have j:=xgv (j.out.I d);have l:=l.I d;have n:=xgv (n.out.ext (lx d));have p:=p.I d;have o:=xgv (o.out.I d);have q:=q.I d;have t:=xgv (t.out.ext (lx d));have u:=u.I d;have y:=xgv (y.out.ext (lx d));clear I J K L N O R S T U d5 d6;go_upto_region 10 with(fail)
  refine zF ?_;intro l9 h7;obtain⟨d,B,t3⟩:=qJ h7;have D:=xgv (s.ext (lx d));clear h7 s;have i:=nx i d;have r:=r.I d;have k:=k.I d;have j:=xgv (j.out.I d);have l:=l.I d;have n:=xgv (n.out.ext (lx d));have p:=p.I d;have o:=xgv (o.out.I d);have q:=q.I d;have t:=xgv (t.out.ext (lx d));have u:=u.I d;have y:=xgv (y.out.ext (lx d));obtain⟨I,J,K,L,N,O⟩:=k.three;have y0:=r.cell 0;have y1:=r.cell 1;go_wp2_with fail
  refine(zJi _ _ ry ly l9 H j.out (HY.out.I i) o4).mono ?_;rintro e v9 ⟨v,Lp,rfl,hp,k4,d⟩;have g6:=xgv k4;have i:=nx i d;have r:=r.I d;have k:=k.I d;have j:=xgv (j.out.I d);have l:=l.I d;have n:=xgv (n.out.ext (lx d));have p:=p.I d;have o:=xgv (o.out.I d);have q:=q.I d;have t:=xgv (t.out.ext (lx d));have u:=u.I d;have y:=xgv (y.out.ext (lx d));have B:=B.I d;have D:=xgv (D.out.ext (lx d));obtain⟨pR,po,v0,pk,rfl⟩:=hp.agg;clear y0 y1 I J K L N O k4 r;go_upto_region 11 with(fail)
  refine zF ?_;intro m0 h8;obtain⟨d,F,t4⟩:=qJ h8;have E:=xgv (hp.I d);have DP:jI (Gd C 49 Lp):=⟨hp.gd H⟩;clear h8 hp;have i:=nx i d;have k:=k.I d;have j:=xgv (j.out.I d);have l:=l.I d;have n:=xgv (n.out.ext (lx d));have p:=p.I d;have o:=xgv (o.out.I d);have q:=q.I d;have t:=xgv (t.out.ext (lx d));have u:=u.I d;have y:=xgv (y.out.ext (lx d));have B:=B.I d;have D:=xgv (D.out.ext (lx d));obtain⟨mB,PB,e3⟩:=DP.out.hb;have a8:=xgv e3;have b7:jI (HB C mB (fun a b=>(f.natAbs:Int)*PB a b) (ScL C f Lp)):=⟨zVu HF.out.2.1 e3⟩;obtain⟨a2,i6⟩:∃a2:Bool,a2=true↔mA=mB:=zJv _;have b6:jI (Ans a2 (mA=mB)):=⟨i6⟩;clear e3 i6;obtain⟨I,J,K,L,N,O⟩:=F.three;obtain⟨R,S,T,U⟩:=l.two;go_wp2_with fail
  refine(zXf (e:=8) _ _ m0 H dE E.out n.out HF.out.1).mono ?_;rintro e w0 ⟨v,rfl,hm,d⟩;have i:=nx i d;have k:=k.I d;have j:=xgv (j.out.I d);have l:=l.I d;have n:=xgv (n.out.ext (lx d));have p:=p.I d;have o:=xgv (o.out.I d);have q:=q.I d;have t:=xgv (t.out.ext (lx d));have u:=u.I d;have y:=xgv (y.out.ext (lx d));have B:=B.I d;have D:=xgv (D.out.ext (lx d));have F:=F.I d;have E:=xgv (E.out.I d);obtain⟨TR,To,Tn,Tk,rfl⟩:=hm.agg;clear I J K L N O R S T U;go_upto_region 12 with(fail)
  refine zF ?_;intro m5 h9;obtain⟨d,X,t5⟩:=qJ h9;have W:=xgv (hm.I d);have DT:jI (Gd C 61 (ScL C f Lp)):=⟨hm.gd H⟩;clear h9 hm;have i:=nx i d;have k:=k.I d;have j:=xgv (j.out.I d);have l:=l.I d;have n:=xgv (n.out.ext (lx d));have p:=p.I d;have o:=xgv (o.out.I d);have q:=q.I d;have t:=xgv (t.out.ext (lx d));have u:=u.I d;have y:=xgv (y.out.ext (lx d));have B:=B.I d;have D:=xgv (D.out.ext (lx d));have F:=F.I d;have E:=xgv (E.out.I d);obtain⟨I,J,K,L,N,O⟩:=k.three;obtain⟨R,S,T,U,d5,d6⟩:=F.three;go_wp2_with fail
  refine(zHf (e:=61) (f:=61) (a1:=true) (a2:=a2) _ _ m5 H dE (j.out.mono dE) (E.out.mono dE) (DA.out.mono dE).bd (DP.out.mono dE).bd dE dE ⟨fun _=>g6.out,fun _=>rfl⟩ (fun m c7 P b8 h1 h2=>by
   obtain⟨rfl,-⟩:=(a0.out).eq h1 fun x=>yF
   obtain⟨rfl,-⟩:=(a8.out).eq h2 fun x=>yF
   exact b6.out)).mono ?_
  rintro e p8 ⟨v,f7,rfl,Z,d⟩;have a7:∃x a b c,v= .agg #[.bool x,.slice a b c]/\f7=(if a2=true then 0 else 170)/\(a2=true->∃z,jE p8 v z/\zHT C (La) (Lp) z):=by
   obtain⟨h,-⟩|⟨-,rfl,rfl,rfl⟩|⟨-,rfl,rfl,z,s,hi⟩:=Z
   cases h;exact⟨_,_,_,_,rfl,rfl,fun h=>by cases h⟩;obtain⟨c9,a,c8,c,x,rfl,-⟩:=id s;exact⟨_,_,_,_,rfl,rfl,fun _=>⟨z,s,hi⟩⟩
  obtain⟨r4,r6,r7,r8,rfl,i9,s⟩:=a7;have g4:=xgv i9;clear Z i9;have i:=nx i d;have k:=k.I d;have j:=xgv (j.out.I d);have l:=l.I d;have n:=xgv (n.out.ext (lx d));have p:=p.I d;have o:=xgv (o.out.I d);have q:=q.I d;have t:=xgv (t.out.ext (lx d));have u:=u.I d;have y:=xgv (y.out.ext (lx d));have B:=B.I d;have D:=xgv (D.out.ext (lx d));have F:=F.I d;have E:=xgv (E.out.I d);have X:=X.I d;have W:=xgv (W.out.I d);clear I J K L N O R S T U d5 d6;go_upto_region 13 with(fail)
  refine zF ?_;intro g7 i0;obtain⟨d,a6,t6⟩:=qJ i0;have a4:jI (zZL a2 C (La) (Lp) g7 (.agg #[.bool r4,.slice r6 r7 r8])):=⟨fun h=>(s h).elim fun z h=>⟨z,h.1.ext (lx d),h.2⟩⟩;clear i0 s;have i:=nx i d;have k:=k.I d;have j:=xgv (j.out.I d);have l:=l.I d;have n:=xgv (n.out.ext (lx d));have p:=p.I d;have o:=xgv (o.out.I d);have q:=q.I d;have t:=xgv (t.out.ext (lx d));have u:=u.I d;have y:=xgv (y.out.ext (lx d));have B:=B.I d;have D:=xgv (D.out.ext (lx d));have F:=F.I d;have E:=xgv (E.out.I d);have X:=X.I d;have W:=xgv (W.out.I d);obtain⟨I,J,K,L,N,O⟩:=F.three;obtain⟨R,S,T,U,d5,d6⟩:=X.three;go_wp2_with fail
  refine(zHf (e:=61) (f:=61) (a1:=true) (a2:=true) _ _ g7 H dE (E.out.mono dE) (W.out.mono dE) (DP.out.mono dE).bd (DT.out.mono dE).bd dE dE ⟨fun _=>zUf a8.out,fun _=>rfl⟩ (fun m c7 P b8 h1 h2=>by
   obtain⟨rfl,-⟩:=(a8.out).eq h1 fun x=>yF
   obtain⟨rfl,-⟩:=(b7.out).eq h2 fun x=>yF
   exact⟨fun _=>rfl,fun _=>rfl⟩)).mono ?_
  rintro e p9 ⟨v,p3,rfl,Z,d⟩;have a7:∃x a b c z,v= .agg #[.bool x,.slice a b c]/\p3=0/\jE p9 v z/\zHT C (Lp) (ScL C f Lp) z:=by
   obtain⟨h,-⟩|⟨-,h,-⟩|⟨-,-,rfl,z,s,hi⟩:=Z
   cases h;cases h;obtain⟨c9,a,c8,c,x,rfl,-⟩:=id s;exact⟨_,_,_,_,z,rfl,rfl,s,hi⟩
  obtain⟨w8,x6,x7,x8,g2,rfl,rfl,s,i7⟩:=a7;have g3:=xgv i7;clear Z i7;have i:=nx i d;have k:=k.I d;have j:=xgv (j.out.I d);have l:=l.I d;have n:=xgv (n.out.ext (lx d));have p:=p.I d;have o:=xgv (o.out.I d);have q:=q.I d;have t:=xgv (t.out.ext (lx d));have u:=u.I d;have y:=xgv (y.out.ext (lx d));have B:=B.I d;have D:=xgv (D.out.ext (lx d));have F:=F.I d;have E:=xgv (E.out.I d);have X:=X.I d;have W:=xgv (W.out.I d);have a6:=a6.I d;have a4:=xgv (a4.out.ext (lx d));clear I J K L N O R S T U d5 d6;go_upto_region 14 with(fail)
  refine zF ?_;intro m6 i3;obtain⟨d,b3,t7⟩:=qJ i3;have b5:=xgv (s.ext (lx d));clear i3 s;have i:=nx i d;have k:=k.I d;have j:=xgv (j.out.I d);have l:=l.I d;have n:=xgv (n.out.ext (lx d));have p:=p.I d;have o:=xgv (o.out.I d);have q:=q.I d;have t:=xgv (t.out.ext (lx d));have u:=u.I d;have y:=xgv (y.out.ext (lx d));have B:=B.I d;have D:=xgv (D.out.ext (lx d));have F:=F.I d;have E:=xgv (E.out.I d);have X:=X.I d;have W:=xgv (W.out.I d);have a6:=a6.I d;have a4:=xgv (a4.out.ext (lx d));obtain⟨I,J,K,L,N,O⟩:=k.three;obtain⟨R,S,T,U,d5,d6⟩:=X.three;go_wp2_with fail
  refine(zHf (e:=61) (f:=61) (a1:=true) (a2:=a2) _ _ m6 H dE (j.out.mono dE) (W.out.mono dE) (DA.out.mono dE).bd (DT.out.mono dE).bd dE dE ⟨fun _=>fun x h=>g6.out x (zUf a8.out x h),fun _=>rfl⟩ (fun m c7 P b8 h1 h2=>by
   obtain⟨rfl,-⟩:=(a0.out).eq h1 fun x=>yF
   obtain⟨rfl,-⟩:=(b7.out).eq h2 fun x=>yF
   exact b6.out)).mono ?_
  rintro e r0 ⟨v,f8,rfl,Z,d⟩;have a7:∃x a b c,v= .agg #[.bool x,.slice a b c]/\f8=(if a2=true then 0 else 170)/\(a2=true->∃z,jE r0 v z/\zHT C (La) (ScL C f Lp) z):=by
   obtain⟨h,-⟩|⟨-,rfl,rfl,rfl⟩|⟨-,rfl,rfl,z,s,hi⟩:=Z
   cases h;exact⟨_,_,_,_,rfl,rfl,fun h=>by cases h⟩;obtain⟨c9,a,c8,c,x,rfl,-⟩:=id s;exact⟨_,_,_,_,rfl,rfl,fun _=>⟨z,s,hi⟩⟩
  obtain⟨r5,r9,s0,s1,rfl,k0,s⟩:=a7;have g5:=xgv k0;clear Z k0;have i:=nx i d;have k:=k.I d;have j:=xgv (j.out.I d);have l:=l.I d;have n:=xgv (n.out.ext (lx d));have p:=p.I d;have o:=xgv (o.out.I d);have q:=q.I d;have t:=xgv (t.out.ext (lx d));have u:=u.I d;have y:=xgv (y.out.ext (lx d));have B:=B.I d;have D:=xgv (D.out.ext (lx d));have F:=F.I d;have E:=xgv (E.out.I d);have X:=X.I d;have W:=xgv (W.out.I d);have a6:=a6.I d;have a4:=xgv (a4.out.ext (lx d));have b3:=b3.I d;have b5:=xgv (b5.out.ext (lx d));clear I J K L N O R S T U d5 d6;go_upto_region 15 with(fail)
  refine zF ?_;intro m7 i4;obtain⟨d,m8,t8⟩:=qJ i4;have c0:jI (zZL a2 C (La) (ScL C f Lp) m7 (.agg #[.bool r5,.slice r9 s0 s1])):=⟨fun h=>(s h).elim fun z h=>⟨z,h.1.ext (lx d),h.2⟩⟩;clear i4 s;have i:=nx i d;have k:=k.I d;have j:=xgv (j.out.I d);have l:=l.I d;have n:=xgv (n.out.ext (lx d));have p:=p.I d;have o:=xgv (o.out.I d);have q:=q.I d;have t:=xgv (t.out.ext (lx d));have u:=u.I d;have y:=xgv (y.out.ext (lx d));have B:=B.I d;have D:=xgv (D.out.ext (lx d));have F:=F.I d;have E:=xgv (E.out.I d);have X:=X.I d;have W:=xgv (W.out.I d);have a6:=a6.I d;have a4:=xgv (a4.out.ext (lx d));have b3:=b3.I d;have b5:=xgv (b5.out.ext (lx d));cases a2 with
  | false=>
   obtain⟨xA,k5⟩:∃xA:Int,((mA:Nat):Int)=xA:=⟨_,rfl⟩;obtain⟨xB,k6⟩:∃xB:Int,((mB:Nat):Int)=xB:=⟨_,rfl⟩;have n5:¬ xA=xB:=by
    intro h;have:=b6.out.2 oM;cases this
   have s4:(xA !=xB)=true:=by rw[bne_iff_ne];exact n5
   have l4:=xgv k5;have l5:=xgv k6;clear k5 k6;obtain rfl:f7=170:=g4.out;obtain rfl:f8=170:=g5.out;go_upto_region 16 with(fail)
   obtain⟨I,J,K,L,N,O⟩:=k.three;obtain⟨R,S,T,U,d5,d6⟩:=F.three;have g1:=u.two;refine zBP [pcD 8 [] (fun _ v=>v=niq xA),pcD 10 [] (fun _ v=>v=niq xB),pcD 11 [] (fun _ v=>v= .bool true),pcI 19 1,pcD 20 [19] (fun _ v=>v= .bool true)] ?_;refine sRd ?_;refine sRc (fun M hI Gk A=>?_) (fun _ Q=>?_)
   .go_simp
    refine(zH0 (e:=4) _ _ H dE (j.out.I hI.bel)).mono ?_;rintro e wa ⟨m,rfl,⟨G,hg⟩,V⟩;obtain⟨rfl,-⟩:=a0.out.eq hg fun x=>yF
    rw[l4.out];exact⟨_,rfl,A _ _ rfl,V⟩
   obtain⟨_,-,rfl⟩:=Q;refine sRd ?_;refine sRc (fun M hI Gk A=>?_) (fun _ Q=>?_)
   .go_simp
    refine(zH0 (e:=8) _ _ H dE (E.out.I hI.bel)).mono ?_;rintro e wa ⟨m,rfl,⟨G,hg⟩,V⟩;obtain⟨rfl,-⟩:=a8.out.eq hg fun x=>yF
    rw[l5.out];exact⟨_,rfl,A _ _ rfl,V⟩
   obtain⟨_,-,rfl⟩:=Q;refine sRc (fun M hI Gk A=>?_) (fun _ Q=>?_)
   .go_simp
    exact⟨A _ _ rfl,zC _ _⟩
   obtain⟨_,-,rfl⟩:=Q;refine sRd ?_;refine sRc (fun M hI Gk A=>?_) (fun v5 _=>?_)
   .go_simp
    exact ck A (zBa 1 _ oM oM)
   refine sRc (fun M hI h1 Gk A=>?_) (fun _ Q=>?_)
   .go_simp
    refine(zKM _ _ 1 M (y.out.ext hI.lext) h1).mono ?_;rintro e wa ⟨_,rfl,rfl,V⟩;exact⟨_,rfl,A _ _ rfl,V⟩
   obtain⟨_,-,rfl⟩:=Q;refine sRd ?_;refine sRe ?_;intro w9 d _ _ _ _ _;have i:=nx i d;go_wp2;go_ret;exact⟨rfl,i⟩
  | true=>
   obtain rfl:mA=mB:=b6.out.1 rfl;obtain rfl:f7=0:=g4.out;obtain rfl:f8=0:=g5.out;obtain⟨f9,a4,e9⟩:=a4.out rfl;obtain⟨t9,c0,k7⟩:=c0.out rfl;have n4:=zYM a0.out a8.out b7.out e9 g3.out k7;have p4:jI (Sm f9):=⟨(zJc (zD (zNV a0.out a8.out H DP.out.bd e9) (by rw[zL2];decide+kernel))).sm⟩;have p5:jI (Sm g2):=⟨(zJc (zD (zNV a8.out b7.out H DT.out.bd g3.out) (by rw[zL2];decide+kernel))).sm⟩;subst n4;have l6:=xgv a4;have l7:=xgv c0;clear a4 c0 e9 k7;go_upto_region 17 with(fail)
   obtain⟨I,J,K,L⟩:=u.two;obtain⟨R,S,T,U⟩:=B.two;have e1:=q.two;obtain⟨f1,f2,f3,f4⟩:=m8.two;have g1:=a6.two;have t1:=b3.two;refine zBP [pcI 4 1,pcD 5 [4] (fun _ v=>v= .bool true),pcD 14 [] (fun _ v=>v= .bool true),pcI 28 (f9*g2),pcD 29 [28] (fun _ v=>v= .bool true)] ?_;refine sRd ?_;refine sRc (fun M hI Gk A=>?_) (fun v4 _=>?_)
   .go_simp
    exact ck A (zBa 1 _ oM oM)
   refine sRc (fun M hI h1 Gk A=>?_) (fun _ Q=>?_)
   .go_simp
    refine(zKM _ _ 1 M (y.out.ext hI.lext) h1).mono ?_;rintro e wa ⟨_,rfl,rfl,V⟩;exact⟨_,rfl,A _ _ rfl,V⟩
   obtain⟨_,-,rfl⟩:=Q;refine sRd ?_;refine sRc (fun M hI Gk A=>?_) (fun _ Q=>?_)
   .go_simp
    refine(zKM _ _ _ M (D.out.ext hI.lext) (t.out.ext hI.lext)).mono ?_;rintro e wa ⟨_,rfl,rfl,V⟩;exact⟨_,rfl,A _ _ rfl,V⟩
   obtain⟨_,-,rfl⟩:=Q;refine sRd ?_;refine sRc (fun M hI Gk A=>?_) (fun v7 _=>?_)
   .go_simp
    exact ck A (zC8 _ _ f9 g2 M (l6.out.ext hI.lext) (b5.out.ext hI.lext) p4.out p5.out)
   refine sRc (fun M hI h1 Gk A=>?_) (fun _ Q=>?_)
   .go_simp
    refine(zKM _ _ _ M (l7.out.ext hI.lext) h1).mono ?_;rintro e wa ⟨_,rfl,rfl,V⟩;exact⟨_,rfl,A _ _ rfl,V⟩
   obtain⟨_,-,rfl⟩:=Q;refine sRd ?_;refine sRe ?_;intro w9 d _ _ _ _ _;have i:=nx i d;go_wp2;go_ret;exact⟨rfl,i⟩
open Go.ChangeShapes Go.WideShapes Go.ChangeAt
theorem zRu{H:Type}{enc:TypeId × Value->H}{c:Nat}{r:Reach}{d:DataW H}{g:List MemPlace}(f:Value.okWide Tryz.prog w r c 66 v)
  (h:DataW.Trod enc Tryz.prog w 0 (fun _=>true) true 66 v d g):∃n:Int,v= .int .i8 n/\-128<=n/\n<=127:=by
 obtain⟨z,rfl⟩:=okWide_int Tryz.underlying66 f;obtain⟨j,e⟩:=h;obtain⟨a,b,-,i⟩:=DataW.trod_int Tryz.underlying66 e;simp[Value.cells]at b;subst b;exact⟨z,rfl,bounds_i8 i⟩
theorem zGl(u:Os)(a0:u.Started)(H:Type)(enc:TypeId × Value->H):
  ReturnsInHanded {} Tryz.checked u 9 .any (Rows.moduleIndicesSpec.pre6 enc Tryz.prog Tryz.f9 Rows.moduleIndicesRow.domain false) (Rows.moduleIndicesSpec.post enc Tryz.prog Tryz.f9 false true false false):=by
 refine returnsInHanded_of_change (C:=Tryz.checked) Tryz.own a0 kR Tryz.func9
  (ChangeSpec.witness6 (enc:=enc) (C:=Tryz.checked) false ⟨#[],#[.agg #[.int .u8 0,.int .u8 0,.slice none 0 0,.int .u8 0,.slice none 0 0,.int .u8 0,.slice none 0 0],.int .i8 0,.agg #[.int .u8 0,.slice none 0 0]],[]⟩ 8 kR kR kR kR) ?_
 intro W E g F gs a2 s o a3 _;have f:∀(j:Nat) t v,Tryz.f9.params[j]?=some t->g[j]?=some v->Value.okWide Tryz.prog W .any E t v:=s;have a:=o;obtain⟨p,a6,n,I,rfl,a4,a5⟩:=o;have m:DataW.TrodAll enc Tryz.prog W 0 (fun _=>true) true Tryz.f9.params.toList g.toList F p:=n;rw[Tryz.params9]at m f;obtain⟨v0,v1,v2,d0,d1,d2,w,y,z,rfl,rfl,rfl,i,k,l⟩:=trodAll_three m;obtain⟨rfl,rfl⟩:=trodVars_none I;clear n s;simp only[List.append_nil]at a;have q:∀x∈w,x.block<W.heap.size:=fun x b=>a.lt x (by simp[b])
 have L:∀x∈y,x.block<W.heap.size:=fun x b=>a.lt x (by simp[b])
 have r:∀x∈z,x.block<W.heap.size:=fun x b=>a.lt x (by simp[b])
 obtain⟨c,Z,r2,r3,u1,u2,u3,S,T,U,rfl,J,P,Q,R,A,B,D⟩:=zFl (f 0 26 v0 rfl rfl) i q;obtain⟨Y,rfl,O,M⟩:=zRu (f 1 66 v1 rfl rfl) k;obtain⟨X,a1,V,rfl,N,G⟩:=zRt (f 2 24 v2 rfl rfl) l r;refine(zIM u1 u2 u3 c Z r2 r3 S T U Y a1 X V W A B D O M G N J P Q R).mono fun e W' ⟨K,d⟩=>?_
 subst K;refine⟨_,rfl,_,_,_,[],w++(y++z),[],a,?_,?_,rfl,d.frame _,fun h=>by cases h⟩;exact trodAll_mk1 (shut_bool Tryz.underlying4 true);exact trodAll_mk3 (Below.trod zCa kR (yW kR) i d q) (Below.trod zCa kR (yW kR) k d L) (Below.trod zCa kR (yW kR) l d r)
theorem zI4:(Rows.moduleIndicesRow.inPlace==Tryz.pinned.checked.prog.inPlace 9)=true:=by kernel_rfl
theorem zI5:(Rows.moduleIndicesRow.unfollowed==Tryz.pinned.checked.prog.unfollowed 9)=true:=by kernel_rfl
theorem zI6:(Rows.moduleIndicesRow.recurses==Tryz.pinned.checked.prog.recurses 9)=true:=by kernel_rfl
theorem zI7:(Rows.moduleIndicesRow.named==Tryz.pinned.checked.prog.varsNamed 9)=true:=by kernel_rfl
theorem zGk:joinedFacts Tryz.pinned.checked.prog 9 Tryz.f9 Rows.moduleIndicesSpec Rows.moduleIndicesRow=true:=by
 unfold joinedFacts;rw[zI4,zI5,zI6,zI7];kernel_rfl
theorem moduleIndices_holds:Rows.ModuleIndicesSaid:=
 OpenClaim.holds_of_wide 9 Tryz.f9 rfl rfl rfl rfl rfl rfl rfl ⟨rfl,rfl,rfl,rfl,rfl⟩ rfl rfl rfl rfl rfl kR Tryz.func9 zGk
  (yW kR) (by unfold Func.isWrapper;first|(rw[zB (by decide+kernel)];kernel_rfl)|(rw[zA (by decide+kernel)];exact⟨rfl,rfl⟩))
  (fun b c H a _=>zGl b c H a)
end Go.Proofs.YtkidaebmhlijlaaGreat
