/- kernel.transposed, through, Saturate. kernel.through, kernel.Saturate, kernel.Saturated. matrix.Equal for other sizes; kernel.Saturate, kernel.Saturated. kernel.Saturated. torsionref15.Left, torsionref15.Saturate. torsionlaw12.HermiteUnique: the walk. -/
import Derived.Test.YtgnmdddaiefooaaGreatR23
import Derived.Test.YtgnmdddaiefooaaGreatR29
import Derived.Test.YtgnmdddaiefooaaGreatR41
import Derived.Test.YtgnmdddaiefooaaGreatR45
import Derived.Test.YtgnmdddaiefooaaGreatR47
set_option linter.unusedVariables false
set_option linter.unusedSimpArgs false
set_option linter.unusedSectionVars false
set_option maxHeartbeats 16000000
set_option maxRecDepth 100000
namespace Go.Proofs.YtgnmdddaiefooaaGreat
open Go.RowKit
theorem jI.congr{R C r:Nat}{c:Nat->Nat}{A A' H U V:Nat->Nat->Int}(h:jI R C r c A H U V)(e:∀a,a<R->∀b,b<C->A a b=A' a b):jI R C r c A' H U V:=
 ⟨h.hnf,fun a ha b hb=>(h.mul a ha b hb).trans (zD fun t ht=>by rw[e t ht b hb]),h.inv,fun a ha b hb=>(e a ha b hb).symm.trans (h.back a ha b hb)⟩
theorem zBI.congr{R C m:Nat}{A A' G:Nat->Nat->Int}(h:zBI R C A m G)(e:∀a,a<R->∀b,b<C->A a b=A' a b):zBI R C A' m G:=by
 obtain⟨hb,r,c,H,U,V,hf⟩:=h;exact⟨hb.of (zE1.congr e),r,c,H,U,V,hf.congr e⟩
def zFC(R C:Nat)(A:Nat->Nat->Int)(m:Nat)(S:Nat->Nat->Int):Prop:=HB C m S (zBn R C A)/\zBC m R C A
theorem zFC.of{R C k m:Nat}{A K S:Nat->Nat->Int}(h1:zBI C R (trF A) k K)(h2:zBI C k (trF K) m S):zFC R C A m S:=by
 obtain⟨hK,r1,c1,H1,U1,V1,f1⟩:=h1;obtain⟨hS,r2,c2,H2,U2,V2,f2⟩:=h2;have e1:=zBN f1 hK;have e2:=zBN f2 hS;have e3:=f2.lat.rank hK.min1.tr;have e4:=zBC.le (A:=K) f2.lat.min1.tr;obtain rfl:m=r1:=by omega
 exact⟨zO3 hK hS,f1.lat.min1.tr⟩
theorem zFC.none(C:Nat)(A S:Nat->Nat->Int):zFC 0 C A 0 S:=by
 refine⟨⟨⟨fun k=>k,xgf _,⟨fun k hk=>by omega,fun k hk=>by omega,fun k hk=>by omega,fun k l _ hl=>by omega⟩,fun i j _ hj=>by omega,fun a _ ha=>by omega⟩,fun x=>⟨fun h=>⟨fun _=>0,fun b hb=>?_⟩,?_⟩⟩,⟨fun a=>a,fun a=>a,fun a ha=>by omega,fun a ha=>by omega,show(1:Int)≠0 by decide⟩⟩
 ·have:=h (fun t=>idf t b) fun a ha=>by omega
  rw[qU hb (fun i _ hne=>by rw[show idf i b=0 from if_neg hne,Int.mul_zero]),show idf b b=1 from if_pos rfl,Int.mul_one]at this;exact this
 ·rintro⟨y,hy⟩ z _
  exact yC fun b hb=>by rw[hy b hb];exact Int.zero_mul _
theorem zFC.congr{R C m:Nat}{A A' S:Nat->Nat->Int}(h:zFC R C A m S)(e:∀a,a<R->∀b,b<C->A a b=A' a b):zFC R C A' m S:=by
 refine⟨h.1.of (zBn.congr e),?_⟩;obtain⟨σ,τ,a,b,d⟩:=h.2;exact⟨σ,τ,a,b,by rwa[<-qS (F:=fun x y=>A (σ x) (τ y)) fun x hx y hy=>e _ (a x hx) _ (b y hy)]⟩
theorem zFC.rank{R C m r:Nat}{c:Nat->Nat}{A S H:Nat->Nat->Int}(h:zFC R C A m S)(hA:zCX R C r c A H):m=r:=by
 have h1:=hA.rank h.2;obtain⟨X,hX⟩:=zAr fun a ha=>(h.1.iff _).1 (zBn.self (A:=A) (R:=R) ha)
 have h2:=zDb hX hA.min1;omega
theorem zFC.bound{R C m h:Nat}{A S:Nat->Nat->Int}(hS:zFC R C A m S)(hR:R<=4)(h1:1<=h)(hA:leM h R C A):leM (24*(8*h)^4) m C S:=
 zLG hS.1 (Nat.le_trans hS.2.le hR) h1 hA hS.2
theorem zFC.cols{R C m:Nat}{A S:Nat->Nat->Int}(hS:zFC R C A m S):m<=C:=hS.2.tr.le
def zNN(R C:Nat)(A:Nat->Nat->Int)(w:World)(v:Value):Prop:=∃m S,zFC R C A m S/\qL w v m C (genM m C S)
theorem zFN(R C:Nat)(A:Nat->Nat->Int):qQ (zNN R C A):=fun _ _ _ e ⟨m,G,h1,h2⟩=>⟨m,G,h1,h2.below e⟩
theorem zC1{h e:Nat}(h1:1<=h)(he:2*h<=2^e)(he2:e<=32000)(v:Value)(M:List (List Int))(R C:Nat)(w:World)(hm:qL w v R C M)(hF:yG R C M)(hR:R<=5)(hC:C<=1000000)(hA:leM h R C (ent M)):
  Calls Tryz.prog 19 #[v] w fun e w'=>∃v,e= .returned v/\zDy R C (ent M) w' v/\Below w.heap.size w w':=zI2 h1 he he2 v M R C w hm hF hR hC hA
theorem zMz{h e:Nat}(he:2*h<=2^e):2*kb h<=2^(16*e+30):=by
 have h1:(2*h)^16<=(2^e)^16:=Nat.pow_le_pow_left he 16;rw[<-Nat.pow_mul,Nat.mul_comm e 16]at h1;rw[Nat.pow_add];have h2:2*kb h<=(2*h)^16*2^30:=by
  unfold kb;rw[show(2*h)^16=65536*h^16 by rw[Nat.mul_pow],Nat.mul_pow,Nat.mul_pow,<-Nat.pow_mul];have:2*(24*(8^4*(120^4*h^(4*4))))=(2*24*8^4*120^4)*h^16:=by
   rw[show 4*4=16 from rfl];simp only[Nat.mul_assoc]
  rw[this,Nat.mul_assoc 65536,Nat.mul_comm (h^16),<-Nat.mul_assoc];exact Nat.mul_le_mul_right _ dE
 exact Nat.le_trans h2 (Nat.mul_le_mul_right _ h1)
abbrev tG:TypeId:=30
def zGI(f g:Nat)(t:TypeId)(w:World)(v:Value):Prop:=∃b,v= .func (.func f) #[] #[.pointer (some ⟨b,0,none⟩)]/\Blk w b t #[.func (.func g) #[] #[]]
theorem zEY(f g:Nat)(t:TypeId):qQ (zGI f g t):=fun _ _ _ x ⟨b,h1,h2⟩=>⟨b,h1,h2.below x⟩
theorem zB4(w:World):Calls Tryz.prog 70 #[.func (.func 19) #[] #[]] w fun e w'=>∃v,e= .returned v/\zGI 115 19 tG w' v/\Below w.heap.size w w':=by
 have hmf:∀(fn:Fn) (first cap:Array Value) (w:World),(Instr.makeFunc fn first cap).run Tryz.prog w= .ok (.func fn first cap) w:=fun _ _ _ _=>rfl
 go_enter Tryz.func70,Tryz.ntmps70;go_upto_region 1 with(fail)
 refine zC ?_;intro W0 hW0;obtain⟨hB0,bx,hs0⟩:=zN hW0;go_wp2;go_ret;exact⟨_,rfl,⟨_,rfl,bx⟩,hB0⟩
theorem zCi(v:Value)(R C:Nat)(M:List (List Int))(w:World)(h:qL w v R C M)(hF:yG R C M)(hR:R<=1000000)(hC:C<=1000000)(hS:∀r∈M,∀z∈r,Sm z):
  Calls Tryz.prog 67 #[v] w fun e w'=>∃v,e= .returned v/\qL w' v C R (genM C R (fun a b=>ent M b a))/\Below w.heap.size w w':=
 (zCS v R C M w h hF hR hC hS).mono fun e w' ⟨v,bs,h,hm,hb⟩=>⟨v,h,hm.mat.1,hb⟩
theorem zG7{h e:Nat}(h1:1<=h)(he:2*h<=2^e)(he2:e<=32000)(v:Value)(M:List (List Int))(R C b:Nat)(w:World)(hm:qL w v R C M)(hF:yG R C M)(hR:R<=1000000)(hC:C<=5)(hA:leM h R C (ent M))(hS:∀r∈M,∀z∈r,Sm z)(hb:Blk w b tG #[.func (.func 19) #[] #[]]):
  Calls Tryz.prog 115 #[v,.pointer (some ⟨b,0,none⟩)] w fun e w'=>∃v,e= .returned v/\zDy C R (trF (ent M)) w' v/\Below w.heap.size w w':=by
 have h0:=hm;obtain⟨A,rfl,hm⟩:=hm;obtain⟨ao,n,cap,rfl,e2,e3,e4,-⟩:=id hm;obtain rfl:R=n:=by rw[<-e2,hF.1]
 have H0:=xgv h0;have HF:=xgv hF;have HS:=xgv hS;have HA:qM (leM h C R (ent (genM C R (fun a b=>ent M b a)))):=⟨zBE fun a ha b hb=>hA b hb a ha⟩;have HH:=xgv (And.intro h1 he);have HLC:qM (∀w v,zDy C R (ent (genM C R (fun a b=>ent M b a))) w v->zDy C R (trF (ent M)) w v):=⟨fun w v ⟨m,G,q1,q2⟩=>⟨m,G,q1.congr fun a ha b hb=>qG ha hb,q2⟩⟩;clear h0 hF e2 hm hA hS h1 he;go_enter Tryz.func115,Tryz.ntmps115;go_upto_region 1 with(fail)
 refine zC ?_;intro W0 hW0;obtain⟨hB0,bx,br,hs0⟩:=qK hW0;obtain⟨c1,c2,c3,c4,c5,c6⟩:=bx.three;have hb:=hb.below hB0;have d1:=hb.cell 0;clear hW0;have hl2:=zEb C R (ent (genM C R (fun a b=>ent M b a)));refine zB 4 rfl (RV W0 _ [E 0 4 (.func (.func 19) #[] #[]),E 1 5 (.agg #[.int .i64 R,.int .i64 C,.slice ao R cap]),⟨2,6,fun w v=>qL w v (C) (R) (genM C R (fun a b=>ent M b a))⟩,⟨3,7,zDy C R (ent (genM C R (fun a b=>ent M b a)))⟩]) kR RV.start (RV.fin kR ?fin1) ?steps1
 case steps1=>
  refine⟨?_,?_,?_,?_,trivial⟩<;>(intro L T wS hL hd hcl hI K hK;try refine zA rfl ?_)
  ·have zt:=hI.k 1 rfl kR
   have cc0:=hI.cell d1;exact xgu
  ·have zt:=hI.k 2 rfl kR
   have cc0:=hI.cell c1;have cc1:=hI.cell c2;have cc2:=hI.cell c3;exact xgu
  ·have zt1:=hI.e mm1 (hd 1)
   go_simp;refine(zCi _ R C M _ ((H0.out.below hB0).below hI.bel) HF.out hR oM HS.out).mono ?_;rintro e wa ⟨v,rfl,hv,hba⟩;exact hK _ _ ((hI.world hba).y mm2 hv)
  ·have zt0:=hI.e mm0 (hd 0)
   obtain⟨v2,zt2,h2⟩:=hI.v mm2 (hd 2);go_simp;refine(zC1 HH.out.1 HH.out.2 he2 _ _ C R _ h2 (zV _ _ _) hC hR HA.out).mono ?_;rintro e wa ⟨v,rfl,hv,hba⟩;exact hK _ _ ((hI.world hba).y mm3 hv)
 intro w2 hbw2 T hT;simp only[Fin,E,EI,VP,VSl,VN,xgg,xgh,xgi,xgj]at hT;obtain⟨va2,ha2,va3,ha3,rfl⟩:=hT;simp only[xgl,xgk];obtain⟨m,G,hlp,hm⟩:=HLC.out _ _ ha3;obtain⟨t1,t2,t3,rfl⟩:=hm.agg;have br:=br.below hbw2;have hB4:=nx hB0 hbw2;obtain⟨r1,r2,r3,r4,r5,r6⟩:=br.three;clear c1 c2 c3 c4 c5 c6 d1 ha3;have HMM:=xgv hm;have HLL:=xgv hlp;clear hm hlp;go_wp2;refine zX (r:=w.heap.size+1) rfl rfl rfl (br.put3 _ _ _) ⟨_,rfl,⟨m,G,HLL.out,HMM.out.keep3 br _ _ _⟩,zP (zP (zP hB4 oM 0 _) oM 1 _) oM 2 _⟩
theorem zF7{h e:Nat}(he:2*h<=2^e)(he2:e<=35000000000000):h<BD:=zGh (k:=0) he (by rw[jB];omega)
theorem zGr{h e R C:Nat}{M:List (List Int)}(he:2*h<=2^e)(he2:e<=35000000000000)(hF:yG R C M)(hA:leM h R C (ent M)):∀r∈M,∀z∈r,Sm z:=by
 rw[jU hF];exact zCx fun a ha b hb=>zAi (Nat.lt_of_le_of_lt (hA a ha b hb) (zF7 he he2))
structure zQO(R C:Nat)(M:List (List Int))(k:Nat)(w:World)(v:Value):Prop where
 zero:k=0->qL w v R C M
 one:k=1->zDy C R (trF (ent M)) w v
 two:k=2->zNN R C (ent M) w v
theorem zH2{h e:Nat}(h1:1<=h)(he:2*h<=2^e)(he2:e<=1900)(v:Value)(M:List (List Int))(R C g cap b1 b2:Nat)(w:World)(hm:qL w v R C M)(hF:yG R C M)(hR:R<=1000000)(hC:C<=5)(hA:leM h R C (ent M))
  (hg:Blk w g tG #[.func (.func 115) #[] #[.pointer (some ⟨b1,0,none⟩)],.func (.func 115) #[] #[.pointer (some ⟨b2,0,none⟩)]])
  (hb1:Blk w b1 tG #[.func (.func 19) #[] #[]]) (hb2:Blk w b2 tG #[.func (.func 19) #[] #[]]):
  Calls Tryz.prog 69 #[v,.slice (some ⟨g,0,none⟩) 2 cap] w fun e w'=>∃v,e= .returned v/\zNN R C (ent M) w' v/\Below w.heap.size w w':=by
 have hS:=zGr he oM hF hA;have h0:=hm;obtain⟨A,rfl,hm⟩:=hm;obtain⟨ao,n,cap',rfl,e2,e3,e4,-⟩:=id hm;obtain rfl:R=n:=by rw[<-e2,hF.1]
 have H0:=xgv h0;have HF:=xgv hF;have HA:=xgv hA;have HS:=xgv hS;have HH:=xgv (And.intro h1 he);have HK2:qM (∀m K,zBI C R (trF (ent M)) m K->leM (kb h) m C (ent (genM m C K))):=⟨fun m K hl=>zBE (hl.bound hC h1 fun a ha b hb=>hA b hb a ha)⟩;clear h0 hF e2 hm hA h1 he hS;go_enter Tryz.func69,Tryz.ntmps69;go_upto_region 1 with(fail)
 refine zC ?_;intro W0 hW0;obtain⟨hB0,bx,br,hs0⟩:=qK hW0;clear hW0;have lg:=hg.lt;go_wp2;go_loopw [9] (fun iv wr=>∃(k:Nat) (x y z:Value),k<=2/\iv= .int .i64 k/\Below w.heap.size w wr/\Blk wr w.heap.size 28 #[x,y,z]/\Blk wr (w.heap.size+1) 28 #[.int .i64 0,.int .i64 0,.slice none 0 0]/\qM (zQO R C M k wr (.agg #[x,y,z]))) (fun iv _=>2-(intOf iv).toNat)
 case atStart=>exact⟨0,_,_,_,by omega,rfl,hB0,bx,br,⟨⟨fun _=>H0.out.below hB0,fun h=>by omega,fun h=>by omega⟩⟩⟩
 case round=>
  clear bx br hB0;obtain⟨k,x,y,z,hk,rfl,hB,bx,br,hT⟩:=hrel;obtain⟨c1,c2,c3,c4,c5,c6⟩:=bx.three;have lbx:=bx.lt;by_cases hk0:k=0
  ·subst hk0
   have d1:=(hB.cell (p:=⟨g,0,none⟩) lg).trans (hg.cell 0);go_wp2_with fail
   refine(zG7 HH.out.1 HH.out.2 oM _ M R C b1 wr (hT.out.zero rfl) HF.out hR hC HA.out HS.out (hb1.below hB)).mono ?_;rintro e w7 ⟨u,rfl,⟨m,K,hlp,hmk⟩,hb7⟩;obtain⟨t1,t2,t3,rfl⟩:=hmk.agg;have bx:=bx.below hb7;have br:=br.below hb7;have HMM:=xgv hmk;have HLL:=xgv hlp;clear c1 c2 c3 c4 c5 c6 hmk hlp d1;obtain⟨c1,c2,c3,c4,c5,c6⟩:=bx.three;go_wp2;go_roundw
   case rel=>exact⟨1,_,_,_,by omega,rfl,zP (zP (zP (nx hB hb7) oM _ _) oM _ _) oM _ _,bx.put3 _ _ _,(qZ _ _ _ _ _ _ oM).trans br,⟨⟨fun h=>by omega,fun _=>⟨m,K,HLL.out,HMM.out.keep3 bx _ _ _⟩,fun h=>by omega⟩⟩⟩
   case measure=>simp[intOf]
  ·by_cases hk1:k=1
   ·subst hk1
    have d1:=(hB.cell (p:=⟨g,1,none⟩) lg).trans (hg.cell 1);obtain⟨m,K,hlp,hmk⟩:=hT.out.one rfl;have HKB:=xgv (HK2.out m K hlp);have HLL:=xgv hlp;have hmC:=hlp.rows;clear hlp;go_wp2_with fail
    refine(zG7 (zM0 HH.out.1) (zMz HH.out.2) oM _ (genM m C K) m C b2 wr hmk (zV _ _ _) oM hC HKB.out (zGr (zMz HH.out.2) oM (zV _ _ _) HKB.out) (hb2.below hB)).mono ?_;rintro e w7 ⟨u,rfl,⟨m2,S,hls,hms⟩,hb7⟩;obtain⟨t1,t2,t3,rfl⟩:=hms.agg;have bx:=bx.below hb7;have br:=br.below hb7;have HMM:=xgv hms;have HSP:qM (zFC R C (ent M) m2 S):=⟨zFC.of HLL.out (hls.congr fun a ha b hb=>qG hb ha)⟩;clear c1 c2 c3 c4 c5 c6 hms hls d1 hmk;obtain⟨c1,c2,c3,c4,c5,c6⟩:=bx.three;go_wp2;go_roundw
    case rel=>exact⟨2,_,_,_,by omega,rfl,zP (zP (zP (nx hB hb7) oM _ _) oM _ _) oM _ _,bx.put3 _ _ _,(qZ _ _ _ _ _ _ oM).trans br,⟨⟨fun h=>by omega,fun h=>by omega,fun _=>⟨m2,S,HSP.out,HMM.out.keep3 bx _ _ _⟩⟩⟩⟩
    case measure=>simp[intOf]
   ·obtain rfl:k=2:=by omega
    obtain⟨m2,S,hsp,hms⟩:=hT.out.two rfl;obtain⟨t1,t2,t3,e⟩:=hms.agg;injection e with e
    simp only[Array.mk.injEq,List.cons.injEq,and_true]at e;obtain⟨rfl,rfl,rfl⟩:=e;obtain⟨r1,r2,r3,r4,r5,r6⟩:=br.three;have HMM:=xgv hms;have HSP:=xgv hsp;clear hms hsp;go_wp2;refine zX (r:=w.heap.size+1) rfl rfl rfl (br.put3 _ _ _) ⟨_,rfl,⟨m2,S,HSP.out,HMM.out.keep3 br _ _ _⟩,zP (zP (zP hB oM 0 _) oM 1 _) oM 2 _⟩
theorem zLO(v1 v2:Value)(R1 C1 R2 C2:Int)(w:World)(h1:zA4 R1 C1 w v1)(h2:zA4 R2 C2 w v2)(hne:¬ (R1=R2/\C1=C2)):
  Calls Tryz.prog 117 #[v1,v2] w fun e w'=>∃v,e= .returned v/\v= .bool false/\Below w.heap.size w w':=by
 refine(zDt v1 v2 R1 C1 R2 C2 w h1 h2).mono ?_;rintro e w' ⟨rfl,hb⟩;exact⟨_,rfl,by rw[decide_eq_false hne],hb⟩
theorem zHc(v1 v2:Value)(R Q C:Nat)(M1 M2:List (List Int))(w:World)(h1:qL w v1 R C M1)(h2:qL w v2 Q C M2)(hF1:yG R C M1)(hF2:yG Q C M2)(hne:R≠Q):
  Calls Tryz.prog 71 #[v1,v2] w fun e w'=>e= .returned (.bool false)/\Below w.heap.size w w':=by
 have H1:=xgv h1;have H2:=xgv h2;obtain⟨A1,rfl,h1⟩:=h1;obtain⟨A2,rfl,h2⟩:=h2;obtain⟨ao,n,cap,rfl,e2,e3,e4,-⟩:=id h1;obtain⟨bo,q,bcap,rfl,g2,g3,g4,-⟩:=id h2;obtain rfl:R=n:=by rw[<-e2,hF1.1]
 obtain rfl:Q=q:=by rw[<-g2,hF2.1]
 have HV1:=xgv hF1.valid;have HV2:=xgv hF2.valid;have HN:qM (¬ ((R:Int)=(Q:Int)/\(C:Int)=(C:Int))):=⟨fun h=>hne oM⟩;clear hF1 hF2 e2 g2 hne h1 h2;have hl1:=zCe (.int .i64 R) (.int .i64 C) (.slice ao R cap) (.int .i64 Q) (.int .i64 C) (.slice bo Q bcap);have hl2:=zAt (.int .i64 R) (.int .i64 C) (.slice ao R cap);have hl4:=zAt (.int .i64 Q) (.int .i64 C) (.slice bo Q bcap);have hl3:=zBA R C;have hl5:=zBA Q C;go_enter Tryz.func71,Tryz.ntmps71;go_upto_region 1 with(fail)
 refine zC ?_;intro W0 hW0;obtain⟨hB0,bx1,bx2,hs0⟩:=qK hW0;obtain⟨c1,c2,c3,c4,c5,c6⟩:=bx1.three;obtain⟨d1,d2,d3,d4,d5,d6⟩:=bx2.three;clear hW0;refine zF rfl (RV W0 _ [E 0 8 (.agg #[.int .i64 R,.int .i64 C,.slice ao R cap]),E 1 9 (.agg #[.int .i64 Q,.int .i64 C,.slice bo Q bcap]),⟨2,10,zPI (.int .i64 R) (.int .i64 C) (.slice ao R cap) (.int .i64 Q) (.int .i64 C) (.slice bo Q bcap)⟩,E 3 11 (.bool true),E 4 12 (.bool false),E 5 13 (.bool false),E 6 14 (.agg #[.int .i64 R,.int .i64 C,.slice ao R cap]),⟨7,15,zNO (.int .i64 R) (.int .i64 C) (.slice ao R cap)⟩,⟨8,16,zA4 R C⟩,E 9 17 (.agg #[.int .i64 Q,.int .i64 C,.slice bo Q bcap]),⟨10,18,zNO (.int .i64 Q) (.int .i64 C) (.slice bo Q bcap)⟩,⟨11,19,zA4 Q C⟩,E 12 20 (.bool false),E 13 21 (.bool true),E 14 22 (.bool true)]) kR RV.start (RV.fin kR ?fin1) ?steps1
 case steps1=>
  refine⟨?_,?_,?_,?_,?_,?_,?_,?_,?_,?_,?_,?_,?_,?_,?_,trivial⟩<;>(intro L T wS hL hd hcl hI K hK;try refine zA rfl ?_)
  ·have zt:=hI.k 2 rfl kR
   have cc0:=hI.cell c1;have cc1:=hI.cell c2;have cc2:=hI.cell c3;exact xgu
  ·have zt:=hI.k 3 rfl kR
   have cc0:=hI.cell d1;have cc1:=hI.cell d2;have cc2:=hI.cell d3;exact xgu
  ·have zt0:=hI.e mm0 (hd 0)
   have zt1:=hI.e mm1 (hd 1);go_simp;exact hK _ _ ((hI.world ((Below.refl _ _).alloc (xgf _) _)).y mm2 ⟨_,rfl,Blk.new _ _ _⟩)
  ·obtain⟨v2,zt2,h2⟩:=hI.v mm2 (hd 2)
   obtain⟨g2,rfl,gb2⟩:=h2;go_simp;refine(zH3 g2 2 R C Q C _ _ M1 M2 _ gb2 (xgf _) oM ((H1.out.below hB0).below hI.bel).off ((H2.out.below hB0).below hI.bel).off HV1.out HV2.out).mono ?_;rintro e wa ⟨v,rfl,hv,hba⟩;exact hK _ _ ((hI.world hba).y mm3 hv)
  ·exact xgs (hI.e mm3 (hd 3))
  ·exact xgs (hI.e mm4 (hd 4))
  ·have zg:=hI.e mm5 (hd 5)
   refine zA xgp ?_;have zt:=hI.k 2 rfl kR;have cc0:=hI.cell c1;have cc1:=hI.cell c2;have cc2:=hI.cell c3;exact xgu
  ·have zg:=hI.e mm5 (hd 5)
   refine zA xgp ?_;have zt6:=hI.e mm6 (hd 6);go_simp;exact hK _ _ ((hI.world ((Below.refl _ _).alloc (xgf _) _)).y mm7 ⟨_,rfl,Blk.new _ _ _⟩)
  ·have zg:=hI.e mm5 (hd 5)
   refine zA xgp ?_;obtain⟨v7,zt7,h7⟩:=hI.v mm7 (hd 7);obtain⟨g7,rfl,gb7⟩:=h7;go_simp;refine(zBX g7 1 R C _ _ gb7 ⟨_,_,_,rfl⟩ (xgf _) oM).mono ?_;rintro e wa ⟨v,rfl,hv,hba⟩;exact hK _ _ ((hI.world hba).y mm8 hv)
  ·have zg:=hI.e mm5 (hd 5)
   refine zA xgp ?_;have zt:=hI.k 3 rfl kR;have cc0:=hI.cell d1;have cc1:=hI.cell d2;have cc2:=hI.cell d3;exact xgu
  ·have zg:=hI.e mm5 (hd 5)
   refine zA xgp ?_;have zt9:=hI.e mm9 (hd 9);go_simp;exact hK _ _ ((hI.world ((Below.refl _ _).alloc (xgf _) _)).y yD ⟨_,rfl,Blk.new _ _ _⟩)
  ·have zg:=hI.e mm5 (hd 5)
   refine zA xgp ?_;obtain⟨v10,zt10,h10⟩:=hI.v yD (hd 10);obtain⟨g10,rfl,gb10⟩:=h10;go_simp;refine(zBX g10 1 Q C _ _ gb10 ⟨_,_,_,rfl⟩ (xgf _) oM).mono ?_;rintro e wa ⟨v,rfl,hv,hba⟩;exact hK _ _ ((hI.world hba).y zAB hv)
  ·have zg:=hI.e mm5 (hd 5)
   refine zA xgp ?_;obtain⟨v8,zt8,h8⟩:=hI.v mm8 (hd 8);obtain⟨v11,zt11,h11⟩:=hI.v zAB (hd 11);go_simp;refine(zLO _ _ R C Q C _ h8 h11 HN.out).mono ?_;rintro e wa ⟨v,rfl,hv,hba⟩;exact hK _ _ ((hI.world hba).y zAh hv)
  ·have zg:=hI.e mm5 (hd 5)
   refine zA xgp ?_;exact xgs (hI.e zAh (hd 12))
  ·exact xgt (hI.e mm5 (hd 5)) (hI.e zBv (hd 13))
 intro w1 hbw1 T hT;simp only[Fin,E,EI,VP,VSl,VN,xgg,xgh,xgi,xgj]at hT;obtain⟨va2,ha2,va7,ha7,va8,ha8,va10,ha10,va11,ha11,rfl⟩:=hT;have hBt:=nx hB0 hbw1;go_wp2;go_ret;exact⟨rfl,hBt⟩
theorem zNy(v1 v2:Value)(R Q C:Nat)(M1 M2:List (List Int))(w:World)(h1:qL w v1 R C M1)(h2:qL w v2 Q C M2)(hF1:yG R C M1)(hF2:yG Q C M2)(hC:C<=1000000):
  Calls Tryz.prog 71 #[v1,v2] w fun e w'=>∃v,e= .returned v/\v= .bool (decide (M1=M2))/\Below w.heap.size w w':=by
 by_cases e:R=Q
 ·subst e
  exact(zJC v1 v2 R C M1 M2 w h1 h2 hF1 hF2 hC).mono fun e w' h=>⟨_,h.1,rfl,h.2⟩
 ·refine(zHc v1 v2 R Q C M1 M2 w h1 h2 hF1 hF2 e).mono fun e' w' h=>⟨_,h.1,?_,h.2⟩
  rw[decide_eq_false];rintro rfl;exact e (by rw[<-hF1.1,<-hF2.1])
def zP6(f g:Nat)(t:TypeId):World->Value->Prop:=fun w v=>∃s b1 b2,v= .slice (some ⟨s,0,none⟩) 2 2/\Blk w s t #[.func (.func f) #[] #[.pointer (some ⟨b1,0,none⟩)],.func (.func f) #[] #[.pointer (some ⟨b2,0,none⟩)]]/\Blk w b1 t #[.func (.func g) #[] #[]]/\Blk w b2 t #[.func (.func g) #[] #[]]
theorem zHZ(f g:Nat)(t:TypeId):qQ (zP6 f g t):=fun _ _ _ x ⟨s,a,b,h1,h2,h3,h4⟩=>⟨s,a,b,h1,h2.below x,h3.below x,h4.below x⟩
theorem zIP{h e:Nat}(h1:1<=h)(he:2*h<=2^e)(he2:e<=1900)(v:Value)(M:List (List Int))(R C:Nat)(w:World)(hm:qL w v R C M)(hF:yG R C M)(hR:R<=1000000)(hC:C<=5)(hA:leM h R C (ent M)):
  Calls Tryz.prog 21 #[v] w fun e w'=>∃v,e= .returned v/\zNN R C (ent M) w' v/\Below w.heap.size w w':=by
 have h0:=hm;obtain⟨A,rfl,hm⟩:=hm;obtain⟨ao,n,cap,rfl,e2,e3,e4,-⟩:=id hm;obtain rfl:R=n:=by rw[<-e2,hF.1]
 have hdv:decide (qR R C M)=true:=decide_eq_true hF.valid;have H0:=xgv h0;have HF:=xgv hF;have HA:=xgv hA;have HH:=xgv (And.intro h1 he);clear h0 hF e2 hm hA h1 he;go_enter Tryz.func21,Tryz.ntmps21;go_upto_region 1 with(fail)
 refine zC ?_;intro W0 hW0;obtain⟨hB0,bx,br,hs0⟩:=qK hW0;obtain⟨c1,c2,c3,c4,c5,c6⟩:=bx.three;clear hW0;go_wp2_with fail
 refine(zAn _ R C M W0 (H0.out.below hB0)).mono ?_;rintro e w1 ⟨rfl,hb1⟩;rw[hdv];have bx:=bx.below hb1;have br:=br.below hb1;have hB:=nx hB0 hb1;clear c1 c2 c3 c4 c5 c6 hdv;obtain⟨c1,c2,c3,c4,c5,c6⟩:=bx.three;obtain⟨r1,r2,r3,r4,r5,r6⟩:=br.three;by_cases hz:R=0
 ·subst hz
  go_wp2;refine zX (r:=w.heap.size+1) rfl rfl rfl (br.put3 _ _ _) ⟨_,rfl,⟨0,fun _ _=>0,zFC.none _ _ _,⟨_,rfl,qX.nil _⟩⟩,zP (zP (zP hB oM 0 _) oM 1 _) oM 2 _⟩
 ·have hne:((R:Int)==0)=false:=by rw[beq_eq_false_iff_ne];omega
  have lbr:=br.lt;have hl1:=zEY 115 19 tG;have hl2:=zHZ 115 19 tG;have hl3:=zFN R C (ent M);clear r1 r2 r3 r4 r5 r6;go_upto_region 5 with(fail)
  refine zB 5 rfl (RV w1 _ [E 0 13 (.agg #[.int .i64 R,.int .i64 C,.slice ao R cap]),⟨1,14,zGI 115 19 tG⟩,⟨2,15,zGI 115 19 tG⟩,⟨3,16,zP6 115 19 tG⟩,⟨4,17,zNN R C (ent M)⟩]) kR RV.start (RV.fin kR ?fin2) ?steps2
  case steps2=>
   refine⟨?_,?_,?_,?_,?_,trivial⟩<;>(intro L T wS hL hd hcl hI K hK;try refine zA rfl ?_)
   ·have zt:=hI.k 1 rfl kR
    have cc0:=hI.cell c1;have cc1:=hI.cell c2;have cc2:=hI.cell c3;exact xgu
   ·go_simp
    refine(zB4 _).mono ?_;rintro e wa ⟨v,rfl,hv,hba⟩;exact hK _ _ ((hI.world hba).y mm1 hv)
   ·go_simp
    refine(zB4 _).mono ?_;rintro e wa ⟨v,rfl,hv,hba⟩;exact hK _ _ ((hI.world hba).y mm2 hv)
   ·obtain⟨v1,zt1,h1⟩:=hI.v mm1 (hd 1)
    obtain⟨v2,zt2,h2⟩:=hI.v mm2 (hd 2);obtain⟨b1,rfl,k1⟩:zGI _ _ _ wS v1:=h1;obtain⟨b2,rfl,k2⟩:zGI _ _ _ wS v2:=h2;go_simp;exact hK _ _ ((hI.world ((Below.refl _ _).alloc (xgf _) _)).y mm3 ⟨_,b1,b2,rfl,Blk.new _ _ _,k1.below ((Below.refl _ _).alloc (xgf _) _),k2.below ((Below.refl _ _).alloc (xgf _) _)⟩)
   ·have zt0:=hI.e mm0 (hd 0)
    obtain⟨v3,zt3,h3⟩:=hI.v mm3 (hd 3);obtain⟨s,b1,b2,rfl,k1,k2,k3⟩:=h3;go_simp;refine(zH2 HH.out.1 HH.out.2 he2 _ M R C s 2 b1 b2 _ ((H0.out.below hB).below hI.bel) HF.out hR hC HA.out k1 k2 k3).mono ?_;rintro e wa ⟨v,rfl,hv,hba⟩;exact hK _ _ ((hI.world hba).y mm4 hv)
  intro w4 hbw4 T hT;simp only[Fin,E,EI,VP,VSl,VN,xgg,xgh,xgi,xgj]at hT;obtain⟨va1,ha1,va2,ha2,va3,ha3,va4,ha4,rfl⟩:=hT;simp only[xgl,xgk];obtain⟨m,S,hsp,hms⟩:=ha4;obtain⟨t1,t2,t3,rfl⟩:=hms.agg;have br:=br.below hbw4;have hB4:=nx hB hbw4;obtain⟨r1,r2,r3,r4,r5,r6⟩:=br.three;have HMM:=xgv hms;have HSP:=xgv hsp;clear hms hsp c1 c2 c3 c4 c5 c6;go_wp2;refine zX (r:=w.heap.size+1) rfl rfl rfl (br.put3 _ _ _) ⟨_,rfl,⟨m,S,HSP.out,HMM.out.keep3 br _ _ _⟩,zP (zP (zP hB4 oM 0 _) oM 1 _) oM 2 _⟩
theorem zN5(v:Value)(R C:Nat)(M:List (List Int))(w:World)(h:qL w v R C M)(hF:yG R C M):
    Calls Tryz.prog 62 #[v] w fun e w'=>∃v,e= .returned v/\v= .bool true/\Below w.heap.size w w':=
  (zAn v R C M w h).mono fun e w' h=>⟨_,h.1,by rw[decide_eq_true hF.valid],h.2⟩
def zIs(R C:Nat)(A:Nat->Nat->Int):Prop:=∀x,zBn R C A x->jK R C A x
theorem zOH{R C m r:Nat}{c:Nat->Nat}{A S H:Nat->Nat->Int}{ans:Bool}(hans:ans=true↔zIs R C A)(hA:zCX R C r c A H)(hS:zFC R C A m S):decide (genM r C H=genM m C S)=ans:=by
  have hH:=hA.hb;have h:(genM r C H=genM m C S)↔zIs R C A:=by
   constructor
   · intro e x hx
     obtain rfl:r=m:=by
       have:=congrArg List.length e;simpa[genM]using this
     have e2:∀a,a<r->∀b,b<C->S a b=H a b:=fun a ha b hb=>by
       have:=congrArg (fun M=>ent M a b) e;rw[show ent (genM r C H) a b=H a b from qG ha hb,show ent (genM r C S) a b=S a b from qG ha hb]at this;exact this.symm
     exact(hH.iff x).2 ((jK.congr e2 x).1 ((hS.1.iff x).1 hx))
   · intro hP
     exact(hH.mat hS.1 fun x=>⟨fun h=>zBn.of_span (fun a ha=>zBn.self ha) h,hP x⟩).2
  by_cases e:genM r C H=genM m C S
  · rw[decide_eq_true e,hans.2 (h.1 e)]
  · rw[decide_eq_false e]
    cases ha:ans with
    |false=>rfl
    |true=>exact absurd (h.2 (hans.1 ha)) e
def zPF(R C:Nat)(A:Nat->Nat->Int)(w:World)(v:Value):Prop:=∃r c H,zCX R C r c A H/\qL w v r C (genM r C H)
theorem zI3(R C:Nat)(A:Nat->Nat->Int):qQ (zPF R C A):=fun _ _ _ e ⟨r,c,H,h1,h2⟩=>⟨r,c,H,h1,h2.below e⟩
theorem zNj{h e:Nat}(h1:1<=h)(he:2*h<=2^e)(he2:e<=32000)(v:Value)(M:List (List Int))(R C:Nat)(w:World)(hm:qL w v R C M)(hF:yG R C M)(hR:R<=5)(hC:C<=1000000)(hA:leM h R C (ent M)):
    Calls Tryz.prog 44 #[v] w fun e w'=>∃v,e= .returned v/\zPF R C (ent M) w' v/\Below w.heap.size w w':=
  (zGk h1 v M R C w hm.off hF oM hC (Nat.lt_of_le_of_lt (zAM h1 (zKH hR)) (zGh (k:=es 5) he (by rw[jB,show es 5=30 from rfl];omega))) hA).mono fun e w' ⟨v,r,c,H,U,V,h2,hf,hm,hb⟩=>⟨v,h2,⟨r,c,H,hf.lat,hm⟩,hb⟩
theorem zEX{h e:Nat}(h1:1<=h)(he:2*h<=2^e)(he2:e<=1900)(v:Value)(M:List (List Int))(R C:Nat)(w:World)(hm:qL w v R C M)(hF:yG R C M)(hR:R<=5)(hC:C<=5)(hA:leM h R C (ent M)){ans:Bool}(hans:ans=true↔zIs R C (ent M)):
    Calls Tryz.prog 22 #[v] w fun e w'=>∃v,e= .returned v/\v= .bool ans/\Below w.heap.size w w':=by
  have h0:=hm;obtain⟨A,rfl,hm⟩:=hm;obtain⟨ao,n,cap,rfl,e2,e3,e4,-⟩:=id hm;obtain rfl:R=n:=by rw[<-e2,hF.1]
  have H0:=xgv h0;have HF:=xgv hF;have HA:=xgv hA;have HH:=xgv (And.intro h1 he);have HN:=xgv hans;clear h0 hF e2 hm hA h1 he hans;go_enter Tryz.func22,Tryz.ntmps22;go_upto_region 1 with(fail)
  refine zC ?_;intro W0 hW0;obtain⟨hB0,bx,hs0⟩:=zN hW0;obtain⟨c1,c2,c3,c4,c5,c6⟩:=bx.three;clear hW0;have hl1:=zI3 R C (ent M);have hl2:=zFN R C (ent M);refine zF rfl (RV W0 _ [E 0 3 (.agg #[.int .i64 R,.int .i64 C,.slice ao R cap]),E 1 4 (.bool true),E 2 5 (.bool true),E 3 6 (.agg #[.int .i64 R,.int .i64 C,.slice ao R cap]),⟨4,7,zPF R C (ent M)⟩,E 5 8 (.agg #[.int .i64 R,.int .i64 C,.slice ao R cap]),⟨6,9,zNN R C (ent M)⟩,E 7 10 (.bool ans),E 8 11 (.bool ans),E 9 2 (.bool ans)]) kR RV.start (RV.fin kR ?fin1) ?steps1
  case steps1=>
    refine⟨?_,?_,?_,?_,?_,?_,?_,?_,?_,?_,trivial⟩<;>(intro L T wS hL hd hcl hI K hK;try refine zA rfl ?_)
    · have zt:=hI.k 1 rfl kR
      have cc0:=hI.cell c1;have cc1:=hI.cell c2;have cc2:=hI.cell c3;exact xgu
    · have zt0:=hI.e mm0 (hd 0)
      go_simp;refine(zN5 _ R C M _ ((H0.out.below hB0).below hI.bel) HF.out).mono ?_;rintro e wa ⟨v,rfl,hv,hba⟩;exact hK _ _ ((hI.world hba).y mm1 hv)
    · exact xgs (hI.e mm1 (hd 1))
    · have zg:=hI.e mm2 (hd 2)
      refine zA xgp ?_;have zt:=hI.k 1 rfl kR;have cc0:=hI.cell c1;have cc1:=hI.cell c2;have cc2:=hI.cell c3;exact xgu
    · have zg:=hI.e mm2 (hd 2)
      refine zA xgp ?_;have zt3:=hI.e mm3 (hd 3);go_simp;refine(zNj HH.out.1 HH.out.2 oM _ M R C _ ((H0.out.below hB0).below hI.bel) HF.out hR oM HA.out).mono ?_;rintro e wa ⟨v,rfl,hv,hba⟩;exact hK _ _ ((hI.world hba).y mm4 hv)
    · have zg:=hI.e mm2 (hd 2)
      refine zA xgp ?_;have zt:=hI.k 1 rfl kR;have cc0:=hI.cell c1;have cc1:=hI.cell c2;have cc2:=hI.cell c3;exact xgu
    · have zg:=hI.e mm2 (hd 2)
      refine zA xgp ?_;have zt5:=hI.e mm5 (hd 5);go_simp;refine(zIP HH.out.1 HH.out.2 he2 _ M R C _ ((H0.out.below hB0).below hI.bel) HF.out oM hC HA.out).mono ?_;rintro e wa ⟨v,rfl,hv,hba⟩;exact hK _ _ ((hI.world hba).y mm6 hv)
    · have zg:=hI.e mm2 (hd 2)
      refine zA xgp ?_;obtain⟨v4,zt4,h4⟩:=hI.v mm4 (hd 4);obtain⟨v6,zt6,h6⟩:=hI.v mm6 (hd 6);obtain⟨r4,q4,H4,l4,k4⟩:=h4;obtain⟨m6,S6,p6,k6⟩:=h6;go_simp;refine(zOH HN.out l4 p6 ▸ zNy _ _ r4 m6 C _ _ _ k4 k6 (zV _ _ _) (zV _ _ _) oM).mono ?_;rintro e wa ⟨v,rfl,hv,hba⟩;exact hK _ _ ((hI.world hba).y mm7 hv)
    · exact xgt (hI.e mm2 (hd 2)) (hI.e mm7 (hd 7))
    · exact xgs (hI.e mm8 (hd 8))
  intro w1 hbw1 T hT;simp only[Fin,E,EI,VP,VSl,VN,xgg,xgh,xgi,xgj]at hT;obtain⟨va4,ha4,va6,ha6,rfl⟩:=hT;have hB4:=nx hB0 hbw1;go_wp2;go_ret;exact⟨_,rfl,rfl,hB4⟩
def zQp(t:TypeId)(n0:Nat)(cs:Array Value)(w:World)(v:Value):Prop:=∃b,v= .pointer (some ⟨b,0,none⟩)/\n0<=b/\Blk w b t cs
theorem zMx{e M0 E:Nat}(hM:2*M0<=2^e)(hE:1<=E)(hk:e*E<=32*zHE):gx E M0<BD:=by
 rw[zJr];have h2:=zGj (M:=M0) hE;have h3:(2*M0)^E<=(2^e)^E:=Nat.pow_le_pow_left hM _;rw[<-Nat.pow_mul]at h3;have h4:=zCH hk;have h5:0<2^(e*E):=Nat.pow_pos oM;omega
theorem zNb{n:Nat}(h:n<=4):eE n n<=1000000:=by
 rcases(by omega:n=0∨n=1∨n=2∨n=3∨n=4)with rfl|rfl|rfl|rfl|rfl<;>decide
theorem zCX.congr{R C r:Nat}{c:Nat->Nat}{A A' H H':Nat->Nat->Int}(h:zCX R C r c A H)(e1:∀a,a<R->∀b,b<C->A' a b=A a b)(e2:∀a,a<R->∀b,b<C->H a b=H' a b)(hn:Hnf C R r c H'):zCX R C r c A' H':=
 ⟨hn,h.sp.congr (fun a ha b hb=>(e2 a ha b hb).symm) e1,h.sp'.congr e1 (fun a ha b hb=>(e2 a ha b hb).symm)⟩
theorem zCX.ops{R C r:Nat}{c:Nat->Nat}{A H:Nat->Nat->Int}{l:List Op}(hl:qJ R l)(h:zCX R C r c (zA1 l A) H):zCX R C r c A H:=
 ⟨h.hnf,h.sp.trans (zG3 hl A).2,(zG3 hl A).1.trans h.sp'⟩
theorem zCX.self{R C r:Nat}{c:Nat->Nat}{H:Nat->Nat->Int}(h:Hnf C R r c H):zCX R C r c H H:=⟨h,zAq.refl _ _ _,zAq.refl _ _ _⟩
theorem zOy(v:Value)(R C:Int)(M:List (List Int))(w:World)(h:qL w v R C M)(hS:∀r∈M,∀z∈r,Sm z)(hb:zLl R C M):
  Calls Tryz.prog 29 #[v] w fun e w'=>∃v,e= .returned v/\v= .bool true/\Below w.heap.size w w':=by
 refine(zK3 v R C M w h hS).mono ?_;rintro e w' ⟨d,rfl,hd,hb'⟩;exact⟨_,rfl,by rw[hd.2 hb],hb'⟩
def zLq(R C:Nat)(W:List (List Int)):World->Value->Prop:=fun w v=>∃U V,zCY w v R C W U V
theorem zHS(R C:Nat)(W:List (List Int)):qQ (zLq R C W):=fun _ _ _ hb ⟨U,V,h⟩=>⟨U,V,h.below hb⟩
end Go.Proofs.YtgnmdddaiefooaaGreat
