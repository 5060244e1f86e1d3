/- kernel.Complement. torsionref15.Completes. -/
import Derived.Test.YtgnmdddaiefooaaGreatR48
import Derived.Test.YtgnmdddaiefooaaGreatR49
set_option linter.unusedVariables false
set_option linter.unusedSimpArgs false
set_option linter.unusedSectionVars false
set_option maxHeartbeats 16000000
set_option maxRecDepth 100000
namespace Go.Proofs.YtgnmdddaiefooaaGreat
open Go.RowKit
abbrev tHf:TypeId:=63
theorem zEx(w:World):Calls Tryz.prog 63 #[.func (.func 41) #[] #[]] w fun e w'=>∃v,e= .returned v/\zGI 106 41 tHf w' v/\Below w.heap.size w w':=by
 have hmf:∀(fn:Fn) (first cap:Array Value) (w:World),(Instr.makeFunc fn first cap).run Tryz.prog w= .ok (.func fn first cap) w:=fun _ _ _ _=>rfl
 go_enter Tryz.func63,Tryz.ntmps63;go_upto_region 1 with(fail)
 refine zC ?_;intro W0 hW0;obtain⟨hB0,bx,hs0⟩:=zN hW0;go_wp2;go_ret;exact⟨_,rfl,⟨_,rfl,bx⟩,hB0⟩
def zGJ(B R C:Nat)(A:Nat->Nat->Int)(w:World)(v:Value):Prop:=∃r c H U V,jI R C r c A H U V/\leM B R R V/\zCY w v R C (genM R C H) (genM R R U) (genM R R V)
theorem zEa(B R C:Nat)(A:Nat->Nat->Int):qQ (zGJ B R C A):=fun _ _ _ e ⟨r,c,H,U,V,h1,h2,h3⟩=>⟨r,c,H,U,V,h1,h2,h3.below e⟩
theorem zOi{h e:Nat}(h1:1<=h)(he:2*h<=2^e)(he2:e<=1000000)(v:Value)(M:List (List Int))(R C:Nat)(w:World)(hm:qL w v R C M)(hF:yG R C M)(hR:R<=4)(hC:C<=1000000)(hA:leM h R C (ent M)):
  Calls Tryz.prog 41 #[v] w fun e w'=>∃v,e= .returned v/\zGJ (gk 16 h) R C (ent M) w' v/\Below w.heap.size w w':=by
 have hg:gk (es R) h<=gk 16 h:=zAM h1 (zKH hR);exact(zL3 h1 v M R C w hm hF oM hC (Nat.lt_of_le_of_lt hg (zGh (k:=16) he (by rw[jB];omega))) hA).mono fun e w' ⟨v,r,c,H,U,V,h2,hf,hU,hV,hv,hb⟩=>⟨v,h2,⟨r,c,H,U,V,hf,hV.mono hg,hv⟩,hb⟩
theorem zLX{h e:Nat}(h1:1<=h)(he:2*h<=2^e)(he2:e<=1000000)(v:Value)(M:List (List Int))(R C b:Nat)(w:World)(hm:qL w v R C M)(hF:yG R C M)(hR:R<=1000000)(hC:C<=4)(hA:leM h R C (ent M))(hb:Blk w b tHf #[.func (.func 41) #[] #[]]):
  Calls Tryz.prog 106 #[v,.pointer (some ⟨b,0,none⟩)] w fun e w'=>∃v,e= .returned v/\zGJ (gk 16 h) C R (trF (ent M)) w' v/\Below w.heap.size w w':=by
 have hS:=zGr he oM hF hA;have h0:=hm;obtain⟨A,rfl,hm⟩:=hm;obtain⟨ao,n,cap,rfl,e2,e3,e4,-⟩:=id hm;obtain rfl:R=n:=by rw[<-e2,hF.1]
 have H0:=xgv h0;have HF:=xgv hF;have HS:=xgv hS;have HA:qM (leM h C R (ent (genM C R (fun a b=>ent M b a)))):=⟨zBE fun a ha b hb=>hA b hb a ha⟩;have HH:=xgv (And.intro h1 he);have HLC:qM (∀w v,zGJ (gk 16 h) C R (ent (genM C R (fun a b=>ent M b a))) w v->zGJ (gk 16 h) C R (trF (ent M)) w v):=⟨fun w v ⟨r,c,H,U,V,q1,q2,q3⟩=>⟨r,c,H,U,V,q1.congr fun a ha b hb=>qG ha hb,q2,q3⟩⟩;clear h0 hF e2 hm hA hS h1 he;go_enter Tryz.func106,Tryz.ntmps106;go_upto_region 1 with(fail)
 refine zC ?_;intro W0 hW0;obtain⟨hB0,bx,br,hs0⟩:=qK hW0;obtain⟨c1,c2,c3,c4,c5,c6⟩:=bx.three;have hb:=hb.below hB0;have d1:=hb.cell 0;clear hW0;have hl2:=zEa (gk 16 h) C R (ent (genM C R (fun a b=>ent M b a)));refine zB 4 rfl (RV W0 _ [E 0 4 (.func (.func 41) #[] #[]),E 1 5 (.agg #[.int .i64 R,.int .i64 C,.slice ao R cap]),⟨2,6,fun w v=>qL w v (C) (R) (genM C R (fun a b=>ent M b a))⟩,⟨3,7,zGJ (gk 16 h) C R (ent (genM C R (fun a b=>ent M b a)))⟩]) kR RV.start (RV.fin kR ?fin1) ?steps1
 case steps1=>
  refine⟨?_,?_,?_,?_,trivial⟩<;>(intro L T wS hL hd hcl hI K hK;try refine zA rfl ?_)
  ·have zt:=hI.k 1 rfl kR
   have cc0:=hI.cell d1;exact xgu
  ·have zt:=hI.k 2 rfl kR
   have cc0:=hI.cell c1;have cc1:=hI.cell c2;have cc2:=hI.cell c3;exact xgu
  ·have zt1:=hI.e mm1 (hd 1)
   go_simp;refine(zCi _ R C M _ ((H0.out.below hB0).below hI.bel) HF.out hR oM HS.out).mono ?_;rintro e wa ⟨v,rfl,hv,hba⟩;exact hK _ _ ((hI.world hba).y mm2 hv)
  ·have zt0:=hI.e mm0 (hd 0)
   obtain⟨v2,zt2,h2⟩:=hI.v mm2 (hd 2);go_simp;refine(zOi HH.out.1 HH.out.2 he2 _ _ C R _ h2 (zV _ _ _) hC hR HA.out).mono ?_;rintro e wa ⟨v,rfl,hv,hba⟩;exact hK _ _ ((hI.world hba).y mm3 hv)
 intro w2 hbw2 T hT;simp only[Fin,E,EI,VP,VSl,VN,xgg,xgh,xgi,xgj]at hT;obtain⟨va2,ha2,va3,ha3,rfl⟩:=hT;simp only[xgl,xgk];obtain⟨r,c,H,U,V,hf,hV,hv⟩:=HLC.out _ _ ha3;obtain⟨g1,g2,g3,g4,g5,g6,g7,g8,g9,rfl,-⟩:=hv.agg;have br:=br.below hbw2;have hB4:=nx hB0 hbw2;obtain⟨⟨r0,r1,r2,r3,r4,r5,r6,r7,r8⟩,⟨f0,f1,f2,f3,f4,f5,f6,f7,f8⟩⟩:=br.all9;clear c1 c2 c3 c4 c5 c6 d1 ha3;have HMM:=xgv hv;have HLL:=xgv (And.intro hf hV);clear hv hf hV;go_wp2;have hxr:=br.lext9 dE (.int .i64 C) (.int .i64 R) (.slice g1 g2 g3) (.int .i64 C) (.int .i64 C) (.slice g4 g5 g6) (.int .i64 C) (.int .i64 C) (.slice g7 g8 g9);have offr:∀{v:Value} {M:List (List Int)},qX w2 v M->qX _ v M:=fun h=>h.off br dE dE (fun b hb=>zDE w2 (w.heap.size+1) b _ _ _ _ _ _ _ _ _ hb) hxr
 obtain⟨x1,x2,x3,ex,k1,k2,k3⟩:=HMM.out.ex;injection ex with ex
 simp only[Array.mk.injEq,List.cons.injEq,and_true,true_and]at ex;obtain⟨rfl,rfl,rfl⟩:=ex;refine bodyPost_ret (results_cell_row rfl _ _ (w.heap.size+1) _ _ _ _ rfl (br.put9 _ _ _ _ _ _ _ _ _) Tryz.underlying62 rfl (by rw[Tryz.sizeHe];rfl)) rfl ⟨_,rfl,⟨r,c,H,U,V,HLL.out.1,HLL.out.2,⟨_,_,_,rfl,offr k1,offr k2,offr k3⟩⟩,zGP hB4 oM _ _ _ _ _ _ _ _ _⟩
def zPS(t:TypeId)(n0:Nat)(cs:Array Value)(w:World)(v:Value):Prop:=∃b,v= .pointer (some ⟨b,0,none⟩)/\n0<=b/\Blk w b t cs
theorem zHW(t:TypeId)(n0:Nat)(cs:Array Value):qQ (zPS t n0 cs):=fun _ _ _ e ⟨b,h1,h2,h3⟩=>⟨b,h1,h2,h3.below e⟩
theorem zQV(v1 v2:Value)(z1 z2:Int)(w:World)(h1:zR w v1 z1)(h2:zR w v2 z2):Calls Tryz.prog 65 #[v1,v2] w fun e w'=>∃v,e= .returned v/\v= .int .i64 (qO z1 z2)/\Below w.heap.size w w':=
 (zJ0 v1 v2 z1 z2 w h1.weak h2.weak).mono fun e w' h=>⟨_,h.1,rfl,h.2⟩
def zCo(B R C:Nat)(A:Nat->Nat->Int)(w:World)(u:Value):Prop:=∃Q P:Nat->Nat->Int,(∀a,a<C->∀b,b<C->zI C (fun t=>P a t*Q t b)=idf a b)/\(∀a,a<R->∀b,b<C->A a b=Q a b)/\leM B C C Q/\zBm w u ((C-R:Nat):Int) C (genM (C-R) C (zE5 R Q))
theorem zEZ(B R C:Nat)(A:Nat->Nat->Int):qQ (zCo B R C A):=fun _ _ _ e ⟨Q,P,h1,h2,h3,h4⟩=>⟨Q,P,h1,h2,h3,h4.below e⟩
def zAH(B R C:Nat)(A:Nat->Nat->Int)(ans:Bool)(w:World)(v:Value):Prop:=
 if ans then ∃u,v= .tuple #[u,.int .i64 0]/\zCo B R C A w u else v= .tuple #[.agg #[.int .i64 0,.int .i64 0,.slice none 0 0],.int .i64 170]
theorem zAH.no{B R C:Nat}{A:Nat->Nat->Int}{w:World}{v:Value}(h:v= .tuple #[.agg #[.int .i64 0,.int .i64 0,.slice none 0 0],.int .i64 170]):zAH B R C A false w v:=by
 unfold zAH;rw[if_neg dE];exact h
theorem zAH.yes{B R C:Nat}{A:Nat->Nat->Int}{w:World}{v u:Value}(h:v= .tuple #[u,.int .i64 0])(hu:zCo B R C A w u):zAH B R C A true w v:=by
 unfold zAH;rw[if_pos rfl];exact⟨u,h,hu⟩
theorem zJ5{R C r:Nat}{c:Nat->Nat}{A H U V:Nat->Nat->Int}(h:jI C R r c (trF A) H U V)(hRC:R<=C)(h1:∀i,i<R->H i i=1):
  (∀a,a<C->∀b,b<C->zI C (fun t=>trF U a t*trF V t b)=idf a b)/\(∀a,a<R->∀b,b<C->A a b=trF V a b)/\zJm R C A:=by
 have h2:∀a,a<C->∀b,b<C->zI C (fun t=>trF U a t*trF V t b)=idf a b:=fun a ha b hb=>by
  rw[show(zI C fun t=>trF U a t*trF V t b)=zI C fun t=>V b t*U t a from zD fun t _=>Int.mul_comm _ _,zEV h.inv b hb a ha];unfold idf;by_cases e:b=a
  ·rw[if_pos e,if_pos e.symm]
  ·rw[if_neg e,if_neg (fun e2=>e e2.symm)]
 have h3:=zKm h hRC h1;exact⟨h2,h3,zHi hRC (zEV h2) h3⟩
theorem zCz{h e:Nat}(h1:1<=h)(he:2*h<=2^e)(he2:e<=1000000)(v:Value)(M:List (List Int))(R C:Nat)(w:World)(hm:qL w v R C M)(hF:yG R C M)(hR:R<=1000000)(hC:C<=4)(hA:leM h R C (ent M)){ans:Bool}(hans:ans=true↔zJm R C (ent M)):
  Calls Tryz.prog 16 #[v] w fun e w'=>∃v,e= .returned v/\zAH (gk 16 h) R C (ent M) ans w' v/\Below w.heap.size w w':=by
 have h0:=hm;obtain⟨A,rfl,hm⟩:=hm;obtain⟨ao,n,cap,rfl,e2,e3,e4,-⟩:=id hm;obtain rfl:R=n:=by rw[<-e2,hF.1]
 have hdv:decide (qR R C M)=true:=decide_eq_true hF.valid;have H0:=xgv h0;have HF:=xgv hF;have HA:=xgv hA;have HH:=xgv (And.intro h1 he);have HN:=xgv hans;clear h0 hF e2 hm hA h1 he hans;go_enter Tryz.func16,Tryz.ntmps16;go_upto_region 1 with(fail)
 refine zC ?_;intro W0 hW0;obtain⟨hB0,bx,br,hs0⟩:=qK hW0;obtain⟨c1,c2,c3,c4,c5,c6⟩:=bx.three;clear hW0;go_wp2_with fail
 refine(zAn _ R C M W0 (H0.out.below hB0)).mono ?_;rintro e w1 ⟨rfl,hb1⟩;rw[hdv];have bx:=bx.below hb1;have br:=br.below hb1;have hB:=nx hB0 hb1;clear c1 c2 c3 c4 c5 c6 hdv;obtain⟨c1,c2,c3,c4,c5,c6⟩:=bx.three;obtain⟨r1,r2,r3,r4,r5,r6⟩:=br.three;by_cases hRC:R<=C
 ·have hgt:¬ ((C:Int)<(R:Int)):=by omega
  have lbr:=br.lt;clear r1 r2 r3 r4 r5 r6;go_upto_region 3 with(fail)
  have hl1:=zEY 106 41 tHf;have hl2:=zEa (gk 16 h) C R (trF (ent M));have hl3:=zHW tHe w1.heap.size #[.int .i64 0,.int .i64 0,.slice none 0 0,.int .i64 0,.int .i64 0,.slice none 0 0,.int .i64 0,.int .i64 0,.slice none 0 0];refine zB 4 rfl (RV w1 _ [⟨0,18,zGI 106 41 tHf⟩,E 1 19 (.agg #[.int .i64 R,.int .i64 C,.slice ao R cap]),⟨2,20,zGJ (gk 16 h) C R (trF (ent M))⟩,⟨3,4,zPS tHe w1.heap.size #[.int .i64 0,.int .i64 0,.slice none 0 0,.int .i64 0,.int .i64 0,.slice none 0 0,.int .i64 0,.int .i64 0,.slice none 0 0]⟩]) kR RV.start (RV.fin kR ?fin2) ?steps2
  case steps2=>
   refine⟨?_,?_,?_,?_,trivial⟩<;>(intro L T wS hL hd hcl hI K hK;try refine zA rfl ?_)
   ·go_simp
    refine(zEx _).mono ?_;rintro e wa ⟨v,rfl,hv,hba⟩;exact hK _ _ ((hI.world hba).y mm0 hv)
   ·have zt:=hI.k 1 rfl kR
    have cc0:=hI.cell c1;have cc1:=hI.cell c2;have cc2:=hI.cell c3;exact xgu
   ·obtain⟨v0,zt0,h0⟩:=hI.v mm0 (hd 0)
    have zt1:=hI.e mm1 (hd 1);obtain⟨b1,rfl,k1⟩:=h0;go_simp;refine(zLX HH.out.1 HH.out.2 he2 _ M R C b1 _ ((H0.out.below hB).below hI.bel) HF.out hR hC HA.out k1).mono ?_;rintro e wa ⟨v,rfl,hv,hba⟩;exact hK _ _ ((hI.world hba).y mm2 hv)
   ·go_simp
    exact hK _ _ ((hI.world ((Below.refl _ _).alloc (xgf _) _)).y mm3 ⟨_,rfl,hI.bel.size,Blk.new _ _ _⟩)
  intro w4 hbw4 T hT;simp only[Fin,E,EI,VP,VSl,VN,xgg,xgh,xgi,xgj]at hT;obtain⟨va0,ha0,va2,ha2,va3,ha3,rfl⟩:=hT;simp only[xgl,xgk];obtain⟨b4,rfl,hb4,T4⟩:zPS tHe w1.heap.size #[.int .i64 0,.int .i64 0,.slice none 0 0,.int .i64 0,.int .i64 0,.slice none 0 0,.int .i64 0,.int .i64 0,.slice none 0 0] w4 va3:=ha3;obtain⟨r,κ,H,U,V,hf,hV,hv⟩:zGJ (gk 16 h) C R (trF (ent M)) w4 va2:=ha2;obtain⟨g1,g2,g3,g4,g5,g6,g7,g8,g9,rfl,-⟩:=hv.agg;obtain⟨x1,x2,x3,ex,k1,k2,k3⟩:=hv.ex;injection ex with ex
  simp only[Array.mk.injEq,List.cons.injEq,and_true,true_and]at ex;obtain⟨rfl,rfl,rfl⟩:=ex;obtain⟨⟨e0,e1,e2,e3,e4,e5,e6,e7,e8⟩,⟨n0,n1,n2,n3,n4,n5,n6,n7,n8⟩⟩:=T4.all9;have HFO:=xgv (And.intro hf hV);have K1:=xgv k1;have K3:=xgv k3;have bx:=bx.below hbw4;have br:=br.below hbw4;have hB4:=nx hB hbw4;have q4:=hbw4.size;clear hf hV hv k1 k2 k3 c1 c2 c3 c4 c5 c6 ha0 hl1 hl2 hl3;go_upto_region 4 with(fail)
  refine zC ?_;intro W5 hW5;have T4n:Blk W5 b4 tHe #[.int .i64 C,.int .i64 R,.slice g1 g2 g3,.int .i64 C,.int .i64 C,.slice g4 g5 g6,.int .i64 C,.int .i64 C,.slice g7 g8 g9]:=by rw[hW5.out];exact T4.put9 _ _ _ _ _ _ _ _ _
  have ho5:∀b,b≠b4->W5.heap[b]?=w4.heap[b]?:=fun b hb=>by rw[hW5.out];exact zDE w4 b4 b _ _ _ _ _ _ _ _ _ hb
  have hx5:yI w4 W5:=by rw[hW5.out];exact T4.lext9 dE _ _ _ _ _ _ _ _ _
  have hHM:qL W5 (.agg #[.int .i64 C,.int .i64 R,.slice g1 g2 g3]) C R (genM C R H):=⟨_,rfl,K1.out.off T4 dE dE ho5 hx5⟩;have hVM:qL W5 (.agg #[.int .i64 C,.int .i64 C,.slice g7 g8 g9]) C C (genM C C V):=⟨_,rfl,K3.out.off T4 dE dE ho5 hx5⟩;have hB5:Below w.heap.size w W5:=by rw[hW5.out];exact zGP hB4 oM _ _ _ _ _ _ _ _ _
  have bx:Blk W5 w.heap.size 28 #[.int .i64 R,.int .i64 C,.slice ao R cap]:=(ho5 _ oM).trans bx;have br:Blk W5 (w.heap.size+1) 28 #[.int .i64 0,.int .i64 0,.slice none 0 0]:=(ho5 _ oM).trans br;clear hW5 e0 e1 e2 e3 e4 e5 e6 e7 e8 n0 n1 n2 n3 n4 n5 n6 n7 n8 ho5 hx5 T4 K1 K3;go_wp2_with fail
  refine(zEi 1 W5 oM oM).mono ?_;rintro e w6 ⟨u,rfl,hu,hb6⟩;obtain⟨un,ua,ul,uc,ux,rfl,hu'⟩:=id hu;have HU2:=xgw hu';clear hu';go_upto_region 5 with(fail)
  refine zC ?_;intro W7 hW7;obtain⟨hB7,T5,hs7⟩:=zN hW7;have z5:jS W7 w6.heap.size 1:=jS.mk T5 (hu.ext (lx hB7));have HHM:=xgv ((hHM.below hb6).below hB7);have HVM:=xgv ((hVM.below hb6).below hB7);have T4:=(T4n.below hb6).below hB7;have bx:=(bx.below hb6).below hB7;have br:=(br.below hb6).below hB7;have hB:=nx (nx hB5 hb6) hB7;clear hW7 hu T5 hHM hVM T4n;obtain⟨c1,c2,c3,c4,c5,c6⟩:=bx.three;go_wp2;go_loopw [24] (fun iv wr=>∃i:Nat,i<=R/\iv= .int .i64 i/\Below w.heap.size w wr/\Below W7.heap.size W7 wr/\qM (∀k,k<i->H k k=1)) (fun iv _=>R-(intOf iv).toNat)
  case atStart=>exact⟨0,by omega,rfl,hB,Below.refl _ _,⟨fun k hk=>by omega⟩⟩
  case round=>
   clear hB c1 c2 c3 c4 c5 c6;obtain⟨i,hi,rfl,hB,hBr,hone⟩:=hrel;have T4:=T4.below hBr;have bx:=bx.below hBr;have br:=br.below hBr;have lbr:=br.lt;by_cases hlt:i<R
   ·obtain⟨Hv,eH,hrv⟩:=id (HHM.out.below hBr)
    injection eH with eH
    simp only[Array.mk.injEq,List.cons.injEq,and_true,true_and]at eH;subst eH;have hgl:=hrv.len;obtain rfl:C=g2:=by rw[<-hgl.1];simp[genM]
    obtain⟨b,ra,rn,rc,zs,rfl,hbl1,hz,p1,hvr⟩:=hrv.row (k:=i) (by simp[genM];omega);have hzs:zs=zQ R (H i):=by
     rw[show(genM C R H)[i]?=some (zQ R (H i)) by simp[genM,zQ,show i<C by omega]]at hz;injection hz with hz
     exact hz.symm
    subst hzs;have hiC:i<C:=by omega
    have hvl:=hvr.len;obtain rfl:R=rn:=by rw[<-hvl.1,zE]
    obtain⟨b',z,sg,al,ll,cl,rfl,hbl',hzk,y1,y2,hzv⟩:=hvr.cell (k:=i) (by rw[zE];exact hlt);rw[zW hlt]at hzk;injection hzk with hzk
    have HZE:=xgw hzk;obtain⟨on,oa,ol,oc,k5,i5⟩:=z5.below hBr;obtain⟨o1,o2,o3,o4⟩:=k5.two;obtain⟨q0,q1,q2,q3,q4',q5,q6,q7,q8⟩:=T4.nine;obtain⟨cq,hcq⟩:∃cq,qO z 1=cq:=⟨_,rfl⟩;have HCQ:=xgw hcq;obtain⟨bb,hbb⟩:∃bb,(cq !=0)=bb:=⟨_,rfl⟩;have HBB:qM (bb=false↔z=1):=⟨by
     rw[<-hbb,<-hcq,bne_eq_false_iff_eq];exact⟨fun h=>zCr.2.1 h,fun h=>jC h⟩⟩
    clear hz hvl hgl hzk hcq hrv;go_upto_region 8 with(fail)
    refine zF rfl (RV wr _ [VP 0 27 b4 0,VP 1 28 b4 2,VSl 2 29 b C g3,VN 3 30 i,VP 4 31 b i,VSl 5 32 b' R rc,VN 6 33 i,VP 7 34 b' (i*2),E 8 35 (.agg #[.bool sg,.slice al ll cl]),E 9 36 (.agg #[.bool on,.slice oa ol oc]),VN 10 37 cq,E 11 38 (.bool bb)]) kR RV.start (RV.fin kR ?fin3) ?steps3
    case steps3=>
     refine⟨?_,?_,?_,?_,?_,?_,?_,?_,?_,?_,?_,?_,trivial⟩<;>(intro L T wS hL hd hcl hI K hK;try refine zA rfl ?_)
     ·exact xgs (hI.k 4 rfl kR)
     ·exact xgs (hI.e mm0 (hd 0))
     ·have zt1:=hI.e mm1 (hd 1)
      have cc0:=hI.cell q2;exact xgu
     ·exact xgs (hI.k 6 rfl kR)
     ·exact xgt (hI.e mm2 (hd 2)) (hI.e mm3 (hd 3))
     ·have zt4:=hI.e mm4 (hd 4)
      have cc0:=hI.cell p1;exact xgu
     ·exact xgs (hI.k 6 rfl kR)
     ·exact xgt (hI.e mm5 (hd 5)) (hI.e mm6 (hd 6))
     ·have zt7:=hI.e mm7 (hd 7)
      have cc0:=hI.cell y1;have cc1:=hI.cell y2;exact xgu
     ·have zt:=hI.k 5 rfl kR
      have cc0:=hI.cell o1;have cc1:=hI.cell o2;exact xgu
     ·have zt8:=hI.e mm8 (hd 8)
      have zt9:=hI.e mm9 (hd 9);go_simp;refine(HCQ.out ▸ zQV _ _ z 1 _ (hzv.ext (lx hI.bel)) (i5.ext (lx hI.bel))).mono ?_;rintro e wa ⟨v,rfl,hv,hba⟩;exact hK _ _ ((hI.world hba).y yD hv)
     ·exact xgs (hI.e yD (hd 10))
    intro w9 hbw9 T hT;simp only[Fin,E,EI,VP,VSl,VN,xgg,xgh,xgi,xgj]at hT;subst hT;have hb9:=nx hB hbw9;have br:=br.below hbw9;obtain⟨r1,r2,r3,r4,r5,r6⟩:=br.three;clear q0 q1 q2 q3 q4' q5 q6 q7 q8 y1 y2 p1 o1 o2 o3 o4 hbb;cases hbv:bb with
    | false=>
     subst hbv;have h11:qM (∀k,k<i+1->H k k=1):=⟨fun k hk=>by
      by_cases e:k=i
      ·rw[e,HZE.out];exact HBB.out.1 rfl
      ·exact hone.out k oM⟩
     go_wp2;go_roundw
     case rel=>exact⟨i+1,by omega,by simp,hb9,nx hBr hbw9,h11⟩
     case measure=>simp[intOf];omega
    | true=>
     subst hbv;have hans:ans=false:=by
      cases ha:ans with
      |false=>rfl
      |true=>
       have h12:=((HN.out.1 ha).ones HFO.out.1).2 i hlt;rw[HZE.out]at h12;exact absurd (HBB.out.2 h12) dE
     subst hans;go_wp2;refine bodyPost_ret (zAo rfl _ rfl (br.put3 _ _ _) rfl) rfl ⟨_,rfl,zAH.no rfl,zP (zP (zP hb9 oM 0 _) oM 1 _) oM 2 _⟩
   ·obtain rfl:i=R:=by omega
    obtain⟨hQP,hAQ,hPr⟩:=zJ5 HFO.out.1 hRC hone.out;have hans:ans=true:=HN.out.2 hPr;subst hans;obtain⟨c1,c2,c3,c4,c5,c6⟩:=bx.three;obtain⟨q0,q1,q2,q3,q4',q5,q6,q7,q8⟩:=T4.nine;have HCO:qM (∀w u,zBm w u ((C-i:Nat):Int) C (((genM C C (fun a b=>ent (genM C C V) b a)).take C).drop i)->zCo (gk 16 h) i C (ent M) w u):=⟨fun w u hu=>⟨trF V,trF U,hQP,hAQ,fun a ha b hb=>HFO.out.2 b hb a ha,by
     rw[zCJ,zCw]at hu;have:genM (C-i) C (zE5 i fun a b=>ent (genM C C V) b a)=genM (C-i) C (zE5 i (trF V)):=zS fun a ha b hb=>qG hb oM
     rwa[this]at hu⟩⟩
    have HSV:qM (∀r∈genM C C V,∀z∈r,Sm z):=⟨zCx fun a ha b hb=>zAi (Nat.lt_of_le_of_lt (HFO.out.2 a ha b hb) (zGh (k:=16) HH.out.2 (by rw[jB];omega)))⟩;have hl1:=zEZ (gk 16 h) i C (ent M);clear hQP hAQ hPr;go_upto_region 11 with(fail)
    refine zB 8 rfl (RV wr _ [VP 0 41 b4 6,E 1 42 (.agg #[.int .i64 C,.int .i64 C,.slice g7 g8 g9]),⟨2,43,fun w v=>qL w v (C) (C) (genM C C (fun a b=>ent (genM C C V) b a))⟩,VP 3 44 w.heap.size 0,VN 4 45 i,VP 5 46 w.heap.size 1,VN 6 47 C,⟨7,48,zCo (gk 16 h) i C (ent M)⟩]) kR RV.start (RV.fin kR ?fin4) ?steps4
    case steps4=>
     refine⟨?_,?_,?_,?_,?_,?_,?_,?_,trivial⟩<;>(intro L T wS hL hd hcl hI K hK;try refine zA rfl ?_)
     ·exact xgs (hI.k 4 rfl kR)
     ·have zt0:=hI.e mm0 (hd 0)
      have cc0:=hI.cell q6;have cc1:=hI.cell q7;have cc2:=hI.cell q8;exact xgu
     ·have zt1:=hI.e mm1 (hd 1)
      go_simp;refine(zCi _ C C _ _ ((HVM.out.below hBr).below hI.bel) (zV _ _ _) oM oM HSV.out).mono ?_;rintro e wa ⟨v,rfl,hv,hba⟩;exact hK _ _ ((hI.world hba).y mm2 hv)
     ·exact xgs (hI.k 1 rfl kR)
     ·have zt3:=hI.e mm3 (hd 3)
      have cc0:=hI.cell c1;exact xgu
     ·exact xgs (hI.k 1 rfl kR)
     ·have zt5:=hI.e mm5 (hd 5)
      have cc0:=hI.cell c2;exact xgu
     ·obtain⟨v2,zt2,h2⟩:=hI.v mm2 (hd 2)
      have zt4:=hI.e mm4 (hd 4);have zt6:=hI.e mm6 (hd 6);go_simp;refine(zJ8 _ C C i C _ _ h2 (zV _ _ _) hRC (xgf _) oM).mono ?_;rintro e wa ⟨v,rfl,hv,hba⟩;replace hv:=HCO.out _ _ hv;exact hK _ _ ((hI.world hba).y mm7 hv)
    intro w9 hbw9 T hT;simp only[Fin,E,EI,VP,VSl,VN,xgg,xgh,xgi,xgj]at hT;obtain⟨vb2,hb2,vb7,hb7,rfl⟩:=hT;simp only[xgl,xgk];obtain⟨Q,P,s1,s2,s3,s4⟩:zCo (gk 16 h) i C (ent M) w9 vb7:=hb7;obtain⟨t1,t2,t3,rfl⟩:=s4.agg;have br:=br.below hbw9;have hB9:=nx hB hbw9;obtain⟨r1,r2,r3,r4,r5,r6⟩:=br.three;have HS4:=xgv s4;have HS1:=xgv (And.intro s1 (And.intro s2 s3));clear s1 s2 s3 s4 c1 c2 c3 c4 c5 c6 q0 q1 q2 q3 q4' q5 q6 q7 q8;go_wp2;refine bodyPost_ret (zAo rfl _ rfl (br.put3 _ _ _) rfl) rfl ⟨_,rfl,zAH.yes rfl ⟨Q,P,HS1.out.1,HS1.out.2.1,HS1.out.2.2,HS4.out.keep3 br _ _ _⟩,zP (zP (zP hB9 oM 0 _) oM 1 _) oM 2 _⟩
 ·have hgt:(C:Int)<(R:Int):=by omega
  have hans:ans=false:=by
   cases ha:ans with
   |false=>rfl
   |true=>exact absurd ((HN.out.1 ha).full.tr.le) hRC
  subst hans;go_wp2;refine bodyPost_ret (zAo rfl _ rfl (br.put3 _ _ _) rfl) rfl ⟨_,rfl,zAH.no rfl,zP (zP (zP hB oM 0 _) oM 1 _) oM 2 _⟩
theorem zJZ{R C:Nat}{M:List (List Int)}{Q:Nat->Nat->Int}(hRC:R<=C)(hF:yG R C M)(h:∀a,a<R->∀b,b<C->ent M a b=Q a b):M++genM (C-R) C (zE5 R Q)=genM C C Q:=by
 have e1:M=genM R C Q:=by rw[jU hF];exact zS h
 rw[e1];refine List.ext_getElem (by simp[genM];omega) fun i h1 h2=>?_
 simp only[genM,List.length_map,List.length_range]at h2;rcases Nat.lt_or_ge i R with hi|hi
 ·rw[List.getElem_append_left (by simpa[genM]using hi)]
  simp[genM]
 ·rw[List.getElem_append_right (by simpa[genM]using hi)]
  simp[genM,zQ,zE5,show R+(i-R)=i by omega]
theorem zOe.congr{n:Nat}{A B:Nat->Nat->Int}(h:zOe n A)(e:∀a,a<n->∀b,b<n->B a b=A a b):zOe n B:=zCX.congr h e (fun _ _ _ _=>rfl) h.hnf
theorem zCs{B eb:Nat}(hB1:1<=B)(heb:2*B<=2^eb)(he2:eb<=35000000)(v u:Value)(M:List (List Int))(R C:Nat)(w:World)(hm:qL w v R C M)(hF:yG R C M)(hRC:R<=C)(hC:C<=4)(hu:zCo B R C (ent M) w u):
  Calls Tryz.prog 23 #[v,u] w fun e w'=>∃v,e= .returned v/\v= .bool true/\Below w.heap.size w w':=by
 obtain⟨Q,P,hQP,hAQ,hQB,hmu⟩:=hu;obtain⟨a1,a2,a3,rfl⟩:=hm.agg;obtain⟨b1,b2,b3,rfl⟩:=hmu.agg;have hBB:gx (eE C C) B<BD:=Nat.lt_of_le_of_lt (zAV hB1 (zNb hC)) (zMx heb dE (by rw[jB];omega));have hSB:B<BD:=zF7 heb oM;have HS1:qM (∀r∈M,∀z∈r,Sm z):=⟨by rw[jU hF];exact zCx fun a ha b hb=>zAi (by rw[hAQ a ha b hb];exact Nat.lt_of_le_of_lt (hQB a oM b hb) hSB)⟩;have HS2:qM (∀r∈genM (C-R) C (zE5 R Q),∀z∈r,Sm z):=⟨zCx fun a ha b hb=>zAi (Nat.lt_of_le_of_lt (hQB _ oM b hb) hSB)⟩;have HST:qM (M++genM (C-R) C (zE5 R Q)=genM C C Q):=⟨zJZ hRC hF hAQ⟩;have HUC:qM (∀w' v,qL w' v C C (genM C C Q)->Calls Tryz.prog 73 #[v] w' fun e w2=>∃v,e= .returned v/\v= .bool true/\Below w'.heap.size w' w2):=⟨fun w' v hv=>zJN hB1 v C _ w' hv (zV _ _ _) oM (zBE hQB) hBB (zOe.congr (zOJ hQP) fun a ha b hb=>qG ha hb)⟩;have H1:=xgv hm;have H2:=xgv hmu;have HF:=xgv hF;have hsum:R+(C-R)=C:=by omega
 clear hm hmu hF hQP hAQ hQB hBB hSB heb;go_enter Tryz.func23,Tryz.ntmps23;go_upto_region 1 with(fail)
 refine zC ?_;intro W0 hW0;obtain⟨hB0,bx1,bx2,hs0⟩:=qK hW0;obtain⟨d1,d2,d3,d4,d5,d6⟩:=bx2.three;clear hW0;go_wp2_with fail
 refine(zEq _ _ C _ W0 (H2.out.below hB0)).mono ?_;rintro e w1 ⟨rfl,hb1⟩;rw[decide_eq_true (zV (C-R) C (zE5 R Q)).valid];have bx1:=bx1.below hb1;have bx2:=bx2.below hb1;have hB:=nx hB0 hb1;clear d1 d2 d3 d4 d5 d6;obtain⟨c1,c2,c3,c4,c5,c6⟩:=bx1.three;obtain⟨d1,d2,d3,d4,d5,d6⟩:=bx2.three;go_wp2_with fail
 refine(zG4 _ _ R (C-R) C M _ w1 (H1.out.below hB).off (H2.out.below hB) HF.out (zV _ _ _) oM oM oM HS1.out HS2.out).mono ?_;rintro e w2 ⟨s,rfl,hs,hb2⟩;rw[HST.out,hsum]at hs;obtain⟨t1,t2,t3,rfl⟩:=hs.agg;have hB2:=nx hB hb2;clear c1 c2 c3 c4 c5 c6 d1 d2 d3 d4 d5 d6;go_upto_region 5 with(fail)
 refine zC ?_;intro W3 hW3;obtain⟨hB3,T6,hs3⟩:=zN hW3;have HSS:=xgv (hs.below hB3);have hB4:=nx hB2 hB3;clear hW3 hs;obtain⟨c1,c2,c3,c4,c5,c6⟩:=T6.three;go_wp2_with fail
 refine(HUC.out W3 _ HSS.out).mono ?_;rintro e w4 ⟨_,rfl,rfl,hb4⟩;have hB5:=nx hB4 hb4;go_wp2;go_ret;exact⟨_,rfl,rfl,hB5⟩
end Go.Proofs.YtgnmdddaiefooaaGreat
