/- Joined. -/
import Derived.Test.YtkidaebmhlijlaaGreatS25
set_option linter.unusedVariables false
set_option linter.unusedSimpArgs false
set_option linter.unusedSectionVars false
set_option maxHeartbeats 16000000
set_option maxRecDepth 100000
variable{L1 L2:(Nat->Int)->Prop}{v:Array Go.Value}{M N:List (List Int)}{zs:List Int}{C R base e h k m n p r s:Nat}{c:Nat->Nat}{A F G P Q:Nat->Nat->Int}{W w:Go.World}
namespace Go.Proofs.YtkidaebmhlijlaaGreat
open Go.RowKit
def BX(C:Nat)(L:(Nat->Int)->Prop)(w:World)(v:Value):Prop:=∃m G,HB C m G L/\zAO w v m C (genM m C G)
theorem zRW(C:Nat)(L:(Nat->Int)->Prop):zAQ (BX C L):=fun _ _ _ e ⟨m,G,h1,h2⟩=>⟨m,G,h1,h2.below e⟩
theorem zHf.same{o:Option Addr}(h:zHf R C A w (.agg #[.int .i64 (r:Nat),.int .i64 C,.slice o n k])):∃c G,zIN R C r c A G/\zAO w (.agg #[.int .i64 (r:Nat),.int .i64 C,.slice o n k]) r C (genM r C G):=by
 obtain⟨r',c,G,h1,h2⟩:=h;obtain⟨A',e,-⟩:=id h2;injection e with e
 simp only[Array.mk.injEq,List.cons.injEq]at e;obtain⟨e,-⟩:=e;injection e with _ e
 obtain rfl:r=r':=by omega
 exact⟨c,G,h1,h2⟩
theorem Hnf.self(h:Hnf C R r c G):Hnf C r r c G:=⟨xgf _,h.ech,h.red,fun a h1 h2=>by omega⟩
theorem zYC{κ κ':Nat->Nat}(hP:Hnf C p p κ P)(hQ:Hnf C s s κ' Q)(hC:C<=3)(hA:∀a,a<p+s->∀b,b<C->A a b=zJS p P Q a b):
  ∃q,zD5 q (p+s) C A/\(∀k,zD5 k (p+s) C A->k<=q)/\p<=q/\s<=q/\q<=3/\Ech C p κ A/\zFU (fun _ _=>True) p κ A:=by
 obtain⟨q,h1,h2⟩:=zV8 (p+s) C A;have e:∀a,a<p->∀b,b<C->A a b=P a b:=fun a ha b hb=>by rw[hA a oM b hb];unfold zJS;rw[if_pos ha]
 have e':∀a,a<s->∀b,b<C->A (p+a) b=Q a b:=fun a ha b hb=>by rw[hA (p+a) oM b hb];unfold zJS;rw[if_neg oM,zAT]
 refine⟨q,h1,h2,h2 p ?_,h2 s ?_,zB h1.cols hC,⟨hP.ech.lt,fun k hk=>?_,fun k hk t ht=>?_,hP.ech.inc⟩,fun i j hij hj _=>?_⟩
 ·obtain⟨σ,τ,a1,a2,a3⟩:=hP.ech.min1
  refine⟨σ,τ,fun a ha=>by have:=a1 a ha;omega,a2,fun h0=>a3 ?_⟩;rw[<-h0];exact zAm fun a ha b hb=>(e _ (a1 a ha) _ (a2 b hb)).symm
 ·obtain⟨σ,τ,a1,a2,a3⟩:=hQ.ech.min1
  refine⟨fun a=>p+σ a,τ,fun a ha=>by have:=a1 a ha;dsimp only;omega,a2,fun h0=>a3 ?_⟩;rw[<-h0];exact zAm fun a ha b hb=>(e' _ (a1 a ha) _ (a2 b hb)).symm
 ·rw[e k hk _ (hP.ech.lt k hk)]
  exact hP.ech.pos k hk
 ·rw[e k hk t (by have:=hP.ech.lt k hk;omega)]
  exact hP.ech.zero k hk t ht
 rw[e i (Nat.lt_trans hij hj) _ (hP.ech.lt j hj),e j hj _ (hP.ech.lt j hj)];exact hP.red i j hij hj trivial
def kB6(h:Nat):Nat:=24*(8*(6*(24*h^4)))^4
theorem zW7(he:h<=2^e):kB6 h<=2^(16*e+49):=by
 have h1:h^4<=2^(e*4):=by rw[jS];exact jB he 4
 have h2:8*(6*(24*h^4))<=2^(e*4+11):=by rw[yQ];omega
 have h3:(8*(6*(24*h^4)))^4<=2^((e*4+11)*4):=by rw[jS];exact jB h2 4
 rw[show 16*e+49=(e*4+11)*4+5 by omega,yQ];unfold kB6;omega
theorem zPR{q:Nat}(h:zLL (p+s) C A m G)(hq:zD5 q (p+s) C A)(hp:p<=q)(hs:s<=q):m<=p/\m<=s:=by
 obtain⟨hb,r,c,H,U,V,hf⟩:=h;have h1:=zLr hf hb;have h2:=hf.lat.rank hq;omega
theorem zNH(hl:zLL R C A m G)(hR:R<=6)(hC:C<=4)(hm:m<=4)(h1:1<=h)(hA:leM h R C A):leM (kB6 h) m R G:=by
 obtain⟨hb,r,c,H,U,V,hf⟩:=hl;exact zM5 (N:=6) hf hb (.inr hC) oM hR hm h1 hA
theorem zRR(hA:∀a,a<p+s->∀b,b<C->A a b=zJS p P Q a b)(hl:zLL (p+s) C A m G)(hp:p<=3)(hs:s<=3)(hC:C<=3)(hm:m<=p)(h1:1<=h)(he:2*h<=2^e)(he2:e<=2000)(hP:leM h p C P)(hQ:leM h s C Q):
  zHz (genM m p G) (genM p C P) m p C/\leM (2^(17*e+52)) m C (ent (genM m C (zJ1 (genM m p G) (genM p C P) p)))/\(∀r∈genM m (p+s) G,∀z∈r,Sm z)∧
   ∀x,yC m C (ent (genM m C (zJ1 (genM m p G) (genM p C P) p))) x↔zVJ (yC p C P) (yC s C Q) x:=by
 have hAh:leM h (p+s) C A:=fun a ha b hb=>by
  rw[hA a ha b hb];unfold zJS;split;exact hP a oM b hb;exact hQ _ oM b hb
 have hG:=zNH hl oM oM oM h1 hAh;have hk:=zW7 (h:=h) (e:=e) oM;have hG2:leM (2^(16*e+49)) m (p+s) G:=hG.mono hk;have hP2:leM (2^e) p C P:=hP.mono oM;have hab:2^(17*e+49)=2^(16*e+49)*2^e:=by rw[<-yQ];congr 1;omega
 have hent:∀i,i<m->∀j,j<C->ent (genM m C (zJ1 (genM m p G) (genM p C P) p)) i j=qH p fun t=>G i t*P t j:=fun i hi j hj=>by
  rw[jM hi hj];unfold zJ1;rw[zKG];exact zL fun t ht=>by rw[jM hi ht,jM ht hj]
 refine⟨zPh (h1:=2^(16*e+49)) (h2:=2^e) (e:=17*e+53) (fun i hi j hj=>?_) (fun i hi j hj=>?_) oM ?_ oM,fun i hi j hj=>?_,zLw (h:=2^(16*e+49)) (e:=16*e+50) ?_ oM (jJ _ _ _) fun i hi j hj=>by rw[jM hi hj];exact hG2 i hi j hj,fun x=>?_⟩;rw[jM hi hj];exact hG2 i hi j oM;rw[jM hi hj];exact hP2 i hi j hj
 ·have e1:2^(17*e+53)=2^(17*e+49)*16:=by rw[show 17*e+53=17*e+49+4 by omega,yQ]
  have e2:2^(16*e+49)*1<=2^(16*e+49)*2^e:=zF _ (qP oM);have e3:1*2^e<=2^(16*e+49)*2^e:=zO _ (qP oM);rw[e1,hab];omega
 ·rw[hent i hi j hj]
  have:=zFN (n:=p) (f:=fun t=>G i t*P t j) (B:=2^(17*e+49)) fun t ht=>by
   rw[hab,qZ];exact qT (hG2 i hi t oM) (hP2 t ht j hj)
  have e1:2^(17*e+52)=2^(17*e+49)*8:=by rw[show 17*e+52=17*e+49+3 by omega,yQ]
  have e2:p*2^(17*e+49)<=8*2^(17*e+49):=zO _ oM;omega
 ·rw[show 16*e+50=16*e+49+1 by omega,qF 2 (16*e+49)]
  omega
 have hK:HB (p+s) m G (zMh (p+s) C (zJS p P Q)):=hl.1.of fun x=>zMh.congr hA x
 exact(yC.congr hent x).trans (zRQ hK x)
theorem zN9(h:zBc p C M)(k:zBc s C N):zBc (p+s) C (M++N):=
 ⟨by rw[zAA,h.1,k.1],fun r hr=>(List.mem_append.1 hr).elim (h.2 r) (k.2 r)⟩
def zXj(n:Nat):World->Value->Prop:=fun w v=>∃b,v= .slice (some ⟨b,0,none⟩) n n/\Blk w b tN (zBZ n fun t=>(t:Int))
theorem zJp(n:Nat):zAQ (zXj n):=fun _ _ _ e ⟨b,h1,h2⟩=>⟨b,h1,h2.below e⟩
theorem zF2(h:zBr [] W w):Below W.heap.size W w:=⟨h.bel.os,h.bel.tape,h.bel.output,h.bel.size,fun k hk=>h.old k hk sI⟩
theorem zPV(v1 v2:Value)(R Q C D h e:Nat)(M N:List (List Int))(w:World)(h1:zAO w v1 R C M)(h2:zAO w v2 Q D N)(hF1:zBc R C M)(hF2:zBc Q D N)(hC:C<=3)(hD:C=D)(h1h:1<=h)(he:2*h<=2^e)(he2:e<=2000)
  (k1:∀(v:Value) (w:World),zAO w v R C M->Calls Tryz.prog 59 #[v] w fun e w'=>∃v,e= .returned v/\zHf R C (ent M) w' v/\Below w.heap.size w w')
  (k2:∀(v:Value) (w:World),zAO w v Q D N->Calls Tryz.prog 59 #[v] w fun e w'=>∃v,e= .returned v/\zHf Q D (ent N) w' v/\Below w.heap.size w w')
  (hb1:∀r c G,zIN R C r c (ent M) G->leM h r C G) (hb2:∀r c G,zIN Q D r c (ent N) G->leM h r D G):
  Calls Tryz.prog 18 #[v1,v2] w fun e w'=>∃v,e= .returned (.tuple #[v,.int .i64 0])/\BX C (zVJ (yC R C (ent M)) (yC Q C (ent N))) w' v/\Below w.heap.size w w':=by
 subst hD;have H1:=xgv h1;have H2:=xgv h2;obtain⟨A1,rfl,h1⟩:=h1;obtain⟨A2,rfl,h2⟩:=h2;have HF1:=xgv hF1;have HF2:=xgv hF2;have HE:=xgv he;have K1:=xgv k1;have K2:=xgv k2;have HB1:=xgv hb1;have HB2:=xgv hb2;have HAA:zAN (((C:Int)==(C:Int))=true):=⟨by simp⟩;clear h1 h2 hF1 hF2 he k1 k2 hb1 hb2;go_enter Tryz.func18,Tryz.ntmps18;go_upto_region 1 with(fail)
 refine zD ?_;intro W0 hW0;obtain⟨hB0,bx1,bx2,br,hs0⟩:=zCH hW0;obtain⟨c1,c2,c3,c4,c5,c6⟩:=bx1.three;obtain⟨d1,d2,d3,d4,d5,d6⟩:=bx2.three;clear hW0;go_wp2_with fail
 refine(zFB _ _ _ _ _ _ W0).mono ?_;rintro e0 w1 ⟨rfl,k1,k2,hb1⟩;have hB:=nx hB0 hb1;have bx1:=bx1.below hb1;have bx2:=bx2.below hb1;have br:=br.below hb1;clear c1 c2 c3 c4 c5 c6 d1 d2 d3 d4 d5 d6;go_wp2_with fail
 refine(zDE (.inl rfl) _ _ 1 50 _ (qQ _ _ _) (ans:=true) (k:=0) rfl (fun W hW=>zEK _ _ R C Q C _ _ M N W (((H1.out.below hB).below ((zA _ _).alloc (xgf _) _)).below hW) HF1.out (((H2.out.below hB).below ((zA _ _).alloc (xgf _) _)).below hW) HF2.out ((k1.below ((zA _ _).alloc (xgf _) _)).below hW) ((k2.below ((zA _ _).alloc (xgf _) _)).below hW) HAA.out)).mono ?_;rintro e0 w2 ⟨v,rfl,rfl,hb2⟩;have hb02:Below w1.heap.size w1 w2:=nx ((zA _ _).alloc (xgf _) _) hb2;have hB:=nx hB hb02;have bx1:=bx1.below hb02;have bx2:=bx2.below hb02;have br:=br.below hb02;clear k1 k2;obtain⟨c1,c2,c3,c4,c5,c6⟩:=bx1.three;obtain⟨d1,d2,d3,d4,d5,d6⟩:=bx2.three;go_wp2_with fail
 refine(zFy _ _ R C Q C M N w2 (H1.out.below hB) (H2.out.below hB) K1.out K2.out).mono ?_;rintro e3 w3 ⟨p,o1,n1,k1,s,o2,n2,k2,rfl,hm1,hm2,hb3⟩;obtain⟨κ1,G1,l1,m1⟩:=hm1.same;obtain⟨κ2,G2,l2,m2⟩:=hm2.same;have hB:=nx hB hb3;have br:=br.below hb3;have hp3:p<=3:=zB l1.hb.le_cols hC;have hs3:s<=3:=zB l2.hb.le_cols hC;have HG1:=xgv (HB1.out _ _ _ l1);have HG2:=xgv (HB2.out _ _ _ l2);obtain⟨A,hA⟩:∃A,genM p C G1++genM s C G2=A:=⟨_,rfl⟩;have HFA:zAN (zBc (p+s) C A):=⟨by rw[<-hA];exact zN9 (jJ _ _ _) (jJ _ _ _)⟩;have HAE:zAN (∀a,a<p+s->∀b,b<C->ent A a b=zJS p G1 G2 a b):=⟨fun a ha b hb=>by
  rw[<-hA,zIb (jJ _ _ _) (jJ _ _ _)];unfold zJS;split;exact jM (by assumption) hb;exact jM oM hb⟩
 have HAH:zAN (leM h (p+s) C (ent A)):=⟨fun a ha b hb=>by
  rw[HAE.out a ha b hb];unfold zJS;split;exact HG1.out a (by assumption) b hb;exact HG2.out _ oM b hb⟩
 obtain⟨q,hq⟩:∃q,zD5 q (p+s) C (ent A)/\(∀k,zD5 k (p+s) C (ent A)->k<=q)/\p<=q/\s<=q/\q<=3/\Ech C p κ1 (ent A)/\zFU (fun _ _=>True) p κ1 (ent A):=zYC l1.hnf.self l2.hnf.self hC HAE.out;have HQ:=xgv hq;have HL1:=xgv l1;have HL2:=xgv l2;have HSA:zAN ((∀r∈genM p C G1,∀z∈r,Sm z)/\∀r∈genM s C G2,∀z∈r,Sm z):=⟨zLw HE.out oM (jJ _ _ _) fun a ha b hb=>by rw[jM ha hb];exact HG1.out a ha b hb,zLw HE.out oM (jJ _ _ _) fun a ha b hb=>by rw[jM ha hb];exact HG2.out a ha b hb⟩;have M1:=xgv m1;have M2:=xgv m2;have HA:=xgv hA;clear c1 c2 c3 c4 c5 c6 d1 d2 d3 d4 d5 d6 bx1 bx2 m1 m2 l1 l2 hm1 hm2 hA hq;go_upto_region 5 with(fail)
 refine zD ?_;intro W5 hW5;obtain⟨hB5,T7,hs5⟩:=qM hW5;have hB:=nx hB hB5;have br:=br.below hB5;have M1:=xgv (M1.out.below hB5);have M2:=xgv (M2.out.below hB5);obtain⟨t1,t2,t3,t4,t5,t6⟩:=T7.six;clear hW5;go_wp2_with fail
 refine(zJ0 _ _ p s C (genM p C G1) (genM s C G2) W5 M1.out M2.out (jJ _ _ _) (jJ _ _ _) oM oM oM HSA.out.1 HSA.out.2).mono ?_;rintro e6 w6 ⟨v,rfl,hv,hb6⟩;rw[HA.out]at hv;obtain⟨s1,s2,s3,rfl⟩:=hv.agg;have hB:=nx hB hb6;have br:=br.below hb6;have T7:=T7.below hb6;have M1:=xgv (M1.out.below hb6);have HV:=xgv hv;clear t1 t2 t3 t4 t5 t6 hv M2;go_upto_region 6 with(fail)
 refine zD ?_;intro W7 hW7;obtain⟨hB7,T8,hs7⟩:=qM hW7;have hB:=nx hB hB7;have br:=br.below hB7;have T7:=T7.below hB7;have M1:=xgv (M1.out.below hB7);have HV:=xgv (HV.out.below hB7);obtain⟨t1,t2,t3,t4,t5,t6⟩:=T8.three;clear hW7;go_wp2_with fail
 refine(zRU (q:=q) (p:=p) (κ:=κ1) h1h _ A (p+s) C W7 HV.out HFA.out oM oM HAH.out oM HQ.out.2.2.2.2.2.1 HQ.out.2.2.2.2.2.2 HQ.out.1 HQ.out.2.1 (zJ (zEL h1h (zVb hp3 hs3 HQ.out.2.2.2.2.1 HQ.out.2.2.1 HQ.out.2.2.2.1)) (zOA (k:=34) HE.out (by rw[zEH];omega)))).mono ?_;rintro e8 w8 ⟨v,rfl,⟨m,G,hlp,hm⟩,hb8⟩;obtain⟨x1,x2,x3,rfl⟩:=hm.agg;have hB:=nx hB hb8;have br:=br.below hb8;have T7:=T7.below hb8;have M1:=xgv (M1.out.below hb8);obtain⟨hmp,hms⟩:=zPR hlp HQ.out.1 HQ.out.2.2.1 HQ.out.2.2.2.1;obtain⟨i1,i2,i3,i4⟩:=zRR (h:=h) (e:=e) HAE.out hlp hp3 hs3 hC hmp h1h HE.out he2 HG1.out HG2.out;have I1:=xgv i1;have I2:=xgv i2;have I3:=xgv i3;have I4:=xgv i4;have HX:=xgv hm;have hge:genM m p (ent (genM m (p+s) G))=genM m p G:=zAM fun i hi j hj=>jM hi oM
 have HGE:=xgv hge;clear t1 t2 t3 t4 t5 t6 T8 HV i1 i2 i3 i4 hm hlp hge;go_upto_region 7 with(fail)
 refine zD ?_;intro W9 hW9;obtain⟨hB9,T10,hs9⟩:=qM hW9;have hB:=nx hB hB9;have br:=br.below hB9;have T7:=T7.below hB9;have M1:=xgv (M1.out.below hB9);have HX:=xgv (HX.out.below hB9);obtain⟨t1,t2,t3,t4,t5,t6⟩:=T10.three;obtain⟨u1,u2,u3,u4,u5,u6⟩:=T7.six;clear hW9;have hLB:=zHK 32 W9.heap.size #[.int .i64 0,.int .i64 0,.slice none 0 0];have hLP:=zND (m:Int) p (genM m p G);have hLm:=zJp m;have hLn:=zJp p;have l7:=T7.lt;have l10:=T10.lt;refine zBM 14 rfl (RAS ([]) 99 W9 _ [⟨0,38,fun _ v=>v= .agg #[.int .i64 m,.int .i64 ((p+s:Nat):Int),.slice x1 x2 x3]⟩,⟨1,39,fun _ v=>v= .pointer (some ⟨w8.heap.size,0,none⟩)⟩,⟨2,40,fun _ v=>v= .int .i64 m⟩,⟨3,41,zXj m⟩,⟨4,42,fun _ v=>v= .pointer (some ⟨w3.heap.size,0,none⟩)⟩,⟨5,43,fun _ v=>v= .pointer (some ⟨w3.heap.size,0,none⟩)⟩,⟨6,44,fun _ v=>v= .int .i64 p⟩,⟨7,45,zXj p⟩,⟨8,46,zS7 (m:Int) p (genM m p G)⟩,⟨9,37,zS7 (m:Int) p (genM m p G)⟩,⟨10,47,fun w v=>zAO w v (m:Int) p (genM m p G)⟩,⟨11,48,fun _ v=>v= .int .i64 0⟩,⟨12,11,zXb 32 W9.heap.size #[.int .i64 0,.int .i64 0,.slice none 0 0]⟩] 13 (put3 11 47)) kR (zEX (zE3 kR (by repeat' (first|exact zDG _|exact zDx _|exact zBn _ _ _|exact zBa _|assumption|refine xgm.2 ⟨?_,?_⟩|exact xgn _)))) ?fin1 ?steps1
 case steps1=>
  refine⟨?_,?_,?_,?_,?_,?_,?_,?_,?_,?_,?_,?_,?_,?_,trivial⟩
  ·refine yM.liftA kR dE ?_
   intro L T wS hL hd hcl hI K hK;try refine zK rfl ?_
   have zt:T[10]?=some (.pointer (some ⟨w8.heap.size,0,none⟩)):=hI.keep 10 sI;have cc0:=hI.cell (sI) oM t1;have cc1:=hI.cell (sI) oM t2;have cc2:=hI.cell (sI) oM t3;go_simp;exact hK _ _ (hI.y mm0 rfl)
  ·refine yM.liftA kR dE ?_
   intro L T wS hL hd hcl hI K hK;try refine zK rfl ?_
   have zt:T[10]?=some (.pointer (some ⟨w8.heap.size,0,none⟩)):=hI.keep 10 sI;go_simp;exact hK _ _ (hI.y mm1 rfl)
  ·refine yM.liftA kR dE ?_
   intro L T wS hL hd hcl hI K hK;try refine zK rfl ?_
   obtain⟨_,zt1,rfl⟩:=hI.v mm1 (hd 1);have cc0:=hI.cell (sI) oM t1;go_simp;exact hK _ _ (hI.y mm2 rfl)
  ·refine yM.liftA kR dE ?_
   intro L T wS hL hd hcl hI K hK;try refine zK rfl ?_
   obtain⟨_,zt2,rfl⟩:=hI.v mm2 (hd 2);go_simp;refine(zLd m wS oM).mono ?_;rintro e wa ⟨rfl,hv,hba⟩;exact hK _ _ ((hI.world hba).y mm3 ⟨_,rfl,hv⟩)
  ·refine yM.liftA kR dE ?_
   intro L T wS hL hd hcl hI K hK;try refine zK rfl ?_
   have zt:T[7]?=some (.pointer (some ⟨w3.heap.size,0,none⟩)):=hI.keep 7 sI;go_simp;exact hK _ _ (hI.y mm4 rfl)
  ·refine yM.liftA kR dE ?_
   intro L T wS hL hd hcl hI K hK;try refine zK rfl ?_
   obtain⟨_,zt4,rfl⟩:=hI.v mm4 (hd 4);go_simp;exact hK _ _ (hI.y mm5 rfl)
  ·refine yM.liftA kR dE ?_
   intro L T wS hL hd hcl hI K hK;try refine zK rfl ?_
   obtain⟨_,zt5,rfl⟩:=hI.v mm5 (hd 5);have cc0:=hI.cell (sI) oM u1;go_simp;exact hK _ _ (hI.y mm6 rfl)
  ·refine yM.liftA kR dE ?_
   intro L T wS hL hd hcl hI K hK;try refine zK rfl ?_
   obtain⟨_,zt6,rfl⟩:=hI.v mm6 (hd 6);go_simp;refine(zLd p wS oM).mono ?_;rintro e wa ⟨rfl,hv,hba⟩;exact hK _ _ ((hI.world hba).y mm7 ⟨_,rfl,hv⟩)
  ·refine yM.liftA kR dE ?_
   intro L T wS hL hd hcl hI K hK;try refine zK rfl ?_
   obtain⟨_,zt0,rfl⟩:=hI.v mm0 (hd 0);obtain⟨z3,zt3,⟨b3,rfl,hg3⟩⟩:=hI.v mm3 (hd 3);obtain⟨z7,zt7,⟨b7,rfl,hg7⟩⟩:=hI.v mm7 (hd 7);have hbS:=zF2 hI.onl;go_simp;refine(zRh _ m (p+s) p b3 b7 _ wS (HX.out.below hbS) (jJ _ _ _) oM oM oM I3.out hg3 hg7).mono ?_;rintro e wa ⟨v,rfl,hv,hba⟩;exact hK _ _ ((hI.world hba).y mm8 (HGE.out ▸ hv))
  ·refine yM.liftA kR dE ?_
   intro L T wS hL hd hcl hI K hK;try refine zK rfl ?_
   obtain⟨z3,zt3,hz3⟩:=hI.v mm8 (hd 8);go_simp;exact hK _ _ (hI.y mm9 hz3)
  ·refine yM.liftA kR dE ?_
   intro L T wS hL hd hcl hI K hK;try refine zK rfl ?_
   obtain⟨z4,zt4,hz4⟩:=hI.v mm9 (hd 9);obtain⟨u,rfl,hu⟩:=hz4;go_simp;exact hK _ _ (hI.y zJE hu)
  ·intro L T wS hL hd hcl hI K hK
   try refine zK rfl ?_
   obtain⟨w0,hJ,-,-⟩:=id hI;obtain⟨z4,zt4,hz4⟩:=hJ.val _ mm9 (hd 9);obtain⟨u,rfl,hu⟩:=hz4;go_simp;exact hK _ _ (hI.pure ⟨11,48,_⟩ zJF rfl (fun _=>rfl) dE (fun _=>zT3 dE dE))
  ·refine yM.liftA kR dE ?_
   intro L T wS hL hd hcl hI K hK;try refine zK rfl ?_
   go_simp;exact hK _ _ ((hI.world ((zA _ _).alloc (xgf _) _)).y zJO ⟨_,rfl,hI.onl.bel.size,qQ _ _ _⟩)
  intro L T wS hL hd hcl hI K hK;try refine zK rfl ?_
  replace hI:=hI.here hL;obtain⟨z11,zt11,hz11⟩:=hI.v zJE (hd 10);obtain⟨z13,zt13,hz13⟩:=hI.v zJO (hd 12);obtain⟨Av,rfl,hrv⟩:=hz11;obtain⟨vo,vn,vc,rfl,-,-,-,-⟩:=hrv;obtain⟨b7,rfl,-,T7⟩:=hz13;obtain⟨f1,f2,f3,f4,f5,f6⟩:=T7.three;go_simp;exact hK _ _ (zEY hI hL (by repeat' (first|exact xgn _|refine xgm.2 ⟨by dsimp only;decide,?_⟩)) dE (zR4 zt13 zt11).symm)
 intro T x7f hJ;obtain⟨x7,hI,-,hstx7⟩:=hJ;replace hstx7:=hstx7 kR;obtain⟨va0,q0,rfl⟩:=hI.v mm0 rfl;obtain⟨va1,q1,rfl⟩:=hI.v mm1 rfl;obtain⟨va2,q2,rfl⟩:=hI.v mm2 rfl;obtain⟨va3,q3,ha3⟩:=hI.v mm3 rfl;obtain⟨va4,q4,rfl⟩:=hI.v mm4 rfl;obtain⟨va5,q5,rfl⟩:=hI.v mm5 rfl;obtain⟨va6,q6,rfl⟩:=hI.v mm6 rfl;obtain⟨va7,q7,ha7⟩:=hI.v mm7 rfl;obtain⟨va8,q8,ha8⟩:=hI.v mm8 rfl;obtain⟨va9,q9,ha9⟩:=hI.v mm9 rfl;obtain⟨va10,q10,ha10⟩:=hI.v zJE rfl;obtain⟨va11,q11,rfl⟩:=hI.v zJF rfl;obtain⟨va12,q12,ha12⟩:=hI.v zJO rfl;have hT:=zED [(38,.agg #[.int .i64 m,.int .i64 ((p+s:Nat):Int),.slice x1 x2 x3]),(39,.pointer (some ⟨w8.heap.size,0,none⟩)),(40,.int .i64 m),(41,va3),(42,.pointer (some ⟨w3.heap.size,0,none⟩)),(43,.pointer (some ⟨w3.heap.size,0,none⟩)),(44,.int .i64 p),(45,va7),(46,va8),(37,va9),(47,va10),(48,.int .i64 0),(11,va12)]
  (fun j hj=>hI.keep j (by simp only[xgm]at hj ⊢;simp[hj]))
  (by simp only[xgm];simp[q0,q1,q2,q3,q4,q5,q6,q7,q8,q9,q10,q11,q12]) hI.size
 have hox7:=hI.onl;clear hI;simp only[List.foldl_cons,List.foldl_nil,xgh,xgi,xgj,ptr]at hT;subst hT;clear q0 q1 q2 q3 q4 q5 q6 q7 q8 q9 q10 q11 q12;simp only[xgl,xgk];have hbw8:=zF2 hox7;replace ha10:zAO x7 va10 (m:Int) p (genM m p G):=ha10;obtain⟨Av,rfl,hrv⟩:=id ha10;obtain⟨vo,vn,vc,rfl,-,-,-,-⟩:=id hrv;obtain⟨b11,rfl,hb11,T11⟩:=ha12;have q8:=hbw8.size;have hw9:=hstx7.trans (zR4 rfl rfl);have T99:Blk x7f b11 32 #[.int .i64 (m:Int),.int .i64 p,.slice vo vn vc]:=by rw[hw9];exact T11.put3 _ _ _
 have hm9:zAO x7f (.agg #[.int .i64 (m:Int),.int .i64 p,.slice vo vn vc]) (m:Int) p (genM m p G):=by
  rw[hw9];exact ha10.keep3 T11 _ _ _
 have hb59:Below W9.heap.size W9 x7f:=by
  rw[hw9];exact yJ (yJ (yJ hbw8 oM 0 _) oM 1 _) oM 2 _
 have HM9:=xgv hm9;have hB:=nx hB hb59;have br:=br.below hb59;have T7:=T7.below hb59;have M1:=xgv (M1.out.below hb59);clear t1 t2 t3 t4 t5 t6 u1 u2 u3 u4 u5 u6 T10 hm9 hrv ha10 T11 hw9 hstx7 hox7 hbw8 hLB hLP hLm hLn HX;obtain⟨t1,t2,t3,t4,t5,t6⟩:=T99.three;obtain⟨u1,u2,u3,u4,u5,u6⟩:=T7.six;go_wp2_with fail
 refine(zX5 _ _ m p C _ _ x7f HM9.out M1.out (jJ _ _ _) (jJ _ _ _) oM oM oM I1.out).mono ?_;rintro e12 w12 ⟨yo,yn,yc,rfl,hy,hb12⟩;have hB:=nx hB hb12;have br:=br.below hb12;have HY:=xgv hy;clear t1 t2 t3 t4 t5 t6 u1 u2 u3 u4 u5 u6 T99 T7 M1 HM9 hy;go_upto_region 9 with(fail)
 refine zD ?_;intro W13 hW13;obtain⟨hB13,T13,hs13⟩:=qM hW13;have hB:=nx hB hB13;have br:=br.below hB13;have HY:=xgv (HY.out.below hB13);obtain⟨t1,t2,t3,t4,t5,t6⟩:=T13.three;clear hW13;go_wp2_with fail
 refine(zLq (M0:=2^(17*e+52)) (qP dE) _ _ m C W13 HY.out.off (jJ _ _ _) oM oM (zJ (zEL (qP dE) (zVa (show m<=3 by omega))) (zOA (e:=17*e+53) (k:=7) (by rw[show 17*e+53=17*e+52+1 by omega,qF 2 (17*e+52)];omega) (by rw[zEH];omega))) I2.out).mono ?_;rintro e14 w14 ⟨v,r,c,H,U,V,rfl,hf,hmv,hb14⟩;obtain⟨z1,z2,z3,rfl⟩:=hmv.agg;have hB:=nx hB hb14;have br:=br.below hb14;have HF:=xgv hf;have HMV:=xgv hmv;clear t1 t2 t3 t4 t5 t6 T13 HY hf hmv;obtain⟨r1,r2,r3,r4,r5,r6⟩:=br.three;go_wp2;refine bodyPost_ret (zDk rfl _ rfl (br.put3 _ _ _) rfl) rfl ⟨_,rfl,⟨r,H,HF.out.lat.hb.of fun x=>(I4.out x).trans ?_,HMV.out.keep3 br _ _ _⟩,yJ (yJ (yJ hB oM 0 _) oM 1 _) oM 2 _⟩;exact and_congr (HL1.out.hb.iff x).symm (HL2.out.hb.iff x).symm
abbrev tGr:TypeId:=48
theorem Tryz.sizeGr:(Tryz.prog.info? tGr).map (·.size)=some 2:=by kernel_rfl
theorem zPv(hb:Blk W r tGr v)(h2:v.size=2):(loadVar tGr ⟨r,0,none⟩).run Tryz.prog W= .ok (.agg v) W:=
 run_loadVar_row W r _ _ v _ _ hb Tryz.underlying48 rfl (by rw[Tryz.sizeGr,h2])
theorem zJ9{fn:Func}{p u:Tmp}(h:fn.results=#[.cell p tGr,.tmp u])(tmps:Array Value){W:World}{r:Nat}{v:Array Value}
  (hp:tmps.getD p undef= .pointer (some ⟨r,0,none⟩)) (hb:Blk W r tGr v) (h2:v.size=2):
  (results fn tmps).run Tryz.prog W= .ok (.tuple #[.agg v,tmps.getD u undef]) W:=by
 have hp':tmps[p]?.getD undef= .pointer (some ⟨r,0,none⟩):=by simpa using hp
 simp[results,h,hp',asAddr,zPv hb h2]
theorem zPw(hb:Blk W r tI v)(h2:v.size=2):(loadVar tI ⟨r,0,none⟩).run Tryz.prog W= .ok (.agg v) W:=
 run_loadVar_row W r _ _ v _ _ hb zCq rfl (by rw[zE5,h2])
theorem zHX{fn:Func}{p u:Tmp}(h:fn.results=#[.cell p tI,.tmp u])(tmps:Array Value){W:World}{r:Nat}{v:Array Value}
  (hp:tmps.getD p undef= .pointer (some ⟨r,0,none⟩)) (hb:Blk W r tI v) (h2:v.size=2):
  (results fn tmps).run Tryz.prog W= .ok (.tuple #[.agg v,tmps.getD u undef]) W:=by
 have hp':tmps[p]?.getD undef= .pointer (some ⟨r,0,none⟩):=by simpa using hp
 simp[results,h,hp',asAddr,zPw hb h2]
theorem zUX(n:Nat)(F:Nat->Int):(zQN n F).length<=n:=by
 have h:=zCD (fun z=>decide (1<z)) (yL n F);rw[qC]at h;exact h
theorem zBm.keepB{w':World}{ao:Option Addr}{cap:Nat}(h:zBm w (.slice ao n cap) zs)(e:∀b,ao=some ⟨b,0,none⟩->w'.heap[b]?=w.heap[b]?)(x:zBq w w'):zBm w' (.slice ao n cap) zs:=by
 obtain⟨ao',n',cap',h1,h2,h3,h4,h5⟩:=h;cases h1;exact⟨_,_,_,rfl,h2,h3,h4,fun hn=>(h5 hn).elim fun b h=>⟨b,h.1,h.2.old (e b h.1) x⟩⟩
theorem zEW.ltq{v:Value}(h:zEW w base v zs):∀g,v.ownBlock=some g->g<w.heap.size:=fun g hg=>by
 obtain⟨cells,h1,-⟩:=h;exact(h1.lt g hg).2
theorem zEW.set1{v:Value}(h:zEW w base v zs)(hr:r<base){t:TypeId}{cs:Array Value}(hb:Blk w r t cs)(ht:t≠tU)(k:Nat)(x:Value):zEW (w.setCell ⟨r,k,none⟩ x) base v zs:=by
 have hx:=hb.lext ht k x;obtain⟨cells,h1,h2⟩:=h;refine⟨cells,ownsRow_setCell_below h1 (a:=⟨r,k,none⟩) hr x,fun k z hk=>?_⟩;obtain⟨s,a,l,c,e1,e2,e3⟩:=h2 k z hk;exact⟨s,a,l,c,e1,e2,e3.ext hx⟩
def zQV(C:Nat)(L1 L2:(Nat->Int)->Prop)(b:Int)(ts:List Int):Prop:=∃(m k r:Nat) (P Q K F:Nat->Nat->Int),HB C m P L1/\HB C k Q L2/\(∀i,i<k->∀b,b<C->Q i b=qH m fun t=>K i t*P t b)/\Inv k m r K F/\b=(m:Int)-k/\ts=zQN r fun i=>F i i
def zS6(C:Nat)(L1 L2:(Nat->Int)->Prop)(z:Int):Prop:=∃(m:Nat) (c c':Nat->Nat) (P Q:Nat->Nat->Int),HB C m P L1/\HB C m Q L2/\Ech C m c P/\Ech C m c' Q/\z*zQP m c P=zQP m c' Q
def zXZ(P:Int->List Int->Prop)(w:World)(v:Value):Prop:=∃(b:Int) (ts:List Int) (o:Option Addr) (n c:Nat),v= .agg #[.int .i64 b,.slice o n c]/\zBm w (.slice o n c) ts/\P b ts
def zYL(a1:Bool)(P:Int->List Int->Prop)(w:World)(v:Value)(k:Int):Prop:=(a1=false/\k=160/\v= .agg #[.int .i64 0,.slice none 0 0])∨(a1=true/\k=0/\zXZ P w v)
def zYJ(a1 a2:Bool)(P:Int->Prop)(w:World)(v:Value)(k:Int):Prop:=(a1=false/\k=160/\v= .agg #[.bool false,.slice none 0 0])∨(a1=true/\a2=false/\k=170/\v= .agg #[.bool false,.slice none 0 0])∨(a1=true/\a2=true/\k=0/\∃z,jT w v z/\P z)
theorem zJe(hH:Hnf C m m c (ent M))(hs:∀i,i<k->yC m C (ent M) (ent N i)):∀i,i<k->∀b,b<C->ent N i b=qH m fun t=>zEa C M N i t*ent M t b:=
 fun i hi b hb=>zL7 ((zL9 hH _).2 (hs i hi) b hb)
theorem zOf(h1:HB C m P L1)(h2:HB C k Q L2):(∀i,i<k->yC m C (ent (genM m C P)) (ent (genM k C Q) i))↔∀x,L2 x->L1 x:=by
 have e1:∀x,yC m C (ent (genM m C P)) x↔L1 x:=fun x=>(yC.congr (fun a ha b hb=>jM ha hb) x).trans (h1.iff x).symm
 have e2:∀x,yC k C (ent (genM k C Q)) x↔L2 x:=fun x=>(yC.congr (fun a ha b hb=>jM ha hb) x).trans (h2.iff x).symm
 exact⟨fun h x hx=>(e1 x).1 (yC.sub h ((e2 x).2 hx)),fun h i hi=>(e1 _).2 (h _ ((e2 _).1 (yC.row _ hi)))⟩
theorem zUl{z:Int}(h:z.natAbs<=24*SW^4):Smd z:=by
 refine⟨zJ h (zH (m:=2^500) ?_ (zF4 (by rw[zEH];omega)))⟩;rw[zMk];decide+kernel
theorem Inv.sizes(hI:Inv R C r A F)(hR:R<=4)(hA:leM SW R C A):(∀i,i<r->Smd (F i i))/\∀i,i<=r->Smd (yW i fun i=>F i i):=by
 have h1:=hI.small hR zGB hA;have hp:∀i,i<r->0<F i i:=fun i hi=>hI.dg.pos i hi
 have h2:0<yW r fun i=>F i i:=jX hp
 refine⟨fun i hi=>zUl ?_,fun i hi=>zUl ?_⟩
 ·have h3:=zNZ (f:=fun i=>F i i) hp hi
  have h4:=hp i hi;omega
 have h3:=zJ4 (f:=fun i=>F i i) hp i hi;have h4:0<yW i fun i=>F i i:=jX fun j hj=>hp j oM
 omega
theorem zW4{K:Nat->Nat->Int}(h1:HB C m P L1)(h2:HB C m Q L2)(hK:∀i,i<m->∀b,b<C->Q i b=qH m fun t=>K i t*P t b)(hI:Inv m m r K F):zS6 C L1 L2 (yW r fun i=>F i i):=by
 obtain⟨c,hc⟩:=h1.hnf;obtain⟨c',hc'⟩:=h2.hnf;have h3:=zQq hc.ech hc'.ech hK;have v1:=zSr hc.ech;have v2:=zSr hc'.ech;have hd:0<det m K:=by
  rcases zCf 0 (det m K)with h|h
  exact h;have:=Int.mul_nonpos_of_nonpos_of_nonneg h (zBT v1);omega
 obtain⟨-,h4⟩:=zVo hI hd;exact⟨m,c,c',P,Q,h1,h2,hc.ech,hc'.ech,by rw[h4];exact h3⟩
theorem zRi(v1 v2:Value)(R Q C ha hb e:Nat)(M N:List (List Int))(w:World)(h1:zAO w v1 R C M)(h2:zAO w v2 Q C N)(hF1:zBc R C M)(hF2:zBc Q C N)(hC:C<=3)(h1h:1<=ha)(he:2*ha<=2^e)(heb:hb<=2^e)(he2:e<=2000)(hsw:8*hb<=SW)
  (k1:∀(v:Value) (w:World),zAO w v R C M->Calls Tryz.prog 59 #[v] w fun e w'=>∃v,e= .returned v/\zHf R C (ent M) w' v/\Below w.heap.size w w')
  (k2:∀(v:Value) (w:World),zAO w v Q C N->Calls Tryz.prog 59 #[v] w fun e w'=>∃v,e= .returned v/\zHf Q C (ent N) w' v/\Below w.heap.size w w')
  (hb1:∀r c G,zIN R C r c (ent M) G->leM ha r C G) (hb2:∀r c G,zIN Q C r c (ent N) G->leM hb r C G) {a1:Bool} (ha1:a1=true↔∀x,yC Q C (ent N) x->yC R C (ent M) x):
  Calls Tryz.prog 22 #[v1,v2] w fun e w'=>∃v k,e= .returned (.tuple #[v,.int .i64 k])/\zYL a1 (zQV C (yC R C (ent M)) (yC Q C (ent N))) w' v k/\Below w.heap.size w w':=by
 have hmf:∀(fn:Fn) (first cap:Array Value) (w:World),(Instr.makeFunc fn first cap).run Tryz.prog w= .ok (.func fn first cap) w:=fun _ _ _ _=>rfl
 have H1:=xgv h1;have H2:=xgv h2;obtain⟨A1,rfl,h1⟩:=h1;obtain⟨A2,rfl,h2⟩:=h2;have HF1:=xgv hF1;have HF2:=xgv hF2;have K1:=xgv k1;have K2:=xgv k2;have HB1:=xgv hb1;have HB2:=xgv hb2;have HSW:=xgv hsw;have HSUB:=xgv ha1;have HE1:zAN (2*ha<=2^e):=⟨he⟩;have HE2:zAN (hb<=2^e):=⟨heb⟩;have HAA:zAN (((C:Int)==(C:Int))=true):=⟨by simp⟩;clear h1 h2 hF1 hF2 k1 k2 hb1 hb2 hsw ha1 he heb;go_enter Tryz.func22,Tryz.ntmps22;go_upto_region 1 with(fail)
 refine zD ?_;intro W0 hW0;obtain⟨hB0,bx1,bx2,br,hs0⟩:=zCH hW0;obtain⟨c1,c2,c3,c4,c5,c6⟩:=bx1.three;obtain⟨d1,d2,d3,d4,d5,d6⟩:=bx2.three;clear hW0;go_wp2_with fail
 refine(zFB _ _ _ _ _ _ W0).mono ?_;rintro e0 w1 ⟨rfl,k1,k2,hb1⟩;have hB:=nx hB0 hb1;have bx1:=bx1.below hb1;have bx2:=bx2.below hb1;have br:=br.below hb1;clear c1 c2 c3 c4 c5 c6 d1 d2 d3 d4 d5 d6;go_wp2_with fail
 refine(zDE (.inl rfl) _ _ 1 50 _ (qQ _ _ _) (ans:=true) (k:=0) rfl (fun W hW=>zEK _ _ R C Q C _ _ M N W (((H1.out.below hB).below ((zA _ _).alloc (xgf _) _)).below hW) HF1.out (((H2.out.below hB).below ((zA _ _).alloc (xgf _) _)).below hW) HF2.out ((k1.below ((zA _ _).alloc (xgf _) _)).below hW) ((k2.below ((zA _ _).alloc (xgf _) _)).below hW) HAA.out)).mono ?_;rintro e0 w2 ⟨v,rfl,rfl,hb2⟩;have hb02:Below w1.heap.size w1 w2:=nx ((zA _ _).alloc (xgf _) _) hb2;have hB:=nx hB hb02;have bx1:=bx1.below hb02;have bx2:=bx2.below hb02;have br:=br.below hb02;clear k1 k2;obtain⟨c1,c2,c3,c4,c5,c6⟩:=bx1.three;obtain⟨d1,d2,d3,d4,d5,d6⟩:=bx2.three;go_wp2_with fail
 refine(zFy _ _ R C Q C M N w2 (H1.out.below hB) (H2.out.below hB) K1.out K2.out).mono ?_;rintro e3 w3 ⟨m,o1,n1,k1,k,o2,n2,k2,rfl,hm1,hm2,hb3⟩;obtain⟨κ1,G1,l1,m1⟩:=hm1.same;obtain⟨κ2,G2,l2,m2⟩:=hm2.same;have hB:=nx hB hb3;have br:=br.below hb3;have hm3:m<=3:=zB l1.hb.le_cols hC;have hk3:k<=3:=zB l2.hb.le_cols hC;have HG1:=xgv (HB1.out _ _ _ l1);have HG2:=xgv (HB2.out _ _ _ l2);obtain⟨P,hP⟩:∃P,genM m C G1=P:=⟨_,rfl⟩;obtain⟨U,hU⟩:∃U,genM k C G2=U:=⟨_,rfl⟩;have HNW:zAN (HNw m C e P):=⟨by
  rw[<-hP];have:=HE1.out;exact⟨jJ _ _ _,⟨m,κ1,l1.hnf.self.genM⟩,fun a ha b hb=>by rw[jM ha hb];have:=HG1.out a ha b hb;omega⟩⟩
 have HFP:zAN (zBc m C P):=⟨by rw[<-hP];exact jJ _ _ _⟩;have HFU:zAN (zBc k C U):=⟨by rw[<-hU];exact jJ _ _ _⟩;have HLU:zAN (leM hb k C (ent U)):=⟨fun a ha b hb=>by rw[<-hU,jM ha hb];exact HG2.out a ha b hb⟩;have HSA:zAN (a1=true↔∀i,i<k->yC m C (ent P) (ent U i)):=⟨by rw[<-hP,<-hU];exact HSUB.out.trans (zOf l1.hb l2.hb).symm⟩;have HH:zAN (∃c,Hnf C m m c (ent P)):=⟨by rw[<-hP];exact⟨_,l1.hnf.self.genM⟩⟩;rw[hP]at m1;rw[hU]at m2;have HP:=xgv hP;have HU:=xgv hU;have M1:=xgv m1;have M2:=xgv m2;have L1:=xgv l1.hb;have L2:=xgv l2.hb;clear c1 c2 c3 c4 c5 c6 d1 d2 d3 d4 d5 d6 bx1 bx2 m1 m2 l1 l2 hm1 hm2 hP hU;go_upto_region 5 with(fail)
 refine zD ?_;intro W5 hW5;obtain⟨hB5,T7,hs5⟩:=qM hW5;have hB:=nx hB hB5;have br:=br.below hB5;have M1:=xgv (M1.out.below hB5);have M2:=xgv (M2.out.below hB5);clear hW5;have hmk:0<=3:=by omega
 go_wp2_with fail
 refine(zDE (.inr rfl) _ _ 1 160 _ (qQ _ _ _) (ans:=a1) (k:=if a1=true then 0 else 160) rfl (fun W hW=>zR8 _ _ _ _ _ _ _ W ((T7.below ((zA _ _).alloc (xgf _) _)).below hW) (zGe _ _ U P W ((M2.out.below ((zA _ _).alloc (xgf _) _)).below hW) HFU.out ((M1.out.below ((zA _ _).alloc (xgf _) _)).below hW) HNW.out oM oM oM oM HE2.out HLU.out HSA.out))).mono ?_;rintro e6 w6 ⟨v,rfl,rfl,hb6⟩;have hb56:Below W5.heap.size W5 w6:=nx ((zA _ _).alloc (xgf _) _) hb6;have hB:=nx hB hb56;have br:=br.below hb56;have hsz6:=hB.size;have lbr6:=br.lt;have T7:=T7.below hb56;have M1:=xgv (M1.out.below hb56);have M2:=xgv (M2.out.below hb56);cases a1 with
 |false=>
  obtain⟨r1,r2,r3,r4⟩:=br.two;go_wp2;refine bodyPost_ret (zJ9 rfl _ rfl (br.put2 _ _) rfl) rfl ⟨_,_,rfl,.inl ⟨rfl,rfl,rfl⟩,yJ (yJ hB oM 0 _) oM 1 _⟩
 | true=>
  have hsub:IntKind.i64.wrap ((m:Int)-(k:Int))=(m:Int)-k:=yR _ oM;have hspan:=HSA.out.1 rfl;have HKS:zAN (∀i,i<k->∀b,b<C->ent U i b=qH m fun t=>zEa C P U i t*ent P t b):=⟨by
   obtain⟨c,hc⟩:=HH.out;exact zJe hc hspan⟩
  have HCW:zAN (leM SW k m (ent (genM k m (zEa C P U)))):=⟨by
   obtain⟨c,hc⟩:=HH.out;exact zMx ((zLc hc oM HLU.out HKS.out).mono HSW.out)⟩
  clear hspan;obtain⟨t1,t2,t3,t4,t5,t6⟩:=T7.six;go_upto_region 9 with(fail)
  refine zD ?_;intro W9 hW9;obtain⟨hB9,T9,hs9⟩:=qM hW9;try rw[hsub]at T9
  have hB:=nx hB hB9;have br:=br.below hB9;have T7:=T7.below hB9;have M1:=xgv (M1.out.below hB9);have M2:=xgv (M2.out.below hB9);clear hW9 t1 t2 t3 t4 t5 t6 hsub;go_wp2_with fail
  refine(zGK 1 W9 oM oM).mono ?_;rintro e10 w10 ⟨u,rfl,hu,hb10⟩;obtain⟨un,ua,ul,uc,ux,rfl,hu'⟩:=id hu;have HU':=xgw hu';have hB:=nx hB hb10;have br:=br.below hb10;have T7:=T7.below hb10;have T9:=T9.below hb10;have M1:=xgv (M1.out.below hb10);have M2:=xgv (M2.out.below hb10);have lt9:=T9.lt;have ltb:=br.lt;clear hu';go_upto_region 10 with(fail)
  refine zD ?_;intro W11 hW11;obtain⟨hB11,T10,hs11⟩:=qM hW11;have hB:=nx hB hB11;have br:=br.below hB11;have T7:=T7.below hB11;have T9:=T9.below hB11;have M1:=xgv (M1.out.below hB11);have M2:=xgv (M2.out.below hB11);have O10:=zCM.mk T10 (hu.ext (lx hB11));have lt10:=T10.lt;clear hW11 hu T10;obtain⟨t1,t2,t3,t4,t5,t6⟩:=T7.six;go_wp2_with fail
  refine(zLb o1 _ _ o2 _ _ P U W11 M1.out HNW.out M2.out HFU.out oM oM oM oM HE2.out HLU.out).mono ?_;rintro e12 w12 ⟨u12,rfl,hcm,hb12⟩;go_wp2_with fail
  refine(zOG _ _ k m w12 hcm (jJ _ _ _) oM oM HCW.out).mono ?_;rintro e13 w13 ⟨v13,F,r,rfl,hinv,hv,hb13⟩;have HV:=xgv hv.vec;have hvo:=hv.own;have hvg:=hv.ltq;obtain⟨mo,mn,mk,rfl,hml,hmk1,hmk2,-⟩:=id hv.vec;obtain rfl:r=mn:=by rw[<-hml,qC]
  have HMB:zAN (∀b,mo=some ⟨b,0,none⟩->w12.heap.size<=b/\b<w13.heap.size):=⟨fun b hb=>by
   subst hb;exact⟨hvo b rfl,hvg b rfl⟩⟩
  have HIN:=xgv hinv;have hs13:=hb13.size;have hrk:r<=min k m:=hinv.dg.le;have HSZ:=xgv (hinv.sizes oM HCW.out);have hB:=nx (nx hB hb12) hb13;clear hcm hv hml hinv hvo hvg;have T9:=(T9.below hb12).below hb13;have O10:=(O10.below hb12).below hb13;have br:=(br.below hb12).below hb13;have hs12:=hb12.size;clear t1 t2 t3 t4 t5 t6 T7 M1 M2;go_wp2;go_loopw [46] (fun iv wr=>∃i:Nat,i<=r/\iv= .int .i64 i/\Below w.heap.size w wr/\w13.heap.size<=wr.heap.size/\zBm wr (.slice mo r mk) (yL r fun i=>F i i)/\Blk wr (w.heap.size+1+1) tGr #[.int .i64 0,.slice none 0 0]/\zCM wr w10.heap.size 1∧
   ∃o n c,Blk wr w6.heap.size tGr #[.int .i64 ((m:Int)-k),.slice o n c]/\zEW wr w13.heap.size (.slice o n c) (zQN i fun i=>F i i)) (fun iv _=>r-(intOf iv).toNat)
  case atStart=>exact⟨0,by omega,rfl,hB,xgf _,HV.out,br,O10,_,_,_,T9,zEW.nil _ _⟩
  obtain⟨i,hi,rfl,hB,hI9,hV,br,O10,o,n,c,T9,ho⟩:=hrel;by_cases hlt:i<r
  ·obtain⟨b',z,sn,sa,sl,sc,rfl,hbl',hzk,q1,q2,hzv⟩:=hV.cell (k:=i) (by rw[qC];exact hlt)
   obtain⟨hmb1,hmb2⟩:=HMB.out _ rfl;have hzf:z=F i i:=by
    rw[yE hlt]at hzk;exact(zX hzk).symm
   have HZ:=xgv hzf;clear hzk hzf;go_upto_region 13 with(fail)
   refine zD ?_;intro W14 hW14;obtain⟨hB14,T12,hs14⟩:=qM hW14;have hB:=nx hB hB14;have hI9:=zB hI9 hB14.size;have hV:=hV.below hB14;have br:=br.below hB14;have T9:=T9.below hB14;have O10:=O10.below hB14;have ho:=ho.below hB14;have hzv:=hzv.ext (lx hB14);obtain⟨bn,ba,bl,bc,b10,i10⟩:=O10;obtain⟨d1,d2,d3,d4⟩:=T12.two;obtain⟨f1,f2,f3,f4⟩:=b10.two;obtain⟨k0,hk0⟩:∃k0,zAp z 1=k0:=⟨_,rfl⟩;clear q1 q2 hW14;go_wp2_with fail
   refine(zQk _ _ z 1 W14 hzv.weak i10.weak).mono ?_;rintro e15 w15 ⟨rfl,hb15⟩;rw[hk0];have hB:=nx hB hb15;have hI9:=zB hI9 hb15.size;have hV:=hV.below hb15;have br:=br.below hb15;have T9:=T9.below hb15;have T12:=T12.below hb15;have b10:=b10.below hb15;have i10:=i10.ext (lx hb15);have ho:=ho.below hb15;have hzv:=hzv.ext (lx hb15);clear d1 d2 d3 d4 f1 f2 f3 f4;by_cases hz1:1<z
   ·have hk1:k0=1:=by rw[<-hk0];unfold zAp;(repeat' split)<;>omega
    subst hk1;have HK0:=xgv hk0;have HTL:zAN ((zQN (i+1) fun i=>F i i)=(zQN i fun i=>F i i)++ [z]):=⟨by rw[zMS,if_pos (by rw[<-HZ.out];exact hz1),<-HZ.out]⟩;have htl:=zUX i fun i=>F i i
    have HO:=xgv ho;obtain⟨d1,d2,d3,d4⟩:=T12.two;obtain⟨f1,f2,f3,f4⟩:=T9.two;have hal:Below w15.heap.size w15 (w15.alloc (.cells #[.bool sn,.slice sa sl sc] tI)):=(zA _ _).alloc (xgf _) _;have hals:=hal.size;have l9:=T9.lt;have l10:=b10.lt;have lbr:=br.lt;clear hk0 ho hz1;have hq13:=zB hI9 hals;have a6:=zH l9 hals;have a10:=zH l10 hals;have abr:=zH lbr hals;have ab':=zH (zH hmb2 hI9) hals;go_wp2_with (at_builtin;go_loud (refine zXe rfl _ _ rfl w13.heap.size (.slice o n c) (zQN i fun i=>F i i) rfl (HO.out.below hal) w15.heap.size 1 sn sa sl sc z rfl (qQ _ _ _) (hzv.ext (lx hal)) oM hq13 ?_;intro v' w' hown hgr hxg;have T9w:Blk w' w6.heap.size tGr #[.int .i64 ((m:Int)-k),.slice o n c]:=(hgr.block _ a6 (fun e=>by have:=HO.out.own _ e.symm;omega)).trans (T9.below hal);have b10w:Blk w' w10.heap.size tI #[.bool bn,.slice ba bl bc]:=(hgr.block _ a10 (fun e=>by have:=HO.out.own _ e.symm;omega)).trans (b10.below hal);have brw:Blk w' (w.heap.size+1+1) tGr #[.int .i64 0,.slice none 0 0]:=(hgr.block _ abr (fun e=>by have:=HO.out.own _ e.symm;omega)).trans (br.below hal);have hVw:zBm w' (.slice (some ⟨b',0,none⟩) r mk) (yL r fun i=>F i i):=(hV.below hal).keepB (fun b e=>by injection e with e;injection e with e;subst e;exact hgr.block _ ab' (fun e=>by have:=HO.out.own _ e.symm;omega)) hxg;have hBw:Below w.heap.size w w':=(nx hB hal).grown hgr (zB hB.size hals) (fun g' hg=>by have:=HO.out.own g' hg;omega);have hszw:w13.heap.size<=w'.heap.size:=zB hq13 hgr.size;have hxw:=(lx hal).trans hxg;obtain⟨f1,f2,f3,f4⟩:=T9w.two;obtain⟨po,pn,pc,hpv⟩:∃o n c,v'= .slice o n c:=(hown.shape).elim fun o h=>h.elim fun c h=>⟨_,_,_,h⟩;subst hpv))
    have hx1:zBq w' (w'.setCell ⟨w6.heap.size,1,none⟩ (.slice po pn pc)):=T9w.lext dE _ _;go_roundw
    case rel=>
     refine⟨i+1,by omega,by simp,yJ hBw oM _ _,by simpa using hszw,hVw.keepB (fun b e=>by injection e with e;injection e with e;subst e;exact zW _ _ _ _ _ oM) hx1,(zW _ _ _ _ _ oM).trans brw,?_,po,_,pc,by simpa using T9w.set_ 1 _,?_⟩;exact zCM.mk ((zW _ _ _ _ _ oM).trans b10w) ((i10.ext hxw).ext hx1);rw[HTL.out];exact hown.set1 oM T9w dE 1 _
    case measure=>simp[intOf];omega
   have hk1:k0=0∨k0=-1:=by rw[<-hk0];unfold zAp;(repeat' split)<;>omega
   have HTL:zAN ((zQN (i+1) fun i=>F i i)=zQN i fun i=>F i i):=⟨by rw[zMS,if_neg (by rw[<-HZ.out];exact hz1),zBF]⟩;have HO:=xgv ho;clear hk0 ho hz1;rcases hk1 with rfl|rfl
   ·go_wp2
    go_roundw
    case rel=>exact⟨i+1,by omega,by simp,hB,hI9,hV,br,zCM.mk b10 i10,_,_,_,T9,by rw[HTL.out];exact HO.out⟩
    case measure=>simp[intOf];omega
   go_wp2;go_roundw
   case rel=>exact⟨i+1,by omega,by simp,hB,hI9,hV,br,zCM.mk b10 i10,_,_,_,T9,by rw[HTL.out];exact HO.out⟩
   case measure=>simp[intOf];omega
  obtain rfl:i=r:=by omega
  obtain⟨f1,f2,f3,f4⟩:=T9.two;obtain⟨r1,r2,r3,r4⟩:=br.two;have HO:=xgv ho;clear ho;go_wp2;refine bodyPost_ret (zJ9 rfl _ rfl (br.put2 _ _) rfl) rfl ⟨_,_,rfl,.inr ⟨rfl,rfl,_,_,_,_,_,rfl,(HO.out.set2 oM br dE _ _).vec,m,k,i,_,_,ent (genM k m (zEa C P U)),F,L1.out,L2.out,fun a ha b hb=>?_,HIN.out,rfl,rfl⟩,yJ (yJ hB oM 0 _) oM 1 _⟩;have hq:G2 a b=ent U a b:=by rw[<-HU.out,jM ha hb]
  rw[hq,HKS.out a ha b hb];refine zL fun t ht=>?_
  have hp:ent P t b=G1 t b:=by rw[<-HP.out,jM ht hb]
  rw[jM ha ht,hp]
theorem zPU(v1 v2:Value)(R Q C ha hb e:Nat)(M N:List (List Int))(w:World)(h1:zAO w v1 R C M)(h2:zAO w v2 Q C N)(hF1:zBc R C M)(hF2:zBc Q C N)(hC:C<=3)(h1h:1<=ha)(he:2*ha<=2^e)(heb:hb<=2^e)(he2:e<=2000)(hsw:8*hb<=SW)
  (k1:∀(v:Value) (w:World),zAO w v R C M->Calls Tryz.prog 59 #[v] w fun e w'=>∃v,e= .returned v/\zHf R C (ent M) w' v/\Below w.heap.size w w')
  (k2:∀(v:Value) (w:World),zAO w v Q C N->Calls Tryz.prog 59 #[v] w fun e w'=>∃v,e= .returned v/\zHf Q C (ent N) w' v/\Below w.heap.size w w')
  (hb1:∀r c G,zIN R C r c (ent M) G->leM ha r C G) (hb2:∀r c G,zIN Q C r c (ent N) G->leM hb r C G) {a1 a2:Bool} (ha1:a1=true↔∀x,yC Q C (ent N) x->yC R C (ent M) x) (ha2:∀m k P U,HB C m P (yC R C (ent M))->HB C k U (yC Q C (ent N))->(a2=true↔m=k)):
  Calls Tryz.prog 20 #[v1,v2] w fun e w'=>∃v k,e= .returned (.tuple #[v,.int .i64 k])/\zYJ a1 a2 (zS6 C (yC R C (ent M)) (yC Q C (ent N))) w' v k/\Below w.heap.size w w':=by
 have hmf:∀(fn:Fn) (first cap:Array Value) (w:World),(Instr.makeFunc fn first cap).run Tryz.prog w= .ok (.func fn first cap) w:=fun _ _ _ _=>rfl
 have HA2:=xgv ha2;clear ha2;have H1:=xgv h1;have H2:=xgv h2;obtain⟨A1,rfl,h1⟩:=h1;obtain⟨A2,rfl,h2⟩:=h2;have HF1:=xgv hF1;have HF2:=xgv hF2;have K1:=xgv k1;have K2:=xgv k2;have HB1:=xgv hb1;have HB2:=xgv hb2;have HSW:=xgv hsw;have HSUB:=xgv ha1;have HE1:zAN (2*ha<=2^e):=⟨he⟩;have HE2:zAN (hb<=2^e):=⟨heb⟩;have HAA:zAN (((C:Int)==(C:Int))=true):=⟨by simp⟩;clear h1 h2 hF1 hF2 k1 k2 hb1 hb2 hsw ha1 he heb;go_enter Tryz.func20,Tryz.ntmps20;go_upto_region 1 with(fail)
 refine zD ?_;intro W0 hW0;obtain⟨hB0,bx1,bx2,br,hs0⟩:=zCH hW0;obtain⟨c1,c2,c3,c4,c5,c6⟩:=bx1.three;obtain⟨d1,d2,d3,d4,d5,d6⟩:=bx2.three;clear hW0;go_wp2_with fail
 refine(zFB _ _ _ _ _ _ W0).mono ?_;rintro e0 w1 ⟨rfl,k1,k2,hb1⟩;have hB:=nx hB0 hb1;have bx1:=bx1.below hb1;have bx2:=bx2.below hb1;have br:=br.below hb1;clear c1 c2 c3 c4 c5 c6 d1 d2 d3 d4 d5 d6;go_wp2_with fail
 refine(zDE (.inl rfl) _ _ 1 50 _ (qQ _ _ _) (ans:=true) (k:=0) rfl (fun W hW=>zEK _ _ R C Q C _ _ M N W (((H1.out.below hB).below ((zA _ _).alloc (xgf _) _)).below hW) HF1.out (((H2.out.below hB).below ((zA _ _).alloc (xgf _) _)).below hW) HF2.out ((k1.below ((zA _ _).alloc (xgf _) _)).below hW) ((k2.below ((zA _ _).alloc (xgf _) _)).below hW) HAA.out)).mono ?_;rintro e0 w2 ⟨v,rfl,rfl,hb2⟩;have hb02:Below w1.heap.size w1 w2:=nx ((zA _ _).alloc (xgf _) _) hb2;have hB:=nx hB hb02;have bx1:=bx1.below hb02;have bx2:=bx2.below hb02;have br:=br.below hb02;clear k1 k2;obtain⟨c1,c2,c3,c4,c5,c6⟩:=bx1.three;obtain⟨d1,d2,d3,d4,d5,d6⟩:=bx2.three;go_wp2_with fail
 refine(zFy _ _ R C Q C M N w2 (H1.out.below hB) (H2.out.below hB) K1.out K2.out).mono ?_;rintro e3 w3 ⟨m,o1,n1,k1,k,o2,n2,k2,rfl,hm1,hm2,hb3⟩;obtain⟨κ1,G1,l1,m1⟩:=hm1.same;obtain⟨κ2,G2,l2,m2⟩:=hm2.same;have hB:=nx hB hb3;have br:=br.below hb3;have hm3:m<=3:=zB l1.hb.le_cols hC;have hk3:k<=3:=zB l2.hb.le_cols hC;have HG1:=xgv (HB1.out _ _ _ l1);have HG2:=xgv (HB2.out _ _ _ l2);obtain⟨P,hP⟩:∃P,genM m C G1=P:=⟨_,rfl⟩;obtain⟨U,hU⟩:∃U,genM k C G2=U:=⟨_,rfl⟩;have HNW:zAN (HNw m C e P):=⟨by
  rw[<-hP];have:=HE1.out;exact⟨jJ _ _ _,⟨m,κ1,l1.hnf.self.genM⟩,fun a ha b hb=>by rw[jM ha hb];have:=HG1.out a ha b hb;omega⟩⟩
 have HFP:zAN (zBc m C P):=⟨by rw[<-hP];exact jJ _ _ _⟩;have HFU:zAN (zBc k C U):=⟨by rw[<-hU];exact jJ _ _ _⟩;have HLU:zAN (leM hb k C (ent U)):=⟨fun a ha b hb=>by rw[<-hU,jM ha hb];exact HG2.out a ha b hb⟩;have HSA:zAN (a1=true↔∀i,i<k->yC m C (ent P) (ent U i)):=⟨by rw[<-hP,<-hU];exact HSUB.out.trans (zOf l1.hb l2.hb).symm⟩;have HH:zAN (∃c,Hnf C m m c (ent P)):=⟨by rw[<-hP];exact⟨_,l1.hnf.self.genM⟩⟩;rw[hP]at m1;rw[hU]at m2;have HP:=xgv hP;have HU:=xgv hU;have M1:=xgv m1;have M2:=xgv m2;have L1:=xgv l1.hb;have L2:=xgv l2.hb;clear c1 c2 c3 c4 c5 c6 d1 d2 d3 d4 d5 d6 bx1 bx2 m1 m2 l1 l2 hm1 hm2 hP hU;go_upto_region 5 with(fail)
 refine zD ?_;intro W5 hW5;obtain⟨hB5,T7,hs5⟩:=qM hW5;have hB:=nx hB hB5;have br:=br.below hB5;have M1:=xgv (M1.out.below hB5);have M2:=xgv (M2.out.below hB5);clear hW5;have HRK:zAN (((m:Int)==(k:Int))=a2):=⟨by
  have h:=HA2.out _ _ _ _ L1.out L2.out;by_cases e:m=k
  ·rw[h.2 e,e];simp
  have:a2=false:=by
   cases a2 with
   |false=>rfl
   |true=>exact absurd (h.1 rfl) e
  rw[this];exact beq_eq_false_iff_ne.2 fun h=>e oM⟩
 go_wp2_with fail
 refine(zOw _ _ _ 2 160 170 _ (qQ _ _ _) (a1:=a1) (a2:=a2) (k:=if a1=true then(if a2=true then 0 else 170)else 160) rfl (fun W hW=>zPG _ _ _ _ _ _ _ W ((T7.below ((zA _ _).alloc (xgf _) _)).below hW) (zGe _ _ U P W ((M2.out.below ((zA _ _).alloc (xgf _) _)).below hW) HFU.out ((M1.out.below ((zA _ _).alloc (xgf _) _)).below hW) HNW.out oM oM oM oM HE2.out HLU.out HSA.out)) (fun W hW=>zPH _ m k _ _ _ _ W ((T7.below ((zA _ _).alloc (xgf _) _)).below hW) HRK.out)).mono ?_;rintro e6 w6 ⟨v,rfl,rfl,hb6⟩;have hb56:Below W5.heap.size W5 w6:=nx ((zA _ _).alloc (xgf _) _) hb6;have hB:=nx hB hb56;have br:=br.below hb56;have hsz6:=hB.size;have lbr6:=br.lt;have T7:=T7.below hb56;have M1:=xgv (M1.out.below hb56);have M2:=xgv (M2.out.below hb56);cases a1 with
 |false=>
  obtain⟨r1,r2,r3,r4⟩:=br.two;go_wp2;refine bodyPost_ret (zHX rfl _ rfl (br.put2 _ _) rfl) rfl ⟨_,_,rfl,.inl ⟨rfl,rfl,rfl⟩,yJ (yJ hB oM 0 _) oM 1 _⟩
 | true=>
  cases a2 with
  |false=>
   obtain⟨r1,r2,r3,r4⟩:=br.two;go_wp2;refine bodyPost_ret (zHX rfl _ rfl (br.put2 _ _) rfl) rfl ⟨_,_,rfl,.inr (.inl ⟨rfl,rfl,rfl,rfl⟩),yJ (yJ hB oM 0 _) oM 1 _⟩
  | true=>
   obtain rfl:m=k:=(HA2.out _ _ _ _ L1.out L2.out).1 rfl;have hspan:=HSA.out.1 rfl;have HKS:zAN (∀i,i<m->∀b,b<C->ent U i b=qH m fun t=>zEa C P U i t*ent P t b):=⟨by
    obtain⟨c,hc⟩:=HH.out;exact zJe hc hspan⟩
   have HCW:zAN (leM SW m m (ent (genM m m (zEa C P U)))):=⟨by
    obtain⟨c,hc⟩:=HH.out;exact zMx ((zLc hc oM HLU.out HKS.out).mono HSW.out)⟩
   clear hspan;go_wp2_with fail
   refine(zGK 1 w6 oM oM).mono ?_;rintro e10 w10 ⟨u,rfl,hu,hb10⟩;obtain⟨un,ua,ul,uc,ux,rfl,hu'⟩:=id hu;have HU':=xgw hu';have hB:=nx hB hb10;have br:=br.below hb10;have T7:=T7.below hb10;have M1:=xgv (M1.out.below hb10);have M2:=xgv (M2.out.below hb10);have ltb:=br.lt;clear hu';go_upto_region 9 with(fail)
   refine zD ?_;intro W11 hW11;obtain⟨hB11,T10,hs11⟩:=qM hW11;have hB:=nx hB hB11;have br:=br.below hB11;have T7:=T7.below hB11;have M1:=xgv (M1.out.below hB11);have M2:=xgv (M2.out.below hB11);have O10:=zCM.mk T10 (hu.ext (lx hB11));have lt10:=T10.lt;clear hW11 hu T10;obtain⟨t1,t2,t3,t4,t5,t6⟩:=T7.six;go_wp2_with fail
   refine(zLb o1 _ _ o2 _ _ P U W11 M1.out HNW.out M2.out HFU.out oM oM oM oM HE2.out HLU.out).mono ?_;rintro e12 w12 ⟨u12,rfl,hcm,hb12⟩;go_wp2_with fail
   refine(zOG _ _ m m w12 hcm (jJ _ _ _) oM oM HCW.out).mono ?_;rintro e13 w13 ⟨v13,F,r,rfl,hinv,hv,hb13⟩;have HV:=xgv hv.vec;have hvo:=hv.own;have hvg:=hv.ltq;obtain⟨mo,mn,mk,rfl,hml,hmk1,hmk2,-⟩:=id hv.vec;obtain rfl:r=mn:=by rw[<-hml,qC]
   have HMB:zAN (∀b,mo=some ⟨b,0,none⟩->w12.heap.size<=b/\b<w13.heap.size):=⟨fun b hb=>by
    subst hb;exact⟨hvo b rfl,hvg b rfl⟩⟩
   have HIN:=xgv hinv;have hs13:=hb13.size;have hrk:r<=min m m:=hinv.dg.le;have HSZ:=xgv (hinv.sizes oM HCW.out);have hB:=nx (nx hB hb12) hb13;clear hcm hv hml hinv hvo hvg;have O10:=(O10.below hb12).below hb13;have br:=(br.below hb12).below hb13;have hs12:=hb12.size;clear t1 t2 t3 t4 t5 t6 T7 M1 M2;go_wp2;go_loopw [39] (fun iv wr=>∃i:Nat,i<=r/\iv= .int .i64 i/\Below w.heap.size w wr/\w13.heap.size<=wr.heap.size/\zBm wr (.slice mo r mk) (yL r fun i=>F i i)/\Blk wr (w.heap.size+1+1) tI #[.bool false,.slice none 0 0]/\zCM wr w10.heap.size (yW i fun i=>F i i)) (fun iv _=>r-(intOf iv).toNat)
   case atStart=>exact⟨0,by omega,rfl,hB,xgf _,HV.out,br,O10⟩
   obtain⟨i,hi,rfl,hB,hI9,hV,br,O10⟩:=hrel;obtain⟨y,hy⟩:∃y,(yW i fun i=>F i i)=y:=⟨_,rfl⟩;by_cases hlt:i<r
   ·obtain⟨b',z,sn,sa,sl,sc,rfl,hbl',hzk,q1,q2,hzv⟩:=hV.cell (k:=i) (by rw[qC];exact hlt)
    obtain⟨hmb1,hmb2⟩:=HMB.out _ rfl;have hzf:z=F i i:=by
     rw[yE hlt]at hzk;exact(zX hzk).symm
    have HPS:zAN ((yW (i+1) fun i=>F i i)=y*z):=⟨by rw[hzf,<-hy];rfl⟩;have HS1:zAN (Sm y/\Sm z):=⟨by rw[hzf,<-hy];exact⟨(HSZ.out.2 i hi).sm,(HSZ.out.1 i hlt).sm⟩⟩;rw[hy]at O10;clear hzk hzf hy;go_upto_region 12 with(fail)
    refine zD ?_;intro W14 hW14;obtain⟨hB14,T12,hs14⟩:=qM hW14;have hB:=nx hB hB14;have hI9:=zB hI9 hB14.size;have hV:=hV.below hB14;have br:=br.below hB14;have O10:=O10.below hB14;have hzv:=hzv.ext (lx hB14);obtain⟨bn,ba,bl,bc,b10,i10⟩:=O10;obtain⟨d1,d2,d3,d4⟩:=T12.two;obtain⟨f1,f2,f3,f4⟩:=b10.two;clear q1 q2 hW14;go_wp2_with fail
    refine(zD4 _ _ y z W14 i10.weak hzv.weak HS1.out.1 HS1.out.2).mono ?_;rintro e15 w15 ⟨u,rfl,hu,hb15⟩;obtain⟨un,ua,ul,uc,ux,rfl,hu'⟩:=id hu;have HU':=xgw hu';have hB:=nx hB hb15;have hI9:=zB hI9 hb15.size;have hV:=hV.below hb15;have br:=br.below hb15;have b10:=b10.below hb15;have l10:=b10.lt;have lbr:=br.lt;have hx1:=b10.lext2 dE (.bool un) (.slice ua ul uc);clear d1 d2 d3 d4 f1 f2 f3 f4 hu';obtain⟨f1,f2,f3,f4⟩:=b10.two;go_wp2;go_roundw
    case rel=>
     exact⟨i+1,by omega,by simp,yJ (yJ hB oM _ _) oM _ _,by simpa using hI9,hV.keepB (fun b e=>by injection e with e;injection e with e;subst e;exact yS _ _ _ _ _ _ _ oM) hx1,(yS _ _ _ _ _ _ _ oM).trans br,by rw[HPS.out];exact zCM.put b10 hu⟩
    case measure=>simp[intOf];omega
   obtain rfl:i=r:=by omega
   obtain⟨bn,ba,bl,bc,b10,i10⟩:=O10;obtain⟨f1,f2,f3,f4⟩:=b10.two;obtain⟨r1,r2,r3,r4⟩:=br.two;have hx1:=br.lext2 dE (.bool bn) (.slice ba bl bc);have I10:=xgv (i10.ext hx1);clear i10 hy;go_wp2;refine bodyPost_ret (zHX rfl _ rfl (br.put2 _ _) rfl) rfl ⟨_,_,rfl,.inr (.inr ⟨rfl,rfl,rfl,_,I10.out,zW4 (K:=ent (genM m m (zEa C P U))) L1.out L2.out (fun a ha b hb=>?_) HIN.out⟩),yJ (yJ hB oM 0 _) oM 1 _⟩;have hq:G2 a b=ent U a b:=by rw[<-HU.out,jM ha hb]
   rw[hq,HKS.out a ha b hb];refine zL fun t ht=>?_
   have hp:ent P t b=G1 t b:=by rw[<-HP.out,jM ht hb]
   rw[jM ha ht,hp]
end Go.Proofs.YtkidaebmhlijlaaGreat
