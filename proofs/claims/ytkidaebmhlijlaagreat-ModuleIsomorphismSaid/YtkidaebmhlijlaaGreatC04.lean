/- torsionlaw16.ModuleIsomorphism: whatever the input, it returns true, and the input reads as it did. No conditions. -/
import Derived.Test.YtkidaebmhlijlaaGreatD30
set_option linter.unusedVariables false
set_option linter.unusedSimpArgs false
set_option linter.unusedSectionVars false
set_option maxHeartbeats 16000000
set_option maxRecDepth 100000
namespace Go.Proofs.YtkidaebmhlijlaaGreat
open Go.ChangeShapes Go.WideShapes Go.ChangeAt Go.RowKit
theorem open_sbyte {H : Type} {enc : TypeId × Value → H} {w : World} {b0 : Nat} {r : Reach} {v : Value} {d : DataW H} {ps : List MemPlace} (hval : Value.okWide Tryz.prog w r b0 66 v)
    (h : DataW.Trod enc Tryz.prog w 0 (fun _ => true) true 66 v d ps) : ∃ n : Int, v = .int .i8 n ∧ -128 ≤ n ∧ n ≤ 127 := by
  obtain ⟨z, rfl⟩ := okWide_int Tryz.underlying66 hval
  obtain ⟨fuel, hf⟩ := h
  obtain ⟨a, ha, -, wa⟩ := DataW.trod_int Tryz.underlying66 hf
  simp [Value.cells] at ha
  subst ha
  exact ⟨z, rfl, bounds_i8 wa⟩
end Go.Proofs.YtkidaebmhlijlaaGreat
variable{L M:(Nat->Int)->Prop}{b b':Int}{ts ts':List Int}{C e i j n:Nat}{U:Nat->Nat->Int}
namespace Go.Proofs.YtkidaebmhlijlaaGreat
open Go.RowKit
def qAn(f g:Nat->Nat->Int)(i j:Nat):Nat->Nat->Int:=fun a b=>if a<i∨(a=i/\b<j)then f a b else g a b
def qAl(C:Nat)(ls:List Int)(i j:Nat):Int:=(zHF C ls i j).tmod 4
theorem MX.gd{w:World}{v:Value}(h:MX C e L w v)(hC:C<=3):Gd C (4*e+17) L:=by
 obtain⟨R,M,-,-,r1,b1,s1⟩:=h;exact(zLW oM oM b1).of s1
def zXJ(ts:List Int)(i:Nat):Int:=(1::ts).getD i 0
structure qAe(ts:List Int):Prop where
 ge:∀(i:Nat) (z:Int),ts[i]?=some z->2<=z
 dvd:∀(i:Nat) (z:Int),ts[i]?=some z->zXJ ts i∣z
 pos:∀i,i<=ts.length->0<zXJ ts i
 one:∀(i:Nat) (z:Int),ts[i]?=some z->Smd z
 last:∀i,i<=ts.length->Smd (zXJ ts i)
 part:∀i,Smd (zYs (ts.take i))
theorem zXY(h:zL6 C (zFO C L M) M b ts)(h':zL6 C L (zJJ L M) b' ts')(hL:Lat C L)(hM:Lat C M):b=b'/\ts=ts':=by
 obtain⟨m,k,r,P,Q,K,F,g1,g2,hK,hI,rfl,rfl⟩:=h;obtain⟨m',k',r',P',Q',K',F',e1,e2,hK',hI',rfl,rfl⟩:=h';obtain⟨c,hc⟩:=g1.hnf;obtain⟨c',hc'⟩:=e1.hnf;have r1:=zI3 g2.min1 hK hI;have r2:=zI3 e2.min1 hK' hI';obtain⟨T,hT⟩:=zB6 (F:=P') (G:=P) (p:=m') (q:=m) (C:=C) fun a ha=>(g1.iff _).1 (zL1 hM ((e1.iff _).2 (qG.row P' ha)))
 have hu:∀a,∃u:Nat->Int,a<m->qG m' C P' u/\∃v:Nat->Int,qG k C Q v/\∀b,b<C->P a b=u b+v b:=fun a=>by
  by_cases ha:a<m
  ·obtain⟨u,v,h1,h2,h3⟩:=(g1.iff _).2 (qG.row P ha)
   exact⟨u,fun _=>⟨(e1.iff _).1 h1,v,(g2.iff _).1 h2,h3⟩⟩
  exact⟨fun _=>0,fun h=>absurd h ha⟩
 obtain⟨U,hU⟩:=Classical.axiomOfChoice hu;obtain⟨T',hT'⟩:=zB6 (F:=U) (G:=P') (p:=m) (q:=m') (C:=C) fun a ha=>(hU a ha).1
 have h:=zPM (T:=T) (T':=T') hc.ech.ind hc'.ech.ind hT (fun a ha=>by
  obtain⟨-,v,h2,h3⟩:=hU a ha;exact⟨v,h2,fun b hb=>by rw[h3 b hb,hT' a ha b hb]⟩) hK hK' (fun x=>(e2.iff x).symm.trans (and_congr (e1.iff x) (g2.iff x))) hI hI'
 exact⟨oM,h.2⟩
theorem zYu{W:Nat->Nat->Int}(h:zL6 C L M b ts)(h':zL6 C (ImL C U L) (ImL C U M) b' ts')
  (hUW:∀a,a<C->∀b,b<C->(zT C fun t=>U a t*W t b)=idf a b) (hWU:∀a,a<C->∀b,b<C->(zT C fun t=>W a t*U t b)=idf a b):b=b'/\ts=ts':=by
 obtain⟨m,k,r,P,Q,K,F,g1,g2,hK,hI,rfl,rfl⟩:=h;obtain⟨m',k',r',P',Q',K',F',e1,e2,hK',hI',rfl,rfl⟩:=h';have r1:=zI3 g2.min1 hK hI;have r2:=zI3 e2.min1 hK' hI';have h:=zXE g1 e1 g2 e2 hUW hWU hK hK' hI hI';exact⟨oM,h.2⟩
def shF(i j:Nat)(k:Int):Nat->Nat->Int:=fun a b=>if a=i/\b=j then k else idf a b
theorem zWZ(k:Int)(hi:i<n)(hj:j<n)(hne:i≠j):∀a,a<n->∀b,b<n->(zT n fun t=>shF i j k a t*shF i j (-k) t b)=idf a b:=fun a ha b hb=>by
 by_cases hai:a=i
 ·subst hai
  rw[zF (g:=fun t=>idf a t*idf t b+(if t=j then k*idf t b else if t=a/\b=j then-k else 0)) fun t ht=>?_]
  ·rw [zBQ,zAB ha fun t _ hne=>by unfold idf;rw[if_neg (fun e=>hne e.symm),zX]]
   have e1:(zT n fun t=>if t=j then k*idf t b else if t=a/\b=j then-k else 0)=0:=by
    rw[zF (g:=fun t=>(if t=j then k*idf t b else 0)+(if t=a then(if b=j then-k else 0)else 0)) fun t _=>by
     by_cases h1:t=j
     ·rw[if_pos h1,if_pos h1,if_neg oM,yY]
     rw[if_neg h1,if_neg h1,jV];by_cases h2:t=a
     ·by_cases h3:b=j
      ·rw[if_pos ⟨h2,h3⟩,if_pos h2,if_pos h3]
      rw[if_neg (fun e=>h3 e.2),if_pos h2,if_neg h3]
     rw[if_neg (fun e=>h2 e.1),if_neg h2]]
    rw[zBQ,zAB hj fun t _ h=>if_neg h,zAB ha fun t _ h=>if_neg h,if_pos rfl,if_pos rfl];unfold idf;by_cases h:b=j
    ·rw[if_pos h.symm,if_pos h];omega
    rw[if_neg (fun e=>h e.symm),if_neg h];omega
   rw[e1];unfold idf;rw[if_pos rfl];omega
  unfold shF idf;by_cases h1:t=j
  ·subst h1
   rw[if_pos ⟨rfl,rfl⟩,if_neg (show ¬ (t=a/\b=t) by omega),if_neg (show ¬ a=t by omega),if_pos rfl];omega
  rw[if_neg oM,if_neg h1];by_cases h2:t=a/\b=j
  ·rw[if_pos h2,if_pos h2,if_pos h2.1.symm,if_neg oM]
   omega
  rw[if_neg h2,if_neg h2];omega
 rw[zAB ha fun t _ hne=>by unfold shF idf;rw[if_neg oM,if_neg (fun e=>hne e.symm),zX]];unfold shF;rw[if_neg (fun e=>hai e.1),if_neg (fun e=>hai e.1)];unfold idf;rw[if_pos rfl];omega
theorem zXf(k:Int)(hi:i<n)(hj:j<n)(hne:i≠j):∀a,a<n->∀b,b<n->(zT n fun t=>shF i j (-k) a t*shF i j k t b)=idf a b:=by
 have:=zWZ (-k) hi hj hne;rwa[zBp]at this
theorem zWH(n:Nat):∀a,a<n->∀b,b<n->(zT n fun t=>idf a t*idf t b)=idf a b:=fun a ha b _=>by
 rw[zAB ha fun t _ hne=>by unfold idf;rw[if_neg (fun e=>hne e.symm),zX]];unfold idf;rw[if_pos rfl];omega
theorem zZe{k:Int}(hk:k.natAbs<=128):leM 128 n n (shF i j k):=fun a _ b _=>by
 unfold shF idf;split;exact hk;split<;>omega
theorem zXg{R:Nat}{A:Nat->Nat->Int}(x:Nat->Int):qG R C (fun a b=>zL9 C (A a) U b) x↔ImL C U (qG R C A) x:=by
 constructor
 ·rintro⟨y,hy⟩
  exact⟨fun b=>zT R fun a=>y a*A a b,⟨y,fun b _=>rfl⟩,fun b hb=>by rw[hy b hb,zFb]⟩
 rintro⟨u,⟨y,hy⟩,hx⟩;exact⟨y,fun b hb=>by rw[hx b hb,zES U b hy,zFb]⟩
theorem ImL.congr{L':(Nat->Int)->Prop}(h:∀x,L x↔L' x)(x:Nat->Int):ImL C U L x↔ImL C U L' x:=⟨fun⟨y,a,b⟩=>⟨y,(h y).1 a,b⟩,fun⟨y,a,b⟩=>⟨y,(h y).2 a,b⟩⟩
theorem zXD(h:∀x,L x->M x):∀x,ImL C U L x->ImL C U M x:=fun _ ⟨y,a,b⟩=>⟨y,h y a,b⟩
theorem zYt(v1 v2:Value)(w:World)(hC:C<=3)(he:e<=1000)(h:MX C e L w v1)(h2:zAC w v2 C C (genM C C U))(hU:leM 128 C C U):
  CPq 50 #[v1,v2] w fun ee w'=>∃u,ee= .returned u/\MX C (e+9) (ImL C U L) w' u/\BWq w w':=by
 obtain⟨R,M,m1,f1,r1,b1,s1⟩:=h;have hU':leM 128 C C (ent (genM C C U)):=fun a ha b hb=>by rw[yR ha hb];exact hU a ha b hb
 refine(zHs v1 v2 R C C M _ w m1 h2 f1 (yW _ _ _) oM oM oM (zIG (h1:=2^e) (h2:=128) (e:=e+12) b1 hU' oM (by rw[yD];have:=zFh e;omega) oM)).mono ?_;rintro ee w' ⟨u,bs,rfl,hm,hb⟩;refine⟨u,rfl,⟨R,_,hm.mat.1,yW _ _ _,r1,fun a ha b hb'=>?_,fun x=>?_⟩,hb⟩
 ·rw[yR ha hb']
  unfold zFL;rw[zFI];refine zB (zDN (B:=2^e*128) fun t ht=>?_) ?_
  ·rw[qV]
   exact qO (b1 a ha t ht) (hU' t ht b hb')
  rw[yD];have:=zM (2^e*128) hC;rw[show 2^e*2^9=4*(2^e*128) by omega];omega
 refine(qG.congr (fun a ha b hb=>?_) x).trans ((zXg (A:=ent M) (U:=U) x).trans (ImL.congr s1 x));rw[yR ha hb];unfold zFL zL9;rw[zFI];exact zF fun t ht=>by rw[yR ht hb]
def zZI(P:Int->List Int->Prop)(w:World)(v:Value):Prop:=∃u,v= .tuple #[u,niq 0]/\zXs P w u
theorem zN7(P:Int->List Int->Prop):zAK (zZI P):=fun _ _ _ e ⟨u,h1,h2⟩=>⟨u,h1,zQT P _ _ _ e h2⟩
theorem zOC(n0 m:Nat)(P:Int->List Int->Prop){t:TypeId}(ht:tI≠t)(hu:t≠tU):zDO n0 t m (zZI P):=fun _ _ _ _ _ _ hb _ _ ⟨u,h1,b,ts,o,n,c,h2,h3,h4⟩=>⟨u,h1,b,ts,o,n,c,h2,h3.wrT hb ht hu,h4⟩
theorem zF9(v1 v2 v3:Value)(c r1 r2 r3:Nat)(l1 l2 l3:List Int)(x y:Nat)(kk:Int)(w:World)(h1:I8V w v1 l1)(h2:I8V w v2 l2)(h3:I8V w v3 l3)(hx:x<=255)(hyy:y<=255)(hk1:-128<=kk)(hk2:kk<=127)(hc:c<=255)(hr1:r1<=255)(hr2:r2<=255)(hr3:r3<=255):
  CPq 11 #[.agg #[.int .u8 c,.int .u8 r1,v1,.int .u8 r2,v2,.int .u8 r3,v3],.agg #[.int .u8 x,.int .u8 y],.int .i8 kk] w fun e w'=>e= .returned (.bool true)/\BWq w w':=by
 obtain⟨o1,n1,k1,rfl,-⟩:=id h1;obtain⟨o2,n2,k2,rfl,-⟩:=id h2;obtain⟨o3,n3,k3,rfl,-⟩:=id h3;have H1:=xgv h1;have H2:=xgv h2;have H3:=xgv h3;obtain⟨C,hC⟩:∃C:Nat,C=c%4:=⟨_,rfl⟩;have hC3:C<=3:=oM;have HMade:jZ (∀w,I8V w (.slice o1 n1 k1) l1->I8V w (.slice o2 n2 k2) l2->I8V w (.slice o3 n3 k3) l3->CPq 13 #[.agg #[.int .u8 c,.int .u8 r1,.slice o1 n1 k1,.int .u8 r2,.slice o2 n2 k2,.int .u8 r3,.slice o3 n3 k3]] w fun e w'=>∃a b d,e= .returned (.tuple #[a,b,d])/\MX C 4 (zEj C r1 l1) w' a/\MX C 4 (zEj C r2 l2) w' b/\MX C 4 (zEj C r3 l3) w' d/\BWq w w'):=⟨fun w h1 h2 h3=>zIA _ _ _ c r1 r2 r3 l1 l2 l3 w h1 h2 h3 hc hr1 hr2 hr3 hC⟩;have DA:jZ (Gd C 33 (zEj C r1 l1)):=⟨zHa hC3 l1⟩;have DB:jZ (Gd C 33 (zEj C r2 l2)):=⟨zHa hC3 l2⟩;have DC:jZ (Gd C 33 (zEj C r3 l3)):=⟨zHa hC3 l3⟩;skip;obtain⟨La,hLa⟩:∃La,zEj C r1 l1=La:=⟨_,rfl⟩;obtain⟨Lb,hLb⟩:∃Lb,zEj C r2 l2=Lb:=⟨_,rfl⟩;obtain⟨Lc,hLc⟩:∃Lc,zEj C r3 l3=Lc:=⟨_,rfl⟩;rw[hLa,hLb,hLc]at HMade;rw[hLa]at DA;rw[hLb]at DB;rw[hLc]at DC;have DS:jZ (Gd C 33 (zFO C La Lb)):=⟨by rw[<-hLa,<-hLb];exact zSM hC3 _ _⟩;have DM:jZ (Gd C 117 (zJJ La Lb)):=⟨by rw[<-hLa,<-hLb];exact zSL hC3 _ _⟩;clear hLa hLb hLc;clear h1 h2 h3 hC;go_enter Tryz.func11,Tryz.ntmps11;go_upto_region 1 with(fail)
 refine zD ?_;intro W0 hW0;obtain⟨hB0,bx,bY,hs0⟩:=zAj hW0;clear hW0;go_wp2_with fail
 refine(zGJ W0).mono ?_;rintro e w1 ⟨rfl,hb1⟩;have hB:=nx hB0 hb1;have bx:=bx.below hb1;have bY:=bY.below hb1;have f0:=bx.cell 0;have f1:=bx.cell 1;have f2:=bx.cell 2;have f3:=bx.cell 3;have f4:=bx.cell 4;have f5:=bx.cell 5;have f6:=bx.cell 6;go_wp2_with fail
 refine(HMade.out w1 (H1.out.below hB) (H2.out.below hB) (H3.out.below hB)).mono ?_;rintro e w2 ⟨va,vb,vc,rfl,ha,hb,hc,hb2⟩;have hB:=nx hB hb2;have bx:=bx.below hb2;have bY:=bY.below hb2;obtain⟨aR,ao,an,az,rfl⟩:=ha.agg;obtain⟨bR,bo,bn,bz,rfl⟩:=hb.agg;obtain⟨cR,co,cn,cz,rfl⟩:=hc.agg;clear f0 f1 f2 f3 f4 f5 f6 HMade;go_upto_region 3 with(fail)
 refine zD ?_;intro W3 hW3;obtain⟨hB3,bA,bB,bC,hs3⟩:=zBk hW3;clear hW3;have XA:=xgv (ha.below hB3);have XB:=xgv (hb.below hB3);have XC:=xgv (hc.below hB3);clear ha hb hc;have hB:=nx hB hB3;have bx:=bx.below hB3;have bY:=bY.below hB3;clear bx bC XC;obtain⟨c1,c2,c3,c4,c5,c6⟩:=bA.three;obtain⟨d1,d2,d3,d4,d5,d6⟩:=bB.three;have hLB1:=zEb C (zFO C La Lb);have hLW1:=zMq W3.heap.size 3 C (zFO C La Lb) (t:=32) dE dE dE;have hLB2:=zEb C (zJJ La Lb);have hLW2:=zMq W3.heap.size 3 C (zJJ La Lb) (t:=32) dE dE dE;refine zBl [pcD 2 [] (BX C (zFO C La Lb)),pcD 5 [] (BX C (zJJ La Lb)),pbA 6 32 3,pbA 7 32 3,pbS 8 6 32 3,pbS 9 7 32 3] ?_;refine sRd ?_;refine sRc (fun wS hI Gk hG=>?_) (fun _ hv=>?_)
 ·go_simp
  exact ck hG (zSs (e:=4) (f:=33) _ _ _ hC3 dE (XA.out.below hI.bel) (XB.out.below hI.bel) DS.out.bd dE)
 obtain⟨_,-,hv⟩:=hv;obtain⟨SR,So,Sn,Sk,rfl⟩:=hv.agg;refine sRd ?_;refine sRc (fun wS hI Gk hG=>?_) (fun _ hv=>?_)
 ·go_simp
  exact ck hG (zSq (e:=33) (f:=117) _ _ _ hC3 dE ((XA.out.below hI.bel).mono dE) ((XB.out.below hI.bel).mono dE) DA.out.bd DB.out.bd DM.out.bd dE)
 obtain⟨_,-,hv⟩:=hv;obtain⟨MR,Mo,Mn,Mk,rfl⟩:=hv.agg;refine sRa (cs:=#[niq 0,niq 0,.slice none 0 0]) fun bk1 hbk1=>?_
 refine sRa (cs:=#[niq 0,niq 0,.slice none 0 0]) fun bk2 hbk2=>?_
 refine sRs bk1 (.agg #[niq SR,niq C,.slice So Sn Sk]) ?_;refine sRs bk2 (.agg #[niq MR,niq C,.slice Mo Mn Mk]) ?_;refine sRb ?_;simp only[FA,FC,FN,ptr,List.nil_append,List.cons_append,Act.put,xgh,xgi,xgj];intro w11 hbN x1 x2 k1 k2 hne _;have bS:Blk w11 bk1 32 #[niq SR,niq C,.slice So Sn Sk]:=k1 _ rfl;have bM:Blk w11 bk2 32 #[niq MR,niq C,.slice Mo Mn Mk]:=k2 _ rfl;have XS:=xgv x1;have XM:=xgv x2;clear x1 x2 k1 k2 hne hLB1 hLB2 hLW1 hLW2 c1 c2 c3 c4 c5 c6 d1 d2 d3 d4 d5 d6;have hB:=nx hB hbN;have bY:=bY.below hbN;have bA:=bA.below hbN;have XA:=xgv (XA.out.below hbN);have bB:=bB.below hbN;have XB:=xgv (XB.out.below hbN);clear hbN;obtain⟨c1,c2,c3,c4,c5,c6⟩:=bS.three;obtain⟨d1,d2,d3,d4,d5,d6⟩:=bM.three;have p1:=bA.three;go_upto_region 6 with(fail)
 clear c1 c2 c3 c4 c5 c6 d1 d2 d3 d4 d5 d6 p1;obtain⟨c1,c2,c3,c4,c5,c6⟩:=bS.three;obtain⟨d1,d2,d3,d4,d5,d6⟩:=bB.three;go_wp2_with fail
 refine(zVS (e:=33) (f:=33) (a1:=true) _ _ w11 hC3 dE (BX.mx XS.out hC3 DS.out.bd) (XB.out.mono dE) (DS.out.mono dE).bd (DB.out.mono dE).bd dE dE ⟨fun _=>fun _ h=>zJx DA.out.lat h,fun _=>rfl⟩).mono ?_;rintro e w12 ⟨v,k,rfl,hq,hb1⟩;obtain⟨h,-⟩|⟨-,rfl,Pb,Pt,Po,Pn,Pk,rfl,hts,hqp⟩:=hq
 cases h;have QP:=xgv hqp;clear hqp;have hB:=nx hB hb1;have bY:=bY.below hb1;have bA:=bA.below hb1;have XA:=xgv (XA.out.below hb1);have bB:=bB.below hb1;have XB:=xgv (XB.out.below hb1);have bS:=bS.below hb1;have XS:=xgv (XS.out.below hb1);have bM:=bM.below hb1;have XM:=xgv (XM.out.below hb1);clear c1 c2 c3 c4 c5 c6 d1 d2 d3 d4 d5 d6;go_upto_region 7 with(fail)
 refine zD ?_;intro W13 hW13;obtain⟨hb1,bP,hsW13⟩:=qL hW13;have VP:=xgv (hts.below hb1);clear hW13 hts;have hB:=nx hB hb1;have bY:=bY.below hb1;have bA:=bA.below hb1;have XA:=xgv (XA.out.below hb1);have bB:=bB.below hb1;have XB:=xgv (XB.out.below hb1);have bS:=bS.below hb1;have XS:=xgv (XS.out.below hb1);have bM:=bM.below hb1;have XM:=xgv (XM.out.below hb1);obtain⟨c1,c2,c3,c4,c5,c6⟩:=bA.three;obtain⟨d1,d2,d3,d4,d5,d6⟩:=bM.three;go_wp2_with fail
 refine(zVS (e:=117) (f:=117) (a1:=true) _ _ W13 hC3 dE (XA.out.mono dE) (BX.mx XM.out hC3 DM.out.bd) (DA.out.mono dE).bd (DM.out.mono dE).bd dE dE ⟨fun _=>fun _ h=>h.1,fun _=>rfl⟩).mono ?_;rintro e w14 ⟨v,k,rfl,hq,hb1⟩;obtain⟨h,-⟩|⟨-,rfl,Qb,Qt,Qo,Qn,Qk,rfl,hts,hqp⟩:=hq
 cases h;have QQ:=xgv hqp;clear hqp;have hB:=nx hB hb1;have bY:=bY.below hb1;have bA:=bA.below hb1;have XA:=xgv (XA.out.below hb1);have bB:=bB.below hb1;have XB:=xgv (XB.out.below hb1);have bS:=bS.below hb1;have XS:=xgv (XS.out.below hb1);have bM:=bM.below hb1;have XM:=xgv (XM.out.below hb1);have bP:=bP.below hb1;have VP:=xgv (VP.out.below hb1);clear c1 c2 c3 c4 c5 c6 d1 d2 d3 d4 d5 d6;go_upto_region 8 with(fail)
 refine zD ?_;intro W15 hW15;obtain⟨hb1,bQ,hsW15⟩:=qL hW15;have VQ:=xgv (hts.below hb1);clear hW15 hts;have hB:=nx hB hb1;have bY:=bY.below hb1;have bA:=bA.below hb1;have XA:=xgv (XA.out.below hb1);have bB:=bB.below hb1;have XB:=xgv (XB.out.below hb1);have bS:=bS.below hb1;have XS:=xgv (XS.out.below hb1);have bM:=bM.below hb1;have XM:=xgv (XM.out.below hb1);have bP:=bP.below hb1;have VP:=xgv (VP.out.below hb1);obtain⟨hbe,hte⟩:=zXY QP.out QQ.out DA.out.lat DB.out.lat;have HSG:jZ (decide (Pb=Qb/\Pt=Qt)=true):=⟨by rw[hbe,hte];simp⟩;clear hbe hte;obtain⟨c1,c2,c3,c4⟩:=bP.two;obtain⟨d1,d2,d3,d4⟩:=bQ.two;go_wp2_with fail
 refine(zFj Pb Qb Po Qo Pn Pk Qn Qk Pt Qt W15 VP.out VQ.out HSG.out).mono ?_;rintro e w8 ⟨_,rfl,rfl,hb1⟩;have hB:=nx hB hb1;have bY:=bY.below hb1;have bA:=bA.below hb1;have XA:=xgv (XA.out.below hb1);have bB:=bB.below hb1;have XB:=xgv (XB.out.below hb1);have bS:=bS.below hb1;have XS:=xgv (XS.out.below hb1);have bM:=bM.below hb1;have XM:=xgv (XM.out.below hb1);have bP:=bP.below hb1;have VP:=xgv (VP.out.below hb1);have bQ:=bQ.below hb1;have VQ:=xgv (VQ.out.below hb1);clear c1 c2 c3 c4 d1 d2 d3 d4 HSG QQ VQ bQ bM XM;obtain⟨c1,c2,c3,c4,c5,c6⟩:=bA.three;go_wp2_with fail
 refine(zG3 C w8 oM).mono ?_;rintro e w9 ⟨u,ubs,rfl,⟨hul,UA,rfl,hu⟩,hbU⟩;obtain⟨uo,un,uc,rfl,-,-,-,-⟩:=id hu.rows;clear c1 c2 c3 c4 c5 c6;have hlts:=hu.lts;go_upto_region 11 with(fail)
 refine zD ?_;intro W5 hW5;obtain⟨hb5,bU,hs5⟩:=qL hW5;have hu5:=hu.below hb5;have hb85:=nx hbU hb5;have bA5:=bA.below hb85;have bY5:=bY.below hb85;have q9:=hbU.size;have q5:=hb5.size;clear hW5 hu;by_cases hC1:1<C;case' pos=>
  obtain⟨i,hi⟩:∃i:Nat,i=x%C:=⟨_,rfl⟩;obtain⟨j,hj⟩:∃j:Nat,j=(i+1+y%(C-1))%C:=⟨_,rfl⟩;have hiC:i<C:=by rw[hi];exact yH _ oM
  have hjC:j<C:=by rw[hj];exact yH _ oM
  have hne:i≠j:=by
   rcases(by omega:C=2∨C=3)with rfl|rfl
   omega;have:=yH y (show 0<3-1 by decide);omega
  have HNE:=xgv hne;have hlt:y%(C-1)<C-1:=yH _ oM;have hcc:(C:Int)-1=((C-1:Nat):Int):=oM;have e1:(x:Int).tmod (C:Int)=(i:Int):=by rw[hi];rfl
  have e2:(y:Int).tmod ((C:Int)-1)=((y%(C-1):Nat):Int):=by rw[hcc];rfl
  obtain⟨q,hq⟩:∃q,y%(C-1)=q:=⟨_,rfl⟩;rw[hq]at hj e2 hlt;have e3:((i:Int)+1+(q:Int)).tmod (C:Int)=(j:Int):=by rw[hj];rfl
  have k1:IntKind.i64.wrap (x:Int)=(x:Int):=qU _ oM;have k2:IntKind.i64.wrap (y:Int)=(y:Int):=qU _ oM;have k3:IntKind.i64.wrap ((C:Int)-1)=(C:Int)-1:=qU _ oM;have k4:IntKind.i64.wrap ((i:Int)+1)=(i:Int)+1:=qU _ oM;have k5:IntKind.i64.wrap ((i:Int)+1+(q:Int))=(i:Int)+1+(q:Int):=qU _ oM;have k6:¬ ((C:Int)-1=0):=oM;have k7:¬ ((C:Int)=0):=oM;have k8:C≠0:=oM;obtain⟨c1,c2,c3,c4,c5,c6⟩:=bA5.three;have y1:=bY5.two;have u1:=bU.three;clear hi hj hq hne hcc hlt;have hwk:IntKind.i64.wrap kk=kk:=qU kk oM;go_upto_region 13 with(fail)
  refine zBl [] ?_;refine sRd ?_;refine sRf ?_;intro w10 hb10;clear e1 e2 e3 k1 k2 k3 k4 k5 k6 k7 k8 c1 c2 c3 c4 c5 c6 y1 u1;have hu5:=hu5.below hb10;have bU:=bU.below hb10;have hb85:=nx hb85 hb10;have hb5:=nx hb5 hb10;have u1:=bU.three;go_upto_region 14 with(fail)
  have hul:ubs.length=C:=hul;obtain⟨g,bo,rfl,hg,hbo,hbo2,o1,ho3⟩:=hu5.at_ (i:=i) oM;clear hwk;have hwk:IntKind.i64.wrap kk=kk:=qU kk oM;refine yP 9 [pcI 8 kk] ?_;refine sRd ?_;refine sRc (fun wS hI Gk hG=>?_) (fun v8 hv8=>?_)
  ·go_simp
   exact ck hG (zCx kk _ oM oM)
  obtain⟨_,-,pn,pa,pl,pc,px,rfl,-⟩:=hv8;refine sRe ?_;intro w11 hb11 h8;have ho10:=hu5.below hb11;obtain⟨sn2,sa2,sl2,sc2,z1,z2,z3,z4,-⟩:=ho10.cellAt hbo hjC;have hset:=ho10.set hbo hjC h8;have hbolt:=hlts i bo hbo;clear u1 o1 hwk;go_upto_region 15 with(fail)
  refine zD ?_;intro W6 hW6;have hq:zPj (genM C C idf) i j kk=genM C C (shF i j kk):=by
   rw[zD8 _ hiC hjC];rfl
  rw[hq,<-hW6.out]at hset;have hbase:=hset.2.2;have hb6:BWq w8 W6:=by rw[hW6.out];exact yJ (yJ (nx hb85 hb11) hbase _ _) hbase _ _
  have bU:Blk W6 w9.heap.size 32 #[niq C,niq C,slq g un uc]:=by rw[hW6.out];exact(yO _ _ _ _ _ _ _ oM).trans (bU.below hb11)
  obtain⟨U,V,hU1,hU2,hU3,hU4⟩:∃U V:Nat->Nat->Int,leM 128 C C U/\(∀a,a<C->∀b,b<C->(zT C fun t=>U a t*V t b)=idf a b)/\(∀a,a<C->∀b,b<C->(zT C fun t=>V a t*U t b)=idf a b)/\zAC W6 (.agg #[niq C,niq C,slq g un uc]) C C (genM C C U):=
   ⟨shF i j kk,shF i j (-kk),zZe oM,zWZ kk hiC hjC HNE.out,zXf kk hiC hjC HNE.out,(show zWi W6 w8.heap.size _ C C ubs _ from⟨hul,_,rfl,hset.1⟩).mat.1⟩
  clear hset hW6 hq ho10 h8 z1 z2 z3 z4 hb10 hb11 hbo hbo2 ho3 hb5
 case' neg=>
  obtain⟨U,V,hU1,hU2,hU3,hU4⟩:∃U V:Nat->Nat->Int,leM 128 C C U/\(∀a,a<C->∀b,b<C->(zT C fun t=>U a t*V t b)=idf a b)/\(∀a,a<C->∀b,b<C->(zT C fun t=>V a t*U t b)=idf a b)/\zAC W5 (.agg #[niq C,niq C,.slice uo un uc]) C C (genM C C U):=
   ⟨idf,idf,(zYY C C).mono dE,zWH C,zWH C,(show zWi W5 w8.heap.size _ C C ubs _ from⟨hul,_,rfl,hu5⟩).mat.1⟩
  have hb6:=hb85;obtain⟨c1,c2,c3,c4,c5,c6⟩:=bA5.three;have hnC:¬ (1:Int)<(C:Int):=oM;go_upto_region 15 with(fail)
  clear c1 c2 c3 c4 c5 c6;obtain⟨W6,hE⟩:∃W6,W6=W5:=⟨_,rfl⟩;subst hE
 all_goals
  have HUM:=xgv hU4;clear bA5 bY5 hb85 hU4;have hB:=nx hB hb6;have bS:=bS.below hb6;have XS:=xgv (XS.out.below hb6);have bB:=bB.below hb6;have XB:=xgv (XB.out.below hb6);have bP:=bP.below hb6;have VP:=xgv (VP.out.below hb6);clear bA bY XA hb6;have HU1:=xgv hU1;have HU2:=xgv hU2;have HU3:=xgv hU3;clear hU1 hU2 hU3;obtain⟨c1,c2,c3,c4,c5,c6⟩:=bS.three;obtain⟨d1,d2,d3,d4,d5,d6⟩:=bB.three;have u1:=bU.three;have hL1:=zD7 C 42 (ImL C U (zFO C La Lb));have hL2:=zD7 C 13 (ImL C U Lb);have hL3:=zN7 (zL6 C (ImL C U (zFO C La Lb)) (ImL C U Lb));have hW1:=zMr W6.heap.size 2 C 42 (ImL C U (zFO C La Lb)) (t:=tGr) dE dE dE;have hW2:=zMr W6.heap.size 2 C 13 (ImL C U Lb) (t:=tGr) dE dE dE;have hW3:=zOC W6.heap.size 2 (zL6 C (ImL C U (zFO C La Lb)) (ImL C U Lb)) (t:=tGr) dE dE;refine zBl [pcD 2 [] (MX C 42 (ImL C U (zFO C La Lb))),pcD 5 [] (MX C 13 (ImL C U Lb)),pcD 6 [2,5] (zZI (zL6 C (ImL C U (zFO C La Lb)) (ImL C U Lb))),pbA 10 tGr 2,pbS 11 10 tGr 2] ?_;refine sRd ?_;refine sRc (fun wS hI Gk hG=>?_) (fun _ hv=>?_)
  ·go_simp
   exact ck hG (zYt (e:=33) _ _ _ hC3 dE (BX.mx (XS.out.below hI.bel) hC3 DS.out.bd) (HUM.out.below hI.bel) HU1.out)
  obtain⟨_,-,hv⟩:=hv;obtain⟨_,_,_,_,rfl⟩:=hv.agg;refine sRd ?_;refine sRc (fun wS hI Gk hG=>?_) (fun _ hv=>?_)
  ·go_simp
   exact ck hG (zYt (e:=4) _ _ _ hC3 dE (XB.out.below hI.bel) (HUM.out.below hI.bel) HU1.out)
  obtain⟨_,-,hv⟩:=hv;obtain⟨_,_,_,_,rfl⟩:=hv.agg;refine sRc (fun wS hI h2 h5 Gk hG=>?_) (fun _ hv=>?_)
  ·go_simp
   refine(zVS (e:=185) (f:=69) (a1:=true) _ _ wS hC3 dE (h2.mono dE) (h5.mono dE) (h2.gd hC3).bd (h5.gd hC3).bd dE dE ⟨fun _=>zXD fun _ h=>zJx DA.out.lat h,fun _=>rfl⟩).mono ?_;rintro e wa ⟨v,k,rfl,hq,hba⟩;obtain⟨h,-⟩|⟨-,rfl,hg⟩:=hq
   cases h;exact⟨_,rfl,hG _ _ ⟨_,rfl,hg⟩,hba⟩
  obtain⟨_,-,_,rfl,Rb,Rt,ro,rn,rk,rfl,-,-⟩:=hv;refine sRd ?_;refine sRa (cs:=#[niq 0,.slice none 0 0]) fun bR gR=>?_
  refine sRs bR (.agg #[niq Rb,.slice ro rn rk]) ?_;refine sRd ?_;refine sRb ?_;simp only[FA,FC,FN,ptr,List.nil_append,List.cons_append,Act.put,xgh,xgi,xgj];intro w12 hb1 _ _ h6 k11 _;have bRR:Blk w12 bR tGr #[niq Rb,.slice ro rn rk]:=k11 _ rfl;obtain⟨_,e6,Rb2,Rt,_,_,_,e7,hrt,hrq⟩:=h6;cases e6;cases e7;have VR:=xgv hrt;obtain⟨hbe,hte⟩:=zYu QP.out hrq HU2.out HU3.out;have HSG:jZ (decide (Pb=Rb/\Pt=Rt)=true):=⟨by rw[hbe,hte];simp⟩;clear k11 hrt hrq hbe hte hL1 hL2 hL3 hW1 hW2 hW3 c1 c2 c3 c4 c5 c6 d1 d2 d3 d4 d5 d6 u1;have hB:=nx hB hb1;have bS:=bS.below hb1;have XS:=xgv (XS.out.below hb1);have bB:=bB.below hb1;have XB:=xgv (XB.out.below hb1);have bP:=bP.below hb1;have VP:=xgv (VP.out.below hb1);obtain⟨c1,c2,c3,c4⟩:=bP.two;obtain⟨d1,d2,d3,d4⟩:=bRR.two;go_wp2_with fail
  refine(zFj Pb Rb Po ro Pn Pk rn rk Pt Rt w12 VP.out VR.out HSG.out).mono ?_;rintro e w13 ⟨_,rfl,rfl,hb1⟩;have hB:=nx hB hb1;go_wp2;go_ret;exact⟨rfl,hB⟩
end Go.Proofs.YtkidaebmhlijlaaGreat

namespace Go.Proofs.YtkidaebmhlijlaaGreat
open Go.ChangeShapes Go.WideShapes Go.ChangeAt Go.RowKit
theorem zFD(os:Os)(started:os.Started)(H:Type)(enc:TypeId × Value->H):
  ReturnsInHanded {} Tryz.checked os 11 .any (Rows.moduleIsomorphismSpec.pre6 enc Tryz.prog Tryz.f11 Rows.moduleIsomorphismRow.domain false) (Rows.moduleIsomorphismSpec.post enc Tryz.prog Tryz.f11 false true false false):=by
 refine returnsInHanded_of_change (C:=Tryz.checked) Tryz.own started kR Tryz.func11
  (ChangeSpec.witness6 (enc:=enc) (C:=Tryz.checked) false ⟨#[],#[.agg #[.int .u8 0,.int .u8 0,.slice none 0 0,.int .u8 0,.slice none 0 0,.int .u8 0,.slice none 0 0],.agg #[.int .u8 0,.int .u8 0],.int .i8 0],[]⟩ 8 kR kR kR kR) ?_
 intro W base args ds gs before hval0 hW hcnd _;have hval:∀(j:Nat) t v,Tryz.f11.params[j]?=some t->args[j]?=some v->Value.okWide Tryz.prog W .any base t v:=hval0;have hW':=hW;obtain⟨p,q,hA0,hV,rfl,hfz,hnd⟩:=hW;have hA:DataW.TrodAll enc Tryz.prog W 0 (fun _=>true) true Tryz.f11.params.toList args.toList ds p:=hA0;rw[Tryz.params11]at hA hval;obtain⟨v0,v1,v2,d0,d1,d2,p0,p1,p2,rfl,rfl,rfl,h0,h1,h2⟩:=trodAll_three hA;obtain⟨rfl,rfl⟩:=trodVars_none hV;clear hA0 hval0;simp only[List.append_nil]at hW';have hlt0:∀x∈p0,x.block<W.heap.size:=fun x hx=>hW'.lt x (by simp[hx])
 have hlt1:∀x∈p1,x.block<W.heap.size:=fun x hx=>hW'.lt x (by simp[hx])
 have hlt2:∀x∈p2,x.block<W.heap.size:=fun x hx=>hW'.lt x (by simp[hx])
 obtain⟨c,r1,r2,r3,u1,u2,u3,l1,l2,l3,rfl,hc,hr1,hr2,hr3,I1,I2,I3⟩:=zHN (hval 0 26 v0 rfl rfl) h0 hlt0;obtain⟨xi1,yi1,rfl,⟨hx1,hx1b⟩,hy1,hy1b⟩:=zS7 (hval 1 78 v1 rfl rfl) h1;obtain⟨x1,rfl⟩:=jQ hx1;obtain⟨y1,rfl⟩:=jQ hy1;obtain⟨n2,rfl,hn2,hm2⟩:=open_sbyte (hval 2 66 v2 rfl rfl) h2;refine(zF9 u1 u2 u3 c r1 r2 r3 l1 l2 l3 x1 y1 n2 W I1 I2 I3 oM oM hn2 hm2 hc hr1 hr2 hr3).mono fun e W' ⟨he,hB⟩=>?_
 subst he;refine⟨_,rfl,_,_,_,[],p0++(p1++p2),[],hW',?_,?_,rfl,hB.frame _,fun h=>by cases h⟩;exact trodAll_mk1 (shut_bool Tryz.underlying4 true);exact trodAll_mk3 (Below.trod zBt kR (of_decide_eq_true kR) h0 hB hlt0) (Below.trod zBt kR (of_decide_eq_true kR) h1 hB hlt1) (Below.trod zBt kR (of_decide_eq_true kR) h2 hB hlt2)
theorem zGn:(Rows.moduleIsomorphismRow.inPlace==Tryz.pinned.checked.prog.inPlace 11)=true:=by kernel_rfl
theorem zGo:(Rows.moduleIsomorphismRow.unfollowed==Tryz.pinned.checked.prog.unfollowed 11)=true:=by kernel_rfl
theorem zGp:(Rows.moduleIsomorphismRow.recurses==Tryz.pinned.checked.prog.recurses 11)=true:=by kernel_rfl
theorem zGq:(Rows.moduleIsomorphismRow.named==Tryz.pinned.checked.prog.varsNamed 11)=true:=by kernel_rfl
theorem zFC:joinedFacts Tryz.pinned.checked.prog 11 Tryz.f11 Rows.moduleIsomorphismSpec Rows.moduleIsomorphismRow=true:=by
 unfold joinedFacts;rw[zGn,zGo,zGp,zGq];kernel_rfl
theorem moduleIsomorphism_holds:Rows.ModuleIsomorphismSaid:=
 OpenClaim.holds_of_wide 11 Tryz.f11 rfl rfl rfl rfl rfl rfl rfl ⟨rfl,rfl,rfl,rfl,rfl⟩ rfl rfl rfl rfl rfl kR Tryz.func11 zFC
  (of_decide_eq_true kR) (by unfold Func.isWrapper;first|(rw[if_pos (by decide+kernel)];kernel_rfl)|(rw[if_neg (by decide+kernel)];exact⟨rfl,rfl⟩))
  (fun os started H enc _=>zFD os started H enc)
end Go.Proofs.YtkidaebmhlijlaaGreat
