/- Joined. -/
import Derived.Test.YtkidaebmhlijlaaGreatD23
set_option linter.unusedVariables false
set_option linter.unusedSimpArgs false
set_option linter.unusedSectionVars false
set_option maxHeartbeats 16000000
set_option maxRecDepth 100000
variable{z:Int}{C R k m n p r:Nat}{f:Nat->Int}{κ:Nat->Nat}{A B F G:Nat->Nat->Int}{w:Go.World}
namespace Go.Proofs.YtkidaebmhlijlaaGreat
open Go.RowKit
theorem zK3{B n Cs Ct r i:Nat}{ρ κ:Nat->Nat}{x:Bst}:∀(m j:Nat),j+m=r->(∀j',j<=j'->j'<r->0<=x.s (ρ i) (κ j')/\x.s (ρ i) (κ j')<x.s (ρ j') (κ j'))->zIK B n Cs Ct ρ κ i m j x=some x
 |0,_,_,_=>rfl
 |m+1,j,hj,h=>by
  have h1:=h j (xgf _) oM;have ih:=zK3 (B:=B) (n:=n) (Cs:=Cs) (Ct:=Ct) m (j+1) oM fun j' g1 g2=>h j' oM g2
  unfold zIK;by_cases h0:x.s (ρ i) (κ j)=0
  ·rw[if_pos h0,ih]
  rw[if_neg h0,if_neg oM,if_pos (Int.ediv_eq_zero_of_lt h1.1 h1.2),ih]
theorem zK2{B n Cs Ct r:Nat}{ρ κ:Nat->Nat}{x:Bst}(h:∀i j,i<j->j<r->0<=x.s (ρ i) (κ j)/\x.s (ρ i) (κ j)<x.s (ρ j) (κ j)):∀i,i<=r->zKK B n Cs Ct ρ κ r i x=some x
 |0,_=>rfl
 |i+1,hi=>by
  unfold zKK;rw[zK3 (r:=r) (r-(i+1)) (i+1) oM fun j' g1 g2=>h i j' oM g2,zAE];exact zK2 h i oM
def zJ9(κ:Nat->Nat)(m:Nat):List (Nat × Nat):=(List.range m).map fun k=>(k,κ k)
theorem zBo(κ:Nat->Nat)(m:Nat):(zJ9 κ m).length=m:=by simp[zJ9]
theorem zDl(h:k<m):(zJ9 κ m).getD k (0,0)=(k,κ k):=by simp[zJ9,xgb,h]
theorem zTH(κ:Nat->Nat)(m:Nat):zJ9 κ m++ [(m,κ m)]=zJ9 κ (m+1):=by simp[zJ9,List.range_succ]
section
variable {ex:Nat->Nat} {B r n Cs Ct M0 p:Nat} {x0:Bst} {κ:Nat->Nat}
theorem zTK(hp:p<=n)(hE:Ech Cs p κ x0.s)(hm:m<=p):LOk n Cs m x0 (zJ9 κ m):=by
 refine⟨fun k hk=>?_,fun i j hij hj=>?_,fun i j hij hj=>?_,?_⟩
 ·rw[zBo]at hk
  rw[zDl hk];have:=hE.pos k oM;exact⟨hk,oM,hE.lt k oM,by dsimp only;omega⟩
 ·rw[zBo]at hj
  rw[zDl hj,zDl oM];exact hE.inc i j hij oM
 ·rw[zBo]at hj
  rw[zDl hj,zDl oM];dsimp only;omega
 rw[zBo];omega
theorem zWS(hp:p<=n)(hE:Ech Cs p κ x0.s)(hR:zFr (fun _ _=>True) p κ x0.s)(hb:leB M0 n Cs Ct x0)(h0:ex p=0):JH ex r n Cs Ct M0 x0 p x0 (zJ9 κ p):=by
 have hrow:∀k,k<p->zBx (zJ9 κ p) k=k:=fun k hk=>by unfold zBx;rw[zDl hk]
 have hcol:∀k,k<p->zGQ (zJ9 κ p) k=κ k:=fun k hk=>by unfold zGQ;rw[zDl hk]
 refine⟨hp,⟨0,zE _,fun _ i hi=>oM,fun _=>rfl,⟨⟨[],jS.nil,rfl⟩,fun k hk=>?_,fun i j hij hj=>?_,by rw[zBo];exact xgf _,⟨fun k hk=>?_,fun k hk=>?_,fun k hk t ht=>?_,fun k l hkl hl=>?_⟩,fun a ha hna t ht=>?_,by rw[h0];exact hb⟩⟩,fun _ a b hab hb' _=>?_⟩
 ·rw[zBo]at hk
  rw[hrow k hk];exact hk
 ·rw[zBo]at hj
  rw[hrow j hj,hrow i oM];omega
 ·rw[zBo]at hk
  rw[hcol k hk];exact hE.lt k hk
 ·rw[zBo]at hk
  show 0<x0.s (zBx (zJ9 κ p) k) (zGQ (zJ9 κ p) k);rw[hrow k hk,hcol k hk];exact hE.pos k hk
 ·rw[zBo]at hk
  rw[hcol k hk]at ht;show x0.s (zBx (zJ9 κ p) k) t=0;rw[hrow k hk];exact hE.zero k hk t ht
 ·rw[zBo]at hl
  rw[hcol k oM,hcol l hl];exact hE.inc k l hkl hl
 exact absurd (hrow a ha) (hna a (by rw[zBo];exact ha));rw[zBo]at hb';show 0<=x0.s (zBx (zJ9 κ p) a) (zGQ (zJ9 κ p) b)/\x0.s (zBx (zJ9 κ p) a) (zGQ (zJ9 κ p) b)<x0.s (zBx (zJ9 κ p) b) (zGQ (zJ9 κ p) b);rw[hrow a oM,hrow b hb',hcol b hb'];exact hR a b hab hb' trivial
def PJ(ex:Nat->Nat)(r n Cs Ct M0 p:Nat)(κ:Nat->Nat)(x0:Bst)(m:Nat)(x:Bst)(L:List (Nat × Nat)):Prop:=(m<p/\x=x0/\L=zJ9 κ m)∨(p<=m/\JH ex r n Cs Ct M0 x0 m x L)
def PJ'(ex:Nat->Nat)(r n Cs Ct M0 p:Nat)(κ:Nat->Nat)(x0:Bst)(m:Nat)(x:Bst)(L:List (Nat × Nat)):Prop:=(m<p/\x=x0/\L=zJ9 κ (m+1))∨(p<=m/\JH' ex r n Cs Ct M0 x0 m x L)
theorem zTL(hp:p<=n)(hE:Ech Cs p κ x0.s)(hR:zFr (fun _ _=>True) p κ x0.s)(hb:leB M0 n Cs Ct x0)(h0:ex p=0):PJ ex r n Cs Ct M0 p κ x0 0 x0 []:=by
 rcases qN p with h|h
 ·subst h
  exact .inr ⟨xgf _,zWS hp hE hR hb h0⟩
 exact .inl ⟨h,rfl,rfl⟩
theorem zUk(hn:n<=6)(hM0:1<=M0)(hB:gk (ex n) M0<B)(hrk:RkB r n Cs x0)(hp:p<=n)(hE:Ech Cs p κ x0.s)(hR:zFr (fun _ _=>True) p κ x0.s)(hb:leB M0 n Cs Ct x0)(h0:ex p=0)
  (hex:∀m,p<=m->m<n->ex m+min m r+min m r*(min m r+1)/2<=ex (m+1)):zV6 B n Cs Ct (PJ ex r n Cs Ct M0 p κ x0) (PJ' ex r n Cs Ct M0 p κ x0):=by
 have h:=zSH (p:=p) (Ct:=Ct) hn hM0 hB hrk hex;have hok:okB B n Cs Ct x0:=hb.ok (zK (zKD _ hM0) hB);refine⟨fun m x L k=>?_,fun m x L hm k=>?_,fun m x L hm k hl=>?_,fun m x L k c hm g hl hk hc=>?_,fun m x L k c hm g hl hk hlo hhi=>?_,fun m x L hm g=>?_⟩
 ·rcases k with⟨h1,rfl,rfl⟩|k
  ·exact⟨hok,zTK hp hE oM⟩
  exact h.ok m x L k
 ·rcases k with⟨h1,rfl,rfl⟩|k
  ·exact⟨hok,zTK hp hE h1⟩
  exact h.ok' m x L hm k
 ·rcases k with⟨h1,rfl,rfl⟩|k
  ·rw[hE.lead h1]at hl
   omega
  exact .inr (h.zero m x L hm k hl)
 ·rcases g with⟨h1,rfl,rfl⟩|g
  ·rw[hE.lead h1]at hl
   rw[zBo]at hk;rw[zDl hk]at hc;have h2:κ k=c:=hc;have h3:=hE.inc k m hk h1;omega
  obtain⟨h1,h2,h3⟩:=h.join m x L k c hm g hl hk hc;exact⟨h1,h2,fun y hy=>⟨.inr (h3 y hy).1,(h3 y hy).2⟩⟩
 ·rcases g with⟨h1,rfl,rfl⟩|g
  ·rw[hE.lead h1]at hl
   obtain rfl:κ m=c:=oM;rw[zBo]at hk;obtain rfl:k=m:=by
    refine zB1 hk (zAD fun hlt=>?_);have h2:=hhi k (xgf _) (by rw[zBo];exact hlt);rw[zDl hlt]at h2;have h3:=hE.inc k m hlt h1;have h4:κ m<κ k:=h2;omega
   rw[if_neg (by have:=hE.pos k h1;omega)];refine .inl ⟨h1,rfl,?_⟩;rw[jK (by rw[zBo];exact xgf _),List.drop_of_length_le (by rw[zBo];exact xgf _)];exact zTH κ k
  exact .inr (h.ins m x L k c hm g hl hk hlo hhi)
 rcases g with⟨h1,rfl,rfl⟩|g
 ·refine⟨x,zK2 (fun i j hij hj=>?_) _ (xgf _),?_⟩
  ·rw[zBo]at hj
   rw[zDl hj,zDl oM];exact hR i j hij oM trivial
  rcases zG (m+1) p with h2|h2
  exact .inl ⟨h2,rfl,rfl⟩;obtain rfl:p=m+1:=oM;exact .inr ⟨xgf _,zWS hp hE hR hb h0⟩
 obtain⟨y,h1,h2⟩:=h.red m x L hm g;exact⟨y,h1,.inr ⟨by have:=g.1;omega,h2.2⟩⟩
end
def esp(r p m:Nat):Nat:=esr r m-esr r p
theorem zUl(h:p<=m):esp r p m+min m r+min m r*(min m r+1)/2<=esp r p (m+1):=by
 have h1:=zUm r h;show esr r m-esr r p+min m r+min m r*(min m r+1)/2<=esr r m+min m r+min m r*(min m r+1)/2-esr r p;omega
theorem zST{M0 q:Nat}(hM1:1<=M0)(v:Value)(M:List (List Int))(R C:Nat)(w:World)(h:zAC w v R C M)(hF:zBU R C M)(hR:R<=6)(hC:C<=1000000)(hp:p<=R)(hE:Ech C p κ (ent M))(hRd:zFr (fun _ _=>True) p κ (ent M))(hg:gk (esp q p R) M0<BD)(hA:leM M0 R C (ent M))(hrk:RkB q R C ⟨ent M,idf,idf⟩):
  CPq 102 #[v] w fun e w'=>∃v r c H U V,e= .returned v/\zE4 R C r c (ent M) H U V/\leM (gk (esp q p R) M0) R R U/\leM (gk (esp q p R) M0) R R V/\zNd w' v R C (genM R C H) (genM R R U) (genM R R V)/\BWq w w':=by
 have hB:=zKO;have hB0:leB M0 R C R ⟨ent M,idf,idf⟩:=⟨hA,zSX R M0 hM1,zSX R M0 hM1⟩;have h0:esp q p p=0:=jW _;have hE:=zUk (Cs:=C) (x0:=⟨ent M,idf,idf⟩) (Ct:=R) (ex:=esp q p) hR hM1 hg hrk hp hE hRd hB0 h0 fun m hm _=>zUl hm
 have hS:PJ (esp q p) q R C R M0 p κ ⟨ent M,idf,idf⟩ 0 ⟨ent M,idf,idf⟩ []:=zTL hp (by assumption) hRd hB0 h0;have hfin:∀y L,PJ (esp q p) q R C R M0 p κ ⟨ent M,idf,idf⟩ R y L->JH (esp q p) q R C R M0 ⟨ent M,idf,idf⟩ R y L:=fun y L hJ=>by
  rcases hJ with⟨h1,-⟩|⟨-,h1⟩
  omega;exact h1
 have hMB:M0<BD:=zK (zKD _ hM1) hg;refine(zSS hB v M R C w h hF oM hC (hA.ok hMB) (zGN (z:=1) dE).sm hE hS (fun y L hJ a ha hn=>?_)).mono ?_;rw[zGY ((JH.fin (hfin y L hJ)).1.zero a ha hn)];decide;rintro ee w' ⟨v,y,L,rfl,hJ,hl,hv,hb⟩;obtain⟨hJ,hr⟩:=JH.fin (hfin y L hJ);have hbd:=hJ.bd;have olt:∀a,a<R->zG1 R C y.s L a<R:=fun a ha=>by
  unfold zG1;rw[xgb,xga oM];exact zLv (hJ.lok (xgf _)) _ (zAd _)
 refine⟨v,_,_,_,_,_,rfl,zLX hJ hr hl,fun a ha b hb=>hbd.2.1 _ (olt a ha) b hb,fun a ha b hb=>hbd.2.2 _ (olt b hb) a ha,?_,hb⟩;rw[zI5 hl,zI5 hl]at hv;exact hv
def zf:Nat->Nat->Int:=fun _ _=>0
theorem zVD(R C:Nat)(w:World)(hR:R<=1000000)(hC:C<=1000000):CPq 108 #[niq R,niq C] w fun e w'=>∃v,e= .returned v/\zGs R C zf w.heap.size w'.heap.size w' v/\BWq w w':=
 (zI6 R C w hR hC).mono fun e w' hr=>by
  rw[zFK]at hr;exact hr.within
def nzL(l:List Int):List Int:=l.filter (fun z=>decide (z≠0))
theorem zJf(v:Value)(C:Nat)(M:List (List Int))(w:World)(h:zAC w v (0:Nat) C M)(hF:zBU 0 C M):
  CPq 72 #[v] w fun e w'=>∃v,e= .returned v/\zEH w' w.heap.size v []/\BWq w w':=by
 have H0:=xgv h;obtain⟨R,hR0⟩:∃R:Nat,R=0:=⟨0,rfl⟩;rw[<-hR0]at H0;obtain⟨A,rfl,h⟩:=h;obtain⟨ao,n,cap,rfl,e2,e3,e4,-⟩:=id h;have hdv:decide (zBS R C M)=true:=decide_eq_true (by rw[hR0];exact hF.valid);rw[<-hR0];clear e2 hF;go_enter Tryz.func72,Tryz.ntmps72;go_upto_region 1 with(fail)
 refine zD ?_;intro W0 hW0;obtain⟨hB0,bx1,hs0⟩:=qL hW0;have c1:=bx1.three;clear hW0;go_wp2_with fail
 refine(zDR _ R C M W0 (H0.out.below hB0)).mono ?_;rintro e w1 ⟨rfl,hb1⟩;rw[hdv];have bx1:=bx1.below hb1;have hB1:=nx hB0 hb1;have hs1:=hb1.size;clear c1 hdv;have c1:=bx1.three;subst hR0;go_wp2;go_ret;exact⟨_,rfl,zEH.nil _ _,hB1⟩
theorem zQC(h:n<=R)(h2:n<=C):zHY (genM R C F) n=qZ n (fun i=>F i i):=by
 unfold zHY qZ;refine zA1 fun k hk=>?_
 have hk':=yL.1 hk;exact yR oM oM
theorem zPR(l:List Int)(z:Int):nzL (l++ [z])=if z≠0 then nzL l++ [z]else nzL l:=by
 unfold nzL;by_cases h:z=0
 ·simp[h]
 simp[h]
theorem zKE{B:Nat}(hB:BSd B)(v:Value)(M:List (List Int))(R C:Nat)(w:World)(h:zAC w v R C M)(hF:zBU R C M)(hR0:0<R)(hR:R<=1000000)(hC:C<=1000000){f rr:Nat}{y:W5}(hok:okW B R C 0 0 ⟨ent M,zf,zf,zf,zf⟩)
  (hrun:zIO B R C 0 0 f rr ⟨ent M,zf,zf,zf,zf⟩=some y) (hdiv:∀y',zNc (min R C) y y'->∀i j,i<j->j<min R C->¬ y'.s i i∣y'.s j j->zRb B C 0 0 y' i j) (hel:∀y',zNc (min R C) y y'->∀i,i<min R C->(y'.s i i).natAbs<B):
  CPq 72 #[v] w fun e w'=>∃v,e= .returned v/\zEH w' w.heap.size v (nzL (qZ (min R C) (fun i=>divI (min R C) 0 y.s i i)))/\BWq w w':=by
 have hBm:=hB.bsm;have S1:jZ (Sm 1):=⟨(zGN (z:=1) dE).sm⟩;have H0:=xgv h;obtain⟨A,rfl,h⟩:=h;obtain⟨ao,n,cap,rfl,e2,e3,e4,-⟩:=id h;obtain rfl:R=n:=by rw[<-e2,hF.1]
 have hdv:decide (zBS R C M)=true:=decide_eq_true hF.valid;have HF:=xgv hF;have HOK:=xgv hok;have HRUN:=xgv hrun;have HDIV:=xgv hdiv;have HEL:=xgv hel;obtain⟨LL,hLL⟩:∃LL:List Int,qZ (min R C) (fun i=>divI (min R C) 0 y.s i i)=LL:=⟨_,rfl⟩;rw[hLL];have HLL:=xgv hLL;clear hok hrun hdiv hel hF e2 hLL;go_enter Tryz.func72,Tryz.ntmps72;go_upto_region 1 with(fail)
 refine zD ?_;intro W0 hW0;obtain⟨hB0,bx1,hs0⟩:=qL hW0;obtain⟨c1,c2,c3,c4,c5,c6⟩:=bx1.three;clear hW0;go_wp2_with fail
 refine(zDR _ R C M W0 (H0.out.below hB0)).mono ?_;rintro e w1 ⟨rfl,hb1⟩;rw[hdv];have bx1:=bx1.below hb1;have hB1:=nx hB0 hb1;have hs1:=hb1.size;clear c1 c2 c3 c4 c5 c6 hdv;obtain⟨c1,c2,c3,c4,c5,c6⟩:=bx1.three;have hl1:=zN6 w1.heap.size R C 0 0 ⟨ent M,zf,zf,zf,zf⟩;have hl2:=zKG w1.heap.size;have hRne:¬ (R:Int)=0:=oM;go_upto_region 3 with(fail)
 refine zEG 18 rfl (RG w1 _ [⟨0,15,fun _ v=>v= .agg #[niq R,niq C,.slice ao R cap]⟩,⟨1,16,fun w v=>jY w v (1)⟩,⟨3,18,fun _ v=>v=ptq w.heap.size 0⟩,⟨4,19,fun _ v=>v=niq R⟩,⟨6,21,fun _ v=>v=ptq w.heap.size 0⟩,⟨7,22,fun _ v=>v=niq R⟩,⟨9,24,fun _ v=>v=ptq w.heap.size 1⟩,⟨10,25,fun _ v=>v=niq C⟩,⟨12,27,fun _ v=>v=ptq w.heap.size 1⟩,⟨13,28,fun _ v=>v=niq C⟩,⟨15,30,zME w1.heap.size R C 0 0 ⟨ent M,zf,zf,zf,zf⟩⟩,⟨16,31,zME w1.heap.size R C 0 0 ⟨ent M,zf,zf,zf,zf⟩⟩,⟨17,3,zNi w1.heap.size⟩] [⟨2,17,R,C,ent M⟩,⟨5,20,R,0,zf⟩,⟨8,23,R,0,zf⟩,⟨11,26,C,0,zf⟩,⟨14,29,C,0,zf⟩]) kR RG.start ?fin1 ?steps1
 case steps1=>
  (repeat' constructor)<;>(intro L T wS hL hd hcl hI K hK;try refine qB rfl ?_)
  ·have zt:T[1]?=some (ptq w.heap.size 0):=hI.keep 1 sI sI
   have cc0:=hI.cell c1;have cc1:=hI.cell c2;have cc2:=hI.cell c3;go_simp;exact hK _ _ (hI.y mm0 rfl)
  ·go_simp
   refine(zGz 1 _ oM oM).mono ?_;rintro e wa ⟨v,rfl,hv,hba⟩;exact hK _ _ ((hI.world hba).y mm1 hv)
  ·obtain⟨_,zt0,rfl⟩:=hI.v mm0 (hd 0)
   obtain⟨v1,zt1,h1⟩:=hI.v mm1 (hd 1);go_simp;refine(zXQ hBm _ _ M R C _ ((H0.out.below hB1).below hI.bel) HF.out h1 hR hC HOK.out.1 S1.out).mono ?_;rintro e wa ⟨v,rfl,hv,hba⟩;exact hK _ _ (hI.mat hcl hL ⟨2,17,_,_,_⟩ mm0 rfl hba hv kR)
  ·have zt:T[1]?=some (ptq w.heap.size 0):=hI.keep 1 sI sI
   go_simp;exact hK _ _ (hI.y mm2 rfl)
  ·obtain⟨_,zt3,rfl⟩:=hI.v mm2 (hd 3)
   have cc0:=hI.cell c1;go_simp;exact hK _ _ (hI.y mm3 rfl)
  ·obtain⟨_,zt4,rfl⟩:=hI.v mm3 (hd 4)
   go_simp;refine(zVD R 0 _ hR (zE _)).mono ?_;rintro e wa ⟨v,rfl,hv,hba⟩;exact hK _ _ (hI.mat hcl hL ⟨5,20,_,_,_⟩ mm1 rfl hba hv kR)
  ·have zt:T[1]?=some (ptq w.heap.size 0):=hI.keep 1 sI sI
   go_simp;exact hK _ _ (hI.y mm4 rfl)
  ·obtain⟨_,zt6,rfl⟩:=hI.v mm4 (hd 6)
   have cc0:=hI.cell c1;go_simp;exact hK _ _ (hI.y mm5 rfl)
  ·obtain⟨_,zt7,rfl⟩:=hI.v mm5 (hd 7)
   go_simp;refine(zVD R 0 _ hR (zE _)).mono ?_;rintro e wa ⟨v,rfl,hv,hba⟩;exact hK _ _ (hI.mat hcl hL ⟨8,23,_,_,_⟩ mm2 rfl hba hv kR)
  ·have zt:T[1]?=some (ptq w.heap.size 0):=hI.keep 1 sI sI
   go_simp;exact hK _ _ (hI.y mm6 rfl)
  ·obtain⟨_,zt9,rfl⟩:=hI.v mm6 (hd 9)
   have cc0:=hI.cell c2;go_simp;exact hK _ _ (hI.y mm7 rfl)
  ·obtain⟨_,zt10,rfl⟩:=hI.v mm7 (hd 10)
   go_simp;refine(zVD C 0 _ hC (zE _)).mono ?_;rintro e wa ⟨v,rfl,hv,hba⟩;exact hK _ _ (hI.mat hcl hL ⟨11,26,_,_,_⟩ mm3 rfl hba hv kR)
  ·have zt:T[1]?=some (ptq w.heap.size 0):=hI.keep 1 sI sI
   go_simp;exact hK _ _ (hI.y mm8 rfl)
  ·obtain⟨_,zt12,rfl⟩:=hI.v mm8 (hd 12)
   have cc0:=hI.cell c2;go_simp;exact hK _ _ (hI.y mm9 rfl)
  ·obtain⟨_,zt13,rfl⟩:=hI.v mm9 (hd 13)
   go_simp;refine(zVD C 0 _ hC (zE _)).mono ?_;rintro e wa ⟨v,rfl,hv,hba⟩;exact hK _ _ (hI.mat hcl hL ⟨14,29,_,_,_⟩ mm4 rfl hba hv kR)
  ·obtain⟨so,sc,uo,uc,vo,vc,wo,wc,xo,xc,t1,t2,t3,t4,t5,hfive⟩:=hI.five oM oM oM oM (hd 2) (hd 5) (hd 8) (hd 11) (hd 14)
   go_simp;exact hK _ _ (hI.y zLl hfive)
  ·obtain⟨v15,zt15,h15⟩:=hI.v zLl (hd 15)
   have h15':zME w1.heap.size R C 0 0 ⟨ent M,zf,zf,zf,zf⟩ wS v15:=h15;obtain⟨so,sc,uo,uc,vo,vc,wo,wc,xo,xc,bS,bU,bV,bW,bX,rfl,-⟩:=h15'.ex;go_simp;exact hK _ _ (hI.y zKu h15)
  go_simp;exact hK _ _ ((hI.world ((zA _ _).alloc (xgf _) _)).y zL8 ⟨_,rfl,qX _ _ _,hI.bel.size⟩)
 intro T w2 hI;obtain⟨va0,q0,rfl⟩:=hI.v mm0 rfl;obtain⟨va1,q1,ha1⟩:=hI.v mm1 rfl;replace ha1:jY w2 va1 (1):=ha1;obtain⟨va3,q3,rfl⟩:=hI.v mm2 rfl;obtain⟨va4,q4,rfl⟩:=hI.v mm3 rfl;obtain⟨va6,q6,rfl⟩:=hI.v mm4 rfl;obtain⟨va7,q7,rfl⟩:=hI.v mm5 rfl;obtain⟨va9,q9,rfl⟩:=hI.v mm6 rfl;obtain⟨va10,q10,rfl⟩:=hI.v mm7 rfl;obtain⟨va12,q12,rfl⟩:=hI.v mm8 rfl;obtain⟨va13,q13,rfl⟩:=hI.v mm9 rfl;obtain⟨va15,q15,ha15⟩:=hI.v zLl rfl;obtain⟨va16,q16,ha16⟩:=hI.v zKu rfl;obtain⟨va17,q17,ha17⟩:=hI.v zL8 rfl;obtain⟨va2,q2,moa2,mca2,mea2⟩:=hI.matv _ mm0 rfl;obtain⟨va5,q5,moa5,mca5,mea5⟩:=hI.matv _ mm1 rfl;obtain⟨va8,q8,moa8,mca8,mea8⟩:=hI.matv _ mm2 rfl;obtain⟨va11,q11,moa11,mca11,mea11⟩:=hI.matv _ mm3 rfl;obtain⟨va14,q14,moa14,mca14,mea14⟩:=hI.matv _ mm4 rfl;have hT:=zGh [(15,.agg #[niq R,niq C,.slice ao R cap]),(16,va1),(18,ptq w.heap.size 0),(19,niq R),(21,ptq w.heap.size 0),(22,niq R),(24,ptq w.heap.size 1),(25,niq C),(27,ptq w.heap.size 1),(28,niq C),(30,va15),(31,va16),(3,va17),(17,va2),(20,va5),(23,va8),(26,va11),(29,va14)]
  (fun j hj=>hI.keep j (by simp only[xgm]at hj ⊢;simp[hj]) (by simp only[xgm]at hj ⊢;simp[hj]))
  (by simp only[xgm];simp[q0,q1,q3,q4,q6,q7,q9,q10,q12,q13,q15,q16,q17,q2,q5,q8,q11,q14]) hI.size
 have hbw2:=hI.bel;clear hI;simp only[List.foldl_cons,List.foldl_nil,xgh,xgi,xgj,ptr]at hT;subst hT;clear q0 q1 q3 q4 q6 q7 q9 q10 q12 q13 q15 q16 q17 q2 q5 q8 q11 q14;simp only[xgl,xgk];have ha16':zME w1.heap.size R C 0 0 ⟨ent M,zf,zf,zf,zf⟩ w2 va16:=ha16;obtain⟨g,rfl,gb,hgg⟩:zNi w1.heap.size w2 va17:=ha17;obtain⟨so,sc,uo,uc,vo,vc,wo,wc,xo,xc,-,-,-,-,-,rfl,-⟩:=ha16'.ex;have H5:=xgv ha16';obtain⟨⟨q0,q1,q2,q3,q4,q5,q6,q7,q8,q9,q10,q11,q12,q13,q14⟩,⟨f0,f1,f2,f3,f4,f5,f6,f7,f8,f9,f10,f11,f12,f13,f14⟩⟩:=gb.all15;have hB2:=nx hB1 hbw2;have bx1:=bx1.below hbw2;have lg:=gb.lt;clear c1 c2 c3 c4 c5 c6 ha1 ha15 ha16 ha16';clear mea2 mea5 mea8 mea11 mea14;go_upto_region 4 with(fail)
 refine zD ?_;intro W3 hW3;have hgW:Blk W3 g tW #[niq R,niq C,.slice so R sc,niq R,niq (0:Nat),.slice uo R uc,niq R,niq (0:Nat),.slice vo R vc,niq C,niq (0:Nat),.slice wo C wc,niq C,niq (0:Nat),.slice xo C xc]:=by rw[hW3.out];exact gb.put15 _ _ _ _ _ _ _ _ _ _ _ _ _ _ _
 have hold:∀b,b≠g->W3.heap[b]?=w2.heap[b]?:=fun b hb=>by rw[hW3.out];exact zTm _ _ _ _ _ _ _ _ _ _ _ _ _ _ _ _ _ _ hb
 have hx3:zBw w2 W3:=by rw[hW3.out];exact gb.lext15 dE _ _ _ _ _ _ _ _ _ _ _ _ _ _ _
 have hbl3:Below 0 w2 W3:=by rw[hW3.out];exact zRr (zA _ _) (zE _) _ _ _ _ _ _ _ _ _ _ _ _ _ _ _
 have hB3:BWq w W3:=by rw[hW3.out];exact zRr hB2 (by have:=hB0.size;omega) _ _ _ _ _ _ _ _ _ _ _ _ _ _ _
 have hO3:qJ (fun b=>b=g) w2 W3:=⟨hbl3,hx3,fun b _ hb=>hold b hb⟩;obtain⟨bS,bU,bV,bW,bX,hwork⟩:=H5.out.work gb hgg hgW hO3;have hsz3:=hbl3.size;have hsz2:=hbw2.size;have HWK:=xgv hwork;clear q0 q1 q2 q3 q4 q5 q6 q7 q8 q9 q10 q11 q12 q13 q14 f0 f1 f2 f3 f4 f5 f6 f7 f8 f9 f10 f11 f12 f13 f14 hW3 hold hx3 hbl3 hO3 hwork gb hgW H5;go_wp2_with fail
 refine(zV4 hB HWK.out oM HOK.out hR hC (zE _) (zE _) HRUN.out HDIV.out HEL.out).mono ?_;rintro e w4 ⟨⟨uu,rfl⟩,hO4,AS',bS',bU',bV',bW',bX',y',hdr,hys,hw4⟩;obtain⟨so',sc',rfl⟩:=hw4.mS.shape;have hB4:BWq w w4:=zE5 hB3 hO4 (by have:=hB1.size;omega) hB3.size;have HW:=xgv hw4;have hLe:zHY (genM R C y'.s) (min R C)=LL:=by rw[zQC oM oM,hys];exact HLL.out
 have HLE:=xgv hLe;obtain⟨k0,k1,k2,-,-,-,-,-,-,-⟩:=hw4.blk.fifteen;clear hdr hys hw4 HWK hLe;go_wp2_with fail
 refine(zIb _ R C (genM R C y'.s) w4 HW.out.mS.mat (yW _ _ _) hR hC).mono ?_;rintro e w5 ⟨u5,rfl,hvo,hb5⟩;rw[HLE.out]at hvo;have hlen:LL.length<=1000000:=by rw[<-HLE.out,zF0];omega
 obtain⟨eo,ec,rfl,hec1,hec2⟩:=hvo.len;have hB5:=nx hB4 hb5;have HV5:=xgv hvo.vec;clear k0 k1 k2 hvo;go_wp2;go_loopw [4,38] (fun u iv wr=>∃k:Nat,k<=LL.length/\iv=niq k/\zEH wr w5.heap.size u (nzL (LL.take k))/\BWq w wr/\BWq w5 wr) (fun _ iv _=>LL.length-(intOf iv).toNat)
 case atStart=>exact⟨0,oM,rfl,by rw[jI];exact zEH.nil _ _,hB5,zA _ _⟩
 obtain⟨k,hk,rfl,ho,hb,hb'⟩:=hrel;by_cases hlt:k<LL.length
 ·obtain⟨b1,z,s,a,l,c,rfl,hbl1,hz,p1,p2,hzv⟩:=(HV5.out.below hb').cell (k:=k) hlt
  have hd:jZ (nzL (LL.take (k+1))=if z≠0 then nzL (LL.take k)++ [z]else nzL (LL.take k)):=⟨by rw[jD,hz];exact zPR _ _⟩;clear hz;go_upto_region 9 with(fail)
  refine zD ?_;intro W6 hW6;obtain⟨hB6,T7,hs6⟩:=qL hW6;have d1:=T7.two;have hzv:=hzv.ext (lx hB6);have ho:=ho.below hB6;have hb:=nx hb hB6;have hb':=nx hb' hB6;clear p1 p2 hW6;go_wp2_with fail
  refine(zAi _ z W6 hzv.weak).mono ?_;rintro e w7 ⟨rfl,hb7⟩;have hzv:=hzv.ext (lx hb7);have ho:=ho.below hb7;have hb:=nx hb hb7;have hb':=nx hb' hb7;have T7:=T7.below hb7;clear d1;by_cases hz0:z=0
  ·rw[zBd hz0]
   have hq:jZ (nzL (LL.take (k+1))=nzL (LL.take k)):=⟨by rw[hd.out,if_neg (by simpa using hz0)]⟩;clear hz0;go_wp2;go_roundw
   case rel=>exact⟨k+1,oM,by simp,by rw[hq.out];exact ho,hb,hb'⟩
   case measure=>exact meq
  have hc:=zCr hz0;obtain⟨k0,hk0⟩:∃k0,zAt z 0=k0:=⟨_,rfl⟩;rw[hk0]at hc ⊢
  have hq:jZ (nzL (LL.take (k+1))=nzL (LL.take k)++ [z]):=⟨by rw[hd.out,if_pos hz0]⟩;clear hk0 hz0;have d1:=T7.two;have hsz5b:=hb'.size;have hnl:(nzL (LL.take k)).length<=k:=zB (zCH _ _) (by rw[qF];omega);have hszb:=hb.size;go_wp2_with (at_builtin;refine zZB rfl _ _ rfl w5.heap.size u4 (nzL (LL.take k)) rfl (ho.below ((zA _ _).alloc (xgf _) _)) w7.heap.size 1 s a l c z rfl (qX _ _ _) (hzv.ext (lx ((zA _ _).alloc (xgf _) _))) oM (by simp;omega) ?_;intro v' w' hown hgr hxg)
  have hsz50:=hB5.size;have hgr:World.grownBy (w7.alloc (.cells #[.bool s,.slice a l c] tI)) w' (Value.ownBlock u4):=hgr;have hB9:BWq w w':=(hb.alloc hb.size _).grown hgr (by simp;omega) (fun g hg=>by have:=ho.own g hg;omega);have hB9':BWq w5 w':=(hb'.alloc hb'.size _).grown hgr (by simp;omega) (fun g hg=>ho.own g hg);go_roundw
  case rel=>exact⟨k+1,oM,by simp,by rw[hq.out];exact hown,hB9,hB9'⟩
  case measure=>exact meq
 obtain rfl:k=LL.length:=oM;rw[jA]at ho;go_wp2;go_ret;exact⟨_,rfl,ho.mono hB5.size,hb⟩


instance (B R C Cu Cw:Nat) (z:W5):Decidable (okW B R C Cu Cw z):=by unfold okW;infer_instance
def zU9(B:Nat)(M:List (List Int)):Bool:=M.all fun r=>r.all fun z=>decide (z.natAbs<B)
def zZr(B:Nat)(X Y:List (List Int))(R m C:Nat):Prop:=∀i,i<R->∀j,j<C->∀k,k<m->(ent X i k).natAbs<B/\(ent Y k j).natAbs<B/\(ent X i k*ent Y k j).natAbs<B/\(zFL X Y k i j).natAbs<B
instance (B:Nat) (X Y:List (List Int)) (R m C:Nat):Decidable (zZr B X Y R m C):=by unfold zZr;infer_instance
theorem zX3:BB^3*16<=B32^zUN:=by
 have e:(B32:Nat)=2^32:=by decide
 have h1:BB^3*16=2^(EB*3+4):=by unfold BB;rw[<-jO,yD]
 rw[h1,e,<-jO];exact zDM oM (by rw[zX8,zEV];omega)
theorem zX2:1<=BB:=qR oM
theorem zWd(h:z.natAbs<BB^3*16):Smd z:=⟨zJ h zX3⟩
theorem zX1(hk:k<=3)(hn:n<=16):BB^k*n<=BB^3*16:=qO (zDM zX2 hk) hn
theorem zX4(h:z.natAbs<BB):Smd z:=zWd (zJ h (by have:=zX1 (k:=1) (n:=1) oM oM;simpa using this))
theorem zX0:BSd BB:=⟨fun z h=>zX4 h⟩
theorem Inv.small{h:Nat}(hI:Inv R C r A F)(hR:R<=4)(h1:1<=h)(hA:leM h R C A):(jB r (fun i=>F i i)).natAbs<=24*h^4:=by
 have hr:r<=min R C:=hI.dg.le;have hp:0<jB r (fun i=>F i i):=zAI fun i hi=>hI.dg.pos i hi
 have hm:=hI.minors hr;have hne:∃σ τ:Nat->Nat,(∀a,a<r->σ a<R)/\(∀a,a<r->τ a<C)/\det r (fun a b=>A (σ a) (τ b))≠0:=by
  refine zL fun hn=>?_
  have:zUO R C r A 0:=fun σ τ hσ hτ=>by
   have:det r (fun a b=>A (σ a) (τ b))=0:=zL fun h0=>hn ⟨σ,τ,hσ,hτ,h0⟩
   rw[this];exact zAM 0
  have:=Int.zero_dvd.1 (hI.gen hr this);omega
 obtain⟨σ,τ,hσ,hτ,h0⟩:=hne;refine zB (zDE oM (Int.natAbs_dvd_natAbs.2 (hm σ τ hσ hτ))) ?_;exact zO9 (F:=fun a b=>A (σ a) (τ b)) oM h1 fun a ha b hb=>hA _ (hσ a ha) _ (hτ b hb)
theorem zQI(hp:∀i,i<n->f i≠0):nzL (qZ n f)=qZ n f:=by
 unfold nzL qZ;rw[List.filter_eq_self];intro z hz;obtain⟨i,hi,rfl⟩:=List.mem_map.1 hz;exact decide_eq_true (hp i (yL.1 hi))
theorem zQJ(hr:r<=n)(hp:∀i,i<r->f i≠0)(hz:∀i,r<=i->i<n->f i=0):nzL (qZ n f)=qZ r f:=by
 induction n with
 |zero=>
  obtain rfl:r=0:=oM;rfl
 | succ n ih=>
  have e:qZ (n+1) f=qZ n f++ [f n]:=by unfold qZ;rw[zCi,zBe];rfl
  rw[e,zPR];by_cases h:r=n+1
  ·subst h
   rw[if_pos (hp n oM),zQI (fun i hi=>hp i oM),e]
  rw[if_neg (by rw[hz n oM oM];simp),ih oM fun i h1 h2=>hz i h1 oM]
theorem Inv.empty(C:Nat)(A:Nat->Nat->Int):Inv 0 C 0 A A:=
 ⟨⟨fun a ha=>oM,fun i hi=>oM,fun i _ hi=>oM,oM⟩,fun a b _ h1 h2=>oM,⟨idf,idf,fun a ha=>oM⟩,⟨idf,idf,fun a ha=>oM⟩⟩
theorem zPL(v:Value)(M:List (List Int))(R C:Nat)(w:World)(h:zAC w v R C M)(hF:zBU R C M)(hR:R<=4)(hC:C<=4)(hA:leM SW R C (ent M)):
  CPq 72 #[v] w fun e w'=>∃v F r,e= .returned v/\Inv R C r (ent M) F/\zEH w' w.heap.size v (qZ r fun i=>F i i)/\BWq w w':=by
 rcases qN R with h0|h0
 ·subst h0
  refine(zJf v C M w h hF).mono ?_;rintro e w' ⟨v,rfl,h1,h2⟩;exact⟨v,ent M,0,rfl,Inv.empty C _,h1,h2⟩
 have z0:∀n,leM 1 n 0 zf:=fun n a _ b hb=>oM
 obtain⟨f,rr,L,r,h1,h2,h3,h4,h5⟩:=zTv (z:=⟨ent M,zf,zf,zf,zf⟩) (Cu:=0) (Cw:=0) hR hC hA (z0 R) (z0 R) (z0 C) (z0 C);have hr:=Rel.rnds h2 (Rel.start R C (ent M));have hs:(rnds L ⟨ent M,idf,idf,idf,idf⟩).s=(rnds L ⟨ent M,zf,zf,zf,zf⟩).s:=zWW L rfl;have hRS:zP3 R C r (ent M) (rnds L ⟨ent M,zf,zf,zf,zf⟩).s:=by
  rw[<-hs]at h4 ⊢
  exact⟨h4,(rnds L ⟨ent M,idf,idf,idf,idf⟩).u,(rnds L ⟨ent M,idf,idf,idf,idf⟩).v,(rnds L ⟨ent M,idf,idf,idf,idf⟩).w,(rnds L ⟨ent M,idf,idf,idf,idf⟩).x,hr⟩
 have hRS2:=zP3.divI (min R C) 0 _ oM hRS;have hI:=Inv.of_relS hRS2 (zQE (n:=min R C) (min R C) 0 _ oM);refine(zKE zX0 v M R C w h hF h0 oM oM h3 h1 (fun y' hy i j h6 h7 h8=>(h5 y' hy).2 i j h6 h7 h8) (fun y' hy i hi=>(h5 y' hy).1.1 i oM i oM)).mono ?_;rintro e w' ⟨v,rfl,k1,k2⟩;rw[zQJ hI.dg.le (fun i hi=>by have:=hI.dg.pos i hi;omega) (fun i a b=>hI.dg.zero i a b)]at k1;exact⟨v,_,r,rfl,hI,k1,k2⟩
theorem zYY(n m:Nat):leM 1 n m idf:=fun a _ b _=>by unfold idf;split<;>omega
theorem nxa{W W':World}{o:Obj}(h:BWq w W)(hb:Below (W.alloc o).heap.size (W.alloc o) W'):BWq w W':=nx (h.alloc h.size o) hb
def zPK(ls:List Int):Array Value:=(ls.map (Value.int .i64)).toArray
theorem zHT.new(W:World)(ls:List Int)(hb:(ls.all fun z=>decide (-9223372036854775808<=z/\z<=9223372036854775807))=true)(hl:ls.length<=1000):
  zHT (W.alloc (.cells (zPK ls) 2)) (slq W.heap.size ls.length ls.length) ls:=by
 refine⟨_,_,_,rfl,rfl,xgf _,oM,fun z hz=>of_decide_eq_true (jP.1 hb z hz),fun _=>⟨W.heap.size,_,rfl,heap_alloc_new W _,fun k z hk=>?_⟩⟩;simp[zPK,hk]
theorem zE8(ls:List Int):zAK (fun w v=>zHT w v ls):=fun _ _ _ x h=>h.below x
theorem zIs(v:Value)(ls:List Int)(R C:Nat)(r c:Int)(M:List (List Int))(w:World)(h:zHT w v ls)(hr:r=R)(hc:c=C)(hl:ls.length=R*C)(hR:R<=1000)(hC:C<=1000)(hM:genM R C (fun i j=>ls.getD (i*C+j) 0)=M):
  CPq 51 #[niq r,niq c,v] w fun e w'=>∃v,e= .returned v/\zAC w' v R C M/\BWq w w':=by
 subst hr;subst hc;subst hM;exact(zU2 v R C ls w h hl hR hC).mono fun e w' ⟨v,bs,he,hm,hb⟩=>⟨v,he,hm.mat.1,hb⟩
theorem qAV(R C:Nat)(r c:Int)(w:World)(hr:r=R)(hc:c=C)(hR:R<=1000000)(hC:C<=1000000):
  CPq 52 #[niq r,niq c] w fun e w'=>∃v,e= .returned v/\zAC w' v R C (zDU R C)/\BWq w w':=by
 subst hr;subst hc;exact(zGF R C w hR hC).mono fun e w' ⟨v,bs,he,hm,hb⟩=>⟨v,he,hm.mat.1,hb⟩
theorem zAC.agg{v:Value}{R C:Int}{M:List (List Int)}(h:zAC w v R C M):∃o n k,v= .agg #[niq R,niq C,.slice o n k]:=by
 obtain⟨A,rfl,ao,n,cap,rfl,-⟩:=h;exact⟨_,_,_,rfl⟩
theorem zXe(v1 v2:Value)(R C:Int)(M:List (List Int))(w:World)(h1:zAC w v1 R C M)(h2:zAC w v2 R C M):
  CPq 24 #[v1,v2] w fun e w'=>∃v,e= .returned v/\v= .bool true/\BWq w w':=
 (zPi v1 v2 R C R C M M w h1 h2).mono fun e w' ⟨h,hb⟩=>⟨_,h,by rw[decide_eq_true ⟨rfl,rfl,rfl⟩],hb⟩
theorem zFI(f:Nat->Int)(n:Nat):zTz f n=zT n f:=by
 induction n with
 |zero=>rfl
 |succ n ih=>unfold zTz zT;rw[ih]
structure Chk(R C:Nat)(A S U V W X:List (List Int)):Prop where
 fs:zBU R C S
 fu:zBU R R U
 fv:zBU R R V
 fw:zBU C C W
 fx:zBU C C X
 is:qAG R C S=true
 i1:genM R R (zFL U V R)=genM R R idf
 i2:genM C C (zFL W X C)=genM C C idf
 ss:∀r∈S,∀z∈r,Smd z
 m1:zFp U V R R R
 m2:zFp W X C C C
 m3:zFp U A R R C
 m4:zFp (genM R C (zFL U A R)) W R C C
 p:genM R C (zFL (genM R C (zFL U A R)) W C)=S
theorem zNu(h:leM n R C F):leM n R C (ent (genM R C F)):=fun a ha b hb=>by rw[yR ha hb];exact h a ha b hb
def StV(w:World)(v:Value)(ls:List (Nat × Nat × Nat × Int)):Prop:=
 ∃ao n cap,v= .slice ao n cap/\ls.length=n/\n<=cap/\cap<=9223372036854775807/\(∀s∈ls,s.1<=255/\s.2.1<=255/\s.2.2.1<=255/\-128<=s.2.2.2/\s.2.2.2<=127)∧
  (ls≠ []->∃b off,ao=some ⟨b,off,none⟩/\b<w.heap.size/\∀(k:Nat) (s:Nat × Nat × Nat × Int),ls[k]?=some s->w.cell? ⟨b,off+k*4,none⟩=some (.int .u8 s.1)/\w.cell? ⟨b,off+k*4+1,none⟩=some (.int .u8 s.2.1)/\w.cell? ⟨b,off+k*4+2,none⟩=some (.int .u8 s.2.2.1)/\w.cell? ⟨b,off+k*4+3,none⟩=some (.int .i8 s.2.2.2))
theorem Fac.refl(R C:Nat)(F:Nat->Nat->Int):Fac R C F F:=⟨idf,idf,fun a ha b hb=>by
 rw[<-zLZ ha fun s=>zT C fun t=>F s t*idf t b,zIP hb]⟩
theorem Fac.congr{G':Nat->Nat->Int}(h:Fac R C F G)(e:∀a,a<R->∀b,b<C->G' a b=G a b):Fac R C F G':=by
 obtain⟨P,Q,h⟩:=h;exact⟨P,Q,fun a ha b hb=>(e a ha b hb).trans (h a ha b hb)⟩
theorem Fac.trans{H:Nat->Nat->Int}(h:Fac R C F G)(k:Fac R C G H):Fac R C F H:=by
 obtain⟨P,Q,h⟩:=h;obtain⟨P',Q',k⟩:=k;refine⟨fun a s=>zT R fun m=>P' a m*P m s,fun t b=>zT C fun m=>Q t m*Q' m b,fun a ha b hb=>?_⟩;rw[k a ha b hb];have e1:∀m,m<R->zT C (fun t=>G m t*Q' t b)=zT R fun s=>P m s*zT C fun t=>F s t*zT C fun m'=>Q t m'*Q' m' b:=fun m hm=>by
  have e2:∀t,t<C->G m t*Q' t b=zT R fun s=>P m s*zT C fun t'=>F s t'*(Q t' t*Q' t b):=fun t ht=>by
   rw[h m hm t ht,<-zDC];refine zF fun s _=>?_
   rw[qK,<-zDC];congr 1;exact zF fun t' _=>qK _ _ _
  rw[zF e2,zBj];refine zF fun s _=>?_
  rw[yX,zBj];congr 1;exact zF fun t' _=>yX _ _ _
 have e3:∀m,m<R->P' a m*zT C (fun t=>G m t*Q' t b)=zT R fun s=>(P' a m*P m s)*zT C fun t=>F s t*zT C fun m'=>Q t m'*Q' m' b:=fun m hm=>by
  rw[e1 m hm,<-yX];exact zF fun s _=>(qK _ _ _).symm
 rw[zF e3,zBj];exact zF fun s _=>zDC _ _ _
structure ChI(R C M i:Nat)(F0 F:Nat->Nat->Int):Prop where
 to_:Fac R C F0 F
 back:Fac R C F F0
 le:leM (M*3^i) R C F
def qAY(F:Nat->Nat->Int)(x y:Nat):Nat->Nat->Int:=fun a b=>if b=x then-(F a y)else if b=y then F a x else F a b
def qAp(F:Nat->Nat->Int)(x y r:Nat):Nat->Nat->Int:=fun a b=>if a<r then qAY F x y a b else F a b
theorem Inv.congr(h:Inv R C r A F)(e:∀a,a<R->∀b,b<C->B a b=A a b):Inv R C r B F:=
 ⟨h.dg,h.chn,(Fac.congr (Fac.refl R C B) fun a ha b hb=>(e a ha b hb).symm).trans h.fwd,h.bwd.congr e⟩
theorem Inv.list_eq{r':Nat}(hF:Inv R C r A F)(hG:Inv R C r' B G)(h1:Fac R C A B)(h2:Fac R C B A):qZ r' (fun i=>G i i)=qZ r (fun i=>F i i):=by
 obtain⟨e1,e2⟩:=hF.unique_fac hG h1 h2;subst e1;exact qY fun i hi=>(e2 i (by have:=hF.dg.le;omega)).symm
section
variable {P:Program} {ops:Array Oper} {W:World} {n0:Nat} {T0:Array Value} {tB:TypeId} {vs:List VS} {bs:List BS} {es:List ES} {L:Array Bool} {T:Array Value} {w:World} {k1 k2:Nat} {p1:World->World} {p2:Array Value->World->World}
end
theorem zAv.two(w:World){s1 s2:Bool}{a1 a2:Option Addr}{l1 l2 c1 c2:Nat}{z1 z2:Int}(h1:jY w (.agg #[.bool s1,.slice a1 l1 c1]) z1)(h2:jY w (.agg #[.bool s2,.slice a2 l2 c2]) z2):
  zAv (w.alloc (.cells #[.bool s1,.slice a1 l1 c1,.bool s2,.slice a2 l2 c2] 43)) (slq w.heap.size 2 2) [z1,z2]:=by
 have hb:BWq w (w.alloc (.cells #[.bool s1,.slice a1 l1 c1,.bool s2,.slice a2 l2 c2] 43)):=(zA _ _).alloc (xgf _) _;refine⟨_,2,2,rfl,rfl,xgf _,oM,fun _=>⟨_,rfl,?_⟩⟩;refine⟨_,qX _ _ _,fun k z hk=>?_⟩;match k,hk with
 |0,hk=>
  simp at hk;subst hk;exact⟨_,_,_,_,rfl,rfl,h1.ext (lx hb)⟩
 |1,hk=>
  simp at hk;subst hk;exact⟨_,_,_,_,rfl,rfl,h2.ext (lx hb)⟩
end Go.Proofs.YtkidaebmhlijlaaGreat
