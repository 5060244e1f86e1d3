/- Joined. -/
import Derived.Test.YtkidaebmhlijlaaGreatS21
set_option linter.unusedVariables false
set_option linter.unusedSimpArgs false
set_option linter.unusedSectionVars false
set_option maxHeartbeats 16000000
set_option maxRecDepth 100000
variable{m p:Nat}{κ:Nat->Nat}{w:Go.World}
namespace Go.Proofs.YtkidaebmhlijlaaGreat
open Go.RowKit
theorem zJ8{B n Cs Ct r i:Nat}{ρ κ:Nat->Nat}{x:Bst}:∀(m j:Nat),j+m=r->(∀j',j<=j'->j'<r->0<=x.s (ρ i) (κ j')/\x.s (ρ i) (κ j')<x.s (ρ j') (κ j'))->zHW B n Cs Ct ρ κ i m j x=some x
 |0,_,_,_=>rfl
 |m+1,j,hj,h=>by
  have h1:=h j (xgf _) oM;have ih:=zJ8 (B:=B) (n:=n) (Cs:=Cs) (Ct:=Ct) m (j+1) oM fun j' g1 g2=>h j' oM g2
  unfold zHW;by_cases h0:x.s (ρ i) (κ j)=0
  ·rw[if_pos h0,ih]
  rw[if_neg h0,if_neg oM,if_pos (Int.ediv_eq_zero_of_lt h1.1 h1.2),ih]
theorem zJ7{B n Cs Ct r:Nat}{ρ κ:Nat->Nat}{x:Bst}(h:∀i j,i<j->j<r->0<=x.s (ρ i) (κ j)/\x.s (ρ i) (κ j)<x.s (ρ j) (κ j)):∀i,i<=r->zJR B n Cs Ct ρ κ r i x=some x
 |0,_=>rfl
 |i+1,hi=>by
  unfold zJR;rw[zJ8 (r:=r) (r-(i+1)) (i+1) oM fun j' g1 g2=>h i j' oM g2,jV];exact zJ7 h i oM
def zJG(κ:Nat->Nat)(m:Nat):List (Nat × Nat):=(List.range m).map fun k=>(k,κ k)
theorem zBi(κ:Nat->Nat)(m:Nat):(zJG κ m).length=m:=by simp[zJG]
theorem zDb{k:Nat}(h:k<m):(zJG κ m).getD k (0,0)=(k,κ k):=by simp[zJG,xgb,h]
theorem zRy(κ:Nat->Nat)(m:Nat):zJG κ m++ [(m,κ m)]=zJG κ (m+1):=by simp[zJG,List.range_succ]
section
variable {ex:Nat->Nat} {B r n Cs Ct M0 p:Nat} {x0:Bst} {κ:Nat->Nat}
theorem zR1(hp:p<=n)(hE:Ech Cs p κ x0.s)(hm:m<=p):LOk n Cs m x0 (zJG κ m):=by
 refine⟨fun k hk=>?_,fun i j hij hj=>?_,fun i j hij hj=>?_,?_⟩
 ·rw[zBi]at hk
  rw[zDb hk];have:=hE.pos k oM;exact⟨hk,by omega,hE.lt k oM,by dsimp only;omega⟩
 ·rw[zBi]at hj
  rw[zDb hj,zDb oM];exact hE.inc i j hij oM
 ·rw[zBi]at hj
  rw[zDb hj,zDb oM];dsimp only;omega
 rw[zBi];omega
theorem zU5(hp:p<=n)(hE:Ech Cs p κ x0.s)(hR:zFU (fun _ _=>True) p κ x0.s)(hb:leB M0 n Cs Ct x0)(h0:ex p=0):JH ex r n Cs Ct M0 x0 p x0 (zJG κ p):=by
 have hrow:∀k,k<p->zBs (zJG κ p) k=k:=fun k hk=>by unfold zBs;rw[zDb hk]
 have hcol:∀k,k<p->zFp (zJG κ p) k=κ k:=fun k hk=>by unfold zFp;rw[zDb hk]
 refine⟨hp,⟨0,zE _,fun _ i hi=>by omega,fun _=>rfl,⟨⟨[],jN.nil,rfl⟩,fun k hk=>?_,fun i j hij hj=>?_,by rw[zBi];exact xgf _,⟨fun k hk=>?_,fun k hk=>?_,fun k hk t ht=>?_,fun k l hkl hl=>?_⟩,fun a ha hna t ht=>?_,by rw[h0];exact hb⟩⟩,fun _ a b hab hb' _=>?_⟩
 ·rw[zBi]at hk
  rw[hrow k hk];exact hk
 ·rw[zBi]at hj
  rw[hrow j hj,hrow i oM];omega
 ·rw[zBi]at hk
  rw[hcol k hk];exact hE.lt k hk
 ·rw[zBi]at hk
  show 0<x0.s (zBs (zJG κ p) k) (zFp (zJG κ p) k);rw[hrow k hk,hcol k hk];exact hE.pos k hk
 ·rw[zBi]at hk
  rw[hcol k hk]at ht;show x0.s (zBs (zJG κ p) k) t=0;rw[hrow k hk];exact hE.zero k hk t ht
 ·rw[zBi]at hl
  rw[hcol k oM,hcol l hl];exact hE.inc k l hkl hl
 exact absurd (hrow a ha) (hna a (by rw[zBi];exact ha));rw[zBi]at hb';show 0<=x0.s (zBs (zJG κ p) a) (zFp (zJG κ p) b)/\x0.s (zBs (zJG κ p) a) (zFp (zJG κ p) b)<x0.s (zBs (zJG κ p) b) (zFp (zJG κ p) b);rw[hrow a oM,hrow b hb',hcol b hb'];exact hR a b hab hb' trivial
def PJ(ex:Nat->Nat)(r n Cs Ct M0 p:Nat)(κ:Nat->Nat)(x0:Bst)(m:Nat)(x:Bst)(L:List (Nat × Nat)):Prop:=(m<p/\x=x0/\L=zJG κ m)∨(p<=m/\JH ex r n Cs Ct M0 x0 m x L)
def PJ'(ex:Nat->Nat)(r n Cs Ct M0 p:Nat)(κ:Nat->Nat)(x0:Bst)(m:Nat)(x:Bst)(L:List (Nat × Nat)):Prop:=(m<p/\x=x0/\L=zJG κ (m+1))∨(p<=m/\JH' ex r n Cs Ct M0 x0 m x L)
theorem zR2(hp:p<=n)(hE:Ech Cs p κ x0.s)(hR:zFU (fun _ _=>True) p κ x0.s)(hb:leB M0 n Cs Ct x0)(h0:ex p=0):PJ ex r n Cs Ct M0 p κ x0 0 x0 []:=by
 rcases qN p with h|h
 ·subst h
  exact .inr ⟨xgf _,zU5 hp hE hR hb h0⟩
 exact .inl ⟨h,rfl,rfl⟩
theorem zTN(hn:n<=6)(hM0:1<=M0)(hB:gk (ex n) M0<B)(hrk:RkB r n Cs x0)(hp:p<=n)(hE:Ech Cs p κ x0.s)(hR:zFU (fun _ _=>True) p κ x0.s)(hb:leB M0 n Cs Ct x0)(h0:ex p=0)
  (hex:∀m,p<=m->m<n->ex m+min m r+min m r*(min m r+1)/2<=ex (m+1)):zUi B n Cs Ct (PJ ex r n Cs Ct M0 p κ x0) (PJ' ex r n Cs Ct M0 p κ x0):=by
 have h:=zQ3 (p:=p) (Ct:=Ct) hn hM0 hB hrk hex;have hok:okB B n Cs Ct x0:=hb.ok (zJ (zJK _ hM0) hB);refine⟨fun m x L k=>?_,fun m x L hm k=>?_,fun m x L hm k hl=>?_,fun m x L k c hm g hl hk hc=>?_,fun m x L k c hm g hl hk hlo hhi=>?_,fun m x L hm g=>?_⟩
 ·rcases k with⟨h1,rfl,rfl⟩|k
  ·exact⟨hok,zR1 hp hE oM⟩
  exact h.ok m x L k
 ·rcases k with⟨h1,rfl,rfl⟩|k
  ·exact⟨hok,zR1 hp hE h1⟩
  exact h.ok' m x L hm k
 ·rcases k with⟨h1,rfl,rfl⟩|k
  ·rw[hE.lead h1]at hl
   omega
  exact .inr (h.zero m x L hm k hl)
 ·rcases g with⟨h1,rfl,rfl⟩|g
  ·rw[hE.lead h1]at hl
   rw[zBi]at hk;rw[zDb hk]at hc;have h2:κ k=c:=hc;have h3:=hE.inc k m hk h1;omega
  obtain⟨h1,h2,h3⟩:=h.join m x L k c hm g hl hk hc;exact⟨h1,h2,fun y hy=>⟨.inr (h3 y hy).1,(h3 y hy).2⟩⟩
 ·rcases g with⟨h1,rfl,rfl⟩|g
  ·rw[hE.lead h1]at hl
   obtain rfl:κ m=c:=by omega
   rw[zBi]at hk;obtain rfl:k=m:=by
    refine zCc hk (zAE fun hlt=>?_);have h2:=hhi k (xgf _) (by rw[zBi];exact hlt);rw[zDb hlt]at h2;have h3:=hE.inc k m hlt h1;have h4:κ m<κ k:=h2;omega
   rw[if_neg (by have:=hE.pos k h1;omega)];refine .inl ⟨h1,rfl,?_⟩;rw[jE (by rw[zBi];exact xgf _),List.drop_of_length_le (by rw[zBi];exact xgf _)];exact zRy κ k
  exact .inr (h.ins m x L k c hm g hl hk hlo hhi)
 rcases g with⟨h1,rfl,rfl⟩|g
 ·refine⟨x,zJ7 (fun i j hij hj=>?_) _ (xgf _),?_⟩
  ·rw[zBi]at hj
   rw[zDb hj,zDb oM];exact hR i j hij oM trivial
  rcases zG (m+1) p with h2|h2
  exact .inl ⟨h2,rfl,rfl⟩;obtain rfl:p=m+1:=by omega
  exact .inr ⟨xgf _,zU5 hp hE hR hb h0⟩
 obtain⟨y,h1,h2⟩:=h.red m x L hm g;exact⟨y,h1,.inr ⟨by have:=g.1;omega,h2.2⟩⟩
end
def esp(r p m:Nat):Nat:=esr r m-esr r p
theorem zTO{r:Nat}(h:p<=m):esp r p m+min m r+min m r*(min m r+1)/2<=esp r p (m+1):=by
 have h1:=zTP r h;show esr r m-esr r p+min m r+min m r*(min m r+1)/2<=esr r m+min m r+min m r*(min m r+1)/2-esr r p;omega
theorem zRI{M0 q:Nat}(hM1:1<=M0)(v:Value)(M:List (List Int))(R C:Nat)(w:World)(h:zAO w v R C M)(hF:zBc R C M)(hR:R<=6)(hC:C<=1000000)(hp:p<=R)(hE:Ech C p κ (ent M))(hRd:zFU (fun _ _=>True) p κ (ent M))(hg:gk (esp q p R) M0<BD)(hA:leM M0 R C (ent M))(hrk:RkB q R C ⟨ent M,idf,idf⟩):
  Calls Tryz.prog 102 #[v] w fun e w'=>∃v r c H U V,e= .returned v/\zEn R C r c (ent M) H U V/\leM (gk (esp q p R) M0) R R U/\leM (gk (esp q p R) M0) R R V/\zMg w' v R C (genM R C H) (genM R R U) (genM R R V)/\Below w.heap.size w w':=by
 have hB:=zJX;have hB0:leB M0 R C R ⟨ent M,idf,idf⟩:=⟨hA,zRM R M0 hM1,zRM R M0 hM1⟩;have h0:esp q p p=0:=jP _;have hE:=zTN (Cs:=C) (x0:=⟨ent M,idf,idf⟩) (Ct:=R) (ex:=esp q p) hR hM1 hg hrk hp hE hRd hB0 h0 fun m hm _=>zTO hm
 have hS:PJ (esp q p) q R C R M0 p κ ⟨ent M,idf,idf⟩ 0 ⟨ent M,idf,idf⟩ []:=zR2 hp (by assumption) hRd hB0 h0;have hfin:∀y L,PJ (esp q p) q R C R M0 p κ ⟨ent M,idf,idf⟩ R y L->JH (esp q p) q R C R M0 ⟨ent M,idf,idf⟩ R y L:=fun y L hJ=>by
  rcases hJ with⟨h1,-⟩|⟨-,h1⟩
  omega;exact h1
 have hMB:M0<BD:=zJ (zJK _ hM1) hg;refine(zRH hB v M R C w h hF oM hC (hA.ok hMB) (zFm (z:=1) dE).sm hE hS (fun y L hJ a ha hn=>?_)).mono ?_;rw[zFw ((JH.fin (hfin y L hJ)).1.zero a ha hn)];decide;rintro ee w' ⟨v,y,L,rfl,hJ,hl,hv,hb⟩;obtain⟨hJ,hr⟩:=JH.fin (hfin y L hJ);have hbd:=hJ.bd;have olt:∀a,a<R->zGM R C y.s L a<R:=fun a ha=>by
  unfold zGM;rw[xgb,xga oM];exact zK2 (hJ.lok (xgf _)) _ (zAV _)
 refine⟨v,_,_,_,_,_,rfl,zKc hJ hr hl,fun a ha b hb=>hbd.2.1 _ (olt a ha) b hb,fun a ha b hb=>hbd.2.2 _ (olt b hb) a ha,?_,hb⟩;rw[zIB hl,zIB hl]at hv;exact hv
theorem zX5(v1 v2:Value)(R m C:Nat)(M1 M2:List (List Int))(w:World)(h1:zAO w v1 R m M1)(h2:zAO w v2 m C M2)(hF1:zBc R m M1)(hF2:zBc m C M2)(hR:R<=1000000)(hm:m<=1000000)(hC:C<=1000000)(hS:zHz M1 M2 R m C):
  Calls Tryz.prog 65 #[v1,v2] w fun e w'=>∃o c k,e= .returned (.tuple #[.agg #[.int .i64 R,.int .i64 C,.slice o c k],.int .i64 0])/\zAO w' (.agg #[.int .i64 R,.int .i64 C,.slice o c k]) R C (genM R C (zJ1 M1 M2 m))/\Below w.heap.size w w':=by
 refine(zTq v1 v2 R m C M1 M2 w h1 h2 hF1 hF2 hR hm hC hS).mono ?_;rintro e w' ⟨v,bs,rfl,h,hb⟩;obtain⟨A,rfl,ao,n,cap,rfl,h3⟩:=h.mat.1;exact⟨_,_,_,rfl,h.mat.1,hb⟩
theorem Blk.nine{g:Nat}{t:TypeId}{c0 c1 c2 c3 c4 c5 c6 c7 c8:Value}(h:Blk w g t #[c0,c1,c2,c3,c4,c5,c6,c7,c8]):
  w.cell? ⟨g,0,none⟩=some c0/\w.cell? ⟨g,1,none⟩=some c1/\w.cell? ⟨g,2,none⟩=some c2/\w.cell? ⟨g,3,none⟩=some c3/\w.cell? ⟨g,4,none⟩=some c4/\w.cell? ⟨g,5,none⟩=some c5/\w.cell? ⟨g,6,none⟩=some c6/\w.cell? ⟨g,7,none⟩=some c7/\w.cell? ⟨g,8,none⟩=some c8:=
 ⟨h.cell 0,h.cell 1,h.cell 2,h.cell 3,h.cell 4,h.cell 5,h.cell 6,h.cell 7,h.cell 8⟩
structure zYc(w:World)(f:Value)(hr hc:Int)(H:List (List Int))(ur uc:Int)(U:List (List Int))(vr vc:Int)(V:List (List Int)):Prop where
 ex:∃h u v,f= .agg #[.int .i64 hr,.int .i64 hc,h,.int .i64 ur,.int .i64 uc,u,.int .i64 vr,.int .i64 vc,v]/\zBl w h H/\zBl w u U/\zBl w v V
structure zYY(R C:Nat)(A:List (List Int))(hr hc:Int)(H:List (List Int))(ur uc:Int)(U:List (List Int))(vr vc:Int)(V:List (List Int)):Prop where
 is:zSz hr hc H
 er:hr=R
 ec:hc=C
 u:ur=R/\uc=R/\zBL ur uc U
 v:vr=R/\vc=R/\zBL vr vc V
 mul:genM R C (zJ1 U A R)=H
 inv:genM R R (zJ1 U V R)=genM R R idf
abbrev tWk:TypeId:=155
def upR(F G:Nat->Nat->Int)(i c:Nat):Nat->Nat->Int:=fun a b=>if a=i/\b<c then G a b else F a b
def upC(F G:Nat->Nat->Int)(j r:Nat):Nat->Nat->Int:=fun a b=>if b=j/\a<r then G a b else F a b
def zZB(F:Nat->Nat->Int)(i c:Nat)(z:Int):Nat->Nat->Int:=fun a b=>if a=i/\b=c then z else F a b
section
variable {w:World} {A:Value} {g n cap R C:Nat} {bs:List Nat} {F:Nat->Nat->Int}
end
structure K9(w:World)(bw:Nat)(AM AU AV:Value)(R C:Nat)(bm bu bv:List Nat)(S T V:Nat->Nat->Int):Prop where
 blk:Blk w bw tWk #[.int .i64 R,.int .i64 C,AM,.int .i64 R,.int .i64 R,AU,.int .i64 R,.int .i64 R,AV]
 m:Wri w AM R C bm S
 u:Wri w AU R R bu T
 v:Wri w AV R R bv V
 mu:Ap AM bm AU bu
 mv:Ap AM bm AV bv
 uv:Ap AU bu AV bv
section
variable {w w':World} {bw:Nat} {AM AU AV:Value} {R C:Nat} {bm bu bv:List Nat} {S T V:Nat->Nat->Int}
def Z3(AM AU AV:Value)(bm bu bv:List Nat)(b:Nat):Prop:=Zn AM bm b∨Zn AU bu b∨Zn AV bv b
end
def KW(Z:Nat->Prop)(w:World)(bw R C:Nat)(x:Bst):Prop:=∃AM AU AV bm bu bv,K9 w bw AM AU AV R C bm bu bv x.s x.t (fun a b=>x.i b a)/\∀b,Z3 AM AU AV bm bu bv b->Z b


section
variable {w:World} {bw gm gu cm cu:Nat} {AM AU AV:Value} {R C:Nat} {bm bu bv:List Nat} {S T V:Nat->Nat->Int}
end
def zZD(F:Nat->Nat->Int)(i j c:Nat):Nat->Nat->Int:=fun a b=>if a<c then F a (swp i j b)else F a b
structure zWo(n0 R C:Nat)(S T V:Nat->Nat->Int)(w:World)(v:Value):Prop where
 ex:∃so sc uo uc vo vc bs bu bv,v= .agg #[.int .i64 R,.int .i64 C,.slice so R sc,.int .i64 R,.int .i64 R,.slice uo R uc,.int .i64 R,.int .i64 R,.slice vo R vc]∧
  Wri w (.slice so R sc) R C bs S/\Wri w (.slice uo R uc) R R bu T/\Wri w (.slice vo R vc) R R bv V/\(∀b,Z3 (.slice so R sc) (.slice uo R uc) (.slice vo R vc) bs bu bv b->n0<=b)∧
  Ap (.slice so R sc) bs (.slice uo R uc) bu/\Ap (.slice so R sc) bs (.slice vo R vc) bv/\Ap (.slice uo R uc) bu (.slice vo R vc) bv
theorem RG.three{W:World}{T0:Array Value}{vs:List VS}{L:Array Bool}{T:Array Value}{w:World}{k1 k2 k3 s1 s2 s3 R C:Nat}{F1 F2 F3:Nat->Nat->Int}
  (h:RG W T0 vs [⟨k1,s1,R,C,F1⟩,⟨k2,s2,R,R,F2⟩,⟨k3,s3,R,R,F3⟩] L T w) (o1:k1<k2) (o2:k2<k3) (l1:L[k1]?=some true) (l2:L[k2]?=some true) (l3:L[k3]?=some true):
  ∃so sc uo uc vo vc,T[s1]?=some (.agg #[.int .i64 R,.int .i64 C,.slice so R sc])/\T[s2]?=some (.agg #[.int .i64 R,.int .i64 R,.slice uo R uc])/\T[s3]?=some (.agg #[.int .i64 R,.int .i64 R,.slice vo R vc])∧
   zWo W.heap.size R C F1 F2 F3 w (.agg #[.int .i64 R,.int .i64 C,.slice so R sc,.int .i64 R,.int .i64 R,.slice uo R uc,.int .i64 R,.int .i64 R,.slice vo R vc]):=by
 obtain⟨bot,top,g1,g2⟩:=h.gh;have M1:(⟨k1,s1,R,C,F1⟩:MS)∈ [(⟨k1,s1,R,C,F1⟩:MS),⟨k2,s2,R,R,F2⟩,⟨k3,s3,R,R,F3⟩]:=by simp
 have M2:(⟨k2,s2,R,R,F2⟩:MS)∈ [(⟨k1,s1,R,C,F1⟩:MS),⟨k2,s2,R,R,F2⟩,⟨k3,s3,R,R,F3⟩]:=by simp
 have M3:(⟨k3,s3,R,R,F3⟩:MS)∈ [(⟨k1,s1,R,C,F1⟩:MS),⟨k2,s2,R,R,F2⟩,⟨k3,s3,R,R,F3⟩]:=by simp
 obtain⟨a1,a2,_,a3,so,sc,bS,rfl,a5,a6⟩:=g1 _ M1 l1;obtain⟨b1,b2,_,b3,uo,uc,bU,rfl,b5,b6⟩:=g1 _ M2 l2;obtain⟨c1,c2,_,c3,vo,vc,bV,rfl,c5,c6⟩:=g1 _ M3 l3;have r12:=g2 _ M1 _ M2 o1 l1 l2;have r13:=g2 _ M1 _ M3 (by dsimp only;omega) l1 l3;have r23:=g2 _ M2 _ M3 (by dsimp only;omega) l2 l3;refine⟨so,sc,uo,uc,vo,vc,a3,b3,c3,⟨so,sc,uo,uc,vo,vc,bS,bU,bV,rfl,a5,b5,c5,?_,zB7 a6 b6 r12,zB7 a6 c6 r13,zB7 b6 c6 r23⟩⟩;rintro b (hb|hb|hb);exact zB a1 (a6 b hb).1;exact zB b1 (b6 b hb).1;exact zB c1 (c6 b hb).1
structure zY0(n0 R C:Nat)(S T V:Nat->Nat->Int)(w:World)(v:Value):Prop where
 ex:∃bw AM AU AV bm bu bv,v= .pointer (some ⟨bw,0,none⟩)/\n0<=bw/\K9 w bw AM AU AV R C bm bu bv S T V/\∀b,Z3 AM AU AV bm bu bv b->n0<=b
end Go.Proofs.YtkidaebmhlijlaaGreat
