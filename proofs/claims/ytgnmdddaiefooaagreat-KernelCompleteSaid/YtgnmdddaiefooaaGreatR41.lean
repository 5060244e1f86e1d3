/- torsionref12: Start, Floor. torsionlaw13.list. torsionref05.Ints. torsionref05.Filled. torsionref05: Made, Square. torsionref05.Transpose; torsionref13: combine, combineColumns. torsionref13: combine, combineColumns. smith's run (the mirror) ends, within bounds, in a diagonal. Plain Lean. -/
import Derived.Test.YtgnmdddaiefooaaGreatR12
import Derived.Test.YtgnmdddaiefooaaGreatR14
import Derived.Test.YtgnmdddaiefooaaGreatR15
import Derived.Test.YtgnmdddaiefooaaGreatR16
import Derived.Test.YtgnmdddaiefooaaGreatR31
import Derived.Test.YtgnmdddaiefooaaGreatR35
import Derived.Test.YtgnmdddaiefooaaGreatR39
set_option linter.unusedVariables false
set_option linter.unusedSimpArgs false
set_option linter.unusedSectionVars false
set_option maxHeartbeats 16000000
set_option maxRecDepth 100000
namespace Go.Proofs.YtgnmdddaiefooaaGreat
open Go.RowKit
structure zFD(n0 R C:Nat)(S T V:Nat->Nat->Int)(w:World)(v:Value):Prop where
 ex:∃so sc uo uc vo vc bs bu bv,v= .agg #[.int .i64 R,.int .i64 C,.slice so R sc,.int .i64 R,.int .i64 R,.slice uo R uc,.int .i64 R,.int .i64 R,.slice vo R vc]∧
  Wri w (.slice so R sc) R C bs S/\Wri w (.slice uo R uc) R R bu T/\Wri w (.slice vo R vc) R R bv V/\(∀b,Z3 (.slice so R sc) (.slice uo R uc) (.slice vo R vc) bs bu bv b->n0<=b)∧
  Ap (.slice so R sc) bs (.slice uo R uc) bu/\Ap (.slice so R sc) bs (.slice vo R vc) bv/\Ap (.slice uo R uc) bu (.slice vo R vc) bv
theorem zGp(n0 R C:Nat)(S T V:Nat->Nat->Int):qQ (zFD n0 R C S T V):=by
 intro w w' v hb ⟨so,sc,uo,uc,vo,vc,bs,bu,bv,h1,h2,h3,h4,h5⟩;exact⟨so,sc,uo,uc,vo,vc,bs,bu,bv,h1,h2.below hb,h3.below hb,h4.below hb,h5⟩
theorem RG.three{W:World}{T0:Array Value}{vs:List VS}{L:Array Bool}{T:Array Value}{w:World}{k1 k2 k3 s1 s2 s3 R C:Nat}{F1 F2 F3:Nat->Nat->Int}
  (h:RG W T0 vs [⟨k1,s1,R,C,F1⟩,⟨k2,s2,R,R,F2⟩,⟨k3,s3,R,R,F3⟩] L T w) (o1:k1<k2) (o2:k2<k3) (l1:L[k1]?=some true) (l2:L[k2]?=some true) (l3:L[k3]?=some true):
  ∃so sc uo uc vo vc,T[s1]?=some (.agg #[.int .i64 R,.int .i64 C,.slice so R sc])/\T[s2]?=some (.agg #[.int .i64 R,.int .i64 R,.slice uo R uc])/\T[s3]?=some (.agg #[.int .i64 R,.int .i64 R,.slice vo R vc])∧
   zFD W.heap.size R C F1 F2 F3 w (.agg #[.int .i64 R,.int .i64 C,.slice so R sc,.int .i64 R,.int .i64 R,.slice uo R uc,.int .i64 R,.int .i64 R,.slice vo R vc]):=by
 obtain⟨bot,top,g1,g2⟩:=h.gh;have M1:(⟨k1,s1,R,C,F1⟩:MS)∈ [(⟨k1,s1,R,C,F1⟩:MS),⟨k2,s2,R,R,F2⟩,⟨k3,s3,R,R,F3⟩]:=by simp
 have M2:(⟨k2,s2,R,R,F2⟩:MS)∈ [(⟨k1,s1,R,C,F1⟩:MS),⟨k2,s2,R,R,F2⟩,⟨k3,s3,R,R,F3⟩]:=by simp
 have M3:(⟨k3,s3,R,R,F3⟩:MS)∈ [(⟨k1,s1,R,C,F1⟩:MS),⟨k2,s2,R,R,F2⟩,⟨k3,s3,R,R,F3⟩]:=by simp
 obtain⟨a1,a2,_,a3,so,sc,bS,rfl,a5,a6⟩:=g1 _ M1 l1;obtain⟨b1,b2,_,b3,uo,uc,bU,rfl,b5,b6⟩:=g1 _ M2 l2;obtain⟨c1,c2,_,c3,vo,vc,bV,rfl,c5,c6⟩:=g1 _ M3 l3;have r12:=g2 _ M1 _ M2 o1 l1 l2;have r13:=g2 _ M1 _ M3 (by dsimp only;omega) l1 l3;have r23:=g2 _ M2 _ M3 (by dsimp only;omega) l2 l3;refine⟨so,sc,uo,uc,vo,vc,a3,b3,c3,⟨so,sc,uo,uc,vo,vc,bS,bU,bV,rfl,a5,b5,c5,?_,yR a6 b6 r12,yR a6 c6 r13,yR b6 c6 r23⟩⟩;rintro b (hb|hb|hb)
 ·exact Nat.le_trans a1 (a6 b hb).1
 ·exact Nat.le_trans b1 (b6 b hb).1
 ·exact Nat.le_trans c1 (c6 b hb).1
structure zOZ(n0 R C:Nat)(S T V:Nat->Nat->Int)(w:World)(v:Value):Prop where
 ex:∃bw AM AU AV bm bu bv,v= .pointer (some ⟨bw,0,none⟩)/\n0<=bw/\K9 w bw AM AU AV R C bm bu bv S T V/\∀b,Z3 AM AU AV bm bu bv b->n0<=b
theorem zHT(n0 R C:Nat)(S T V:Nat->Nat->Int):qQ (zOZ n0 R C S T V):=by
 intro w w' v hb ⟨a,b,c,d,e,f,g,h1,h2,h3,h4⟩;exact⟨a,b,c,d,e,f,g,h1,h2,h3.below hb,h4⟩
theorem zFD.new{n0 R C:Nat}{S T V:Nat->Nat->Int}{w:World}{cs:Array Value}(h:zFD n0 R C S T V w (.agg cs))(hn:n0<=w.heap.size):zOZ n0 R C S T V (w.alloc (.cells cs tWk)) (.pointer (some ⟨w.heap.size,0,none⟩)):=by
 obtain⟨so,sc,uo,uc,vo,vc,bs,bu,bv,e,h2,h3,h4,h5,h6,h7,h8⟩:=h.ex;injection e with e
 subst e;have hb:Below w.heap.size w (w.alloc (.cells #[.int .i64 R,.int .i64 C,.slice so R sc,.int .i64 R,.int .i64 R,.slice uo R uc,.int .i64 R,.int .i64 R,.slice vo R vc] tWk)):=(Below.refl _ _).alloc (xgf _) _;exact⟨_,_,_,_,_,_,_,rfl,hn,⟨Blk.new _ _ _,h2.below hb,h3.below hb,h4.below hb,h6,h7,h8⟩,h5⟩
theorem zEp(n:Nat)(w:World)(hn:n<=1000000):Calls Tryz.prog 38 #[.int .i64 n] w fun e w'=>∃v,e= .returned v/\zCP n n idf w.heap.size w'.heap.size w' v/\Below w.heap.size w w':=
 (zCW n w hn).mono fun _ _ h=>h.within
theorem zK7(v:Value)(R C:Nat)(M:List (List Int))(w:World)(h:zBm w v R C M)(hF:yG R C M)(hR:R<=1000000)(hC:C<=1000000)(hS:∀r∈M,∀z∈r,Sm z):
  Calls Tryz.prog 52 #[v] w fun e w'=>∃v,e= .returned v/\zCP R C (ent M) w.heap.size w'.heap.size w' v/\Below w.heap.size w w':=
 (zB1 v R C M w h hF hR hC hS).mono fun _ _ h=>zAc.within (by rwa[<-jU hF])
theorem zGv(v:Value)(M:List (List Int))(R C:Nat)(w:World)(h:zBm w v R C M)(hF:yG R C M)(hR:R<=1000000)(hC:C<=1000000)(hS:∀r∈M,∀z∈r,Sm z):
  Calls Tryz.prog 79 #[v] w fun e w'=>∃v,e= .returned v/\zOZ w.heap.size R C (ent M) idf idf w' v/\Below w.heap.size w w':=by
 have h0:=h;obtain⟨A,rfl,h⟩:=h;obtain⟨ao,n,cap,rfl,e2,e3,e4,-⟩:=id h;have HS:=xgv hS;have HF:=xgv hF;have H0:=xgv h0;clear h0 hF e2 hS h;go_enter Tryz.func79,Tryz.ntmps79;go_upto_region 1 with(fail)
 refine zC ?_;intro W0 hW0;obtain⟨hB0,bx,hs0⟩:=zN hW0;obtain⟨c1,c2,c3,c4,c5,c6⟩:=bx.three;have hl1:=zGp W0.heap.size R C (ent M) idf idf;have hl2:=zHT W0.heap.size R C (ent M) idf idf;have lbx:=bx.lt;clear hW0;refine zB 10 rfl (RG W0 _ [⟨0,3,fun _ v=>v= .agg #[.int .i64 R,.int .i64 C,.slice ao n cap]⟩,⟨2,5,fun _ v=>v= .pointer (some ⟨w.heap.size,0,none⟩)⟩,⟨3,6,fun _ v=>v= .int .i64 R⟩,⟨5,8,fun _ v=>v= .pointer (some ⟨w.heap.size,0,none⟩)⟩,⟨6,9,fun _ v=>v= .int .i64 R⟩,⟨8,11,zFD W0.heap.size R C (ent M) idf idf⟩,⟨9,12,zOZ W0.heap.size R C (ent M) idf idf⟩] [⟨1,4,R,C,ent M⟩,⟨4,7,R,R,idf⟩,⟨7,10,R,R,idf⟩]) kR RG.start ?fin1 ?steps1
 case steps1=>
  refine⟨?_,?_,?_,?_,?_,?_,?_,?_,?_,?_,trivial⟩<;>(intro L T wS hL hd hcl hI K hK;try refine zA rfl ?_)
  ·have zt:T[1]?=some (.pointer (some ⟨w.heap.size,0,none⟩)):=hI.keep 1 sI sI
   have cc0:=hI.cell c1;have cc1:=hI.cell c2;have cc2:=hI.cell c3;go_simp;exact hK _ _ (hI.y mm0 rfl)
  ·obtain⟨_,zt0,rfl⟩:=hI.v mm0 (hd 0)
   go_simp;refine(zK7 _ R C M _ ((H0.out.below hB0).below hI.bel) HF.out hR hC HS.out).mono ?_;rintro e wa ⟨v,rfl,hv,hba⟩;exact hK _ _ (hI.mat hcl hL ⟨1,4,_,_,_⟩ mm0 rfl hba hv kR)
  ·have zt:T[1]?=some (.pointer (some ⟨w.heap.size,0,none⟩)):=hI.keep 1 sI sI
   go_simp;exact hK _ _ (hI.y mm1 rfl)
  ·obtain⟨_,zt2,rfl⟩:=hI.v mm1 (hd 2)
   have cc0:=hI.cell c1;go_simp;exact hK _ _ (hI.y mm2 rfl)
  ·obtain⟨_,zt3,rfl⟩:=hI.v mm2 (hd 3)
   go_simp;refine(zEp R _ hR).mono ?_;rintro e wa ⟨v,rfl,hv,hba⟩;exact hK _ _ (hI.mat hcl hL ⟨4,7,_,_,_⟩ mm1 rfl hba hv kR)
  ·have zt:T[1]?=some (.pointer (some ⟨w.heap.size,0,none⟩)):=hI.keep 1 sI sI
   go_simp;exact hK _ _ (hI.y mm3 rfl)
  ·obtain⟨_,zt5,rfl⟩:=hI.v mm3 (hd 5)
   have cc0:=hI.cell c1;go_simp;exact hK _ _ (hI.y mm4 rfl)
  ·obtain⟨_,zt6,rfl⟩:=hI.v mm4 (hd 6)
   go_simp;refine(zEp R _ hR).mono ?_;rintro e wa ⟨v,rfl,hv,hba⟩;exact hK _ _ (hI.mat hcl hL ⟨7,10,_,_,_⟩ mm2 rfl hba hv kR)
  ·obtain⟨so,sc,uo,uc,vo,vc,t1,t2,t3,hthree⟩:=hI.three oM oM (hd 1) (hd 4) (hd 7)
   go_simp;exact hK _ _ (hI.y mm5 hthree)
  ·obtain⟨v8,zt8,h8⟩:=hI.v mm5 (hd 8)
   have h8':zFD W0.heap.size R C (ent M) idf idf wS v8:=h8;obtain⟨so,sc,uo,uc,vo,vc,bs,bu,bv,rfl,-⟩:=h8'.ex;go_simp;exact hK _ _ ((hI.world ((Below.refl _ _).alloc (xgf _) _)).y mm6 (h8'.new hI.bel.size))
 intro T w2 hI;obtain⟨va0,q0,rfl⟩:=hI.v mm0 rfl;obtain⟨va2,q2,rfl⟩:=hI.v mm1 rfl;obtain⟨va3,q3,rfl⟩:=hI.v mm2 rfl;obtain⟨va5,q5,rfl⟩:=hI.v mm3 rfl;obtain⟨va6,q6,rfl⟩:=hI.v mm4 rfl;obtain⟨va8,q8,ha8⟩:=hI.v mm5 rfl;obtain⟨va9,q9,ha9⟩:=hI.v mm6 rfl;obtain⟨va1,q1,moa1,mca1,mea1⟩:=hI.matv _ mm0 rfl;obtain⟨va4,q4,moa4,mca4,mea4⟩:=hI.matv _ mm1 rfl;obtain⟨va7,q7,moa7,mca7,mea7⟩:=hI.matv _ mm2 rfl;have hT:=zEC [(3,.agg #[.int .i64 R,.int .i64 C,.slice ao n cap]),(5,.pointer (some ⟨w.heap.size,0,none⟩)),(6,.int .i64 R),(8,.pointer (some ⟨w.heap.size,0,none⟩)),(9,.int .i64 R),(11,va8),(12,va9),(4,va1),(7,va4),(10,va7)]
  (fun j hj=>hI.keep j (by simp only[xgm]at hj ⊢;simp[hj]) (by simp only[xgm]at hj ⊢;simp[hj]))
  (by simp only[xgm];simp[q0,q2,q3,q5,q6,q8,q9,q1,q4,q7]) hI.size
 have hbw2:=hI.bel;clear hI;simp only[List.foldl_cons,List.foldl_nil,xgh,xgi,xgj,ptr]at hT;subst hT;clear q0 q2 q3 q5 q6 q8 q9 q1 q4 q7;simp only[xgl,xgk];have ha9':zOZ W0.heap.size R C (ent M) idf idf w2 va9:=ha9;obtain⟨bw,AM,AU,AV,bm,bu,bv,rfl,k1,k2,k3⟩:=ha9'.ex;have hsz:=hB0.size;clear c1 c2 c3 c4 c5 c6 ha8 ha9 ha9';go_wp2;go_ret;exact⟨_,rfl,⟨_,_,_,_,_,_,_,rfl,by omega,k2,fun b hb=>Nat.le_trans hsz (k3 b hb)⟩,nx hB0 hbw2⟩
theorem zBz(v1 v2:Value)(a b:Int)(w:World)(h1:zR w v1 a)(h2:zR w v2 b)(s1:Smd a)(s2:Smd b)(hb:b≠0):
  Calls Tryz.prog 90 #[v1,v2] w (zAI w (a/b)):=by
 obtain⟨n1,a1,l1,k1,x1,rfl,hx1⟩:=id h1;obtain⟨n2,a2,l2,k2,x2,rfl,hx2⟩:=id h2;have HX1:=xgw hx1;have HX2:=xgw hx2;have HS1:=xgv s1;have HS2:=xgv s2;have HB:=xgw hb;clear hx1 hx2 s1 s2 hb;go_enter Tryz.func90,Tryz.ntmps90;go_upto_region 1 with(fail)
 refine zC ?_;intro W0 hW0;obtain⟨hB0,bx1,bx2,br,hs0⟩:=zAS hW0;obtain⟨c1,c2,c3,c4⟩:=bx1.two;obtain⟨d1,d2,d3,d4⟩:=bx2.two;have h1:=h1.ext (lx hB0);have h2:=h2.ext (lx hB0);clear hW0;go_wp2_with fail
 refine(zDr _ _ a b W0 h1 h2 HS1.out HS2.out HB.out).mono ?_;rintro e w2 ⟨q0,r0,rfl,hq,hr,hb2⟩;obtain⟨qn,qa,ql,qc,qx,rfl,hq'⟩:=id hq;obtain⟨rn,ra,rl,rc,rx,rfl,hr'⟩:=id hr;have HQ':=xgw hq';have HR':=xgw hr';have br:=br.below hb2;have lbr:=br.lt;have hB2:=nx hB0 hb2;clear hq' hr' c1 c2 c3 c4 d1 d2 d3 d4;go_upto_region 2 with(fail)
 refine zC ?_;intro W3 hW3;obtain⟨hB3,T5,T6,hs3⟩:=qK hW3;have hq:=hq.ext (lx hB3);have br:=br.below hB3;have hB3:=nx hB2 hB3;obtain⟨d1,d2,d3,d4⟩:=T5.two;obtain⟨e1,e2,e3,e4⟩:=br.two;clear hW3;go_wp2;refine zU (r:=w.heap.size+1+1) rfl rfl rfl (br.put2 _ _) (hq.ext (br.lext2 dE _ _)) (zP (zP hB3 oM _ _) oM _ _)
def zE0(w:World)(v:Value)(ls:List Int):Prop:=
 ∃ao n cap,v= .slice ao n cap/\ls.length=n/\n<=cap/\cap<=9223372036854775807/\(∀z∈ls,-9223372036854775808<=z/\z<=9223372036854775807)∧
  (ls≠ []->∃(b:Nat) (cs:Array Value),ao=some ⟨b,0,none⟩/\w.heap[b]?=some (.cells cs 2 (0,0))/\∀(k:Nat) (z:Int),ls[k]?=some z->cs[k]?=some (.int .i64 z))
theorem zE0.below{w w':World}{v:Value}{ls:List Int}(h:zE0 w v ls)(hb:Below w.heap.size w w'):zE0 w' v ls:=by
 obtain⟨ao,n,cap,h1,h2,h3,h4,h5,h6⟩:=h;refine⟨ao,n,cap,h1,h2,h3,h4,h5,fun hn=>?_⟩;obtain⟨b,cs,e1,e2,e3⟩:=h6 hn;exact⟨b,cs,e1,(hb.block _ (Array.getElem?_eq_some_iff.1 e2).1).trans e2,e3⟩
theorem zE0.cell{w:World}{ao:Option Addr}{n cap:Nat}{ls:List Int}(h:zE0 w (.slice ao n cap) ls){k:Nat}(hk:k<ls.length):
  ∃b z,ao=some ⟨b,0,none⟩/\b<w.heap.size/\ls[k]?=some z/\w.cell? ⟨b,k,none⟩=some (.int .i64 z)/\-9223372036854775808<=z/\z<=9223372036854775807:=by
 obtain⟨ao',n',cap',h1,h2,h3,h4,h5,h6⟩:=h;injection h1 with e1 e2 e3
 subst e1;obtain⟨b,cs,e,hr,hc⟩:=h6 (by rintro rfl;simp at hk);have hz:=xga hk;have:=h5 _ (xgd hz);exact⟨b,_,e,(Array.getElem?_eq_some_iff.1 hr).1,hz,(cell_of_row w b k cs _ _ hr).trans (hc k _ hz),this.1,this.2⟩
theorem zOj{i j R C:Nat}(hi:i<R)(hj:j<C):i*C+j<R*C:=by
 have:(i+1)*C<=R*C:=Nat.mul_le_mul_right _ hi;rw[Nat.add_mul]at this;omega
theorem zL4(v:Value)(R C:Nat)(ls:List Int)(w:World)(h:zE0 w v ls)(hl:ls.length=R*C)(hR:R<=1000)(hC:C<=1000):
  Calls Tryz.prog 34 #[.int .i64 R,.int .i64 C,v] w (zAc w R C (genM R C (fun i j=>ls.getD (i*C+j) 0))):=by
 obtain⟨ao,n,cap,rfl,h2,h3,h4,-,-⟩:=id h;have HL:=xgw h2;have hnR:n=R*C:=by omega
 have HN:=xgw hnR;obtain⟨f,hf⟩:∃f:Nat->Nat->Int,(fun i j=>ls.getD (i*C+j) 0)=f:=⟨_,rfl⟩;rw[hf];have HFE:qM (∀i j,f i j=ls.getD (i*C+j) 0):=⟨fun i j=>by rw[<-hf]⟩;clear hf h2 hl hnR;go_enter Tryz.func34,Tryz.ntmps34;go_upto_region 1 with(fail)
 refine zC ?_;intro W0 hW0;obtain⟨hB0,br,hs0⟩:=zN hW0;go_wp2_with fail
 refine(zBS R C W0 oM oM).mono ?_;rintro e w2 ⟨u,bs,rfl,⟨hbl,A2,rfl,ho⟩,hb2⟩;obtain⟨oo,on,oc,rfl,-,-,-,-⟩:=id ho.rows;have hlts:=ho.lts;go_upto_region 2 with(fail)
 refine zC ?_;intro W3 hW3;obtain⟨hB3,T5,hs3⟩:=zN hW3;have br:=(br.below hb2).below hB3;have ho:=ho.below hB3;rw[zCK R C f]at ho;have hBt:=nx (nx hB0 hb2) hB3;have q2:=hb2.size;clear hW3 hW0;go_wp2;go_loopw [8] (fun iv wr=>∃i:Nat,i<=R/\iv= .int .i64 i/\Below w.heap.size w wr/\Blk wr w.heap.size 28 #[.int .i64 0,.int .i64 0,.slice none 0 0]/\Blk wr w2.heap.size 28 #[.int .i64 R,.int .i64 C,.slice oo on oc]/\zJ wr W0.heap.size (.slice oo on oc) C bs (genM R C (zDe f i 0))) (fun iv _=>R-(intOf iv).toNat)
 case atStart=>exact⟨0,by omega,rfl,hBt,br,T5,ho⟩
 case round=>
  obtain⟨i,hi,rfl,hb,br,T5,ho⟩:=hrel;by_cases hlt:i<R
  ·go_wp2
   go_loopw [9] (fun jv wr=>∃j:Nat,j<=C/\jv= .int .i64 j/\Below w.heap.size w wr/\Blk wr w.heap.size 28 #[.int .i64 0,.int .i64 0,.slice none 0 0]/\Blk wr w2.heap.size 28 #[.int .i64 R,.int .i64 C,.slice oo on oc]/\zJ wr W0.heap.size (.slice oo on oc) C bs (genM R C (zDe f i j))) (fun jv _=>C-(intOf jv).toNat)
   case atStart=>exact⟨0,by omega,rfl,hb,br,T5,ho⟩
   case round=>
    obtain⟨j,hj,rfl,hb,br,T5,ho⟩:=hrel;by_cases hjc:j<C
    ·have hmn:i*C+j<n:=by rw[HN.out];exact zOj hlt hjc
     have hn6:n<=1000000:=by rw[HN.out];exact Nat.le_trans (Nat.mul_le_mul hR hC) oM
     obtain⟨m,hm⟩:∃m,i*C+j=m:=⟨_,rfl⟩;have hmi:(i:Int)*(C:Int)+(j:Int)=(m:Int):=by rw[<-hm,Int.natCast_add,Int.natCast_mul]
     have hp0:0<=(i:Int)*(C:Int):=by omega
     have hp1:(i:Int)*(C:Int)<=1000000:=by omega
     have hw1:IntKind.i64.wrap ((i:Int)*(C:Int))=(i:Int)*(C:Int):=IntWalk.i64_in _ oM;have hw2:IntKind.i64.wrap (m:Int)=(m:Int):=IntWalk.i64_in _ oM;have hmlt:m<n:=by omega
     have hlt3:(i:Int)*(C:Int)+(j:Int)<(n:Int):=by omega
     obtain⟨b,z,rfl,hbl1,hz,c1,z1,z2⟩:=(h.below hb).cell (k:=m) (by rw[HL.out];exact hmlt);have hent:Hid (f i j=z):=by rw[HFE.out,hm,jP hz];exact xgw rfl
     obtain⟨g,bo,rfl,hg,hbo,hbo2,o1,ho3⟩:=ho.at_ (i:=i) oM;obtain⟨f1,f2,f3,f4,f5,f6⟩:=T5.three;have hio:i<on:=by omega
     have HO3:=xgw ho3;have HM:=xgw hm;clear ho3 hm hz;have lt5:=T5.lt;go_upto_region 8 with(fail)
     refine zB 16 rfl (RI wr (wr.heap.size) _ 51
       [VP 0 33 w2.heap.size 2,VSl 1 34 g on oc,VN 2 35 i,VP 3 36 g i,VSl 4 37 bo C C,VN 5 38 j,VSl 6 39 b n cap,VN 7 40 i,VN 8 41 C,E 9 42 (.int .i64 ((i:Int)*(C:Int))),VN 10 43 j,VN 11 44 m,VP 12 45 b m,VN 13 46 z,EI 14 47 (z),VP 15 48 bo (j*2)] [] []) kR RI.start (RI.fin kR ?fin1) ?steps1
     case steps1=>
      refine⟨?_,?_,?_,?_,?_,?_,?_,?_,?_,?_,?_,?_,?_,?_,?_,?_,trivial⟩<;>(intro L T wS hL hd hcl hI K hK;try refine zA rfl ?_)
      ·exact xgs (hI.k 7 rfl kR)
      ·have zt0:=hI.e mm0 (hd 0)
       have cc0:=hI.cell f3 oM nom;exact xgu
      ·exact xgs (hI.k 8 rfl kR)
      ·exact xgt (hI.e mm1 (hd 1)) (hI.e mm2 (hd 2))
      ·have zt3:=hI.e mm3 (hd 3)
       have cc0:=hI.cell o1 oM nom;exact xgu
      ·exact xgs (hI.k 9 rfl kR)
      ·exact xgs (hI.k 2 rfl kR)
      ·exact xgs (hI.k 8 rfl kR)
      ·exact xgs (hI.k 1 rfl kR)
      ·exact xgt (hI.e mm7 (hd 7)) (hI.e mm8 (hd 8))
      ·exact xgs (hI.k 9 rfl kR)
      ·exact xgt (hI.e mm9 (hd 9)) (hI.e yD (hd 10))
      ·exact xgt (hI.e mm6 (hd 6)) (hI.e zAB (hd 11))
      ·have zt12:=hI.e zAh (hd 12)
       have cc0:=hI.cell c1 oM nom;exact xgu
      ·have zt13:=hI.e zBv (hd 13)
       go_simp;refine(zBg z _ z1 z2).mono ?_;exact xgo
      ·exact xgt (hI.e mm4 (hd 4)) (hI.e mm5 (hd 5))
     intro w9 hlw9 hbw9 holdw9 T hT;simp only[Fin,E,EI,VP,VSl,VN,xgg,xgh,xgi,xgj]at hT;obtain⟨va14,ha14,rfl⟩:=hT;simp only[xgl,xgk];obtain⟨pn,pa,pl,pc,px,rfl,hpx⟩:=id ha14;have HPX:=xgw hpx;clear hpx;have ho9:=ho.below hbw9;obtain⟨sn,sa,sl,sc,y1,y2,y3,y4,-⟩:=ho9.cellAt hbo hjc;have hbolt:=hlts i bo hbo;have hset:=ho9.set hbo hjc ha14;clear hw1 hw2 hmi hp0 hp1 hlt3;go_wp2;go_roundw
     case rel=>
      rw[<-hent.out,zEy hlt hjc]at hset;exact⟨j+1,by omega,by simp,zP (zP (nx hb hbw9) oM _ _) oM _ _,(qH _ _ _ _ _ _ _ oM).trans (br.below hbw9),(qH _ _ _ _ _ _ _ oM).trans (T5.below hbw9),hset.1⟩
     case measure=>simp[intOf];omega
    ·obtain rfl:j=C:=by omega
     rw[zEF]at ho;go_wp2;go_roundw
     case rel=>exact⟨i+1,by omega,by simp,hb,br,T5,ho⟩
     case measure=>simp[intOf];omega
  ·obtain rfl:i=R:=by omega
   rw[zEE]at ho;obtain⟨f1,f2,f3,f4,f5,f6⟩:=T5.three;obtain⟨r1,r2,r3,r4,r5,r6⟩:=br.three;have q1:=hB0.size;go_wp2;refine zX rfl rfl rfl (br.put3 _ _ _) ⟨_,bs,rfl,⟨hbl,_,rfl,?_⟩,zP (zP (zP hb oM 0 _) oM 1 _) oM 2 _⟩;exact(ho.keep (fun k hk=>qZ _ _ k _ _ _ oM) (br.lext3 dE _ _ _)).mono q1
def I8V(w:World)(v:Value)(ls:List Int):Prop:=
 ∃ao n cap,v= .slice ao n cap/\ls.length=n/\n<=cap/\cap<=9223372036854775807/\(∀z∈ls,-128<=z/\z<=127)∧
  (ls≠ []->∃b off,ao=some ⟨b,off,none⟩/\b<w.heap.size/\∀(k:Nat) (z:Int),ls[k]?=some z->w.cell? ⟨b,off+k,none⟩=some (.int .i8 z))
theorem I8V.cell{w:World}{ao:Option Addr}{n cap:Nat}{ls:List Int}(h:I8V w (.slice ao n cap) ls){k:Nat}(hk:k<ls.length):
  ∃b off z,ao=some ⟨b,off,none⟩/\b<w.heap.size/\ls[k]?=some z/\w.cell? ⟨b,off+k,none⟩=some (.int .i8 z)/\-128<=z/\z<=127:=by
 obtain⟨ao',n',cap',h1,h2,h3,h4,h5,h6⟩:=h;injection h1 with e1 e2 e3
 subst e1;obtain⟨b,off,e,hb,hc⟩:=h6 (by rintro rfl;simp at hk);have hz:=xga hk;have:=h5 _ (xgd hz);exact⟨b,off,_,e,hb,hz,hc _ _ hz,this.1,this.2⟩
theorem I8V.below{w w':World}{v:Value}{ls:List Int}(h:I8V w v ls)(hb:Below w.heap.size w w'):I8V w' v ls:=by
 obtain⟨ao,n,cap,h1,h2,h3,h4,h5,h6⟩:=h;refine⟨ao,n,cap,h1,h2,h3,h4,h5,fun hne=>?_⟩;obtain⟨b,off,e,hlt,hc⟩:=h6 hne;exact⟨b,off,e,Nat.lt_of_lt_of_le hlt hb.size,fun k z hz=>(hb.cell (p:=⟨b,off+k,none⟩) hlt).trans (hc k z hz)⟩
def zDN(C:Nat)(ls:List Int):Nat->Nat->Int:=fun i j=>(ls.getD (i*C+j) 0).tmod 10
theorem zLu{C:Nat}{ls:List Int}{i j:Nat}(h:ls.length<=i*C+j):zDN C ls i j=0:=by
 unfold zDN;rw[xgb,List.getElem?_eq_none h];rfl
theorem zNA{z:Int}:(Int.tmod z 10).natAbs<=9:=by
 rcases Int.le_total 0 z with h|h
 ·rw[Int.tmod_eq_emod_of_nonneg h];omega
 ·have:Int.tmod z 10=-(Int.tmod (-z) 10):=by rw[Int.neg_tmod];omega
  rw[this,Int.tmod_eq_emod_of_nonneg oM];omega
theorem zHL(C:Nat)(ls:List Int)(i j:Nat):(zDN C ls i j).natAbs<=9:=zNA
theorem zLc{R C:Nat}{f:Nat->Nat->Int}{i j:Nat}(h:∀b,j<=b->f i b=0):genM R C (zDe f i j)=genM R C (zDe f (i+1) 0):=
 zS fun a _ b _=>by
  unfold zDe;by_cases e:a<i∨(a=i/\b<j)
  ·rw[if_pos e,if_pos oM]
  ·rw[if_neg e]
   by_cases e2:a<i+1∨a=i+1/\b<0
   ·rw[if_pos e2]
    obtain rfl:a=i:=by omega
    exact(h b oM).symm
   ·rw[if_neg e2]
theorem zDP(v:Value)(R C:Nat)(ls:List Int)(w:World)(h:I8V w v ls)(hR:R<=16)(hC:C<=16):
  Calls Tryz.prog 60 #[.int .i64 R,.int .i64 C,v] w (zAc w R C (genM R C (zDN C ls))):=by
 obtain⟨ao,n,cap,rfl,h2,h3,h4,-,-⟩:=id h;have HL:=xgw h2;obtain⟨f,hf⟩:∃f:Nat->Nat->Int,zDN C ls=f:=⟨_,rfl⟩;rw[hf];have HFE:qM (∀i j,f i j=zDN C ls i j):=⟨fun i j=>by rw[<-hf]⟩;clear hf h2;go_enter Tryz.func60,Tryz.ntmps60;go_upto_region 1 with(fail)
 refine zC ?_;intro W0 hW0;obtain⟨hB0,br,hs0⟩:=zN hW0;have e1:min (R:Int) 16=R:=by omega
 have e2:min (C:Int) 16=C:=by omega
 go_wp2_with fail
 refine(zBS R C W0 oM oM).mono ?_;rintro e w2 ⟨u,bs,rfl,⟨hbl,A2,rfl,ho⟩,hb2⟩;obtain⟨oo,on,oc,rfl,-,-,-,-⟩:=id ho.rows;have hlts:=ho.lts;go_upto_region 2 with(fail)
 refine zC ?_;intro W3 hW3;obtain⟨hB3,T7,hs3⟩:=zN hW3;have br:=(br.below hb2).below hB3;have ho:=ho.below hB3;rw[zCK R C f]at ho;have hBt:=nx (nx hB0 hb2) hB3;have q2:=hb2.size;clear hW3 hW0 e1 e2;go_wp2;go_loopw [8] (fun iv wr=>∃i:Nat,i<=R/\iv= .int .i64 i/\Below w.heap.size w wr/\Blk wr w.heap.size 28 #[.int .i64 0,.int .i64 0,.slice none 0 0]/\Blk wr w2.heap.size 28 #[.int .i64 R,.int .i64 C,.slice oo on oc]/\zJ wr W0.heap.size (.slice oo on oc) C bs (genM R C (zDe f i 0))) (fun iv _=>R-(intOf iv).toNat)
 case atStart=>exact⟨0,by omega,rfl,hBt,br,T7,ho⟩
 case round=>
  obtain⟨i,hi,rfl,hb,br,T7,ho⟩:=hrel;obtain⟨f1,f2,f3,f4,f5,f6⟩:=T7.three;by_cases hlt:i<R
  ·go_wp2
   clear f1 f2 f3 f4 f5 f6;go_loopw [9] (fun jv wr=>∃j:Nat,j<=C/\jv= .int .i64 j/\Below w.heap.size w wr/\Blk wr w.heap.size 28 #[.int .i64 0,.int .i64 0,.slice none 0 0]/\Blk wr w2.heap.size 28 #[.int .i64 R,.int .i64 C,.slice oo on oc]/\zJ wr W0.heap.size (.slice oo on oc) C bs (genM R C (zDe f i j))) (fun jv _=>C-(intOf jv).toNat)
   case atStart=>exact⟨0,by omega,rfl,hb,br,T7,ho⟩
   case round=>
    obtain⟨j,hj,rfl,hb,br,T7,ho⟩:=hrel;obtain⟨f1,f2,f3,f4,f5,f6⟩:=T7.three;obtain⟨m,hm⟩:∃m,i*C+j=m:=⟨_,rfl⟩;have hmi:(i:Int)*(C:Int)+(j:Int)=(m:Int):=by rw[<-hm,Int.natCast_add,Int.natCast_mul]
    have hiC:i*C<=16*16:=Nat.mul_le_mul oM hC;have hp0:0<=(i:Int)*(C:Int):=by rw[<-Int.natCast_mul];omega
    have hp1:(i:Int)*(C:Int)<=1000000:=by rw[<-Int.natCast_mul];omega
    have hw1:IntKind.i64.wrap ((i:Int)*(C:Int))=(i:Int)*(C:Int):=IntWalk.i64_in _ oM;have hw2:IntKind.i64.wrap (m:Int)=(m:Int):=IntWalk.i64_in _ oM;have hmm:IntKind.i64.wrap ((i:Int)*(C:Int)+(j:Int))=(m:Int):=by rw[hmi,hw2]
    by_cases hjc:j<C
    ·by_cases hmn:m<n
     ·obtain⟨b,off,z,rfl,hbl1,hz,c1,z1,z2⟩:=h.cell (k:=m) (by rw[HL.out];exact hmn)
      have hcell:=(hb.cell (p:=⟨b,off+m,none⟩) hbl1).trans c1;have hent:Hid (f i j=Int.tmod z 10):=xgw (by rw[HFE.out];unfold zDN;rw[hm,jP hz]);have ht9:(Int.tmod z 10).natAbs<=9:=zNA;obtain⟨t,ht⟩:∃t,Int.tmod z 10=t:=⟨_,rfl⟩;rw[ht]at hent ht9;obtain⟨g,bo,rfl,hg,hbo,hbo2,o1,ho3⟩:=ho.at_ (i:=i) oM;have hio:i<on:=by omega
      have HO3:=xgw ho3;have HM:=xgw hm;have HT:=xgv ht;have lt7:=T7.lt;clear ho3 hm hz hiC c1 ht;go_upto_region 8 with(fail)
      refine zB 19 rfl (RI wr (wr.heap.size) _ 51
        [VP 0 40 w2.heap.size 2,VSl 1 41 g on oc,VN 2 42 i,VP 3 43 g i,VSl 4 44 bo C C,VN 5 45 j,E 6 46 (.slice (some ⟨b,off,none⟩) n cap),VN 7 47 i,VP 8 48 w2.heap.size 1,VN 9 49 C,E 10 50 (.int .i64 ((i:Int)*(C:Int))),VN 11 51 j,VN 12 52 m,VP 13 53 b (off+m),E 14 54 (.int .i8 z),E 15 55 (.int .i8 t),VN 16 56 t,EI 17 57 (t),VP 18 58 bo (j*2)] [] []) kR RI.start (RI.fin kR ?fin1) ?steps1
      case steps1=>
       refine⟨?_,?_,?_,?_,?_,?_,?_,?_,?_,?_,?_,?_,?_,?_,?_,?_,?_,?_,?_,trivial⟩<;>(intro L T wS hL hd hcl hI K hK;try refine zA rfl ?_)
       ·exact xgs (hI.k 7 rfl kR)
       ·have zt0:=hI.e mm0 (hd 0)
        have cc0:=hI.cell f3 oM nom;exact xgu
       ·exact xgs (hI.k 8 rfl kR)
       ·exact xgt (hI.e mm1 (hd 1)) (hI.e mm2 (hd 2))
       ·have zt3:=hI.e mm3 (hd 3)
        have cc0:=hI.cell o1 oM nom;exact xgu
       ·exact xgs (hI.k 9 rfl kR)
       ·exact xgs (hI.k 2 rfl kR)
       ·exact xgs (hI.k 8 rfl kR)
       ·exact xgs (hI.k 7 rfl kR)
       ·have zt8:=hI.e mm8 (hd 8)
        have cc0:=hI.cell f2 oM nom;exact xgu
       ·exact xgt (hI.e mm7 (hd 7)) (hI.e mm9 (hd 9))
       ·exact xgs (hI.k 9 rfl kR)
       ·exact xgt (hI.e yD (hd 10)) (hI.e zAB (hd 11))
       ·exact xgt (hI.e mm6 (hd 6)) (hI.e zAh (hd 12))
       ·have zt13:=hI.e zBv (hd 13)
        have cc0:=hI.cell hcell oM nom;exact xgu
       ·have zt14:=hI.e zBF (hd 14)
        go_simp;exact hK _ _ (hI.y zCN (congrArg (Value.int .i8) HT.out))
       ·have zt15:=hI.e zCN (hd 15)
        go_simp;exact hK _ _ (hI.y zCf (congrArg (Value.int .i64) (IntWalk.i64_in _ oM)))
       ·have zt16:=hI.e zCf (hd 16)
        go_simp;refine(zBg t _ oM oM).mono ?_;exact xgo
       ·exact xgt (hI.e mm4 (hd 4)) (hI.e mm5 (hd 5))
      intro w9 hlw9 hbw9 holdw9 T hT;simp only[Fin,E,EI,VP,VSl,VN,xgg,xgh,xgi,xgj]at hT;obtain⟨va17,ha17,rfl⟩:=hT;simp only[xgl,xgk];obtain⟨pn,pa,pl,pc,px,rfl,hpx⟩:=id ha17;have HPX:=xgw hpx;clear hpx;have ho9:=ho.below hbw9;obtain⟨sn,sa,sl,sc,y1,y2,y3,y4,-⟩:=ho9.cellAt hbo hjc;have hbolt:=hlts i bo hbo;have hset:=ho9.set hbo hjc ha17;clear hw1 hw2 hmi hp0 hp1 hmm ht9;go_wp2;go_roundw
      case rel=>
       rw[<-hent.out,zEy hlt hjc]at hset;exact⟨j+1,by omega,by simp,zP (zP (nx hb hbw9) oM _ _) oM _ _,(qH _ _ _ _ _ _ _ oM).trans (br.below hbw9),(qH _ _ _ _ _ _ _ oM).trans (T7.below hbw9),hset.1⟩
      case measure=>simp[intOf];omega
     ·have hrest:∀b,j<=b->f i b=0:=fun b hb=>by
       rw[HFE.out];exact zLu (by rw[HL.out];omega)
      rw[zLc hrest]at ho;clear hmi hp0 hp1 hiC hm;go_wp2;go_roundw
      case rel=>exact⟨i+1,by omega,by simp,hb,br,T7,ho⟩
      case measure=>simp[intOf];omega
    ·obtain rfl:j=C:=by omega
     rw[zEF]at ho;clear hmi hp0 hp1 hmm hw1 hw2;go_wp2;go_roundw
     case rel=>exact⟨i+1,by omega,by simp,hb,br,T7,ho⟩
     case measure=>simp[intOf];omega
  ·obtain rfl:i=R:=by omega
   rw[zEE]at ho;obtain⟨r1,r2,r3,r4,r5,r6⟩:=br.three;have q1:=hB0.size;go_wp2;refine zX rfl rfl rfl (br.put3 _ _ _) ⟨_,bs,rfl,⟨hbl,_,rfl,?_⟩,zP (zP (zP hb oM 0 _) oM 1 _) oM 2 _⟩;exact(ho.keep (fun k hk=>qZ _ _ k _ _ _ oM) (br.lext3 dE _ _ _)).mono q1
theorem zHt(v:Value)(r c:Nat)(ls:List Int)(w:World)(h:I8V w v ls)(hr:r<=255)(hc:c<=255)(R C:Nat)(hR:R=r%5)(hC:C=c%5):
  Calls Tryz.prog 14 #[.agg #[.int .u8 r,.int .u8 c,v]] w (zAc w R C (genM R C (zDN C ls))):=by
 obtain⟨ao,n,cap,rfl,-,-,-,-,-⟩:=id h;go_enter Tryz.func14,Tryz.ntmps14;go_upto_region 1 with(fail)
 refine zC ?_;intro W0 hW0;obtain⟨hB0,bx1,br,hs0⟩:=qK hW0;obtain⟨c1,c2,c3,c4,c5,c6⟩:=bx1.three;have e1:(r:Int)%5=(R:Int):=by omega
 have e2:(c:Int)%5=(C:Int):=by omega
 have hR4:R<=4:=by omega
 have hC4:C<=4:=by omega
 clear hR hC;go_wp2_with fail
 refine(zDP _ R C ls W0 (h.below hB0) oM oM).mono ?_;rintro e w2 ⟨u,bs,rfl,⟨hbl,A2,rfl,ho⟩,hb2⟩;obtain⟨oo,on,oc,rfl,-,-,-,-⟩:=id ho.rows;have br:=br.below hb2;obtain⟨r1,r2,r3,r4,r5,r6⟩:=br.three;have hBt:=nx hB0 hb2;have q1:=hB0.size;clear c1 c2 c3 c4 c5 c6;go_wp2;refine zX rfl rfl rfl (br.put3 _ _ _) ⟨_,bs,rfl,⟨hbl,_,rfl,?_⟩,zP (zP (zP hBt oM 0 _) oM 1 _) oM 2 _⟩;exact(ho.keep (fun k hk=>qZ _ _ k _ _ _ oM) (br.lext3 dE _ _ _)).mono q1

def zQv(F:Nat->Nat->Int)(i j:Nat)(k:Int):Nat->Nat->Int:=fun a b=>if b=i then F a i+k*F a j else F a b
def zQQ(F:Nat->Nat->Int)(i j:Nat)(k:Int)(c:Nat):Nat->Nat->Int:=fun a b=>if a=i/\b<c then F i b+k*F j b else F a b
def zQP(F:Nat->Nat->Int)(i j:Nat)(k:Int)(c:Nat):Nat->Nat->Int:=fun a b=>if b=i/\a<c then F a i+k*F a j else F a b
def rnds:List (List Op × List Op)->W5->W5
 | [],z=>z
 |p::L,z=>rnds L (rnd z p.1 p.2)
def okL(R C:Nat)(L:List (List Op × List Op)):Prop:=∀p∈L,qJ R p.1/\qJ C p.2
theorem okL.cons{R C:Nat}{p:List Op × List Op}{L:List (List Op × List Op)}(h1:qJ R p.1)(h2:qJ C p.2)(h:okL R C L):okL R C (p::L):=fun q hq=>by
 rcases List.mem_cons.1 hq with rfl|hq
 ·exact⟨h1,h2⟩
 ·exact h q hq
theorem Rel.rnds{R C:Nat}{A:Nat->Nat->Int}{L:List (List Op × List Op)}(hL:okL R C L):∀{z:W5},Rel R C A z->Rel R C A (rnds L z):=by
 induction L with
 |nil=>intro z h;exact h
 |cons p L ih=>
  intro z h;exact ih (fun q hq=>hL q (List.mem_cons_of_mem _ hq)) (h.rnd (hL p (List.mem_cons_self ..)).1 (hL p (List.mem_cons_self ..)).2)
end Go.Proofs.YtgnmdddaiefooaaGreat
