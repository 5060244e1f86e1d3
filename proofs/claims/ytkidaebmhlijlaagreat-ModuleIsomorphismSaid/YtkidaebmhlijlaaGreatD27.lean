/- Joined. -/
import Derived.Laws.EntriesVeiled
import Derived.Test.YtkidaebmhlijlaaGreatD22
import Derived.Test.YtkidaebmhlijlaaGreatD26
set_option linter.unusedVariables false
set_option linter.unusedSimpArgs false
set_option linter.unusedSectionVars false
set_option maxHeartbeats 16000000
set_option maxRecDepth 100000
variable{cs:Array Go.Value}{M:List (List Int)}{C R e h k m p q r s:Nat}{A G P Q X:Nat->Nat->Int}
namespace Go.Proofs.YtkidaebmhlijlaaGreat
open Go.RowKit
theorem zLo(v:Value)(R C:Nat)(M:List (List Int))(w:World)(h:zAC w v R C M)(hF:zBU R C M):
  CPq 85 #[v] w fun e w'=>∃v,e= .returned v/\v= .bool true/\BWq w w':=
 (zDR v R C M w h).mono fun e w' h=>⟨_,h.1,by rw[decide_eq_true hF.valid],h.2⟩
def qAM(R C:Nat)(A:Nat->Nat->Int):Prop:=∀x,zZM R C A x->qG R C A x
def zIW(R C:Nat)(A:Nat->Nat->Int)(w:World)(v:Value):Prop:=∃r c H,zJI R C r c A H/\zAC w v r C (genM r C H)
theorem zH7(R C:Nat)(A:Nat->Nat->Int):zAK (zIW R C A):=fun _ _ _ e ⟨r,c,H,h1,h2⟩=>⟨r,c,H,h1,h2.below e⟩
theorem zQL{M0:Nat}(hM1:1<=M0)(v:Value)(M:List (List Int))(R C:Nat)(w:World)(h:zIw w v R C M)(hF:zBU R C M)(hR:R<=6)(hC:C<=1000000)(hg:gk (esr q R) M0<BD)(hA:leM M0 R C (ent M))(hrk:RkB q R C ⟨ent M,idf,idf⟩):
  CPq 59 #[v] w fun e w'=>∃v r c H,e= .returned v/\zJI R C r c (ent M) H/\zAC w' v r C (genM r C H)/\BWq w w':=by
 have hB:=zKO;have hB0:leB M0 R C 0 ⟨ent M,idf,idf⟩:=⟨hA,fun _ _ b hb=>oM,fun _ _ b hb=>oM⟩;have hE:=zSG (r:=q) (Cs:=C) (x0:=⟨ent M,idf,idf⟩) (Ct:=0) hR hM1 hg hrk;have hMB:M0<BD:=zK (zKD _ hM1) hg;refine(zKe hB v M R C w h hF oM hC (hA.ok hMB) (zGN (z:=1) dE).sm (x0:=⟨ent M,idf,idf⟩) rfl hE (zPN hB0 hM1)).mono ?_;rintro ee w' ⟨v,y,L,rfl,hJ,hv,hb⟩;obtain⟨hJ,hr⟩:=JH.fin hJ;have hl:=zLu (hJ.lok (xgf _)) (fun a ha hn=>by rw[zGY (hJ.zero a ha hn)];decide);have hf:=zLX hJ hr hl;refine⟨v,L.length,_,_,rfl,hf.lat,?_,hb⟩;rw[zI5 (n:=L.length) sI]at hv;have e:genM L.length C (fun a b=>y.s ((L.map (·.1)).getD a 0) b)=genM L.length C fun a b=>y.s (zG1 R C y.s L a) b:=zAG fun i hi j _=>by
  rw[zGd hi];unfold zBx;rw[xgb,List.getElem?_map,xgb,xga hi];rfl
 rw[e]at hv;exact hv
theorem zSJ(hR:R<=6)(hC:C<=3):esr C R<=34:=by
 have h:∀R,R<7->∀C,C<4->esr C R<=34:=by decide
 exact h R oM C oM
theorem zW6(h1:1<=h)(he:2*h<=2^e)(he2:e<=2000)(v:Value)(M:List (List Int))(R C:Nat)(w:World)(hm:zAC w v R C M)(hF:zBU R C M)(hR:R<=6)(hC:C<=3)(hA:leM h R C (ent M)):
  CPq 59 #[v] w fun e w'=>∃v,e= .returned v/\zIW R C (ent M) w' v/\BWq w w':=
 (zQL (q:=C) h1 v M R C w hm.off hF hR oM (zK (zEY h1 (zSJ hR hC)) (zPF (k:=34) he (by rw[zEV];omega))) hA (zWV fun k hk=>hk.cols)).mono fun e w' ⟨v,r,c,H,h2,hl,hm,hb⟩=>⟨v,h2,⟨r,c,H,hl,hm⟩,hb⟩
structure HNw(m C e:Nat)(M:List (List Int)):Prop where
 fit:zBU m C M
 hnf:∃r c,Hnf C m r c (ent M)
 bd:leM (2^e-1) m C (ent M)
theorem HNw.ok(h:HNw m C e M)(hm:m<=4)(he:e<=10000)(hk:k<=2^e){x:Nat->Int}(hx:∀b,b<C->(x b).natAbs<=k):zZc BD m C (ent M) x:=by
 obtain⟨r,c,hH⟩:=h.hnf;have hp:1<=2^e:=qR oM;exact zS5 hH hm he hk oM h.bd hx
theorem HNw.ans(h:HNw m C e M)(x:Nat->Int):decide (∀z∈qZ C (zE3 C (ent M) x m),z=0)=true↔qG m C (ent M) x:=by
 obtain⟨r,c,hH⟩:=h.hnf;rw[decide_eq_true_iff,<-zM7 hH x];constructor
 ·intro h b hb
  exact h _ (xgd (yE hb))
 intro h z hz;obtain⟨b,hb,e⟩:=qW hz;rw[qA]at hb;have e2:(qZ C (zE3 C (ent M) x m))[b]?=some z:=by rw[xga (by rw[qA];exact hb),e]
 rw[yE hb]at e2;injection e2 with e2
 rw[<-e2];exact h b hb
theorem zKs(hv vv:Value)(M:List (List Int))(x:Nat->Int)(w:World)(h:zAC w hv m C M)(hH:HNw m C e M)(hx:zAv w vv (qZ C x))(hm:m<=4)(hC:C<=1000000)(he:e<=10000)(hk:k<=2^e)(hb:∀b,b<C->(x b).natAbs<=k){ans:Bool}(hans:ans=true↔qG m C (ent M) x):
  CPq 87 #[hv,vv] w fun e w'=>∃v,e= .returned v/\v= .bool ans/\BWq w w':=by
 have h0:=xgv h;obtain⟨A,rfl,h⟩:=h;obtain⟨ao,n,cap,rfl,-⟩:=id h;obtain⟨xo,xn,xc,rfl,-⟩:=id hx;have hD:decide (∀z∈qZ C (zE3 C (ent M) x m),z=0)=ans:=Bool.eq_iff_iff.2 ((hH.ans x).trans hans.symm);have HD:=xgv hD;have HOK:=xgv (hH.ok hm he hk hb);have HF:=xgv hH.fit;have HX:=xgv hx;have HB:=xgv (zWR (a:=0) dE);clear h hx hD hH hb hans hk;go_enter Tryz.func87,Tryz.ntmps87;go_upto_region 1 with(fail)
 refine zD ?_;intro W0 hW0;obtain⟨hB0,bx,hs0⟩:=qL hW0;have c1:=bx.three;clear hW0;go_wp2_with fail
 refine(zIc zKO _ _ m C M x W0 (h0.out.below hB0) HF.out (HX.out.below hB0) oM hC HOK.out HB.out).mono ?_;rintro e w1 ⟨qv,rv,rfl,hq,hr,hb1⟩;have hB:=nx hB0 hb1;clear c1;obtain⟨ro,rn,rc,rfl,-⟩:=id hr;obtain⟨qo,qn,qc,rfl,-⟩:=id hq;go_wp2_with fail
 refine(zMs _ _ w1 hr).mono ?_;rintro e w2 ⟨rfl,hb2⟩;rw[HD.out];have hB2:=nx hB hb2;go_wp2;go_ret;exact⟨_,rfl,rfl,hB2⟩
theorem zHL(av hv:Value)(N M:List (List Int))(w:World)(ha:zAC w av R C N)(hF:zBU R C N)(h:zAC w hv m C M)(hH:HNw m C e M)(hm:m<=4)(hR:R<=1000000)(hC:C<=1000000)(he:e<=10000)(hk:k<=2^e)(hb:leM k R C (ent N)){ans:Bool}(hans:ans=true↔∀i,i<R->qG m C (ent M) (ent N i)):
  CPq 69 #[av,hv] w fun e w'=>∃v,e= .returned v/\v= .bool ans/\BWq w w':=by
 have H0:=xgv h;obtain⟨A,rfl,h⟩:=h;obtain⟨ao,n,cap,rfl,-⟩:=id h;obtain⟨A2,rfl,h2⟩:=ha;obtain⟨bo,n2,bcap,rfl,e2,-⟩:=id h2;obtain rfl:R=n2:=by rw[<-e2,hF.1]
 have HH:=xgv hH;have HF:=xgv hF;have HN:=xgv h2;have HK:=xgv hk;have HB:=xgv hb;have HS:=xgv hans;clear h h2 hH hF hk hb hans e2;go_enter Tryz.func69,Tryz.ntmps69;go_upto_region 1 with(fail)
 refine zD ?_;intro W0 hW0;obtain⟨hB0,bx1,bx2,hs0⟩:=zAj hW0;have c1:=bx1.three;clear hW0;go_wp2;go_loopw [10] (fun iv wr=>∃i:Nat,i<=R/\iv=niq i/\BWq w wr/\Blk wr (w.heap.size+1) 32 #[niq m,niq C,.slice ao n cap]/\jZ (∀a,a<i->qG m C (ent M) (ent N a))) (fun iv _=>R-(intOf iv).toNat)
 case atStart=>exact⟨0,oM,rfl,hB0,bx2,⟨fun a ha=>oM⟩⟩
 obtain⟨i,hi,rfl,hb,bx2,hz⟩:=hrel;by_cases hlt:i<R
 ·obtain⟨b,ra,rn,rc,zs,rfl,hbl,hzk,q1,hzv⟩:=(HN.out.below hb).row (k:=i) (by rw[HF.out.1];exact hlt)
  have hzv:zAv wr (.slice ra rn rc) (qZ C (ent N i)):=by rw[<-HF.out.row_eq hzk];exact hzv
  have d1:=bx2.three;obtain⟨a1,ha1⟩:∃a1:Bool,a1=true↔qG m C (ent M) (ent N i):=by
   by_cases hp:qG m C (ent M) (ent N i)
   ·exact⟨true,by simp[hp]⟩
   exact⟨false,by simp[hp]⟩
  have HA1:=xgv ha1;clear hzk ha1;go_wp2_with fail
  refine(zKs _ _ M (ent N i) wr (H0.out.below hb) HH.out hzv hm hC he HK.out (fun b hb=>HB.out i hlt b hb) HA1.out).mono ?_;rintro e w2 ⟨v,rfl,rfl,hb2⟩;have hb':=nx hb hb2;have bx2:=bx2.below hb2;clear d1 q1;cases a1 with
  | true=>
   go_wp2;go_roundw
   case rel=>
    refine⟨i+1,oM,by simp,hb',bx2,⟨fun a ha=>?_⟩⟩;rcases zG a i with h1|h1
    exact hz.out a h1;obtain rfl:a=i:=oM;have:=HA1.out;simpa using this
   case measure=>exact meq
  | false=>
   have hf:ans=false:=by
    cases ans with
    |false=>rfl
    |true=>exact absurd (HA1.out.2 (HS.out.1 rfl i hlt)) dE
   subst hf;go_wp2;go_ret;exact⟨_,rfl,rfl,hb'⟩
 obtain rfl:i=R:=oM;have hf:ans=true:=HS.out.2 hz.out;subst hf;go_wp2;go_ret;exact⟨_,rfl,rfl,hb⟩
abbrev tBm:TypeId:=93
abbrev tCn:TypeId:=90
theorem Tryz.sizeBm:(Tryz.prog.info? tBm).map (·.size)=some 6:=by kernel_rfl
theorem Tryz.sizeCn:(Tryz.prog.info? tCn).map (·.size)=some 2:=by kernel_rfl
section
variable {w:World} {g:Nat} {t:TypeId} {c0 c1 c2 c3 c4 c5:Value}
theorem Blk.put6(h:Blk w g t #[c0,c1,c2,c3,c4,c5])(x0 x1 x2 x3 x4 x5:Value):Blk ((((((w.setCell ⟨g,0,none⟩ x0).setCell ⟨g,1,none⟩ x1).setCell ⟨g,2,none⟩ x2).setCell ⟨g,3,none⟩ x3).setCell ⟨g,4,none⟩ x4).setCell ⟨g,5,none⟩ x5) g t #[x0,x1,x2,x3,x4,x5]:=by
 simpa using(((((h.set_ 0 x0).set_ 1 x1).set_ 2 x2).set_ 3 x3).set_ 4 x4).set_ 5 x5
theorem Blk.lext6(h:Blk w g t cs)(hne:t≠tU)(x0 x1 x2 x3 x4 x5:Value):zBw w ((((((w.setCell ⟨g,0,none⟩ x0).setCell ⟨g,1,none⟩ x1).setCell ⟨g,2,none⟩ x2).setCell ⟨g,3,none⟩ x3).setCell ⟨g,4,none⟩ x4).setCell ⟨g,5,none⟩ x5):=
 (h.lext3 hne x0 x1 x2).trans ((((h.set_ 0 x0).set_ 1 x1).set_ 2 x2).lext hne 3 _|>.trans (((((h.set_ 0 x0).set_ 1 x1).set_ 2 x2).set_ 3 x3).lext hne 4 _|>.trans ((((((h.set_ 0 x0).set_ 1 x1).set_ 2 x2).set_ 3 x3).set_ 4 x4).lext hne 5 _)))
theorem zVb(w:World)(g k:Nat)(x0 x1 x2 x3 x4 x5:Value)(hk:k≠g):((((((w.setCell ⟨g,0,none⟩ x0).setCell ⟨g,1,none⟩ x1).setCell ⟨g,2,none⟩ x2).setCell ⟨g,3,none⟩ x3).setCell ⟨g,4,none⟩ x4).setCell ⟨g,5,none⟩ x5).heap[k]?=w.heap[k]?:=
 (zY _ g 5 k _ hk).trans ((zY _ g 4 k _ hk).trans ((zY _ g 3 k _ hk).trans (zAf w g k x0 x1 x2 hk)))
theorem zYJ{B:Nat}{a:World}(h:Below B a w)(hp:B<=g)(x0 x1 x2 x3 x4 x5:Value):Below B a ((((((w.setCell ⟨g,0,none⟩ x0).setCell ⟨g,1,none⟩ x1).setCell ⟨g,2,none⟩ x2).setCell ⟨g,3,none⟩ x3).setCell ⟨g,4,none⟩ x4).setCell ⟨g,5,none⟩ x5):=yJ (yJ (yJ (yJ (yJ (yJ h hp _ _) hp _ _) hp _ _) hp _ _) hp _ _) hp _ _
theorem zAC.keep6{v:Value}{R C:Int}(h:zAC w v R C M)(hb:Blk w g t cs)(h1:t≠tR)(h2:t≠tI)(h3:t≠tU)(x0 x1 x2 x3 x4 x5:Value):zAC ((((((w.setCell ⟨g,0,none⟩ x0).setCell ⟨g,1,none⟩ x1).setCell ⟨g,2,none⟩ x2).setCell ⟨g,3,none⟩ x3).setCell ⟨g,4,none⟩ x4).setCell ⟨g,5,none⟩ x5) v R C M:=by
 obtain⟨A,rfl,h⟩:=h;exact⟨A,rfl,h.off hb h1 h2 (fun k hk=>zVb _ _ k _ _ _ _ _ _ hk) (hb.lext6 h3 _ _ _ _ _ _)⟩
end
theorem zEX(b1 b2 R C Q D:Nat)(A1 A2:Value)(M N:List (List Int))(w:World)(h1:zAC w (.agg #[niq R,niq C,A1]) R C M)(hF1:zBU R C M)(h2:zAC w (.agg #[niq Q,niq D,A2]) Q D N)(hF2:zBU Q D N)
  (k1:Blk w b1 32 #[niq R,niq C,A1]) (k2:Blk w b2 32 #[niq Q,niq D,A2]) {ans:Bool} (hans:((C:Int)==(D:Int))=ans):
  CPq 96 #[ptq b1 0,ptq b2 0] w fun e w'=>∃v,e= .returned v/\v= .bool ans/\BWq w w':=by
 have H1:=xgv h1;have H2:=xgv h2;have HF1:=xgv hF1;have HF2:=xgv hF2;clear h1 h2 hF1 hF2;have c1:=k1.three;go_enter Tryz.func96,Tryz.ntmps96;go_wp2_with fail
 refine(zLo _ R C M w H1.out HF1.out).mono ?_;rintro e w1 ⟨v,rfl,rfl,hb1⟩;have k1:=k1.below hb1;have k2:=k2.below hb1;clear c1;have d1:=k2.three;go_wp2_with fail
 refine(zLo _ Q D N w1 (H2.out.below hb1) HF2.out).mono ?_;rintro e w2 ⟨v,rfl,rfl,hb2⟩;have k1:=k1.below hb2;have k2:=k2.below hb2;clear d1;have c1:=k1.three;have d1:=k2.three;go_wp2;go_ret;refine⟨_,rfl,?_,nx hb1 hb2⟩;rw[<-hans];rfl
theorem zFT(x1 x2 x3 y1 y2 y3:Value)(w:World):
  CPq 57 #[.agg #[x1,x2,x3],.agg #[y1,y2,y3]] w fun e w'=>e= .returned (.agg #[.func (.func 96) #[] #[ptq w.heap.size 0,ptq (w.heap.size+1) 0],niq 50])∧
   Blk w' w.heap.size 32 #[x1,x2,x3]/\Blk w' (w.heap.size+1) 32 #[y1,y2,y3]/\BWq w w':=by
 have hmf:∀(fn:Fn) (first cap:Array Value) (w:World),(Instr.makeFunc fn first cap).run Tryz.prog w= .ok (.func fn first cap) w:=fun _ _ _ _=>rfl
 go_enter Tryz.func57,Tryz.ntmps57;go_upto_region 1 with(fail)
 refine zD ?_;intro W0 hW0;obtain⟨hB0,bx1,bx2,br,hs0⟩:=zBk hW0;clear hW0;have q1:=br.lt;have r1:=br.two;go_wp2;refine bodyPost_ret (results_cell_row rfl _ _ (w.heap.size+1+1) _ _ _ _ rfl (br.put2 _ _) Tryz.underlying90 rfl (by rw[Tryz.sizeCn];rfl)) rfl ⟨rfl,(yO _ _ 0 1 _ _ _ oM).trans bx1,(yO _ _ 0 1 _ _ _ oM).trans bx2,yJ (yJ hB0 oM 0 _) oM 1 _⟩
theorem zDP{g:FuncId}(hg:g=96∨g=77)(caps:Array Value)(b c:Nat)(er:Int)(w:World)(hb:Blk w b tCn #[.func (.func g) #[] caps,niq er]){ans:Bool}{k:Int}(hk:(if ans=true then 0 else er)=k)
  (hc:∀(W:World),BWq w W->CPq g caps W fun e w'=>∃v,e= .returned v/\v= .bool ans/\BWq W w'):
  CPq 56 #[slq b 1 c] w fun e w'=>∃v,e= .returned v/\v=niq k/\BWq w w':=by
 have HK:=xgv hk;clear hk;have HC:=xgv hc;clear hc;go_enter Tryz.func56,Tryz.ntmps56;go_wp2;go_loopw [7] (fun iv wr=>∃i:Nat,i<=1/\iv=niq i/\BWq w wr/\jZ (i=1->ans=true)) (fun iv _=>1-(intOf iv).toNat)
 case atStart=>exact⟨0,oM,rfl,zA _ _,⟨fun h=>oM⟩⟩
 obtain⟨i,hi,rfl,hB,hz⟩:=hrel;by_cases h0:i=0
 ·subst h0
  have hb:=hb.below hB;have q1:=hb.two;go_upto_region 4 with(fail)
  refine zD ?_;intro W1 hW1;obtain⟨hB1,T4,hs1⟩:=qL hW1;have d1:=T4.two;have hB':=nx hB hB1;have HC:=xgv (HC.out W1 hB');clear q1 hW1;rcases hg with rfl|rfl<;>(
   go_wp2_with fail
   refine HC.out.mono ?_;rintro e w2 ⟨v,rfl,rfl,hb2⟩;have hB2:=nx hB' hb2;have T4:=T4.below hb2;clear d1;have d1:=T4.two;cases ans with
   |true=>
    go_wp2;go_roundw
    case rel=>exact⟨1,oM,by simp,hB2,⟨by simp⟩⟩
    case measure=>simp[intOf]
   |false=>
    go_wp2;go_ret;exact⟨_,rfl,by rw[<-HK.out];rfl,hB2⟩)
 obtain rfl:i=1:=oM;have ht:=hz.out rfl;subst ht;go_wp2;go_ret;exact⟨_,rfl,by rw[<-HK.out];rfl,hB⟩
theorem zGZ(v1 v2:Value)(R C Q D:Nat)(M N:List (List Int))(w:World)(h1:zAC w v1 R C M)(h2:zAC w v2 Q D N)
  (k1:∀(v:Value) (w:World),zAC w v R C M->CPq 59 #[v] w fun e w'=>∃v,e= .returned v/\zIW R C (ent M) w' v/\BWq w w')
  (k2:∀(v:Value) (w:World),zAC w v Q D N->CPq 59 #[v] w fun e w'=>∃v,e= .returned v/\zIW Q D (ent N) w' v/\BWq w w'):
  CPq 61 #[v1,v2] w fun e w'=>∃(r1:Nat) (o1:Option Addr) (n1 c1:Nat) (r2:Nat) (o2:Option Addr) (n2 c2:Nat),e= .returned (.agg #[niq r1,niq C,.slice o1 n1 c1,niq r2,niq D,.slice o2 n2 c2])/\zIW R C (ent M) w' (.agg #[niq r1,niq C,.slice o1 n1 c1])/\zIW Q D (ent N) w' (.agg #[niq r2,niq D,.slice o2 n2 c2])/\BWq w w':=by
 have H1:=xgv h1;have H2:=xgv h2;obtain⟨A1,rfl,h1⟩:=h1;obtain⟨A2,rfl,h2⟩:=h2;obtain⟨ao,n1,cap,rfl,-⟩:=id h1;obtain⟨bo,n2,bcap,rfl,-⟩:=id h2;have K1:=xgv k1;have K2:=xgv k2;clear h1 h2 k1;go_enter Tryz.func61,Tryz.ntmps61;go_upto_region 1 with(fail)
 refine zD ?_;intro W0 hW0;obtain⟨hB0,bx1,bx2,br,hs0⟩:=zBk hW0;obtain⟨c1,c2,c3,c4,c5,c6⟩:=bx1.three;have d1:=bx2.three;clear hW0;have hl1:=zH7 R C (ent M);have hl2:=zH7 Q D (ent N);refine yP 4 [pcD 1 [] (zIW R C (ent M)),pcD 3 [] (zIW Q D (ent N))] ?_;refine sRd ?_;refine sRc (fun wS hI Gk hG=>by go_simp;exact ck hG (K1.out _ _ ((H1.out.below hB0).below hI.bel))) (fun va1 _=>?_);refine sRd ?_;refine sRc (fun wS hI Gk hG=>by go_simp;exact ck hG (K2.out _ _ ((H2.out.below hB0).below hI.bel))) (fun va3 _=>?_);refine sRe ?_;intro w2 hbw2 ha1 ha3;obtain⟨r1,κ1,G1,hl1,hm1⟩:zIW R C (ent M) w2 va1:=ha1;obtain⟨r2,κ2,G2,hl2,hm2⟩:zIW Q D (ent N) w2 va3:=ha3;obtain⟨x1,x2,x3,rfl⟩:=hm1.agg;obtain⟨y1,y2,y3,rfl⟩:=hm2.agg;have br:=br.below hbw2;have hB2:=nx hB0 hbw2;clear c1 c2 c3 c4 c5 c6 d1;have q1:=br.six;have z0:=br.frozen 0;have z1:=br.frozen 1;have z2:=br.frozen 2;have z3:=br.frozen 3;have z4:=br.frozen 4;have z5:=br.frozen 5;have HL1:=xgv hl1;have HL2:=xgv hl2;have HM1:=xgv hm1;have HM2:=xgv hm2;clear hl1 hl2 hm1 hm2;go_wp2;refine bodyPost_ret (results_cell_row rfl _ _ (w.heap.size+1+1) _ _ _ _ rfl (br.put6 _ _ _ _ _ _) Tryz.underlying93 rfl (by rw[Tryz.sizeBm];rfl)) rfl ⟨_,_,_,_,_,_,_,_,rfl,⟨_,_,_,HL1.out,HM1.out.keep6 br dE dE dE _ _ _ _ _ _⟩,⟨_,_,_,HL2.out,HM2.out.keep6 br dE dE dE _ _ _ _ _ _⟩,zYJ hB2 oM _ _ _ _ _ _⟩
def zY7(x1 x2 x3 y1 y2 y3:Value):World->Value->Prop:=fun w v=>∃p q,v= .agg #[.func (.func 96) #[] #[ptq p 0,ptq q 0],niq 50]/\Blk w p 32 #[x1,x2,x3]/\Blk w q 32 #[y1,y2,y3]
def zZp(x1 x2 x3 y1 y2 y3:Value):World->Value->Prop:=fun w v=>∃g p q,v=slq g 1 1/\Blk w g tCn #[.func (.func 96) #[] #[ptq p 0,ptq q 0],niq 50]/\Blk w p 32 #[x1,x2,x3]/\Blk w q 32 #[y1,y2,y3]
theorem zN5(x1 x2 x3 y1 y2 y3:Value):zAK (zY7 x1 x2 x3 y1 y2 y3):=fun _ _ _ e ⟨p,q,h1,h2,h3⟩=>⟨p,q,h1,h2.below e,h3.below e⟩
theorem zN4(x1 x2 x3 y1 y2 y3:Value):zAK (zZp x1 x2 x3 y1 y2 y3):=fun _ _ _ e ⟨g,p,q,h1,h2,h3,h4⟩=>⟨g,p,q,h1,h2.below e,h3.below e,h4.below e⟩
theorem zZQ(x1 x2 x3 y1 y2 y3:Value)(w:World):
  CPq 57 #[.agg #[x1,x2,x3],.agg #[y1,y2,y3]] w fun e w'=>∃v,e= .returned v/\zY7 x1 x2 x3 y1 y2 y3 w' v/\BWq w w':=
 (zFT x1 x2 x3 y1 y2 y3 w).mono fun e w' ⟨h1,h2,h3,h4⟩=>⟨_,h1,⟨_,_,rfl,h2,h3⟩,h4⟩
theorem zON{Q D e k:Nat}(v1 v2:Value)(M N:List (List Int))(w:World)(h1:zAC w v1 R C M)(h2:zAC w v2 Q D N)(hF1:zBU R C M)(hF2:zBU Q D N)(hR:R<=1000000)(hC:C<=4)(hD:C=D)
  (k2:∀(v:Value) (w:World),zAC w v Q D N->CPq 59 #[v] w fun e w'=>∃v,e= .returned v/\zIW Q D (ent N) w' v/\BWq w w')
  (hw:∀r c G,zJI Q C r c (ent N) G->HNw r C e (genM r C G)) (he:e<=10000) (hk:k<=2^e) (hb:leM k R C (ent M)) {ans:Bool} (hans:ans=true↔∀i,i<R->qG Q C (ent N) (ent M i)):
  CPq 25 #[v1,v2] w fun e w'=>∃v,e= .returned v/\v= .bool ans/\BWq w w':=by
 subst hD;have H1:=xgv h1;have H2:=xgv h2;obtain⟨A1,rfl,h1⟩:=h1;obtain⟨A2,rfl,h2⟩:=h2;obtain⟨ao,n1,cap,rfl,-⟩:=id h1;obtain⟨bo,n2,bcap,rfl,-⟩:=id h2;have HF1:=xgv hF1;have HF2:=xgv hF2;have HN:=xgv hans;have K2:=xgv k2;have HW:=xgv hw;have HK:=xgv hk;have HB:=xgv hb;have HAA:jZ (((C:Int)==(C:Int))=true):=⟨by simp⟩;clear h1 h2 hF1 hF2 hans hw hk hb;go_enter Tryz.func25,Tryz.ntmps25;go_upto_region 1 with(fail)
 refine zD ?_;intro W0 hW0;obtain⟨hB0,bx1,bx2,hs0⟩:=zAj hW0;have c1:=bx1.three;have d1:=bx2.three;clear hW0;have hl1:=zN5 (niq R) (niq C) (.slice ao n1 cap) (niq Q) (niq C) (.slice bo n2 bcap);have hl2:=zN4 (niq R) (niq C) (.slice ao n1 cap) (niq Q) (niq C) (.slice bo n2 bcap);have hl3:=zH7 Q C (ent N);refine zBl [pcD 2 [] (zY7 (niq R) (niq C) (.slice ao n1 cap) (niq Q) (niq C) (.slice bo n2 bcap)),pcD 3 [2] (zZp (niq R) (niq C) (.slice ao n1 cap) (niq Q) (niq C) (.slice bo n2 bcap)),pcD 4 [3] (fun _ v=>v=niq 0),pcD 9 [] (zIW Q C (ent N)),pcD 10 [9] (fun _ v=>v= .bool ans)] ?_;refine sRd ?_;refine sRc (fun wS hI Gk hG=>by go_simp;exact ck hG (zZQ _ _ _ _ _ _ _)) (fun va2 _=>?_);refine sRc (fun wS hI ha2 Gk hG=>?_) (fun va3 _=>?_)
 ·obtain⟨p,q,rfl,b1,b2⟩:zY7 (niq R) (niq C) (.slice ao n1 cap) (niq Q) (niq C) (.slice bo n2 bcap) wS va2:=ha2
  go_simp;exact⟨hG _ _ ⟨_,p,q,rfl,qX _ _ _,b1.below ((zA _ _).alloc (xgf _) _),b2.below ((zA _ _).alloc (xgf _) _)⟩,(zA _ _).alloc (xgf _) _⟩
 refine sRc (fun wS hI ha3 Gk hG=>?_) (fun _ hv=>?_)
 ·obtain⟨g3,p3,q3,rfl,gb3,kp3,kq3⟩:=ha3
  go_simp;refine(zDP (.inl rfl) _ g3 1 50 _ gb3 (ans:=true) rfl (fun W hW=>zEX p3 q3 R C Q C _ _ M N W (((H1.out.below hB0).below hI.bel).below hW) HF1.out (((H2.out.below hB0).below hI.bel).below hW) HF2.out (kp3.below hW) (kq3.below hW) HAA.out)).mono ?_;rintro e wa ⟨v,rfl,hv,hba⟩;exact⟨_,rfl,hG _ _ hv,hba⟩
 obtain⟨_,-,rfl⟩:=hv;refine sRd ?_;refine sRc (fun wS hI Gk hG=>by go_simp;exact ck hG (K2.out _ _ ((H2.out.below hB0).below hI.bel))) (fun va9 _=>?_);refine sRc (fun wS hI ha9 Gk hG=>?_) (fun _ hv=>?_)
 ·obtain⟨r9,κ9,G9,l9,m9⟩:=ha9
  go_simp;refine(zHL _ _ M (genM r9 C G9) _ ((H1.out.below hB0).below hI.bel) HF1.out m9 (HW.out r9 κ9 G9 l9) (zB l9.hb.le_cols hC) hR oM he HK.out HB.out (HN.out.trans (forall_congr' fun i=>forall_congr' fun _=>(l9.hb.iff _).trans (qG.congr (fun a ha b hb=>(yR ha hb).symm) _)))).mono ?_;rintro e wa ⟨v,rfl,hv,hba⟩;exact⟨_,rfl,hG _ _ hv,hba⟩
 obtain⟨_,-,rfl⟩:=hv;refine sRd ?_;refine sRe ?_;intro w1 hbw1 ha2 ha3 _ ha9 _;have hB4:=nx hB0 hbw1;go_wp2;go_ret;exact⟨_,rfl,rfl,hB4⟩

def zEp(C:Nat)(M N:List (List Int))(i t:Nat):Int:=zFw C (ent M) (ent N i) t
theorem zP9(C m k:Nat)(M N:List (List Int))(j:Nat)(hj:j<k):(genM k m (zEp C M N)).take (j+1)=(genM k m (zEp C M N)).take j++ [qZ m (zFw C (ent M) (ent N j))]:=by
 rw[jD];simp[genM,qZ,hj,zEp]
theorem zMU(o1:Option Addr)(n1 c1:Nat)(o2:Option Addr)(n2 c2:Nat)(M N:List (List Int))(w:World)(h1:zAC w (.agg #[.int .i64 m,.int .i64 C,.slice o1 n1 c1]) m C M)(hH:HNw m C e M)(h2:zAC w (.agg #[.int .i64 k,.int .i64 C,.slice o2 n2 c2]) k C N)(hF:zBU k C N)(hm:m<=4)(hk:k<=1000000)(hC:C<=1000000)(he:e<=10000)(hh:h<=2^e)(hb:leM h k C (ent N)):
  CPq 73 #[.agg #[.int .i64 m,.int .i64 C,.slice o1 n1 c1,.int .i64 k,.int .i64 C,.slice o2 n2 c2]] w fun e w'=>∃u,e= .returned u/\zAC w' u k m (genM k m (zEp C M N))/\BWq w w':=by
 have H1:=xgv h1;obtain⟨A2,e2,h2⟩:=h2;injection e2 with e2
 simp only[Array.mk.injEq,List.cons.injEq]at e2;obtain⟨-,-,rfl,-⟩:=e2;have hn2:=h2.len;obtain rfl:k=n2:=by
  obtain⟨_,_,_,e,g1,-⟩:=id h2;injection e with _ e _
  rw[e,<-g1,hF.1]
 have H2:=xgv h2;have HH:=xgv hH;have HF:=xgv hF;have HHH:=xgv hh;have HB:=xgv hb;have HB0:=xgv (zWR (a:=0) dE);obtain⟨T,hT⟩:∃T:Nat->List (List Int),∀j,(genM k m (zEp C M N)).take j=T j:=⟨_,fun _=>rfl⟩;have HT0:jZ (T 0= []):=⟨by rw[<-hT];rfl⟩;have HTS:jZ (∀j,j<k->T (j+1)=T j++ [qZ m (zFw C (ent M) (ent N j))]):=⟨fun j hj=>by rw[<-hT,<-hT];exact zP9 C m k M N j hj⟩;have HTE:jZ (T k=genM k m (zEp C M N)):=⟨by rw[<-hT];exact jK (by simp[genM])⟩;have HTL:jZ (∀j,j<=k->(T j).length=j):=⟨fun j hj=>by rw[<-hT,qF];simp[genM];omega⟩;clear h1 h2 hH hF hh hb hT hn2;go_enter Tryz.func73,Tryz.ntmps73;go_upto_region 1 with(fail)
 refine zD ?_;intro W0 hW0;obtain⟨hB0,bx,br,hs0⟩:=zAj hW0;have q1:=bx.six;clear hW0;go_upto_region 2 with(fail)
 refine zD ?_;intro W1 hW1;obtain⟨hB1,T3,hs1⟩:=qL hW1;have bx:=bx.below hB1;have br:=br.below hB1;have hB:=nx hB0 hB1;have hlt0:=br.lt;clear hW1 q1;have q1:=bx.six;go_wp2;clear q1;go_loopw [20] (fun jv wr=>∃j:Nat,j<=k/\jv= .int .i64 j/\∃o n c,BWq w wr/\Blk wr w.heap.size tBm #[.int .i64 m,.int .i64 C,.slice o1 n1 c1,.int .i64 k,.int .i64 C,.slice o2 k c2]/\Blk wr (w.heap.size+1) 32 #[.int .i64 0,.int .i64 0,.slice none 0 0]∧
  Blk wr W0.heap.size 32 #[.int .i64 k,.int .i64 m,.slice o n c]/\RsO wr (W0.heap.size+1) (.slice o n c) (T j)) (fun jv _=>k-(intOf jv).toNat)
 case atStart=>exact⟨0,oM,rfl,_,_,_,hB,bx,br,T3,by rw[HT0.out];exact⟨[],zCC _ _ _ _,rfl,fun k _ _ h=>by simp at h⟩⟩
 obtain⟨j,hj,rfl,o,n,c,hb,bx,br,T3,hrs⟩:=hrel;by_cases hlt:j<k
 ·obtain⟨b,ra,rn,rc,zs,rfl,hbl,hzk,p1,hzv⟩:=(H2.out.below hb).row (k:=j) (by rw[HF.out.1];exact hlt)
  have hzv:zAv wr (.slice ra rn rc) (qZ C (ent N j)):=by rw[<-HF.out.row_eq hzk];exact hzv
  have HZ:=xgv hzv;clear hzk hzv;have q1:=bx.six;go_wp2_with fail
  refine(zIc zKO _ _ m C M (ent N j) wr (H1.out.below hb) HH.out.fit HZ.out oM hC (HH.out.ok hm he HHH.out (fun b hb=>HB.out j hlt b hb)) HB0.out).mono ?_;rintro e w1 ⟨qv,rv,rfl,hq,hr,hb1⟩;obtain⟨ro,rn',rc',rfl,-⟩:=id hr;obtain⟨qo,qn,qc,rfl,-⟩:=id hq;have hb':=nx hb hb1;have bx:=bx.below hb1;have br:=br.below hb1;have T3:=T3.below hb1;have hrs:=hrs.below hb1;have HQ:=xgv hq;have HOO:=xgv hrs.own;have HRS:=xgv hrs;have l3:=T3.lt;have lx1:=bx.lt;have lbr:=br.lt;have hd:=HTS.out j hlt;have hlen:=HTL.out j oM;have HD:=xgv hd;have HLN:=xgv hlen;clear q1 hq hr hrs p1 hd hlen;obtain⟨t1,t2,t3,t4,t5,t6⟩:=T3.three;go_wp2_with (at_builtin;go_loud (refine zWo rfl _ _ rfl (W0.heap.size+1) (.slice o n c) (T j) rfl (HRS.out.below ((zA _ _).alloc (xgf _) _)) _ [qZ m (zFw C (ent M) (ent N j))] rfl (zLy HQ.out) (by rw[HLN.out];simp;omega) (by simp;omega) ?_;intro v' w' hown hgr hlx;have hb5:BWq w1 (w1.alloc (.cells #[.slice qo qn qc] 46)):=(zA _ _).alloc (xgf _) _;have T3w:Blk w' W0.heap.size 32 #[.int .i64 k,.int .i64 m,.slice o n c]:=(hgr.block _ (by have:=hb5.size;omega) (fun e=>by have:=(HOO.out _ e.symm).1;omega)).trans (T3.below hb5);have brw:Blk w' (w.heap.size+1) 32 #[.int .i64 0,.int .i64 0,.slice none 0 0]:=(hgr.block _ (by have:=hb5.size;omega) (fun e=>by have:=(HOO.out _ e.symm).1;omega)).trans (br.below hb5);have bxw:Blk w' w.heap.size tBm #[.int .i64 m,.int .i64 C,.slice o1 n1 c1,.int .i64 k,.int .i64 C,.slice (some ⟨b,0,none⟩) k c2]:=(hgr.block _ (by have:=hb5.size;omega) (fun e=>by have:=(HOO.out _ e.symm).1;omega)).trans (bx.below hb5);have hBw:BWq w w':=(nx hb' hb5).grown hgr (by have:=hb'.size;have:=hb5.size;omega) (fun g' hg=>by have:=(HOO.out g' hg).1;omega);obtain⟨t1,t2,t3,t4,t5,t6⟩:=T3w.three;obtain⟨po,pn,pc,rfl,-⟩:=id hown.rows))
  have hx1:zBw w' (w'.setCell ⟨W0.heap.size,2,none⟩ (.slice po pn pc)):=T3w.lext dE _ _;have hrow:=hown.offS T3w dE dE (fun b hb=>zY _ _ _ b _ hb) hx1;have T3z:Blk (w'.setCell ⟨W0.heap.size,2,none⟩ (.slice po pn pc)) W0.heap.size 32 #[.int .i64 k,.int .i64 m,.slice po pn pc]:=by simpa using T3w.set_ 2 (.slice po pn pc)
  have brz:Blk (w'.setCell ⟨W0.heap.size,2,none⟩ (.slice po pn pc)) (w.heap.size+1) 32 #[.int .i64 0,.int .i64 0,.slice none 0 0]:=(zY _ _ _ _ _ oM).trans brw;have bxz:Blk (w'.setCell ⟨W0.heap.size,2,none⟩ (.slice po pn pc)) w.heap.size tBm #[.int .i64 m,.int .i64 C,.slice o1 n1 c1,.int .i64 k,.int .i64 C,.slice (some ⟨b,0,none⟩) k c2]:=(zY _ _ _ _ _ oM).trans bxw;have hBz:BWq w (w'.setCell ⟨W0.heap.size,2,none⟩ (.slice po pn pc)):=yJ hBw oM _ _;go_roundw
  case rel=>exact⟨j+1,oM,by simp,_,_,_,hBz,bxz,brz,T3z,by rw[HD.out];exact hrow⟩
  case measure=>exact meq
 obtain rfl:j=k:=oM;obtain⟨t1,t2,t3,t4,t5,t6⟩:=T3.three;have hrs:RsO wr (W0.heap.size+1) (.slice o n c) (genM j m (zEp C M N)):=by rw[<-HTE.out];exact hrs
 have HRS:=xgv hrs;clear hrs;have r1:=br.three;go_wp2;refine zAZ (r:=w.heap.size+1) rfl rfl rfl (br.put3 _ _ _) ⟨_,rfl,⟨_,rfl,(HRS.out.offS br dE dE (fun k hk=>zAf _ _ k _ _ _ hk) (br.lext3 dE _ _ _)).rows⟩,yJ (yJ (yJ hb oM 0 _) oM 1 _) oM 2 _⟩
theorem zVE(v1 v2:Value)(R Q C D:Nat)(M N:List (List Int))(w:World)(h1:zAC w v1 R C M)(h2:zAC w v2 Q D N)(hF1:zBU R C M)(hF2:zBU Q D N)(hR:R<=1000000)(hQ:Q<=1000000)(hC:C<=1000000)(hS1:∀r∈M,∀z∈r,Sm z)(hS2:∀r∈N,∀z∈r,Sm z)(hD:C=D)
  (hk:∀(v:Value) (w:World),zAC w v ((R+Q:Nat):Int) C (M++N)->CPq 59 #[v] w fun e w'=>∃v,e= .returned v/\zIW (R+Q) C (ent (M++N)) w' v/\BWq w w'):
  CPq 16 #[v1,v2] w fun e w'=>∃v,e= .returned (.tuple #[v,niq 0])/\zIW (R+Q) C (ent (M++N)) w' v/\BWq w w':=by
 have H1:=xgv h1;have H2:=xgv h2;obtain⟨A1,rfl,h1⟩:=h1;obtain⟨A2,rfl,h2⟩:=h2;have HF1:=xgv hF1;have HF2:=xgv hF2;have HS1:=xgv hS1;have HS2:=xgv hS2;have HK:=xgv hk;have HD:=xgv hD;have HAA:jZ (((C:Int)==(D:Int))=true):=⟨by rw[hD];simp⟩;clear h1 h2 hF1 hF2 hS1 hS2 hk hD;go_enter Tryz.func16,Tryz.ntmps16;go_upto_region 1 with(fail)
 refine zD ?_;intro W0 hW0;obtain⟨hB0,bx1,bx2,br,hs0⟩:=zBk hW0;have c1:=bx1.three;have d1:=bx2.three;clear hW0;go_wp2_with fail
 refine(zFT _ _ _ _ _ _ W0).mono ?_;rintro e w1 ⟨rfl,k1,k2,hb1⟩;have hB:=nx hB0 hb1;have bx1:=bx1.below hb1;have bx2:=bx2.below hb1;have br:=br.below hb1;clear c1 d1;go_wp2_with fail
 refine(zDP (.inl rfl) _ _ 1 50 _ (qX _ _ _) (ans:=true) (k:=0) rfl (fun W hW=>zEX _ _ R C Q D _ _ M N W (((H1.out.below hB).below ((zA _ _).alloc (xgf _) _)).below hW) HF1.out (((H2.out.below hB).below ((zA _ _).alloc (xgf _) _)).below hW) HF2.out ((k1.below ((zA _ _).alloc (xgf _) _)).below hW) ((k2.below ((zA _ _).alloc (xgf _) _)).below hW) HAA.out)).mono ?_;rintro e w2 ⟨v,rfl,rfl,hb2⟩;have hb02:BWq w1 w2:=nx ((zA _ _).alloc (xgf _) _) hb2;have hB:=nx hB hb02;have bx1:=bx1.below hb02;have bx2:=bx2.below hb02;have br:=br.below hb02;clear k1 k2;have c1:=bx1.three;have d1:=bx2.three;go_wp2_with fail
 refine(zKw _ _ R Q C M N w2 (H1.out.below hB) (by simpa only[HD.out]using H2.out.below hB) HF1.out (by simpa only[HD.out]using HF2.out) hR hQ hC HS1.out HS2.out).mono ?_;rintro e w3 ⟨v,rfl,hv,hb3⟩;have hB:=nx hB hb3;have br:=br.below hb3;obtain⟨s1,s2,s3,rfl⟩:=hv.agg;have HV:=xgv hv;clear c1 d1 bx1 bx2 hv;go_upto_region 7 with(fail)
 refine zD ?_;intro W7 hW7;obtain⟨hB7,T7,hs7⟩:=qL hW7;have t1:=T7.three;have hB:=nx hB hB7;have br:=br.below hB7;clear hW7;go_wp2_with fail
 refine(HK.out _ W7 (HV.out.below hB7)).mono ?_;rintro e w8 ⟨v,rfl,⟨r,c,G,hl,hm⟩,hb8⟩;obtain⟨m1,m2,m3,rfl⟩:=hm.agg;have hB:=nx hB hb8;have br:=br.below hb8;have HL:=xgv hl;have HM:=xgv hm;clear t1 T7 hl hm;have r1:=br.three;go_wp2;refine bodyPost_ret (zDT rfl _ rfl (br.put3 _ _ _) rfl) rfl ⟨_,rfl,⟨_,_,_,HL.out,HM.out.keep3 br _ _ _⟩,yJ (yJ (yJ hB oM 0 _) oM 1 _) oM 2 _⟩
theorem zVF(v1 v2:Value)(R Q C D:Nat)(M N:List (List Int))(w:World)(h1:zAC w v1 R C M)(h2:zAC w v2 Q D N)(hF1:zBU R C M)(hF2:zBU Q D N)(hD:C≠D):
  CPq 16 #[v1,v2] w fun e w'=>∃v,e= .returned (.tuple #[v,niq 50])/\v= .agg #[niq 0,niq 0,.slice none 0 0]/\BWq w w':=by
 have H1:=xgv h1;have H2:=xgv h2;obtain⟨A1,rfl,h1⟩:=h1;obtain⟨A2,rfl,h2⟩:=h2;have HF1:=xgv hF1;have HF2:=xgv hF2;have HAA:jZ (((C:Int)==(D:Int))=false):=⟨beq_eq_false_iff_ne.2 fun h=>hD oM⟩;clear h1 h2 hF1 hF2 hD;go_enter Tryz.func16,Tryz.ntmps16;go_upto_region 1 with(fail)
 refine zD ?_;intro W0 hW0;obtain⟨hB0,bx1,bx2,br,hs0⟩:=zBk hW0;have c1:=bx1.three;have d1:=bx2.three;clear hW0;go_wp2_with fail
 refine(zFT _ _ _ _ _ _ W0).mono ?_;rintro e w1 ⟨rfl,k1,k2,hb1⟩;have hB:=nx hB0 hb1;have bx1:=bx1.below hb1;have bx2:=bx2.below hb1;have br:=br.below hb1;clear c1 d1;go_wp2_with fail
 refine(zDP (.inl rfl) _ _ 1 50 _ (qX _ _ _) (ans:=false) (k:=50) rfl (fun W hW=>zEX _ _ R C Q D _ _ M N W (((H1.out.below hB).below ((zA _ _).alloc (xgf _) _)).below hW) HF1.out (((H2.out.below hB).below ((zA _ _).alloc (xgf _) _)).below hW) HF2.out ((k1.below ((zA _ _).alloc (xgf _) _)).below hW) ((k2.below ((zA _ _).alloc (xgf _) _)).below hW) HAA.out)).mono ?_;rintro e w2 ⟨v,rfl,rfl,hb2⟩;have hb02:BWq w1 w2:=nx ((zA _ _).alloc (xgf _) _) hb2;have hB:=nx hB hb02;have bx1:=bx1.below hb02;have bx2:=bx2.below hb02;have br:=br.below hb02;clear k1 k2;have r1:=br.three;go_wp2;refine bodyPost_ret (zDT rfl _ rfl (br.put3 _ _ _) rfl) rfl ⟨_,rfl,rfl,yJ (yJ (yJ hB oM 0 _) oM 1 _) oM 2 _⟩
theorem zWK(f:Nat->Int):∀C,∃M,1<=M/\∀b,b<C->(f b).natAbs<=M
 |0=>⟨1,xgf _,fun b hb=>oM⟩
 |C+1=>by
  obtain⟨M,h1,h2⟩:=zWK f C;refine⟨M+(f C).natAbs,oM,fun b hb=>?_⟩;by_cases e:b=C
  ·subst e;omega
  have:=h2 b oM;omega
theorem zWJ(C:Nat)(F:Nat->Nat->Int):∀R,∃M,1<=M/\leM M R C F
 |0=>⟨1,xgf _,fun a ha=>oM⟩
 |R+1=>by
  obtain⟨M,h1,h2⟩:=zWJ C F R;obtain⟨N,h3,h4⟩:=zWK (F R) C;refine⟨M+N,oM,fun a ha b hb=>?_⟩;by_cases e:a=R
  ·subst e;have:=h4 b hb;omega
  have:=h2 a oM b hb;omega
theorem zHb(hR:R<=6)(A:Nat->Nat->Int):∃r c H U V,zE4 R C r c A H U V:=by
 obtain⟨T,h1,hT⟩:=zWJ C A R;obtain⟨E,hE⟩:∃E,E=ecE R 0:=⟨_,rfl⟩;obtain⟨Z,hZ⟩:∃Z,Z=2*T:=⟨_,rfl⟩;obtain⟨f,ops,r,c,-,h2,-,h3⟩:=zKX (B:=T*Z^E+1) (n:=R) (Cs:=C) (Ct:=0) hR R 0 0 ⟨A,idf,idf⟩ T T (fun _=>0) oM oM ⟨hT,fun _ _ b hb=>oM,fun _ _ b hb=>oM⟩ hT h1 h1 ⟨fun k hk=>oM,fun k hk=>oM,fun k hk=>oM,fun k l h1 h2=>oM⟩ (fun i j h1 h2=>by omega) (fun a h1 h2=>by omega) (fun G hG=>by
  rw[<-hE,<-hZ]at hG;have h4:G<=Z*G:=qQ _ oM;exact Nat.lt_succ_of_le (zH _ (zB h4 hG)))
 exact⟨r,c,_,zBI ops idf,fun a t=>zNb ops idf t a,h3,fun a ha b _=>zLt h2 A a ha b,zJl h2 (zJS R),fun a ha b _=>zEv h2 A a ha b⟩
theorem zMY(D:Int):∀(k:Nat) (F:Nat->Nat->Int),det k (fun a b=>D*F a b)=D^k*det k F
 |0,F=>by simp[det]
 |k+1,F=>by
  rw[zCj,zCj,<-yX];refine zF fun j hj=>?_
  have h1:mnr (fun a b=>D*F a b) 0 j=fun a b=>D*mnr F 0 j a b:=rfl
  rw[h1,zMY D k,Int.pow_succ];grind
theorem zDW.scale{D:Int}(hD:D≠0)(h:zDW k R C A):zDW k R C fun a b=>D*A a b:=by
 obtain⟨σ,τ,h1,h2,h3⟩:=h;refine⟨σ,τ,h1,h2,fun h0=>?_⟩;rw[zMY D k]at h0;rcases Int.mul_eq_zero.1 h0 with h4|h4
 exact Int.pow_ne_zero hD h4;exact h3 h4
theorem zYL{f g:Nat->Int}(h:∀a,a<m->f a=zT m fun t=>X a t*g t)(hs:s<m):det m X*g s=zT m fun u=>det m (zDB X s fun a=>idf u a)*f u:=by
 have h1:det m (zDB X s fun a=>zT m fun t=>g t*X a t)=zT m fun t=>g t*det m (zDB X s fun a=>X a t):=zHD hs
 have h2:(zT m fun t=>g t*det m (zDB X s fun a=>X a t))=det m X*g s:=by
  rw[zAB (c:=s) hs fun t ht hne=>?_];rw[zHw,qH];have:det m (zDB X s fun a=>X a t)=0:=by
   rcases zAQ hne with h3|h3
   exact zE6 h3 hs fun a=>by unfold zDB;rw[if_pos rfl,if_neg oM]
   exact zE6 h3 ht fun a=>by unfold zDB;rw[if_pos rfl,if_neg oM]
  rw[this,zP]
 have h3:det m (zDB X s fun a=>zT m fun u=>f u*idf u a)=zT m fun u=>f u*det m (zDB X s fun a=>idf u a):=zHD hs
 have h4:det m (zDB X s fun a=>zT m fun u=>f u*idf u a)=det m (zDB X s fun a=>zT m fun t=>g t*X a t):=zAe fun a ha b hb=>by
  unfold zDB;split
  ·dsimp only
   rw[zIP ha,h a ha];exact zF fun t _=>qH _ _
  rfl
 rw[<-h2,<-h1,<-h4,h3];exact zF fun u _=>qH _ _
theorem zDW.sq{F:Nat->Nat->Int}(hd:det m X≠0)(h:∀a,a<m->∀b,b<C->F a b=zT m fun t=>X a t*G t b)(hm:zDW k m C G):zDW k m C F:=
 zDW.of_mul (F:=fun a b=>det m X*G a b) (X:=fun s u=>det m (zDB X s fun a=>idf u a)) (fun s hs b hb=>zYL (f:=fun a=>F a b) (g:=fun t=>G t b) (fun a ha=>h a ha b hb) hs) (hm.scale hd)
def iB(h:Nat):Nat:=bB (432*h^5)
theorem zMk(hp:p<=3)(hs:s<=3)(hC:C<=4)(h1:1<=h)(hP:leM h p C P)(hQ:leM h s C Q)(hG:HB C m G (zJJ (qG p C P) (qG s C Q))):leM (iB h) m C G:=by
 have hA:leM h (p+s) C (zIu p P Q):=fun a ha b hb=>by
  unfold zIu;split;exact hP a oM b hb;exact hQ _ oM b hb
 obtain⟨r,c,H,U,V,hf⟩:=zHb (R:=p+s) (C:=C) oM (zIu p P Q);obtain⟨mk,c',K,U',V',hf'⟩:=zHb (R:=p+s-r) (C:=p+s) oM (ent (genM (p+s-r) (p+s) (zNo r U)));obtain⟨hK,-⟩:=zIq.of hf rfl hf';obtain⟨r',m',ρ,W,e1,hm,hn,hW,hρ⟩:=zSf (N:=6) h1 (.inr hC) (p+s) oM hA;have e2:=zHc hf hK;have e3:=hf.lat.rank hm;have e4:r<=r':=zAD fun hlt=>by
  refine hn ?_;have:=hf.lat.min1;obtain⟨d,rfl⟩:=Nat.exists_eq_add_of_lt hlt;clear e1 e2 e3 hlt hW hρ hm hn hf hf';induction d with
  |zero=>exact this
  |succ d ih=>exact ih this.down
 obtain rfl:m'=mk:=oM;obtain⟨X,hX⟩:=zB6 (p:=m') (F:=W) fun a ha=>(hK.iff _).1 (hW a ha).2.2.2.1
 have hd:det m' X≠0:=fun h0=>by
  have h2:(0:Int)∣det m' fun a b=>zT m' fun t=>X a t*K t (ρ b):=zEq (F:=X) (Q:=fun t b=>K t (ρ b)) fun τ hτ=>by
   have:=zHX (A:=X) (fun a=>a) τ (fun a ha=>ha) hτ;rw[show det m' X=0 from h0]at this;exact this
  rw[zAe (G:=fun a b=>W a (ρ b)) fun a ha b hb=>(hX a ha _ (hW b hb).1).symm,zD6 fun a ha b hb' hab=>(hW a ha).2.2.1 _ (hρ a b hab hb')]at h2;exact zLw (fun i hi=>(hW i hi).2.1) (Int.zero_dvd.1 h2)
 obtain⟨KP,hKP⟩:∃KP:Nat->Nat->Int,KP=fun a b=>zT p fun t=>K a t*P t b:=⟨_,rfl⟩
 obtain⟨WP,hWP⟩:∃WP:Nat->Nat->Int,WP=fun a b=>zT p fun t=>W a t*P t b:=⟨_,rfl⟩
 have hin:=zJe (P:=P) (Q:=Q) hK;rw[<-hKP]at hin;have hWX:∀a,a<m'->∀b,b<C->WP a b=zT m' fun t=>X a t*KP t b:=fun a ha b hb=>by
  rw[hWP,hKP];dsimp only;rw[<-zCZ (X a) K fun t=>P t b];exact zF fun t ht=>by rw[hX a ha t oM]
 obtain⟨Y,hY⟩:=zB6 (p:=m) (F:=G) (q:=m') (G:=KP) fun a ha=>(hin _).2 ((hG.iff _).2 (qG.row _ ha))
 have hmin:zDW m m' C WP:=(zDW.of_mul hY hG.min1).sq hd hWX;refine hG.bound (R:=m') (W:=WP) (zB hG.le_cols hC) (yC dE (qR h1)) (fun a ha b hb=>?_) (fun a ha=>(hin _).1 ⟨X a,fun b hb=>hWX a ha b hb⟩) hmin;rw[hWP];have h2:=zDN (n:=p) (f:=fun t=>W a t*P t b) (B:=6*(24*h^4)*h) fun t ht=>by
  rw[qV];exact qO ((hW a ha).2.2.2.2 t) (hP t ht b hb)
 refine zB h2 ?_;have h3:h^5=h^4*h:=qI h 4;have h4:p*(6*(24*h^4)*h)<=3*(6*(24*h^4)*h):=zM _ hp;rw[h3];refine zB h4 (zA3 ?_);grind
theorem zIG{h1 h2:Nat}{A B:List (List Int)}(hA:leM h1 R m (ent A))(hB:leM h2 m C (ent B))(hm:m<=5)(he:2*(h1+h2+5*(h1*h2))<=2^e)(he2:e<=35000000000000):zFp A B R m C:=fun i hi j hj k hk=>by
 have hsm:∀z:Int,z.natAbs<=h1+h2+5*(h1*h2)->Sm z:=fun z hz=>zX6 (zK hz (zPo he he2))
 have g1:=hA i hi k hk;have g2:=hB k hk j hj;have g3:(ent A i k*ent B k j).natAbs<=h1*h2:=by rw[qV];exact qO g1 g2
 refine⟨hsm _ oM,hsm _ oM,hsm _ oM,hsm _ ?_⟩;unfold zFL;rw[zFI];refine zB (zDN (B:=h1*h2) fun t ht=>?_) (zB (zM _ (show k<=5 by omega)) oM);rw[qV];exact qO (hA i hi t oM) (hB t oM j hj)
def BX(C:Nat)(L:(Nat->Int)->Prop)(w:World)(v:Value):Prop:=∃m G,HB C m G L/\zAC w v m C (genM m C G)
theorem zEb(C:Nat)(L:(Nat->Int)->Prop):zAK (BX C L):=fun _ _ _ e ⟨m,G,h1,h2⟩=>⟨m,G,h1,h2.below e⟩
theorem zIW.same{n:Nat}{o:Option Addr}{w:World}(h:zIW R C A w (.agg #[niq (r:Nat),niq C,.slice o n k])):∃c G,zJI R C r c A G/\zAC w (.agg #[niq (r:Nat),niq C,.slice o n k]) r C (genM r C G):=by
 obtain⟨r',c,G,h1,h2⟩:=h;obtain⟨A',e,-⟩:=id h2;injection e with e
 simp only[Array.mk.injEq,List.cons.injEq]at e;obtain⟨e,-⟩:=e;injection e with _ e
 obtain rfl:r=r':=oM;exact⟨c,G,h1,h2⟩
theorem Hnf.self{c:Nat->Nat}(h:Hnf C R r c G):Hnf C r r c G:=⟨xgf _,h.ech,h.red,fun a h1 h2=>oM⟩
theorem zZi{κ κ':Nat->Nat}(hP:Hnf C p p κ P)(hQ:Hnf C s s κ' Q)(hC:C<=3)(hA:∀a,a<p+s->∀b,b<C->A a b=zIu p P Q a b):
  ∃q,zDW q (p+s) C A/\(∀k,zDW k (p+s) C A->k<=q)/\p<=q/\s<=q/\q<=3/\Ech C p κ A/\zFr (fun _ _=>True) p κ A:=by
 obtain⟨q,h1,h2⟩:=zXa (p+s) C A;have e:∀a,a<p->∀b,b<C->A a b=P a b:=fun a ha b hb=>by rw[hA a oM b hb];unfold zIu;rw[if_pos ha]
 have e':∀a,a<s->∀b,b<C->A (p+a) b=Q a b:=fun a ha b hb=>by rw[hA (p+a) oM b hb];unfold zIu;rw[if_neg oM,qS]
 refine⟨q,h1,h2,h2 p ?_,h2 s ?_,zB h1.cols hC,⟨hP.ech.lt,fun k hk=>?_,fun k hk t ht=>?_,hP.ech.inc⟩,fun i j hij hj _=>?_⟩
 ·obtain⟨σ,τ,a1,a2,a3⟩:=hP.ech.min1
  refine⟨σ,τ,fun a ha=>by have:=a1 a ha;omega,a2,fun h0=>a3 ?_⟩;rw[<-h0];exact zAe fun a ha b hb=>(e _ (a1 a ha) _ (a2 b hb)).symm
 ·obtain⟨σ,τ,a1,a2,a3⟩:=hQ.ech.min1
  refine⟨fun a=>p+σ a,τ,fun a ha=>by have:=a1 a ha;dsimp only;omega,a2,fun h0=>a3 ?_⟩;rw[<-h0];exact zAe fun a ha b hb=>(e' _ (a1 a ha) _ (a2 b hb)).symm
 ·rw[e k hk _ (hP.ech.lt k hk)]
  exact hP.ech.pos k hk
 ·rw[e k hk t (by have:=hP.ech.lt k hk;omega)]
  exact hP.ech.zero k hk t ht
 rw[e i (Nat.lt_trans hij hj) _ (hP.ech.lt j hj),e j hj _ (hP.ech.lt j hj)];exact hP.red i j hij hj trivial
def kB6(h:Nat):Nat:=24*(8*(6*(24*h^4)))^4
theorem zYd(he:h<=2^e):kB6 h<=2^(16*e+49):=by
 have h1:h^4<=2^(e*4):=by rw[jO];exact yV he 4
 have h2:8*(6*(24*h^4))<=2^(e*4+11):=by rw[yD];omega
 have h3:(8*(6*(24*h^4)))^4<=2^((e*4+11)*4):=by rw[jO];exact yV h2 4
 rw[show 16*e+49=(e*4+11)*4+5 by omega,yD];unfold kB6;omega
theorem zQc(h:zIq (p+s) C A m G)(hq:zDW q (p+s) C A)(hp:p<=q)(hs:s<=q):m<=p/\m<=s:=by
 obtain⟨hb,r,c,H,U,V,hf⟩:=h;have h1:=zHc hf hb;have h2:=hf.lat.rank hq;omega
theorem zOH(hl:zIq R C A m G)(hR:R<=6)(hC:C<=4)(hm:m<=4)(h1:1<=h)(hA:leM h R C A):leM (kB6 h) m R G:=by
 obtain⟨hb,r,c,H,U,V,hf⟩:=hl;exact zN2 (N:=6) hf hb (.inr hC) oM hR hm h1 hA
theorem zSd(hA:∀a,a<p+s->∀b,b<C->A a b=zIu p P Q a b)(hl:zIq (p+s) C A m G)(hp:p<=3)(hs:s<=3)(hC:C<=3)(hm:m<=p)(h1:1<=h)(he:2*h<=2^e)(he2:e<=2000)(hP:leM h p C P)(hQ:leM h s C Q):
  zFp (genM m p G) (genM p C P) m p C/\leM (2^(17*e+52)) m C (ent (genM m C (zFL (genM m p G) (genM p C P) p)))/\(∀r∈genM m (p+s) G,∀z∈r,Sm z)∧
   ∀x,qG m C (ent (genM m C (zFL (genM m p G) (genM p C P) p))) x↔zJJ (qG p C P) (qG s C Q) x:=by
 have hAh:leM h (p+s) C A:=fun a ha b hb=>by
  rw[hA a ha b hb];unfold zIu;split;exact hP a oM b hb;exact hQ _ oM b hb
 have hG:=zOH hl oM oM oM h1 hAh;have hk:=zYd (h:=h) (e:=e) oM;have hG2:leM (2^(16*e+49)) m (p+s) G:=hG.mono hk;have hP2:leM (2^e) p C P:=hP.mono oM;have hab:2^(17*e+49)=2^(16*e+49)*2^e:=by rw[<-yD];congr 1;omega
 have hent:∀i,i<m->∀j,j<C->ent (genM m C (zFL (genM m p G) (genM p C P) p)) i j=zT p fun t=>G i t*P t j:=fun i hi j hj=>by
  rw[yR hi hj];unfold zFL;rw[zFI];exact zF fun t ht=>by rw[yR hi ht,yR ht hj]
 refine⟨zIG (h1:=2^(16*e+49)) (h2:=2^e) (e:=17*e+53) (fun i hi j hj=>?_) (fun i hi j hj=>?_) oM ?_ oM,fun i hi j hj=>?_,zKq (h:=2^(16*e+49)) (e:=16*e+50) ?_ oM (yW _ _ _) fun i hi j hj=>by rw[yR hi hj];exact hG2 i hi j hj,fun x=>?_⟩;rw[yR hi hj];exact hG2 i hi j oM;rw[yR hi hj];exact hP2 i hi j hj
 ·have e1:2^(17*e+53)=2^(17*e+49)*16:=by rw[show 17*e+53=17*e+49+4 by omega,yD]
  have e2:2^(16*e+49)*1<=2^(16*e+49)*2^e:=zH _ (qR oM);have e3:1*2^e<=2^(16*e+49)*2^e:=zM _ (qR oM);rw[e1,hab];omega
 ·rw[hent i hi j hj]
  have:=zDN (n:=p) (f:=fun t=>G i t*P t j) (B:=2^(17*e+49)) fun t ht=>by
   rw[hab,qV];exact qO (hG2 i hi t oM) (hP2 t ht j hj)
  have e1:2^(17*e+52)=2^(17*e+49)*8:=by rw[show 17*e+52=17*e+49+3 by omega,yD]
  have e2:p*2^(17*e+49)<=8*2^(17*e+49):=zM _ oM;omega
 ·rw[show 16*e+50=16*e+49+1 by omega,qI 2 (16*e+49)]
  omega
 have hK:HB (p+s) m G (zNe (p+s) C (zIu p P Q)):=hl.1.of fun x=>zNe.congr hA x
 exact(qG.congr hent x).trans (zJe hK x)
theorem zPE{N:List (List Int)}(h:zBU p C M)(k:zBU s C N):zBU (p+s) C (M++N):=
 ⟨by rw[jM,h.1,k.1],fun r hr=>(List.mem_append.1 hr).elim (h.2 r) (k.2 r)⟩
def zY5(n:Nat):World->Value->Prop:=fun w v=>∃b,v=slq b n n/\Blk w b tN (zBg n fun t=>(t:Int))
theorem zKh(n:Nat):zAK (zY5 n):=fun _ _ _ e ⟨b,h1,h2⟩=>⟨b,h1,h2.below e⟩
theorem zKm(n0 m n:Nat):zDO n0 32 m (zY5 n):=fun _ _ _ _ _ _ hb _ _ ⟨b,h1,h2⟩=>⟨b,h1,h2.wrT hb dE⟩
theorem zOD(n0 m:Nat)(R C:Int)(M:List (List Int)):zDO n0 32 m (zUU R C M):=fun _ _ _ _ _ _ hb _ _ ⟨u,h1,h2⟩=>⟨u,h1,h2.wrT hb dE dE dE⟩
theorem zQf(v1 v2:Value)(R Q C D h e:Nat)(M N:List (List Int))(w:World)(h1:zAC w v1 R C M)(h2:zAC w v2 Q D N)(hF1:zBU R C M)(hF2:zBU Q D N)(hC:C<=3)(hD:C=D)(h1h:1<=h)(he:2*h<=2^e)(he2:e<=2000)
  (k1:∀(v:Value) (w:World),zAC w v R C M->CPq 59 #[v] w fun e w'=>∃v,e= .returned v/\zIW R C (ent M) w' v/\BWq w w')
  (k2:∀(v:Value) (w:World),zAC w v Q D N->CPq 59 #[v] w fun e w'=>∃v,e= .returned v/\zIW Q D (ent N) w' v/\BWq w w')
  (hb1:∀r c G,zJI R C r c (ent M) G->leM h r C G) (hb2:∀r c G,zJI Q D r c (ent N) G->leM h r D G):
  CPq 18 #[v1,v2] w fun e w'=>∃v,e= .returned (.tuple #[v,niq 0])/\BX C (zJJ (qG R C (ent M)) (qG Q C (ent N))) w' v/\BWq w w':=by
 subst hD;have H1:=xgv h1;have H2:=xgv h2;obtain⟨A1,rfl,h1⟩:=h1;obtain⟨A2,rfl,h2⟩:=h2;have HF1:=xgv hF1;have HF2:=xgv hF2;have HE:=xgv he;have K1:=xgv k1;have K2:=xgv k2;have HB1:=xgv hb1;have HB2:=xgv hb2;have HAA:jZ (((C:Int)==(C:Int))=true):=⟨by simp⟩;clear h1 h2 hF1 hF2 he k1 hb1 hb2;go_enter Tryz.func18,Tryz.ntmps18;go_upto_region 1 with(fail)
 refine zD ?_;intro W0 hW0;obtain⟨hB0,bx1,bx2,br,hs0⟩:=zBk hW0;have c1:=bx1.three;have d1:=bx2.three;clear hW0;go_wp2_with fail
 refine(zFT _ _ _ _ _ _ W0).mono ?_;rintro e0 w1 ⟨rfl,k1,k2,hb1⟩;have hB:=nx hB0 hb1;have bx1:=bx1.below hb1;have bx2:=bx2.below hb1;have br:=br.below hb1;clear c1 d1;go_wp2_with fail
 refine(zDP (.inl rfl) _ _ 1 50 _ (qX _ _ _) (ans:=true) (k:=0) rfl (fun W hW=>zEX _ _ R C Q C _ _ M N W (((H1.out.below hB).below ((zA _ _).alloc (xgf _) _)).below hW) HF1.out (((H2.out.below hB).below ((zA _ _).alloc (xgf _) _)).below hW) HF2.out ((k1.below ((zA _ _).alloc (xgf _) _)).below hW) ((k2.below ((zA _ _).alloc (xgf _) _)).below hW) HAA.out)).mono ?_;rintro e0 w2 ⟨v,rfl,rfl,hb2⟩;have hb02:BWq w1 w2:=nx ((zA _ _).alloc (xgf _) _) hb2;have hB:=nx hB hb02;have bx1:=bx1.below hb02;have bx2:=bx2.below hb02;have br:=br.below hb02;clear k1 k2;have c1:=bx1.three;have d1:=bx2.three;go_wp2_with fail
 refine(zGZ _ _ R C Q C M N w2 (H1.out.below hB) (H2.out.below hB) K1.out K2.out).mono ?_;rintro e3 w3 ⟨p,o1,n1,k1,s,o2,n2,k2,rfl,hm1,hm2,hb3⟩;obtain⟨κ1,G1,l1,m1⟩:=hm1.same;obtain⟨κ2,G2,l2,m2⟩:=hm2.same;have hB:=nx hB hb3;have br:=br.below hb3;have hp3:p<=3:=zB l1.hb.le_cols hC;have hs3:s<=3:=zB l2.hb.le_cols hC;have HG1:=xgv (HB1.out _ _ _ l1);have HG2:=xgv (HB2.out _ _ _ l2);obtain⟨A,hA⟩:∃A,genM p C G1++genM s C G2=A:=⟨_,rfl⟩;have HFA:jZ (zBU (p+s) C A):=⟨by rw[<-hA];exact zPE (yW _ _ _) (yW _ _ _)⟩;have HAE:jZ (∀a,a<p+s->∀b,b<C->ent A a b=zIu p G1 G2 a b):=⟨fun a ha b hb=>by
  rw[<-hA,zJX (yW _ _ _) (yW _ _ _)];unfold zIu;split;exact yR (by assumption) hb;exact yR oM hb⟩
 have HAH:jZ (leM h (p+s) C (ent A)):=⟨fun a ha b hb=>by
  rw[HAE.out a ha b hb];unfold zIu;split;exact HG1.out a (by assumption) b hb;exact HG2.out _ oM b hb⟩
 obtain⟨q,hq⟩:∃q,zDW q (p+s) C (ent A)/\(∀k,zDW k (p+s) C (ent A)->k<=q)/\p<=q/\s<=q/\q<=3/\Ech C p κ1 (ent A)/\zFr (fun _ _=>True) p κ1 (ent A):=zZi l1.hnf.self l2.hnf.self hC HAE.out;have HQ:=xgv hq;have HL1:=xgv l1;have HL2:=xgv l2;have HSA:jZ ((∀r∈genM p C G1,∀z∈r,Sm z)/\∀r∈genM s C G2,∀z∈r,Sm z):=⟨zKq HE.out oM (yW _ _ _) fun a ha b hb=>by rw[yR ha hb];exact HG1.out a ha b hb,zKq HE.out oM (yW _ _ _) fun a ha b hb=>by rw[yR ha hb];exact HG2.out a ha b hb⟩;have M1:=xgv m1;have M2:=xgv m2;have HA:=xgv hA;clear c1 d1 bx1 bx2 m1 m2 l1 l2 hm1 hm2 hA hq;go_upto_region 5 with(fail)
 refine zD ?_;intro W5 hW5;obtain⟨hB5,T7,hs5⟩:=qL hW5;have hB:=nx hB hB5;have br:=br.below hB5;have M1:=xgv (M1.out.below hB5);have M2:=xgv (M2.out.below hB5);have t1:=T7.six;clear hW5;go_wp2_with fail
 refine(zKw _ _ p s C (genM p C G1) (genM s C G2) W5 M1.out M2.out (yW _ _ _) (yW _ _ _) oM oM oM HSA.out.1 HSA.out.2).mono ?_;rintro e6 w6 ⟨v,rfl,hv,hb6⟩;rw[HA.out]at hv;obtain⟨s1,s2,s3,rfl⟩:=hv.agg;have hB:=nx hB hb6;have br:=br.below hb6;have T7:=T7.below hb6;have M1:=xgv (M1.out.below hb6);have HV:=xgv hv;clear t1 hv M2;go_upto_region 6 with(fail)
 refine zD ?_;intro W7 hW7;obtain⟨hB7,T8,hs7⟩:=qL hW7;have hB:=nx hB hB7;have br:=br.below hB7;have T7:=T7.below hB7;have M1:=xgv (M1.out.below hB7);have HV:=xgv (HV.out.below hB7);have t1:=T8.three;clear hW7;go_wp2_with fail
 refine(zSg (q:=q) (p:=p) (κ:=κ1) h1h _ A (p+s) C W7 HV.out HFA.out oM oM HAH.out oM HQ.out.2.2.2.2.2.1 HQ.out.2.2.2.2.2.2 HQ.out.1 HQ.out.2.1 (zK (zEY h1h (zW1 hp3 hs3 HQ.out.2.2.2.2.1 HQ.out.2.2.1 HQ.out.2.2.2.1)) (zPF (k:=34) HE.out (by rw[zEV];omega)))).mono ?_;rintro e8 w8 ⟨v,rfl,⟨m,G,hlp,hm⟩,hb8⟩;obtain⟨x1,x2,x3,rfl⟩:=hm.agg;have hB:=nx hB hb8;have br:=br.below hb8;have T7:=T7.below hb8;have M1:=xgv (M1.out.below hb8);obtain⟨hmp,hms⟩:=zQc hlp HQ.out.1 HQ.out.2.2.1 HQ.out.2.2.2.1;obtain⟨i1,i2,i3,i4⟩:=zSd (h:=h) (e:=e) HAE.out hlp hp3 hs3 hC hmp h1h HE.out he2 HG1.out HG2.out;have I1:=xgv i1;have I2:=xgv i2;have I3:=xgv i3;have I4:=xgv i4;have HX:=xgv hm;have hge:genM m p (ent (genM m (p+s) G))=genM m p G:=zAG fun i hi j hj=>yR hi oM
 have HGE:=xgv hge;clear t1 T8 HV i1 i2 i3 i4 hm hlp hge;go_upto_region 7 with(fail)
 refine zD ?_;intro W9 hW9;obtain⟨hB9,T10,hs9⟩:=qL hW9;have hB:=nx hB hB9;have br:=br.below hB9;have T7:=T7.below hB9;have M1:=xgv (M1.out.below hB9);have HX:=xgv (HX.out.below hB9);have t1:=T10.three;have u1:=T7.six;clear hW9;have hLP:=zOB (m:Int) p (genM m p G);have hLm:=zKh m;have hLn:=zKh p;have hWP:=zOD W9.heap.size 3 (m:Int) p (genM m p G);have hWm:=zKm W9.heap.size 3 m;have hWn:=zKm W9.heap.size 3 p;refine zBl [pcD 3 [] (zY5 m),pcD 7 [] (zY5 p),pcD 8 [3,7] (zUU (m:Int) p (genM m p G)),pbA 12 32 3,pbS 13 12 32 3] ?_;refine sRd ?_;refine sRc (fun wS hI Gk hG=>?_) (fun _ hv=>?_)
 ·go_simp
  refine(zMW m wS oM).mono ?_;rintro e wa ⟨rfl,hv,hba⟩;exact⟨_,rfl,hG _ _ ⟨_,rfl,hv⟩,hba⟩
 obtain⟨_,-,b3,rfl,-⟩:=hv;refine sRd ?_;refine sRc (fun wS hI Gk hG=>?_) (fun _ hv=>?_)
 ·go_simp
  refine(zMW p wS oM).mono ?_;rintro e wa ⟨rfl,hv,hba⟩;exact⟨_,rfl,hG _ _ ⟨_,rfl,hv⟩,hba⟩
 obtain⟨_,-,b7,rfl,-⟩:=hv;refine sRc (fun wS hI h3 h7 Gk hG=>?_) (fun _ hv=>?_)
 ·obtain⟨_,e3,hg3⟩:=h3
  cases e3;obtain⟨_,e7,hg7⟩:=h7;cases e7;go_simp;refine(zSv _ m (p+s) p b3 b7 _ wS (HX.out.below hI.bel) (yW _ _ _) oM oM oM I3.out hg3 hg7).mono ?_;rintro e wa ⟨v,rfl,hv,hba⟩;exact⟨_,rfl,hG _ _ (HGE.out ▸ hv),hba⟩
 obtain⟨_,-,_,rfl,Av,rfl,vo,vn,vc,rfl,-⟩:=hv;refine sRd ?_;refine sRa (cs:=#[niq 0,niq 0,.slice none 0 0]) fun b11 g11=>?_
 refine sRs b11 (.agg #[niq (m:Int),niq p,.slice vo vn vc]) ?_;refine sRd ?_;refine sRb ?_;simp only[FA,FC,FN,ptr,List.nil_append,List.cons_append,Act.put,xgh,xgi,xgj];intro x7f hb59 _ _ h8 k13 _;have T99:Blk x7f b11 32 #[niq (m:Int),niq p,.slice vo vn vc]:=k13 _ rfl;obtain⟨_,e8,hm9⟩:=h8;cases e8;have HM9:=xgv hm9;have hB:=nx hB hb59;have br:=br.below hb59;have T7:=T7.below hb59;have M1:=xgv (M1.out.below hb59);clear t1 u1 T10 hm9 k13 hLP hLm hLn hWP hWm hWn HX;have t1:=T99.three;have u1:=T7.six;go_wp2_with fail
 refine(zZb _ _ m p C _ _ x7f HM9.out M1.out (yW _ _ _) (yW _ _ _) oM oM oM I1.out).mono ?_;rintro e12 w12 ⟨yo,yn,yc,rfl,hy,hb12⟩;have hB:=nx hB hb12;have br:=br.below hb12;have HY:=xgv hy;clear t1 u1 T99 T7 M1 HM9 hy;go_upto_region 9 with(fail)
 refine zD ?_;intro W13 hW13;obtain⟨hB13,T13,hs13⟩:=qL hW13;have hB:=nx hB hB13;have br:=br.below hB13;have HY:=xgv (HY.out.below hB13);have t1:=T13.three;clear hW13;go_wp2_with fail
 refine(zMi (M0:=2^(17*e+52)) (qR dE) _ _ m C W13 HY.out.off (yW _ _ _) oM oM (zK (zEY (qR dE) (zW0 (show m<=3 by omega))) (zPF (e:=17*e+53) (k:=7) (by rw[show 17*e+53=17*e+52+1 by omega,qI 2 (17*e+52)];omega) (by rw[zEV];omega))) I2.out).mono ?_;rintro e14 w14 ⟨v,r,c,H,U,V,rfl,hf,hmv,hb14⟩;obtain⟨z1,z2,z3,rfl⟩:=hmv.agg;have hB:=nx hB hb14;have br:=br.below hb14;have HF:=xgv hf;have HMV:=xgv hmv;clear t1 T13 HY hf hmv;have r1:=br.three;go_wp2;refine bodyPost_ret (zDT rfl _ rfl (br.put3 _ _ _) rfl) rfl ⟨_,rfl,⟨r,H,HF.out.lat.hb.of fun x=>(I4.out x).trans ?_,HMV.out.keep3 br _ _ _⟩,yJ (yJ (yJ hB oM 0 _) oM 1 _) oM 2 _⟩;exact and_congr (HL1.out.hb.iff x).symm (HL2.out.hb.iff x).symm
theorem zTS(b:Nat)(x1 x2 x3 y1 y2 y3:Value)(w:World)(hb:Blk w b tBm #[x1,x2,x3,y1,y2,y3]){ans:Bool}
  (hk:CPq 69 #[.agg #[y1,y2,y3],.agg #[x1,x2,x3]] w fun e w'=>∃v,e= .returned v/\v= .bool ans/\BWq w w'):
  CPq 77 #[ptq b 0] w fun e w'=>∃v,e= .returned v/\v= .bool ans/\BWq w w':=by
 have t1:=hb.six;have HK:=xgv hk;clear hk;go_enter Tryz.func77,Tryz.ntmps77;go_wp2_with fail
 refine HK.out.mono ?_;rintro e w1 ⟨v,rfl,rfl,hb1⟩;go_wp2;go_ret;exact⟨_,rfl,rfl,hb1⟩
theorem zQP(b:Nat)(x1 x2 x3 y1 y2 y3:Value)(w:World)(hb:Blk w b tBm #[x1,x2,x3,y1,y2,y3]){ans:Bool}
  (hk:CPq 69 #[.agg #[y1,y2,y3],.agg #[x1,x2,x3]] w fun e w'=>∃v,e= .returned v/\v= .bool ans/\BWq w w'):
  CPq 68 #[ptq b 0] w fun e w'=>∃v,e= .returned v/\v= .bool ans/\BWq w w':=by
 have t1:=hb.six;have HK:=xgv hk;clear hk;go_enter Tryz.func68,Tryz.ntmps68;go_wp2_with fail
 refine HK.out.mono ?_;rintro e w1 ⟨v,rfl,rfl,hb1⟩;go_wp2;go_ret;exact⟨_,rfl,rfl,hb1⟩
theorem zQQ(b r1 r2:Nat)(x2 x3 y2 y3:Value)(w:World)(hb:Blk w b tBm #[niq r1,x2,x3,niq r2,y2,y3]){ans:Bool}(hans:((r1:Int)==(r2:Int))=ans):
  CPq 70 #[ptq b 0] w fun e w'=>∃v,e= .returned v/\v= .bool ans/\BWq w w':=by
 have t1:=hb.six;go_enter Tryz.func70,Tryz.ntmps70;go_wp2;go_ret;refine⟨_,rfl,?_,zA _ _⟩;rw[<-hans];rfl
theorem zP7(caps caps2:Array Value)(b c:Nat)(er er2:Int)(w:World)(hb:Blk w b tCn #[.func (.func 68) #[] caps,niq er,.func (.func 70) #[] caps2,niq er2]){a1 a2:Bool}{k:Int}(hk:(if a1=true then(if a2=true then 0 else er2)else er)=k)
  (hc:∀(W:World),BWq w W->CPq 68 caps W fun e w'=>∃v,e= .returned v/\v= .bool a1/\BWq W w')
  (hc2:∀(W:World),BWq w W->CPq 70 caps2 W fun e w'=>∃v,e= .returned v/\v= .bool a2/\BWq W w'):
  CPq 56 #[slq b 2 c] w fun e w'=>∃v,e= .returned v/\v=niq k/\BWq w w':=by
 have HK:=xgv hk;have HC:=xgv hc;have HC2:=xgv hc2;clear hk hc hc2;go_enter Tryz.func56,Tryz.ntmps56;go_wp2;go_loopw [7] (fun iv wr=>∃i:Nat,i<=2/\iv=niq i/\BWq w wr/\jZ ((1<=i->a1=true)/\(2<=i->a2=true))) (fun iv _=>2-(intOf iv).toNat)
 case atStart=>exact⟨0,oM,rfl,zA _ _,⟨⟨fun h=>oM,fun h=>oM⟩⟩⟩
 obtain⟨i,hi,rfl,hB,hz⟩:=hrel;have hb:=hb.below hB;have q0:=hb.cell 0;have q1:=hb.cell 1;have q2:=hb.cell 2;have q3:=hb.cell 3;rcases(by omega:i=0∨i=1∨i=2)with rfl|rfl|rfl
 ·rw[show((0:Nat):Int)=(0:Int) from rfl]
  go_upto_region 4 with(fail)
  refine zD ?_;intro W1 hW1;obtain⟨hB1,T4,hs1⟩:=qL hW1;have d1:=T4.two;have hB':=nx hB hB1;clear hW1;go_wp2_with fail
  refine(HC.out W1 hB').mono ?_;rintro e w2 ⟨v,rfl,rfl,hb2⟩;have hB2:=nx hB' hb2;have T4:=T4.below hb2;clear d1;have d1:=T4.two;cases a1 with
  |true=>
   go_wp2;go_roundw
   case rel=>exact⟨1,oM,by simp,hB2,⟨by simp⟩⟩
   case measure=>simp[intOf]
  |false=>
   go_wp2;go_ret;exact⟨_,rfl,by rw[<-HK.out];rfl,hB2⟩
 ·have h1:=hz.out.1 (xgf _)
  subst h1;rw[show((1:Nat):Int)=(1:Int) from rfl];go_upto_region 4 with(fail)
  refine zD ?_;intro W1 hW1;obtain⟨hB1,T4,hs1⟩:=qL hW1;have d1:=T4.two;have hB':=nx hB hB1;clear hW1;go_wp2_with fail
  refine(HC2.out W1 hB').mono ?_;rintro e w2 ⟨v,rfl,rfl,hb2⟩;have hB2:=nx hB' hb2;have T4:=T4.below hb2;clear d1;have d1:=T4.two;cases a2 with
  |true=>
   go_wp2;go_roundw
   case rel=>exact⟨2,oM,by simp,hB2,⟨by simp⟩⟩
   case measure=>simp[intOf]
  |false=>
   go_wp2;go_ret;exact⟨_,rfl,by rw[<-HK.out];rfl,hB2⟩
 have h1:=hz.out.1 oM;have h2:=hz.out.2 oM;subst h1;subst h2;go_wp2;go_ret;exact⟨_,rfl,by rw[<-HK.out];rfl,hB⟩
theorem zIl(v:Value)(zs:List Int)(w:World)(h:zAv w v zs):
  CPq 86 #[v] w fun e w'=>e= .returned (.bool true)/\BWq w w':=by
 obtain⟨ao,n,cap,rfl,e2,e3,e4,-⟩:=id h;have HX:=xgw e2;clear e2;go_enter Tryz.func86,Tryz.ntmps86;go_wp2;go_loopw [7] (fun iv wr=>∃k:Nat,k<=n/\iv=niq k/\BWq w wr) (fun iv _=>n-(intOf iv).toNat)
 case atStart=>exact⟨0,oM,rfl,zA _ _⟩
 obtain⟨k,hk,rfl,hb⟩:=hrel;by_cases hlt:k<n
 ·obtain⟨b,z,s,a,l,c,rfl,hbl,hzk,q1,q2,hzv⟩:=(h.below hb).cell (k:=k) (by rw[HX.out];exact hlt)
  clear hzk;go_upto_region 4 with(fail)
  refine zD ?_;intro W1 hW1;obtain⟨hB1,T4,hs1⟩:=qL hW1;have d1:=T4.two;clear q1 q2 hW1;go_wp2_with fail
  refine(zNU _ z W1 (hzv.ext (lx hB1))).mono ?_;rintro e w2 ⟨rfl,hb2⟩;have hb':=nx (nx hb hB1) hb2;clear d1;go_wp2;go_roundw
  case rel=>exact⟨k+1,oM,by simp,hb'⟩
  case measure=>exact meq
 obtain rfl:k=n:=oM;go_wp2;go_ret;exact⟨rfl,hb⟩
theorem zYN{Q r1 r2:Nat}{κ1 κ2:Nat->Nat}{B G1 G2:Nat->Nat->Int}(h1:zJI R C r1 κ1 A G1)(h2:zJI Q C r2 κ2 B G2){ans:Bool}(hans:ans=true↔∀x,qG R C A x↔qG Q C B x):decide (genM r1 C G1=genM r2 C G2)=ans:=by
 have h:(genM r1 C G1=genM r2 C G2)↔∀x,qG R C A x↔qG Q C B x:=by
  constructor
  ·intro e x
   obtain rfl:r1=r2:=by
    have:=congrArg List.length e;simpa[genM]using this
   have e2:∀a,a<r1->∀b,b<C->G1 a b=G2 a b:=fun a ha b hb=>by
    have:=congrArg (fun M=>ent M a b) e;rw[show ent (genM r1 C G1) a b=G1 a b from yR ha hb,show ent (genM r1 C G2) a b=G2 a b from yR ha hb]at this;exact this
   exact(h1.hb.iff x).trans ((qG.congr e2 x).trans (h2.hb.iff x).symm)
  intro hP;exact(h1.hb.mat h2.hb hP).2
 by_cases e:genM r1 C G1=genM r2 C G2
 ·rw[decide_eq_true e,hans.2 (h.1 e)]
 rw[decide_eq_false e];cases ha:ans with
 |false=>rfl
 |true=>exact absurd (h.2 (hans.1 ha)) e
theorem zOI(v1 v2:Value)(R Q C D:Nat)(M N:List (List Int))(w:World)(h1:zAC w v1 R C M)(h2:zAC w v2 Q D N)(hF1:zBU R C M)(hF2:zBU Q D N)(hC:C<=1000000)(hD:C=D)
  (k1:∀(v:Value) (w:World),zAC w v R C M->CPq 59 #[v] w fun e w'=>∃v,e= .returned v/\zIW R C (ent M) w' v/\BWq w w')
  (k2:∀(v:Value) (w:World),zAC w v Q D N->CPq 59 #[v] w fun e w'=>∃v,e= .returned v/\zIW Q D (ent N) w' v/\BWq w w')
  {ans:Bool} (hans:ans=true↔∀x,qG R C (ent M) x↔qG Q C (ent N) x):
  CPq 27 #[v1,v2] w fun e w'=>∃v,e= .returned v/\v= .bool ans/\BWq w w':=by
 have H1:=xgv h1;have H2:=xgv h2;obtain⟨A1,rfl,h1⟩:=h1;obtain⟨A2,rfl,h2⟩:=h2;have HF1:=xgv hF1;have HF2:=xgv hF2;have HD:=xgv hD;have HN:=xgv hans;have K1:=xgv k1;have K2:=xgv k2;have HAA:jZ (((C:Int)==(D:Int))=true):=⟨by rw[hD];simp⟩;clear h1 h2 hF1 hF2 hD hans k1;go_enter Tryz.func27,Tryz.ntmps27;go_upto_region 1 with(fail)
 refine zD ?_;intro W0 hW0;obtain⟨hB0,bx1,bx2,hs0⟩:=zAj hW0;have c1:=bx1.three;have d1:=bx2.three;clear hW0;go_wp2_with fail
 refine(zFT _ _ _ _ _ _ W0).mono ?_;rintro e w1 ⟨rfl,k1,k2,hb1⟩;have hB:=nx hB0 hb1;have bx1:=bx1.below hb1;have bx2:=bx2.below hb1;clear c1 d1;go_wp2_with fail
 refine(zDP (.inl rfl) _ _ 1 50 _ (qX _ _ _) (ans:=true) (k:=0) rfl (fun W hW=>zEX _ _ R C Q D _ _ M N W (((H1.out.below hB).below ((zA _ _).alloc (xgf _) _)).below hW) HF1.out (((H2.out.below hB).below ((zA _ _).alloc (xgf _) _)).below hW) HF2.out ((k1.below ((zA _ _).alloc (xgf _) _)).below hW) ((k2.below ((zA _ _).alloc (xgf _) _)).below hW) HAA.out)).mono ?_;rintro e w2 ⟨v,rfl,rfl,hb2⟩;have hb02:BWq w1 w2:=nx ((zA _ _).alloc (xgf _) _) hb2;have hB:=nx hB hb02;have bx1:=bx1.below hb02;have bx2:=bx2.below hb02;clear k1 k2;have c1:=bx1.three;have d1:=bx2.three;go_wp2_with fail
 refine(zGZ _ _ R C Q D M N w2 (H1.out.below hB) (H2.out.below hB) K1.out K2.out).mono ?_;rintro e w3 ⟨q1,o1,n1,k1,q2,o2,n2,k2,rfl,⟨r1,κ1,G1,l1,m1⟩,⟨r2,κ2,G2,l2,m2⟩,hb3⟩;have hB:=nx hB hb3;have M1:=xgv m1;have M2:=xgv m2;have L1:=xgv l1;have L2:=xgv l2;clear c1 d1 bx1 bx2 m1 m2 l1 l2;go_upto_region 4 with(fail)
 refine zD ?_;intro W4 hW4;obtain⟨hB4,T5,hs4⟩:=qL hW4;have t1:=T5.six;have hB:=nx hB hB4;clear hW4;go_wp2_with fail
 refine(zXN _ _ r1 r2 C _ _ W4 (M1.out.below hB4) (by simpa only[HD.out]using M2.out.below hB4) (yW _ _ _) (yW _ _ _) hC).mono ?_;rintro e w5 ⟨v,rfl,rfl,hb5⟩;rw[zYN L1.out (by simpa only[HD.out]using L2.out) HN.out];have hB:=nx hB hb5;go_wp2;go_ret;exact⟨_,rfl,rfl,hB⟩
theorem zLj{e k:Nat}(v1 v2:Value)(M:List (List Int))(x:Nat->Int)(w:World)(h1:zAC w v1 R C M)(hF1:zBU R C M)(h2:zAv w v2 (qZ C x))(hC:C<=4)
  (k1:∀(v:Value) (w:World),zAC w v R C M->CPq 59 #[v] w fun e w'=>∃v,e= .returned v/\zIW R C (ent M) w' v/\BWq w w')
  (hw:∀r c G,zJI R C r c (ent M) G->HNw r C e (genM r C G)) (he:e<=10000) (hk:k<=2^e) (hb:∀b,b<C->(x b).natAbs<=k) {ans:Bool} (hans:ans=true↔qG R C (ent M) x):
  CPq 35 #[v1,v2] w fun e w'=>∃v,e= .returned v/\v= .bool ans/\BWq w w':=by
 have H1:=xgv h1;obtain⟨A1,rfl,h1⟩:=h1;obtain⟨xo,xn,xc,rfl,x2,x3,x4,-⟩:=id h2;rw[qA]at x2;subst x2;have H2:=xgv h2;have HF1:=xgv hF1;have HN:=xgv hans;have K1:=xgv k1;have HW:=xgv hw;have HK:=xgv hk;have HB:=xgv hb;clear h1 h2 hF1 hans k1 hw hk hb;go_enter Tryz.func35,Tryz.ntmps35;go_upto_region 1 with(fail)
 refine zD ?_;intro W0 hW0;obtain⟨hB0,bx1,hs0⟩:=qL hW0;have c1:=bx1.three;clear hW0;go_wp2_with fail
 refine(zLo _ R C M W0 (H1.out.below hB0) HF1.out).mono ?_;rintro e w1 ⟨v,rfl,rfl,hb1⟩;have hB:=nx hB0 hb1;have bx1:=bx1.below hb1;clear c1;have c1:=bx1.three;go_wp2_with fail
 refine(zIl _ _ w1 (H2.out.below hB)).mono ?_;rintro e w2 ⟨rfl,hb2⟩;have hB:=nx hB hb2;have bx1:=bx1.below hb2;clear c1;have c1:=bx1.three;go_wp2_with fail
 refine(K1.out _ w2 (H1.out.below hB)).mono ?_;rintro e w3 ⟨v,rfl,⟨r,κ,G,hl,hm⟩,hb3⟩;have hB:=nx hB hb3;have hwd:=HW.out r κ G hl;have hrc:r<=C:=hl.hb.le_cols;have ha:ans=true↔qG r C (ent (genM r C G)) x:=HN.out.trans ((hl.hb.iff x).trans (qG.congr (fun a ha b hb=>(yR ha hb).symm) x));have HA:=xgv ha;have HWD:=xgv hwd;have HM:=xgv hm;obtain⟨m1,m2,m3,rfl⟩:=hm.agg;clear c1 ha hwd hm hl;go_wp2_with fail
 refine(zKs _ _ _ x w3 HM.out HWD.out (H2.out.below hB) oM oM he HK.out HB.out HA.out).mono ?_;rintro e w4 ⟨v,rfl,rfl,hb4⟩;have hB:=nx hB hb4;go_wp2;go_ret;exact⟨_,rfl,rfl,hB⟩
end Go.Proofs.YtkidaebmhlijlaaGreat
