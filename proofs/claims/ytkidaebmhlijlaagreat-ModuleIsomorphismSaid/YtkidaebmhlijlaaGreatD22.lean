/- Joined. -/
import Derived.Test.YtkidaebmhlijlaaGreatD10
import Derived.Test.YtkidaebmhlijlaaGreatD15
import Derived.Test.YtkidaebmhlijlaaGreatD19
import Derived.Test.YtkidaebmhlijlaaGreatD20
set_option linter.unusedVariables false
set_option linter.unusedSimpArgs false
set_option linter.unusedSectionVars false
set_option maxHeartbeats 16000000
set_option maxRecDepth 100000
variable{zs:List Int}{v:Go.Value}{w w':Go.World}
namespace Go.Proofs.YtkidaebmhlijlaaGreat
open Go.RowKit
theorem zVy(h:zAv w v zs)(e:∀b,jJ w b zs->w'.heap[b]?=w.heap[b]?)(x:zBw w w'):zAv w' v zs:=by
 obtain⟨ao,n,cap,h1,h2,h3,h4,h5⟩:=h;exact⟨ao,n,cap,h1,h2,h3,h4,fun hn=>(h5 hn).elim fun b h=>⟨b,h.1,h.2.old (e b h.2) x⟩⟩
theorem RsO.offS{base:Nat}{M:List (List Int)}{g:Nat}{T:TypeId}{cs:Array Value}(h:RsO w base v M)(hg:Blk w g T cs)(h1:T≠tR)(h2:T≠tI)(ho:∀b,b≠g->w'.heap[b]?=w.heap[b]?)(hx:zBw w w'):RsO w' base v M:=by
 have hne:∀{c:Nat} {U:TypeId} {ds:Array Value},w.heap[c]?=some (.cells ds U (0,0))->T≠U->c≠g:=by
  intro c U ds hc hT hh;subst hh;have hg':w.heap[c]?=some (.cells cs T (0,0)):=hg;rw[hg']at hc;injection hc with hc
  injection hc with _ ht
  exact hT ht
 obtain⟨rvs,k1,k2,k3⟩:=h;refine⟨rvs,⟨k1.1,?_⟩,k2,fun k rv zs e1 e2=>zVy (k3 k rv zs e1 e2) (fun b hr=>by obtain⟨c2,s2,-⟩:=hr;exact ho b (hne s2 h2)) hx⟩;rcases k1.2 with h3|⟨g',cap,cur,rfl,q1,q2,q3⟩
 exact .inl h3;exact .inr ⟨g',cap,cur,rfl,q1,(ho g' (hne q2 h1)).trans q2,q3⟩
theorem zUz(a b c d e f:Value)(W:World):(Instr.index 119 (.agg #[a,b,c,d,e,f]) (niq 0)).run Tryz.prog W= .ok (.agg #[a,b,c]) W:=by
 kernel_rfl
theorem zU0(a b c d e f:Value)(W:World):(Instr.index 119 (.agg #[a,b,c,d,e,f]) (niq 1)).run Tryz.prog W= .ok (.agg #[d,e,f]) W:=by
 kernel_rfl
theorem zId(M:List (List Int)):zAK (fun w v=>zBq w v M):=fun _ _ _ hb h=>h.below hb
theorem zLy{rv:Value}(h:zAv w rv zs):zBq (w.alloc (.cells #[rv] 46)) (slq w.heap.size 1 1) [zs]:=
 ⟨_,1,1,rfl,rfl,xgf _,oM,fun _=>⟨w.heap.size,#[rv],rfl,qX _ _ _,fun k ys hk=>by
  match k with
  | 0=>
    obtain rfl:zs=ys:=by simpa using hk
    exact⟨rv,rfl,h.below ((zA _ _).alloc (xgf _) _)⟩
  |k+1=>simp at hk⟩⟩
theorem zS9(v:Value)(zs:List Int)(w:World)(h:zAv w v zs)(hn:zs.length<=1000000)(hS:∀z∈zs,Sm z):
  CPq 98 #[v,.slice none 0 0] w fun e w'=>∃u,e= .returned u/\zAv w' u zs/\BWq w w':=
 (zQw v zs w h hn hS).mono fun e w' ⟨u,h,ho,hb⟩=>⟨u,h,ho.vec,hb⟩
def zZN(w0:World)(rb g R C:Nat)(D:List (List Int))(w:World):Prop:=∃o n k,Blk w g 32 #[niq R,niq C,.slice o n k]/\RsO w (g+1) (.slice o n k) D/\Blk w rb 32 #[niq 0,niq 0,.slice none 0 0]/\BWq w0 w
def zZh(M N:List (List Int))(i:Nat):List (List Int):=if i=0 then []else if i=1 then M else M++N
theorem zKw(v1 v2:Value)(R Q C:Nat)(M N:List (List Int))(w:World)(h1:zAC w v1 R C M)(h2:zAC w v2 Q C N)(hF1:zBU R C M)(hF2:zBU Q C N)(hR:R<=1000000)(hQ:Q<=1000000)(hC:C<=1000000)(hS1:∀r∈M,∀z∈r,Sm z)(hS2:∀r∈N,∀z∈r,Sm z):
  CPq 58 #[v1,v2] w fun e w'=>∃v,e= .returned (.tuple #[v,.int .i64 0])/\zAC w' v ((R+Q:Nat):Int) C (M++N)/\BWq w w':=by
 have H1:=xgv h1;have H2:=xgv h2;obtain⟨A1,rfl,h1⟩:=h1;obtain⟨A2,rfl,h2⟩:=h2;obtain⟨ao,n1,cap,rfl,e2,e3,e4,-⟩:=id h1;obtain⟨bo,n2,bcap,rfl,g2,g3,g4,-⟩:=id h2;obtain rfl:R=n1:=by rw[<-e2,hF1.1]
 obtain rfl:Q=n2:=by rw[<-g2,hF2.1]
 have HDV:=xgv (decide_eq_true (And.intro hF1.valid hF2.valid));have HFM:=xgv hF1;have HFN:=xgv hF2;have HS1:=xgv hS1;have HS2:=xgv hS2;have hadd:IntKind.i64.wrap ((R:Int)+(Q:Int))=((R+Q:Nat):Int):=by rw[<-zAN];exact qU _ oM
 clear h1 h2 hF1 hF2 hS1 hS2 e2 g2;go_enter Tryz.func58,Tryz.ntmps58;go_upto_region 1 with(fail)
 refine zD ?_;intro W0 hW0;obtain⟨hB0,bx1,bx2,br,hs0⟩:=zBk hW0;obtain⟨c1,c2,c3,c4,c5,c6⟩:=bx1.three;have d1:=bx2.three;clear hW0;go_wp2_with fail
 refine(zIV _ 2 R C Q C _ _ M N _ (qX _ _ _) (xgf _) oM ((H1.out.below hB0).below ((zA _ _).alloc (xgf _) _)).off ((H2.out.below hB0).below ((zA _ _).alloc (xgf _) _)).off).mono ?_;rintro e w1 ⟨rfl,hb1⟩;rw[HDV.out];have hb01:BWq W0 w1:=nx ((zA _ _).alloc (xgf _) _) hb1;have hB:=nx hB0 hb01;have bx1:=bx1.below hb01;have bx2:=bx2.below hb01;have br:=br.below hb01;have hsz1:=hb01.size;clear c1 c2 c3 c4 c5 c6 d1;obtain⟨c1,c2,c3,c4,c5,c6⟩:=bx1.three;have d1:=bx2.three;go_upto_region 4 with(fail)
 refine zD ?_;intro W3 hW3;obtain⟨hB3,T6,hs3⟩:=qL hW3;try rw[hadd]at T6
 have hB:=nx hB hB3;have bx1:=bx1.below hB3;have bx2:=bx2.below hB3;have br:=br.below hB3;clear c1 c2 c3 c4 c5 c6 d1 hW3;obtain⟨c1,c2,c3,c4,c5,c6⟩:=bx1.three;have d1:=bx2.three;have hgl:w.heap.size+1+1<w1.heap.size:=oM;have hgW:w1.heap.size+1<=W3.heap.size:=T6.lt;have hi0:=fun W=>zUz (.int .i64 R) (.int .i64 C) (.slice ao R cap) (.int .i64 Q) (.int .i64 C) (.slice bo Q bcap) W
 have hi1:=fun W=>zU0 (.int .i64 R) (.int .i64 C) (.slice ao R cap) (.int .i64 Q) (.int .i64 C) (.slice bo Q bcap) W
 go_wp2;go_loopw [35] (fun iv wr=>∃i:Nat,i<=2/\iv= .int .i64 i/\zZN w (w.heap.size+1+1) w1.heap.size (R+Q) C (zZh M N i) wr) (fun iv _=>2-(intOf iv).toNat)
 case atStart=>exact⟨0,oM,rfl,_,_,_,T6,⟨[],zCC _ _ _ _,rfl,fun k _ _ h=>by simp at h⟩,br,hB⟩
 obtain⟨i,hi,rfl,o,n,k,bg,hrs,br,hb⟩:=hrel;rcases(by omega:i=0∨i=1∨i=2)with rfl|rfl|rfl
 ·rw[show((0:Nat):Int)=(0:Int) from rfl]
  go_upto_region 7 with(fail)
  refine zD ?_;intro W7 hW7;obtain⟨hB7,T8,hs7⟩:=qL hW7;have s1:=T8.three;have hb7:=nx hb hB7;have bg:=bg.below hB7;have hrs:=hrs.below hB7;have br:=br.below hB7;clear hW7;go_wp2;go_loopw [41] (fun jv wr=>∃j:Nat,j<=R/\jv= .int .i64 j/\zZN w (w.heap.size+1+1) w1.heap.size (R+Q) C ([]++(M).take j) wr/\BWq w wr) (fun jv _=>R-(intOf jv).toNat)
  case atStart=>exact⟨0,oM,rfl,⟨_,_,_,bg,by rw[jI,zA0];exact hrs,br,hb7⟩,hb7⟩
  obtain⟨j,hj,rfl,⟨o,n,k,bg,hrs,br,hb⟩,-⟩:=hrel;by_cases hlt:j<R
  ·obtain⟨A',eA,hA⟩:=(H1.out.below hb)
   injection eA with eA
   simp only[Array.mk.injEq,List.cons.injEq]at eA;obtain⟨-,-,rfl,-⟩:=eA;obtain⟨b,ra,rn,rc,zs,rfl,hbl,hzk,q1,hzv⟩:=hA.row (k:=j) (by rw[HFM.out.1];exact hlt);have hd:Hid ((M).take (j+1)=(M).take j++ [zs]):=by rw[jD,hzk];exact xgw rfl
   have hmem:=xgd hzk;have HZL:=xgv (HFM.out.2 zs hmem);have HZS:=xgv (HS1.out zs hmem);have HOO:=xgv hrs.own;have HRS:=xgv hrs;clear hzk hmem hrs;go_upto_region 10 with(fail)
   obtain⟨t1,t2,t3,t4,t5,t6⟩:=bg.three;have hl1:=zBG zs;have hl2:=zId [zs];refine yP 5 [pcD 3 [] (fun w v=>zAv w v zs),pcD 4 [3] (fun w v=>zBq w v [zs])] ?_;refine sRd ?_;refine sRc (fun wS hI Gk hG=>by go_simp;exact ck hG (zS9 _ zs _ (hzv.below hI.bel) (by rw[HZL.out];omega) HZS.out)) (fun va3 _=>?_);refine sRc (fun wS hI ha3 Gk hG=>?_) (fun va4 _=>?_)
   ·have k3:zAv wS va3 zs:=ha3
    obtain⟨o3,n3,c3,rfl,-⟩:=id k3;go_simp;exact⟨hG _ _ (zLy k3),(zA _ _).alloc (xgf _) _⟩
   refine sRe ?_;intro w5 hbw5 ha3 ha4;have ha4:zBq w5 va4 [zs]:=ha4;have hr5:=HRS.out.below hbw5;have T65:=bg.below hbw5;have br5:=br.below hbw5;have hB5:=nx hb hbw5;have l65:=T65.lt;have lbr5:=br5.lt;clear t1 t2 t3 t4 t5 t6;go_wp2_with (at_builtin;refine zWo rfl _ _ rfl (w1.heap.size+1) (.slice o n k) ([]++(M).take j) rfl hr5 va4 [zs] rfl ha4 (by have:=HFM.out.1;have:=HFN.out.1;simp;omega) oM ?_;intro v' w' hown hgr hlx;have T6w:Blk w' w1.heap.size 32 #[.int .i64 ((R+Q:Nat):Int),.int .i64 C,.slice o n k]:=(hgr.block _ l65 (fun e=>by have:=(HOO.out _ e.symm).1;omega)).trans T65;have brw:Blk w' (w.heap.size+1+1) 32 #[.int .i64 0,.int .i64 0,.slice none 0 0]:=(hgr.block _ lbr5 (fun e=>by have:=(HOO.out _ e.symm).1;omega)).trans br5;have hBw:BWq w w':=hB5.grown hgr oM (fun g' hg=>by have:=(HOO.out g' hg).1;omega);obtain⟨t1,t2,t3,t4,t5,t6⟩:=T6w.three;obtain⟨po,pn,pc,rfl,-⟩:=id hown.rows)
   have hx1:zBw w' (w'.setCell ⟨w1.heap.size,2,none⟩ (.slice po pn pc)):=T6w.lext dE _ _;have hrow:=hown.offS T6w dE dE (fun b hb=>zY _ _ _ b _ hb) hx1;have T6z:Blk (w'.setCell ⟨w1.heap.size,2,none⟩ (.slice po pn pc)) w1.heap.size 32 #[.int .i64 ((R+Q:Nat):Int),.int .i64 C,.slice po pn pc]:=by simpa using T6w.set_ 2 (.slice po pn pc)
   have brz:Blk (w'.setCell ⟨w1.heap.size,2,none⟩ (.slice po pn pc)) (w.heap.size+1+1) 32 #[.int .i64 0,.int .i64 0,.slice none 0 0]:=(zY _ _ _ _ _ oM).trans brw;have hBz:BWq w (w'.setCell ⟨w1.heap.size,2,none⟩ (.slice po pn pc)):=yJ hBw oM _ _;go_roundw
   case rel=>exact⟨j+1,oM,by simp,⟨_,_,_,T6z,by rw[hd.out,<-List.append_assoc];exact hrow,brz,hBz⟩,hBz⟩
   case measure=>exact meq
  obtain rfl:j=R:=oM;go_wp2;go_roundw
  case rel=>exact⟨1,oM,by simp,⟨_,_,_,bg,by have e:zZh M N 1= []++(M).take j:=(by rw[<-HFM.out.1,jA];rfl);rw[e];exact hrs,br,hb⟩⟩
  case measure=>simp[intOf]
 ·rw[show((1:Nat):Int)=(1:Int) from rfl]
  go_upto_region 7 with(fail)
  refine zD ?_;intro W7 hW7;obtain⟨hB7,T8,hs7⟩:=qL hW7;have s1:=T8.three;have hb7:=nx hb hB7;have bg:=bg.below hB7;have hrs:=hrs.below hB7;have br:=br.below hB7;clear hW7;go_wp2;go_loopw [41] (fun jv wr=>∃j:Nat,j<=Q/\jv= .int .i64 j/\zZN w (w.heap.size+1+1) w1.heap.size (R+Q) C (M++(N).take j) wr/\BWq w wr) (fun jv _=>Q-(intOf jv).toNat)
  case atStart=>exact⟨0,oM,rfl,⟨_,_,_,bg,by rw[jI,zA0];exact hrs,br,hb7⟩,hb7⟩
  obtain⟨j,hj,rfl,⟨o,n,k,bg,hrs,br,hb⟩,-⟩:=hrel;by_cases hlt:j<Q
  ·obtain⟨A',eA,hA⟩:=(H2.out.below hb)
   injection eA with eA
   simp only[Array.mk.injEq,List.cons.injEq]at eA;obtain⟨-,-,rfl,-⟩:=eA;obtain⟨b,ra,rn,rc,zs,rfl,hbl,hzk,q1,hzv⟩:=hA.row (k:=j) (by rw[HFN.out.1];exact hlt);have hd:Hid ((N).take (j+1)=(N).take j++ [zs]):=by rw[jD,hzk];exact xgw rfl
   have hmem:=xgd hzk;have HZL:=xgv (HFN.out.2 zs hmem);have HZS:=xgv (HS2.out zs hmem);have HOO:=xgv hrs.own;have HRS:=xgv hrs;clear hzk hmem hrs;go_upto_region 10 with(fail)
   obtain⟨t1,t2,t3,t4,t5,t6⟩:=bg.three;have hl1:=zBG zs;have hl2:=zId [zs];refine yP 5 [pcD 3 [] (fun w v=>zAv w v zs),pcD 4 [3] (fun w v=>zBq w v [zs])] ?_;refine sRd ?_;refine sRc (fun wS hI Gk hG=>by go_simp;exact ck hG (zS9 _ zs _ (hzv.below hI.bel) (by rw[HZL.out];omega) HZS.out)) (fun va3 _=>?_);refine sRc (fun wS hI ha3 Gk hG=>?_) (fun va4 _=>?_)
   ·have k3:zAv wS va3 zs:=ha3
    obtain⟨o3,n3,c3,rfl,-⟩:=id k3;go_simp;exact⟨hG _ _ (zLy k3),(zA _ _).alloc (xgf _) _⟩
   refine sRe ?_;intro w5 hbw5 ha3 ha4;have ha4:zBq w5 va4 [zs]:=ha4;have hr5:=HRS.out.below hbw5;have T65:=bg.below hbw5;have br5:=br.below hbw5;have hB5:=nx hb hbw5;have l65:=T65.lt;have lbr5:=br5.lt;clear t1 t2 t3 t4 t5 t6;go_wp2_with (at_builtin;refine zWo rfl _ _ rfl (w1.heap.size+1) (.slice o n k) (M++(N).take j) rfl hr5 va4 [zs] rfl ha4 (by have:=HFM.out.1;have:=HFN.out.1;simp;omega) oM ?_;intro v' w' hown hgr hlx;have T6w:Blk w' w1.heap.size 32 #[.int .i64 ((R+Q:Nat):Int),.int .i64 C,.slice o n k]:=(hgr.block _ l65 (fun e=>by have:=(HOO.out _ e.symm).1;omega)).trans T65;have brw:Blk w' (w.heap.size+1+1) 32 #[.int .i64 0,.int .i64 0,.slice none 0 0]:=(hgr.block _ lbr5 (fun e=>by have:=(HOO.out _ e.symm).1;omega)).trans br5;have hBw:BWq w w':=hB5.grown hgr oM (fun g' hg=>by have:=(HOO.out g' hg).1;omega);obtain⟨t1,t2,t3,t4,t5,t6⟩:=T6w.three;obtain⟨po,pn,pc,rfl,-⟩:=id hown.rows)
   have hx1:zBw w' (w'.setCell ⟨w1.heap.size,2,none⟩ (.slice po pn pc)):=T6w.lext dE _ _;have hrow:=hown.offS T6w dE dE (fun b hb=>zY _ _ _ b _ hb) hx1;have T6z:Blk (w'.setCell ⟨w1.heap.size,2,none⟩ (.slice po pn pc)) w1.heap.size 32 #[.int .i64 ((R+Q:Nat):Int),.int .i64 C,.slice po pn pc]:=by simpa using T6w.set_ 2 (.slice po pn pc)
   have brz:Blk (w'.setCell ⟨w1.heap.size,2,none⟩ (.slice po pn pc)) (w.heap.size+1+1) 32 #[.int .i64 0,.int .i64 0,.slice none 0 0]:=(zY _ _ _ _ _ oM).trans brw;have hBz:BWq w (w'.setCell ⟨w1.heap.size,2,none⟩ (.slice po pn pc)):=yJ hBw oM _ _;go_roundw
   case rel=>exact⟨j+1,oM,by simp,⟨_,_,_,T6z,by rw[hd.out,<-List.append_assoc];exact hrow,brz,hBz⟩,hBz⟩
   case measure=>exact meq
  obtain rfl:j=Q:=oM;go_wp2;go_roundw
  case rel=>exact⟨2,oM,by simp,⟨_,_,_,bg,by have e:zZh M N 2=M++(N).take j:=(by rw[<-HFN.out.1,List.take_length];rfl);rw[e];exact hrs,br,hb⟩⟩
  case measure=>simp[intOf]
 rw[show((2:Nat):Int)=(2:Int) from rfl];obtain⟨t1,t2,t3,t4,t5,t6⟩:=bg.three;have r1:=br.three;have hrs:RsO _ (w1.heap.size+1) (.slice o n k) (M++N):=hrs;have HRS:=xgv hrs;clear hrs;go_wp2;refine bodyPost_ret (zDT rfl _ rfl (br.put3 _ _ _) rfl) rfl ⟨_,rfl,⟨_,rfl,(HRS.out.offS br dE dE (fun k hk=>zAf _ _ k _ _ _ hk) (br.lext3 dE _ _ _)).rows⟩,yJ (yJ (yJ hb oM 0 _) oM 1 _) oM 2 _⟩
theorem zSv(v:Value)(R C m g1 g2:Nat)(M:List (List Int))(w:World)(h:zAC w v R C M)(hF:zBU R C M)(hR:R<=1000000)(hC:C<=1000000)(hm:m<=C)(hS:∀r∈M,∀z∈r,Sm z)
  (hg1:Blk w g1 tN (zBg R (fun t=>(t:Int)))) (hg2:Blk w g2 tN (zBg m (fun t=>(t:Int)))):
  CPq 63 #[v,slq g1 R R,slq g2 m m] w fun e w'=>∃u,e= .returned u/\zUU (R:Int) m (genM R m (ent M)) w' u/\BWq w w':=by
 have h0:=xgv h;obtain⟨A,rfl,h⟩:=h;obtain⟨ao,n,cap,rfl,e2,e3,e4,-⟩:=id h;have HX:=xgw e2;have HS:=xgv hS;have HF:=xgv hF;obtain rfl:n=R:=by rw[<-e2,hF.1]
 have hdv:decide (zBS n C M)=true:=decide_eq_true hF.valid;obtain⟨f,hf⟩:∃f:Nat->Nat->Int,ent M=f:=⟨_,rfl⟩;rw[hf];have hfe:∀i j,f i j=ent M i j:=fun i j=>by rw[<-hf]
 have HFE:=xgv hfe;have HG1:=xgv hg1;have HG2:=xgv hg2;have hl1:=hg1.lt;have hl2:=hg2.lt;clear hf hfe e2 hS hF hg1 hg2;go_enter Tryz.func63,Tryz.ntmps63;go_upto_region 1 with(fail)
 refine zD ?_;intro W0 hW0;obtain⟨hB0,bx1,br,hs0⟩:=zAj hW0;have c1:=bx1.three;clear hW0;go_wp2_with fail
 refine(zDR _ n C M W0 (h0.out.below hB0)).mono ?_;rintro e w1 ⟨rfl,hb1⟩;rw[hdv];have hB:=nx hB0 hb1;have bx1:=bx1.below hb1;have br:=br.below hb1;clear c1 hdv;have c1:=bx1.three;go_wp2_with fail
 refine(zMy n w1).mono ?_;rintro e w2 ⟨rfl,k2,hb2⟩;have hB:=nx hB hb2;have bx1:=bx1.below hb2;have br:=br.below hb2;clear c1;have c1:=bx1.three;go_wp2_with fail
 refine(zMS n n g1 w1.heap.size w2 (HG1.out.below hB) k2 (xgf _) hR).mono ?_;rintro e w3 ⟨rfl,hb3⟩;have hB:=nx hB hb3;have bx1:=bx1.below hb3;have br:=br.below hb3;clear c1 k2;have c1:=bx1.three;go_wp2_with fail
 refine(zMy C w3).mono ?_;rintro e w4 ⟨rfl,k4,hb4⟩;have hB:=nx hB hb4;have bx1:=bx1.below hb4;have br:=br.below hb4;clear c1;go_wp2_with fail
 refine(zMS m C g2 w3.heap.size w4 (HG2.out.below hB) k4 hm hC).mono ?_;rintro e w5 ⟨rfl,hb5⟩;have hB:=nx hB hb5;have bx1:=bx1.below hb5;have br:=br.below hb5;have lbr5:=br.lt;clear k4;go_wp2_with fail
 refine(zI6 n m w5 hR oM).mono ?_;rintro e w6 ⟨u,bs,rfl,⟨hbl,A2,rfl,ho⟩,hb6⟩;obtain⟨oo,on,oc,rfl,hon,-,-,-⟩:=id ho.rows;obtain rfl:n=on:=by rw[<-hon];simp[zDU]
 clear hon;have hlts:=ho.lts;have hsz5:=hB.size;have hB:=nx hB hb6;have bx1:=bx1.below hb6;have br:=br.below hb6;have q6:=hb6.size;go_upto_region 5 with(fail)
 refine zD ?_;intro W7 hW7;obtain⟨hB7,T9,hs7⟩:=qL hW7;have bx1:=bx1.below hB7;have br:=br.below hB7;have ho:=ho.below hB7;rw[zGi n m f]at ho;have hB:=nx hB hB7;have lbr:=br.lt;have hl9:=T9.lt;clear hW7;go_wp2;go_loopw [41] (fun iv wr=>∃i:Nat,i<=n/\iv=niq i/\BWq w wr/\Blk wr w.heap.size 32 #[niq n,niq C,.slice ao n cap]∧
  Blk wr (w.heap.size+1) 32 #[niq 0,niq 0,.slice none 0 0]/\Blk wr w6.heap.size 32 #[niq n,niq m,.slice oo n oc]/\qC wr w5.heap.size (.slice oo n oc) m bs (genM n m (zIT f i 0))) (fun iv _=>n-(intOf iv).toNat)
 case atStart=>exact⟨0,oM,rfl,hB,bx1,br,T9,ho⟩
 obtain⟨i,hi,rfl,hb,bx1,br,T9,ho⟩:=hrel;by_cases hlt:i<n
 ·obtain⟨b,ra,rn,rc,zs,rfl,hbl1,hz,p1,hv⟩:=h.row (k:=i) (by rw[HX.out];exact hlt)
  have hzl:=HF.out.2 zs (xgd hz);have hvl:=hv.len;obtain rfl:C=rn:=oM;have HZ:=xgv (And.intro hz hzl);have P1:=xgv p1;obtain⟨hvl1,hvl2,hvl3⟩:=hvl;have x1:=((HG1.out.below hb).cell i).trans (zER hlt);clear hz hzl hvl1 p1;go_wp2;clear x1;go_loopw [48] (fun jv wt=>∃j:Nat,j<=m/\jv=niq j/\BWq w wt/\Blk wt w.heap.size 32 #[niq n,niq C,(slq b n cap)]∧
   Blk wt (w.heap.size+1) 32 #[niq 0,niq 0,.slice none 0 0]/\Blk wt w6.heap.size 32 #[niq n,niq m,.slice oo n oc]/\qC wt w5.heap.size (.slice oo n oc) m bs (genM n m (zIT f i j))) (fun jv _=>m-(intOf jv).toNat)
  case atStart=>exact⟨0,oM,rfl,hb,bx1,br,T9,ho⟩
  rename World=>wt
  obtain⟨j,hj,rfl,hb,bx1,br,T9,ho⟩:=hrel;by_cases hjc:j<m
  ·obtain⟨b',z,s,a,l,c,rfl,hbl',hzk,q1,q2',hzv⟩:=(hv.below hb).cell (k:=j) (by rw[HZ.out.2];omega)
   have hent:=xgw ((HFE.out i j).trans (zEJ HZ.out.1 hzk));have SZ:jZ (Sm z):=⟨HS.out _ (xgd HZ.out.1) _ (xgd hzk)⟩;have x2:=((HG2.out.below hb).cell j).trans (zER hjc);have p1:=jL P1.out hb;clear hzk;have lt2:=br.lt;have lt1:=bx1.lt;have lt9:=T9.lt;have hbs:=hb.size;have hjC:j<C:=oM;go_upto_region 11 with(fail)
   clear x2;obtain⟨g,bo,rfl,hg,hbo,hbo2,o1,ho3⟩:=ho.at_ (i:=i) oM;have f1:=T9.three;have c1:=bx1.three;clear ho3;refine yP 16 [pcI 14 (z)] ?_;refine sRd ?_;refine sRc (fun wS hI Gk hG=>by go_simp;exact ck hG (zOV _ z _ (hzv.ext hI.lext) SZ.out)) (fun va14 _=>?_);refine sRd ?_;refine sRe ?_;intro w9 hbw9 ha14;obtain⟨pn,pa,pl,pc,px,rfl,hpx⟩:=id ha14;have HPX:=xgw hpx;clear hpx;have ho9:=ho.below hbw9;obtain⟨sn,sa,sl,sc,z1,z2,z3,z4,-⟩:=ho9.cellAt hbo hjc;have hbolt:=hlts i bo hbo;have hset:=ho9.set hbo hjc ha14;go_wp2;go_roundw
   case rel=>
    have hq:z=f i j:=hent.out.symm;rw[hq,zJ5 hlt hjc]at hset;exact⟨j+1,oM,by simp,yJ (yJ (nx hb hbw9) oM _ _) oM _ _,(yO _ _ _ _ _ _ _ oM).trans (bx1.below hbw9),(yO _ _ _ _ _ _ _ oM).trans (br.below hbw9),(yO _ _ _ _ _ _ _ oM).trans (T9.below hbw9),hset.1⟩
   case measure=>exact meq
  obtain rfl:j=m:=oM;rw[zJB]at ho;go_wp2;go_roundw
  case rel=>exact⟨i+1,oM,by simp,hb,bx1,br,T9,ho⟩
  case measure=>exact meq
 obtain rfl:i=n:=oM;rw[zJA]at ho;have f1:=T9.three;have r1:=br.three;go_wp2;refine bodyPost_ret (zDT rfl _ rfl (br.put3 _ _ _) rfl) rfl ⟨_,rfl,⟨_,rfl,⟨_,rfl,?_⟩⟩,yJ (yJ (yJ hb oM 0 _) oM 1 _) oM 2 _⟩;exact(ho.keep (fun k hk=>zAf _ _ k _ _ _ oM) (br.lext3 dE _ _ _)).rows
end Go.Proofs.YtkidaebmhlijlaaGreat
