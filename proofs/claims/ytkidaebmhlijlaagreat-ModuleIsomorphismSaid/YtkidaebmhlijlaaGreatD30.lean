/- Joined. -/
import Derived.Test.YtkidaebmhlijlaaGreatD29
set_option linter.unusedVariables false
set_option linter.unusedSimpArgs false
set_option linter.unusedSectionVars false
set_option maxHeartbeats 16000000
set_option maxRecDepth 100000
variable{t:Go.TypeId}{w w':Go.World}
namespace Go.Proofs.YtkidaebmhlijlaaGreat
open Go.RowKit
structure Bu(P:World->Prop)(w:World):Prop where
 h:P w
 k:∀w w',BWq w w'->P w->P w'
theorem Bu.nx{P:World->Prop}(a:Bu P w)(b:BWq w w'):Bu P w':=⟨a.k _ _ b a.h,a.k⟩
theorem Bu.add{P Q:World->Prop}(a:Bu P w)(q:Q w)(k:∀w w',BWq w w'->Q w->Q w'):Bu (fun w=>P w/\Q w) w:=⟨⟨a.h,q⟩,fun _ _ b h=>⟨a.k _ _ b h.1,k _ _ b h.2⟩⟩
theorem zKn(n0 m:Nat)(ls:List Int)(ht:2≠t):zDO n0 t m (fun w v=>zHT w v ls):=fun _ _ _ _ _ _ hb _ _ ⟨ao,n,cap,h1,h2,h3,h4,h5,h6⟩=>⟨ao,n,cap,h1,h2,h3,h4,h5,fun hn=>by
 obtain⟨b',cs1,e1,e2,e3⟩:=h6 hn;exact⟨b',cs1,e1,Blk.wrT e2 hb ht,e3⟩⟩
theorem zJi(n0:Nat){R C:Int}{M:List (List Int)}(h0:∀r∈M,2<2*r.length)(ht2:46≠t)(hu:t≠tU):zDO n0 t 2 (fun w v=>zAC w v R C M):=fun _ _ _ _ _ _ hb hs _ h=>
 h.wrG hb (fun _ zs hz hr=>hr.wrM hb (by rw[hs];exact h0 zs hz) hu) ht2
theorem zSj(n0 m:Nat)(b:Int)(ts:List Int)(ht:tI≠t)(hu:t≠tU):zDO n0 t m (GT b ts):=fun _ _ _ _ _ _ hb _ _ ⟨u,h1,o,n,c,h2,h3⟩=>⟨u,h1,o,n,c,h2,h3.wrT hb ht hu⟩
theorem GV.below{b:Int}{ts:List Int}{v:Value}(h:GV b ts w v)(e:BWq w w'):GV b ts w' v:=zHe b ts _ _ _ e h
theorem zXZ(v1 v2:Value)(z:Int)(w:World)(h1:jY w v1 z)(h2:jY w v2 z):
  CPq 29 #[v1,v2] w fun e w'=>∃v,e= .returned v/\v= .bool true/\BWq w w':=
 (zK1 v1 v2 z z w h1 h2).mono fun e w' ⟨h,hb⟩=>⟨_,h,by rw[decide_eq_true rfl],hb⟩
theorem zGJ(w:World):CPq 12 #[] w fun e w'=>e= .returned (.bool true)/\BWq w w':=by
 go_enter Tryz.func12,Tryz.ntmps12;have hB:=zA w.heap.size w;go_wp2_with fail
 refine(zIs _ [4] 1 1 _ _ [[4]] _ (zHT.new _ [4] dE dE) (by rfl) (by rfl) (by rfl) oM oM (by rfl)).mono ?_;rintro e wa ⟨v1,rfl,hm,hb1⟩;have hb1:=nxd hb1;have hB:=nx hB hb1;obtain⟨wao,wan,wak,rfl⟩:=hm.agg;have F:=Bu.mk hm (fun _ _ b h=>zAC.below h b);clear hm;go_wp2_with fail
 refine(zIs _ [6] 1 1 _ _ [[6]] _ (zHT.new _ [6] dE dE) (by rfl) (by rfl) (by rfl) oM oM (by rfl)).mono ?_;rintro e wb ⟨v1,rfl,hm,hb1⟩;have hb1:=nxd hb1;have hB:=nx hB hb1;have F:=F.nx hb1;obtain⟨wbo,wbn,wbk,rfl⟩:=hm.agg;have F:=F.add hm (fun _ _ b h=>zAC.below h b);clear hm;go_wp2_with fail
 refine(zZk wb).mono ?_;rintro e wc ⟨v1,rfl,hm,hb1⟩;have hB:=nx hB hb1;have F:=F.nx hb1;obtain⟨wco,wcn,wck,rfl⟩:=hm.agg;have F:=F.add hm (fun _ _ b h=>zAC.below h b);clear hm;go_upto_region 2 with(fail)
 refine zD ?_;intro W2 hW2;obtain⟨hB2,b1,b2,b3,hsW2⟩:=zBk hW2;have hB:=nx hB hB2;have F:=F.nx hB2;clear hW2;have F:=F.add b1 (fun _ _ b h=>Blk.below h b);clear b1;have F:=F.add b2 (fun _ _ b h=>Blk.below h b);clear b2;have F:=F.add b3 (fun _ _ b h=>Blk.below h b);clear b3;go_wp2_with fail
 refine(zIs _ [2,0,0,3] 2 2 _ _ zOK _ (zHT.new _ [2,0,0,3] dE dE) (by rfl) (by rfl) (by rfl) oM oM (by rfl)).mono ?_;rintro e wd ⟨v1,rfl,hm,hb1⟩;have hb1:=nxd hb1;have hB:=nx hB hb1;have F:=F.nx hb1;obtain⟨wdo,wdn,wdk,rfl⟩:=hm.agg;have F:=F.add hm (fun _ _ b h=>zAC.below h b);clear hm;go_upto_region 3 with(fail)
 refine zD ?_;intro W3 hW3;obtain⟨hB3,b4,hsW3⟩:=qL hW3;have hB:=nx hB hB3;have F:=F.nx hB3;clear hW3;have F:=F.add b4 (fun _ _ b h=>Blk.below h b);clear b4;have p1:=F.h.1.1.1.1.2.three;have q1:=F.h.1.1.1.2.three;go_wp2_with fail
 refine(zZj _ _ W3 F.h.1.1.1.1.1.1.1 F.h.1.1.1.1.1.1.2).mono ?_;rintro e we ⟨v1,rfl,hm,hb1⟩;have hB:=nx hB hb1;have F:=F.nx hb1;clear p1 q1;obtain⟨weo,wen,wek,rfl⟩:=hm.agg;have F:=F.add hm (fun _ _ b h=>zAC.below h b);clear hm;go_upto_region 4 with(fail)
 refine zD ?_;intro W4 hW4;obtain⟨hB4,b5,hsW4⟩:=qL hW4;have hB:=nx hB hB4;have F:=F.nx hB4;clear hW4;have F:=F.add b5 (fun _ _ b h=>Blk.below h b);clear b5;have p1:=F.h.1.1.1.1.1.1.2.three;have q1:=F.h.1.1.1.1.1.2.three;go_wp2_with fail
 refine(zZS _ _ W4 F.h.1.1.1.1.1.1.1.1.1 F.h.1.1.1.1.1.1.1.1.2).mono ?_;rintro e wf ⟨v1,rfl,hm,hb1⟩;have hB:=nx hB hb1;have F:=F.nx hb1;clear p1 q1;obtain⟨wfo,wfn,wfk,rfl⟩:=hm.agg;have F:=F.add hm (fun _ _ b h=>zAC.below h b);clear hm;go_upto_region 5 with(fail)
 refine zD ?_;intro W5 hW5;obtain⟨hB5,b7,hsW5⟩:=qL hW5;have hB:=nx hB hB5;have F:=F.nx hB5;clear hW5;have F:=F.add b7 (fun _ _ b h=>Blk.below h b);clear b7;go_wp2_with fail
 refine(zIs _ [1,1] 1 2 _ _ [[1,1]] _ (zHT.new _ [1,1] dE dE) (by rfl) (by rfl) (by rfl) oM oM (by rfl)).mono ?_;rintro e wg ⟨v1,rfl,hm,hb1⟩;have hb1:=nxd hb1;have hB:=nx hB hb1;have F:=F.nx hb1;obtain⟨wgo,wgn,wgk,rfl⟩:=hm.agg;have F:=F.add hm (fun _ _ b h=>zAC.below h b);clear hm;go_wp2_with fail
 refine(zIs _ [1,-1] 1 2 _ _ [[1,-1]] _ (zHT.new _ [1,-1] dE dE) (by rfl) (by rfl) (by rfl) oM oM (by rfl)).mono ?_;rintro e wh ⟨v1,rfl,hm,hb1⟩;have hb1:=nxd hb1;have hB:=nx hB hb1;have F:=F.nx hb1;obtain⟨who,whn,whk,rfl⟩:=hm.agg;have F:=F.add hm (fun _ _ b h=>zAC.below h b);clear hm;go_wp2_with fail
 refine(zZR _ _ wh F.h.1.2 F.h.2).mono ?_;rintro e wi ⟨v1,rfl,hm,hb1⟩;have hB:=nx hB hb1;have F:=F.nx hb1;obtain⟨wio,win,wik,rfl⟩:=hm.agg;have F:=F.add hm (fun _ _ b h=>zAC.below h b);clear hm;go_upto_region 6 with(fail)
 refine zD ?_;intro W6 hW6;obtain⟨hB6,b9,hsW6⟩:=qL hW6;have hB:=nx hB hB6;have F:=F.nx hB6;clear hW6;have F:=F.add b9 (fun _ _ b h=>Blk.below h b);clear b9;have p1:=F.h.1.1.1.1.1.1.1.1.1.1.2.three;have q1:=F.h.1.1.1.1.1.1.1.1.2.three;go_wp2_with fail
 refine(zXC _ _ W6 F.h.1.1.1.1.1.1.1.1.1.1.1.1.1.2 F.h.1.1.1.1.1.1.1.1.1.2).mono ?_;rintro e wj ⟨v1,rfl,hi,hb1⟩;have hB:=nx hB hb1;have F:=F.nx hb1;clear p1 q1;obtain⟨is,ia,il,ic,ix,rfl,hi'⟩:=id hi;have HI':=xgw hi';clear hi';have F:=F.add hi (fun _ _ b h=>jY.ext h (lx b));clear hi;go_upto_region 7 with(fail)
 refine zD ?_;intro W7 hW7;obtain⟨hB7,b11,hsW7⟩:=qL hW7;have hB:=nx hB hB7;have F:=F.nx hB7;clear hW7;have F:=F.add b11 (fun _ _ b h=>Blk.below h b);clear b11;go_wp2_with fail
 refine(zIs _ [2] 1 1 _ _ [[2]] _ (zHT.new _ [2] dE dE) (by rfl) (by rfl) (by rfl) oM oM (by rfl)).mono ?_;rintro e wk ⟨v1,rfl,hm,hb1⟩;have hb1:=nxd hb1;have hB:=nx hB hb1;have F:=F.nx hb1;obtain⟨wko,wkn,wkk,rfl⟩:=hm.agg;have F:=F.add hm (fun _ _ b h=>zAC.below h b);clear hm;go_wp2_with fail
 refine(zIs _ [3] 1 1 _ _ [[3]] _ (zHT.new _ [3] dE dE) (by rfl) (by rfl) (by rfl) oM oM (by rfl)).mono ?_;rintro e wl ⟨v1,rfl,hm,hb1⟩;have hb1:=nxd hb1;have hB:=nx hB hb1;have F:=F.nx hb1;obtain⟨wlo,wln,wlk,rfl⟩:=hm.agg;have F:=F.add hm (fun _ _ b h=>zAC.below h b);clear hm;go_wp2_with fail
 refine(zXB _ _ wl F.h.1.2 F.h.2).mono ?_;rintro e wm ⟨v1,rfl,rfl,hb1⟩;have hB:=nx hB hb1;have F:=F.nx hb1;go_upto_region 8 with(fail)
 refine zD ?_;intro W8 hW8;obtain⟨hB8,b13,hsW8⟩:=qL hW8;have hB:=nx hB hB8;have F:=F.nx hB8;clear hW8;have F:=F.add b13 (fun _ _ b h=>Blk.below h b);clear b13;go_upto_region 8 with(fail)
 have p1:=F.h.1.1.1.1.1.1.1.1.1.1.1.1.1.1.1.2.three;have hl1:=zE8 [2,0];have hm1:=zCc (1:Nat) (2:Nat) [[2,0]];have hl2:zDO W8.heap.size 43 2 (fun w v=>zHT w v [2,0]):=zKn _ _ _ dE;have hm2:zDO W8.heap.size 43 2 (fun w v=>zAC w v (1:Nat) (2:Nat) [[2,0]]):=zJi _ dE dE dE;skip;refine zBl [pcD 1 [] (fun w v=>zHT w v [2,0]),pcD 2 [1] (fun w v=>zAC w v (1:Nat) (2:Nat) [[2,0]]),pcD 3 [2] (fun _ v=>v= .tuple #[.agg #[.bool false,.slice none 0 0],niq 170]),pbA 7 43 2,pbS 8 7 43 2] ?_;refine sRd ?_;refine sRc (fun wS hI Gk hG=>?_) (fun _ hv=>?_)
 ·go_simp
  exact⟨hG _ _ (zHT.new _ [2,0] dE dE),(zA _ _).alloc (xgf _) _⟩
 obtain⟨_,-,v1,v2,v3,rfl,-⟩:=hv;refine sRc (fun wS hI h1 Gk hG=>?_) (fun _ hv=>?_)
 ·go_simp
  exact ck hG (zIs _ [2,0] 1 2 _ _ [[2,0]] _ h1 (by rfl) (by rfl) (by rfl) oM oM (by rfl))
 obtain⟨_,-,_,rfl,v4,v5,v6,rfl,-⟩:=hv;refine sRc (fun wS hI h2 Gk hG=>?_) (fun _ hv=>?_)
 ·go_simp
  exact ck hG (zUy _ _ _ (F.h.1.1.1.1.1.1.1.1.1.1.1.1.1.1.1.1.1.1.2.below hI.bel) h2)
 obtain⟨_,-,rfl⟩:=hv;refine sRd ?_;refine sRa (cs:=#[.bool false,.slice none 0 0]) fun bq gq=>?_
 refine sRs bq (.agg #[.bool false,.slice none 0 0]) ?_;refine sRd ?_;refine sRb ?_;simp only[FA,FC,FN,ptr,List.nil_append,List.cons_append,Act.put,xgh,xgi,xgj];intro x8f hbf8 _ _ h3 k8 _;clear h3 k8;clear hl1 hm1 hl2 hm2 p1;have hB:=nx hB hbf8;have F:=F.nx hbf8;go_upto_region 9 with(fail)
 have p1:=F.h.1.1.1.1.1.1.1.1.1.1.1.1.1.1.1.2.three;have q1:=F.h.1.1.1.1.1.1.1.1.1.1.1.1.1.2.three;go_wp2_with fail
 refine(zPe _ _ x8f F.h.1.1.1.1.1.1.1.1.1.1.1.1.1.1.1.1.1.1.2 F.h.1.1.1.1.1.1.1.1.1.1.1.1.1.1.2 (jN dE) dE dE zW2).mono ?_;rintro e wn ⟨v1,rfl,⟨u1,rfl,hg⟩,hb1⟩;have hB:=nx hB hb1;have F:=F.nx hb1;clear p1 q1;obtain⟨qo,qn,qk,rfl,-⟩:=id hg;have F:=F.add hg (fun _ _ b h=>GV.below h b);clear hg;go_upto_region 10 with(fail)
 refine zD ?_;intro W10 hW10;obtain⟨hB10,b17,hsW10⟩:=qL hW10;have hB:=nx hB hB10;have F:=F.nx hB10;clear hW10;have F:=F.add b17 (fun _ _ b h=>Blk.below h b);clear b17;go_upto_region 10 with(fail)
 have p1:=F.h.1.1.1.1.1.1.1.1.1.1.1.1.1.1.1.1.1.2.three;have hl1:=zE8 [4,6];have hm1:=zCc (1:Nat) (2:Nat) [[4,6]];have hl2:zDO W10.heap.size tGr 2 (fun w v=>zHT w v [4,6]):=zKn _ _ _ dE;have hm2:zDO W10.heap.size tGr 2 (fun w v=>zAC w v (1:Nat) (2:Nat) [[4,6]]):=zJi _ dE dE dE;have hGT:=zSi 1 [2];have hGU:=zSj W10.heap.size 2 1 [2] (t:=tGr) dE dE;refine zBl [pcD 1 [] (fun w v=>zHT w v [4,6]),pcD 2 [1] (fun w v=>zAC w v (1:Nat) (2:Nat) [[4,6]]),pcD 3 [2] (GT 1 [2]),pbA 7 tGr 2,pbS 8 7 tGr 2] ?_;refine sRd ?_;refine sRc (fun wS hI Gk hG=>?_) (fun _ hv=>?_)
 ·go_simp
  exact⟨hG _ _ (zHT.new _ [4,6] dE dE),(zA _ _).alloc (xgf _) _⟩
 obtain⟨_,-,v1,v2,v3,rfl,-⟩:=hv;refine sRc (fun wS hI h1 Gk hG=>?_) (fun _ hv=>?_)
 ·go_simp
  exact ck hG (zIs _ [4,6] 1 2 _ _ [[4,6]] _ h1 (by rfl) (by rfl) (by rfl) oM oM (by rfl))
 obtain⟨_,-,_,rfl,v4,v5,v6,rfl,-⟩:=hv;refine sRc (fun wS hI h2 Gk hG=>?_) (fun _ hv=>?_)
 ·go_simp
  exact ck hG (zPe _ _ _ (F.h.1.1.1.1.1.1.1.1.1.1.1.1.1.1.1.1.1.1.1.1.2.below hI.bel) h2 (jN dE) dE dE zUp)
 obtain⟨_,-,_,rfl,ro,rn,rk,rfl,-⟩:=hv;refine sRd ?_;refine sRa (cs:=#[niq 0,.slice none 0 0]) fun bq gq=>?_
 refine sRs bq (.agg #[niq 1,.slice ro rn rk]) ?_;refine sRd ?_;refine sRb ?_;simp only[FA,FC,FN,ptr,List.nil_append,List.cons_append,Act.put,xgh,xgi,xgj];intro x10f hbf10 _ _ h3 k8 _;have b19:Blk x10f bq tGr #[niq 1,.slice ro rn rk]:=k8 _ rfl;obtain⟨_,e,hg⟩:=h3;cases e;clear k8 hGT hGU;clear hl1 hm1 hl2 hm2 p1;have hB:=nx hB hbf10;have F:=F.nx hbf10;have F:=F.add hg (fun _ _ b h=>GV.below h b);clear hg;have F:=F.add b19 (fun _ _ b h=>Blk.below h b);clear b19;go_upto_region 11 with(fail)
 have p1:=F.h.1.1.1.1.1.1.1.1.1.1.1.1.1.1.1.1.1.1.1.1.1.2.three;have q1:=F.h.1.1.1.1.1.1.1.1.1.1.1.1.1.1.1.1.1.1.1.2.three;go_wp2_with fail
 refine(zT1 _ _ x10f F.h.1.1.1.1.1.1.1.1.1.1.1.1.1.1.1.1.1.1.1.1.1.1.1.1 F.h.1.1.1.1.1.1.1.1.1.1.1.1.1.1.1.1.1.1.1.1.1.1.2).mono ?_;rintro e wo ⟨v1,rfl,rfl,hb1⟩;have hB:=nx hB hb1;have F:=F.nx hb1;clear p1 q1;go_upto_region 12 with(fail)
 refine zD ?_;intro W12 hW12;obtain⟨hB12,b21,hsW12⟩:=qL hW12;have hB:=nx hB hB12;have F:=F.nx hB12;clear hW12;have F:=F.add b21 (fun _ _ b h=>Blk.below h b);clear b21;go_upto_region 13 with(fail)
 obtain⟨c1,c2,c3,c4,c5,c6⟩:=F.h.1.1.1.1.1.1.1.1.1.1.1.1.1.1.1.1.2.three;obtain⟨d1,d2,d3,d4,d5,d6⟩:=F.h.1.1.1.1.1.1.1.1.1.1.1.1.1.1.2.three;have f1:=F.h.1.1.1.1.1.1.1.1.1.1.2.three;have g1:=F.h.1.1.1.1.1.1.1.1.2.two;have hL0:=zE8 [2];have hL1:=zE8 [12];have hL2:=zCc (1:Nat) (1:Nat) [[2]];have hL3:=zCc (1:Nat) (1:Nat) [[12]];have hL4:=zCc (0:Nat) (2:Nat) [];refine zBl [pcD 1 [] (fun w v=>zHT w v [2]),pcD 2 [1] (fun w v=>zAC w v (1:Nat) (1:Nat) [[2]]),pcD 3 [2] (fun _ v=>v= .bool true),pcD 6 [] (fun w v=>zHT w v [12]),pcD 7 [6] (fun w v=>zAC w v (1:Nat) (1:Nat) [[12]]),pcD 8 [7] (fun _ v=>v= .bool true),pcD 12 [] (fun w v=>zAC w v (0:Nat) (2:Nat) []),pcD 13 [12] (fun _ v=>v= .bool true),pcI 17 (6),pcD 18 [17] (fun _ v=>v= .bool true)] ?_;refine sRd ?_;refine sRc (fun wS hI Gk hG=>?_) (fun vy1 _=>?_)
 ·go_simp
  exact⟨hG _ _ (zHT.new _ [2] dE dE),(zA _ _).alloc (xgf _) _⟩
 refine sRc (fun wS hI hy1 Gk hG=>by go_simp;exact ck hG (zIs _ [2] 1 1 _ _ [[2]] _ hy1 (by rfl) (by rfl) (by rfl) oM oM (by rfl))) (fun vy2 _=>?_);refine sRc (fun wS hI hy2 Gk hG=>?_) (fun _ hv=>?_)
 ·go_simp
  refine(zXe _ _ _ _ _ _ (F.h.1.1.1.1.1.1.1.1.1.1.1.1.1.1.1.1.1.2.below hI.bel) hy2).mono ?_;rintro e wa ⟨v,rfl,hv,hba⟩;exact⟨_,rfl,hG _ _ hv,hba⟩
 obtain⟨_,-,rfl⟩:=hv;refine sRd ?_;refine sRc (fun wS hI Gk hG=>?_) (fun vy6 _=>?_)
 ·go_simp
  exact⟨hG _ _ (zHT.new _ [12] dE dE),(zA _ _).alloc (xgf _) _⟩
 refine sRc (fun wS hI hy6 Gk hG=>by go_simp;exact ck hG (zIs _ [12] 1 1 _ _ [[12]] _ hy6 (by rfl) (by rfl) (by rfl) oM oM (by rfl))) (fun vy7 _=>?_);refine sRc (fun wS hI hy7 Gk hG=>?_) (fun _ hv=>?_)
 ·go_simp
  refine(zXe _ _ _ _ _ _ (F.h.1.1.1.1.1.1.1.1.1.1.1.1.1.1.1.2.below hI.bel) hy7).mono ?_;rintro e wa ⟨v,rfl,hv,hba⟩;exact⟨_,rfl,hG _ _ hv,hba⟩
 obtain⟨_,-,rfl⟩:=hv;refine sRd ?_;refine sRc (fun wS hI Gk hG=>by go_simp;exact ck hG (qAV 0 2 _ _ _ (by rfl) (by rfl) oM oM)) (fun vy12 _=>?_);refine sRc (fun wS hI hy12 Gk hG=>?_) (fun _ hv=>?_)
 ·go_simp
  refine(zXe _ _ _ _ _ _ (F.h.1.1.1.1.1.1.1.1.1.1.1.2.below hI.bel) hy12).mono ?_;rintro e wa ⟨v,rfl,hv,hba⟩;exact⟨_,rfl,hG _ _ hv,hba⟩
 obtain⟨_,-,rfl⟩:=hv;refine sRd ?_;refine sRc (fun wS hI Gk hG=>by go_simp;exact ck hG (zCx 6 _ oM oM)) (fun vy17 _=>?_);refine sRc (fun wS hI hy17 Gk hG=>?_) (fun _ hv=>?_)
 ·go_simp
  refine(zXZ _ _ 6 _ (F.h.1.1.1.1.1.1.1.1.1.2.ext (lx hI.bel)) hy17).mono ?_;rintro e wa ⟨v,rfl,hv,hba⟩;exact⟨_,rfl,hG _ _ hv,hba⟩
 obtain⟨_,-,rfl⟩:=hv;refine sRd ?_;refine sRe ?_;intro x13 hbx13 hy1 hy2 _ hy6 hy7 _ hy12 _ hy17 _;have hx13:=hbx13;have hB:=nx hB hx13;have F:=F.nx hx13;clear hbx13 hx13 hL0 hL1 hL2 hL3 hL4 c1 c2 c3 c4 c5 c6 d1 d2 d3 d4 d5 d6 f1 g1;go_upto_region 14 with(fail)
 obtain⟨c1,c2,c3,c4⟩:=F.h.1.1.1.2.two;obtain⟨d1,d2,d3,d4⟩:=F.h.1.2.two;have hL0:=zBG [6];have hL1:=zBG [2];have hL2:=zHe 0 [6];have hL3:=zHe 1 [2];refine zBl [pcI 1 (6),pcD 2 [1] (fun w v=>zAv w v [6]),pcD 3 [2] (GV 0 [6]),pcD 4 [3] (fun _ v=>v= .bool true),pcI 7 (2),pcD 8 [7] (fun w v=>zAv w v [2]),pcD 9 [8] (GV 1 [2]),pcD 10 [9] (fun _ v=>v= .bool true)] ?_;refine sRd ?_;refine sRc (fun wS hI Gk hG=>by go_simp;exact ck hG (zCx 6 _ oM oM)) (fun vy1 _=>?_);refine sRc (fun wS hI hy1 Gk hG=>?_) (fun vy2 _=>?_)
 ·have h1':jY wS vy1 6:=hy1
  obtain⟨s1,a1,l1,c1',x1,rfl,-⟩:=id h1';go_simp;exact⟨hG _ _ (zAv.one_new _ h1'),(zA _ _).alloc (xgf _) _⟩
 refine sRc (fun wS hI hy2 Gk hG=>?_) (fun vy3 _=>?_)
 ·have h2':zAv wS vy2 [6]:=hy2
  obtain⟨o2,n2,k2,rfl,-⟩:=id h2';go_simp;exact⟨hG _ _ ⟨_,_,_,rfl,h2'⟩,zA _ _⟩
 refine sRc (fun wS hI hy3 Gk hG=>?_) (fun _ hv=>?_)
 ·go_simp
  refine(zK6 _ _ _ (F.h.1.1.1.1.2.below hI.bel) hy3).mono ?_;rintro e wa ⟨v,rfl,hv,hba⟩;exact⟨_,rfl,hG _ _ hv,hba⟩
 obtain⟨_,-,rfl⟩:=hv;refine sRd ?_;refine sRc (fun wS hI Gk hG=>by go_simp;exact ck hG (zCx 2 _ oM oM)) (fun vy7 _=>?_);refine sRc (fun wS hI hy7 Gk hG=>?_) (fun vy8 _=>?_)
 ·have h1':jY wS vy7 2:=hy7
  obtain⟨s1,a1,l1,c1',x1,rfl,-⟩:=id h1';go_simp;exact⟨hG _ _ (zAv.one_new _ h1'),(zA _ _).alloc (xgf _) _⟩
 refine sRc (fun wS hI hy8 Gk hG=>?_) (fun vy9 _=>?_)
 ·have h2':zAv wS vy8 [2]:=hy8
  obtain⟨o2,n2,k2,rfl,-⟩:=id h2';go_simp;exact⟨hG _ _ ⟨_,_,_,rfl,h2'⟩,zA _ _⟩
 refine sRc (fun wS hI hy9 Gk hG=>?_) (fun _ hv=>?_)
 ·go_simp
  refine(zK6 _ _ _ (F.h.1.1.2.below hI.bel) hy9).mono ?_;rintro e wa ⟨v,rfl,hv,hba⟩;exact⟨_,rfl,hG _ _ hv,hba⟩
 obtain⟨_,-,rfl⟩:=hv;refine sRd ?_;refine sRe ?_;intro x14 hbx14 hy1 hy2 hy3 _ hy7 hy8 hy9 _;have hx14:=hbx14;have hB:=nx hB hx14;have F:=F.nx hx14;clear hbx14 hx14 hL0 hL1 hL2 hL3 c1 c2 c3 c4 d1 d2 d3 d4;go_upto_region 15 with(fail)
 obtain⟨c1,c2,c3,c4,c5,c6⟩:=F.h.1.1.1.1.1.1.1.1.1.1.1.1.1.1.1.1.1.1.1.1.2.three;obtain⟨d1,d2,d3,d4,d5,d6⟩:=F.h.1.1.1.1.1.1.1.1.1.1.1.1.1.1.1.1.1.1.2.three;have f1:=F.h.1.1.1.1.1.1.1.1.1.1.1.1.1.1.1.1.2.three;have hL0:=zBG [4,-3];have hL1:=zBG [1,0];have hL2:=zBG [0];have hL3:=zE8 [4,6];have hL4:=zCc (2:Nat) (1:Nat) [[4],[6]];refine zBl [pcI 9 (4),pcI 10 (-3),pcD 11 [9,10] (fun w v=>zAv w v [4,-3]),pcD 12 [11] (fun _ v=>v= .bool true),pcI 16 (1),pcI 17 (0),pcD 18 [16,17] (fun w v=>zAv w v [1,0]),pcD 19 [18] (fun _ v=>v= .bool false),pcI 24 (0),pcD 25 [24] (fun w v=>zAv w v [0]),pcD 26 [25] (fun _ v=>v= .bool false),pcD 32 [] (fun _ v=>v= .bool true),pcD 37 [] (fun _ v=>v= .bool false),pcD 41 [] (fun w v=>zHT w v [4,6]),pcD 42 [41] (fun w v=>zAC w v (2:Nat) (1:Nat) [[4],[6]]),pcD 44 [42] (fun _ v=>v= .bool true)] ?_;refine sRd ?_;refine sRc (fun wS hI Gk hG=>by go_simp;exact ck hG (zCx 4 _ oM oM)) (fun vy9 _=>?_);refine sRc (fun wS hI Gk hG=>by go_simp;exact ck hG (zCx (-3) _ oM oM)) (fun vy10 _=>?_);refine sRc (fun wS hI hy9 hy10 Gk hG=>?_) (fun vy11 _=>?_)
 ·have h1':jY wS vy9 (4):=hy9
  have h2':jY wS vy10 (-3):=hy10;obtain⟨s1,a1,l1,c1',x1,rfl,-⟩:=id h1';obtain⟨s2,a2,l2,c2',x2,rfl,-⟩:=id h2';go_simp;exact⟨hG _ _ (zAv.two _ h1' h2'),(zA _ _).alloc (xgf _) _⟩
 refine sRc (fun wS hI hy11 Gk hG=>?_) (fun _ hv=>?_)
 ·go_simp
  refine(zO8 4 (-3) true _ _ _ (F.h.1.1.1.1.1.1.1.1.1.1.1.1.1.1.1.1.1.1.1.2.below hI.bel) hy11 dE dE ⟨fun _=>zXq,fun _=>rfl⟩).mono ?_;rintro e wa ⟨v,rfl,hv,hba⟩;exact⟨_,rfl,hG _ _ hv,hba⟩
 obtain⟨_,-,rfl⟩:=hv;refine sRd ?_;refine sRc (fun wS hI Gk hG=>by go_simp;exact ck hG (zCx 1 _ oM oM)) (fun vy16 _=>?_);refine sRc (fun wS hI Gk hG=>by go_simp;exact ck hG (zCx 0 _ oM oM)) (fun vy17 _=>?_);refine sRc (fun wS hI hy16 hy17 Gk hG=>?_) (fun vy18 _=>?_)
 ·have h1':jY wS vy16 (1):=hy16
  have h2':jY wS vy17 (0):=hy17;obtain⟨s1,a1,l1,c1',x1,rfl,-⟩:=id h1';obtain⟨s2,a2,l2,c2',x2,rfl,-⟩:=id h2';go_simp;exact⟨hG _ _ (zAv.two _ h1' h2'),(zA _ _).alloc (xgf _) _⟩
 refine sRc (fun wS hI hy18 Gk hG=>?_) (fun _ hv=>?_)
 ·go_simp
  refine(zO8 1 0 false _ _ _ (F.h.1.1.1.1.1.1.1.1.1.1.1.1.1.1.1.1.1.1.1.2.below hI.bel) hy18 dE dE ⟨nofun,fun h=>absurd h zS2⟩).mono ?_;rintro e wa ⟨v,rfl,hv,hba⟩;exact⟨_,rfl,hG _ _ hv,hba⟩
 obtain⟨_,-,rfl⟩:=hv;refine sRd ?_;refine sRc (fun wS hI Gk hG=>by go_simp;exact ck hG (zCx 0 _ oM oM)) (fun vy24 _=>?_);refine sRc (fun wS hI hy24 Gk hG=>?_) (fun vy25 _=>?_)
 ·have h1':jY wS vy24 0:=hy24
  obtain⟨s1,a1,l1,c1',x1,rfl,-⟩:=id h1';go_simp;exact⟨hG _ _ (zAv.one_new _ h1'),(zA _ _).alloc (xgf _) _⟩
 refine sRc (fun wS hI hy25 Gk hG=>?_) (fun _ hv=>?_)
 ·go_simp
  refine(zHj _ _ zOK [0] _ (F.h.1.1.1.1.1.1.1.1.1.1.1.1.1.1.1.1.1.1.1.2.below hI.bel) (jN dE) hy25 dE).mono ?_;rintro e wa ⟨v,rfl,hv,hba⟩;exact⟨_,rfl,hG _ _ hv,hba⟩
 obtain⟨_,-,rfl⟩:=hv;refine sRd ?_;refine sRc (fun wS hI Gk hG=>?_) (fun _ hv=>?_)
 ·go_simp
  refine(zXi _ _ _ (F.h.1.1.1.1.1.1.1.1.1.1.1.1.1.1.1.1.1.1.1.2.below hI.bel) (F.h.1.1.1.1.1.1.1.1.1.1.1.1.1.1.1.1.1.1.1.1.1.1.1.2.below hI.bel)).mono ?_;rintro e wa ⟨v,rfl,hv,hba⟩;exact⟨_,rfl,hG _ _ hv,hba⟩
 obtain⟨_,-,rfl⟩:=hv;refine sRd ?_;refine sRc (fun wS hI Gk hG=>?_) (fun _ hv=>?_)
 ·go_simp
  refine(zXj _ _ _ (F.h.1.1.1.1.1.1.1.1.1.1.1.1.1.1.1.1.1.1.1.1.1.1.1.2.below hI.bel) (F.h.1.1.1.1.1.1.1.1.1.1.1.1.1.1.1.1.1.1.1.2.below hI.bel)).mono ?_;rintro e wa ⟨v,rfl,hv,hba⟩;exact⟨_,rfl,hG _ _ hv,hba⟩
 obtain⟨_,-,rfl⟩:=hv;refine sRd ?_;refine sRc (fun wS hI Gk hG=>?_) (fun vy41 _=>?_)
 ·go_simp
  exact⟨hG _ _ (zHT.new _ [4,6] dE dE),(zA _ _).alloc (xgf _) _⟩
 refine sRc (fun wS hI hy41 Gk hG=>by go_simp;exact ck hG (zIs _ [4,6] 2 1 _ _ [[4],[6]] _ hy41 (by rfl) (by rfl) (by rfl) oM oM (by rfl))) (fun vy42 _=>?_);refine sRd ?_;refine sRc (fun wS hI hy42 Gk hG=>?_) (fun _ hv=>?_)
 ·go_simp
  refine(zWz _ _ _ hy42 (F.h.1.1.1.1.1.1.1.1.1.1.1.1.1.1.1.1.1.2.below hI.bel)).mono ?_;rintro e wa ⟨v,rfl,hv,hba⟩;exact⟨_,rfl,hG _ _ hv,hba⟩
 obtain⟨_,-,rfl⟩:=hv;refine sRd ?_;refine sRe ?_;intro x15 hbx15 hy9 hy10 hy11 _ hy16 hy17 hy18 _ hy24 hy25 _ _ _ hy41 hy42 _;have hB:=nx hB hbx15;go_wp2;go_ret;exact⟨rfl,hB⟩
end Go.Proofs.YtkidaebmhlijlaaGreat
