/- torsionlaw15.sanity. The arguments of torsionlaw13's statements, opened. -/
import Derived.ChangeArms
import Derived.ProofKit
import Derived.OpenShut
import Derived.Test.YtgnmdddaiefooaaGreatK40
import Derived.Test.YtgnmdddaiefooaaGreatK50
set_option linter.unusedVariables false
set_option linter.unusedSimpArgs false
set_option linter.unusedSectionVars false
set_option maxHeartbeats 16000000
set_option maxRecDepth 100000
namespace Go.Proofs.YtgnmdddaiefooaaGreat
open Go.RowKit
theorem zGj{R C m:Nat}{A G:Nat->Nat->Int}{w:World}{v:Value}(h:zBr R C A w v)(hG:HB R m G (zE3 R C A)):qX w v m R (genM m R G):=by
 obtain⟨m',G',hl,hm⟩:=h;obtain⟨rfl,e⟩:=hl.1.mat hG fun x=>Iff.rfl
 rwa[e]at hm
theorem zIY{R C m:Nat}{A G:Nat->Nat->Int}{w:World}{v:Value}(h:zJb R C A w v)(hG:HB C m G (zBp R C A)):qX w v m C (genM m C G):=by
 obtain⟨m',G',hl,hm⟩:=h;obtain⟨rfl,e⟩:=hl.1.mat hG fun x=>Iff.rfl
 rwa[e]at hm
theorem zKF{C:Nat}{G:Nat->Nat->Int}(hC:0<C)(h:0<G 0 0):Hnf C 1 1 (fun k=>k) G:=
 ⟨xgf _,⟨fun k hk=>oM,fun k hk=>(by have e:k=0:=oM;rw[e];exact h),fun k hk t ht=>oM,fun k l h1 h2=>oM⟩,fun i j h1 h2=>oM,fun a h1 h2=>oM⟩
theorem zNC(n:Nat):Hnf n n n (fun k=>k) idf:=
 ⟨xgf _,⟨fun k hk=>hk,fun k hk=>by rw[show idf k k=1 from if_pos rfl];decide,fun k hk t ht=>if_neg oM,fun k l hkl hl=>hkl⟩,fun i j hij hj _=>by rw[show idf i j=0 from if_neg oM,show idf j j=1 from if_pos rfl];omega,fun a h1 h2=>by omega⟩
theorem zOd(f:Nat->Int):zI 2 f=f 0+f 1:=by simp[zI]
theorem zL4(f:Nat->Int):zI 1 f=f 0:=by simp[zI]
theorem lt2{P:Nat->Prop}(h0:P 0)(h1:P 1):∀b,b<2->P b:=fun b hb=>by
 rcases(by omega:b=0∨b=1)with rfl|rfl
 ·exact h0
 ·exact h1
theorem zP2:HB 2 1 (ent [[2,-1]]) (zE3 2 1 (ent [[1],[2]])):=by
 refine⟨⟨_,zKF dE dE⟩,fun x=>⟨fun h=>⟨fun _=>-x 1,?_⟩,?_⟩⟩
 ·have h0:=h 0 dE
  rw[zOd]at h0;have e0:ent [[1],[2]] 0 0=1:=rfl;have e1:ent [[1],[2]] 1 0=2:=rfl;rw[e0,e1]at h0;refine lt2 ?_ ?_
  ·rw[zL4,show ent [[2,-1]] 0 0=2 from rfl];dsimp only;omega
  ·rw[zL4,show ent [[2,-1]] 0 1=-1 from rfl];dsimp only;omega
 ·rintro⟨y,hy⟩ b hb
  obtain rfl:b=0:=by omega
  have h0:=hy 0 dE;have h1:=hy 1 dE;rw[zL4,show ent [[2,-1]] 0 0=2 from rfl]at h0;rw[zL4,show ent [[2,-1]] 0 1=-1 from rfl]at h1;rw[zOd,show ent [[1],[2]] 0 0=1 from rfl,show ent [[1],[2]] 1 0=2 from rfl];omega
theorem zPn:HB 2 1 (ent [[1,2]]) (zBp 1 2 (ent [[2,4]])):=by
 refine⟨⟨_,zKF dE dE⟩,fun x=>⟨fun h=>⟨fun _=>x 0,?_⟩,?_⟩⟩
 ·have h0:=h (ent [[2,-1]] 0) fun a ha=>by
   obtain rfl:a=0:=by omega
   decide
  rw[zOd,show ent [[2,-1]] 0 0=2 from rfl,show ent [[2,-1]] 0 1=-1 from rfl]at h0;refine lt2 ?_ ?_
  ·rw[zL4,show ent [[1,2]] 0 0=1 from rfl];dsimp only;omega
  ·rw[zL4,show ent [[1,2]] 0 1=2 from rfl];dsimp only;omega
 ·rintro⟨y,hy⟩ z hz
  have h0:=hy 0 dE;have h1:=hy 1 dE;have h2:=hz 0 dE;rw[zL4,show ent [[1,2]] 0 0=1 from rfl]at h0;rw[zL4,show ent [[1,2]] 0 1=2 from rfl]at h1;rw[zOd,show ent [[2,4]] 0 0=2 from rfl,show ent [[2,4]] 0 1=4 from rfl]at h2;rw[zOd,h0,h1,Int.mul_one,Int.mul_assoc,<-Int.mul_add,show z 0+2*z 1=0 by omega,Int.mul_zero]
theorem zOQ:zJi 1 2 (ent [[1,2]]):=zHc (Q:=ent [[1,2],[0,1]]) (P:=ent [[1,-2],[0,1]]) dE (lt2 (lt2 dE dE) (lt2 dE dE)) fun a ha=>by
 obtain rfl:a=0:=by omega
 exact lt2 rfl rfl
theorem zOY:¬ zG8 1 2 (ent [[2,4]]):=fun h=>by
 obtain⟨y,hy⟩:=h (ent [[1,2]] 0) ((zPn.iff _).2 (zAE.row _ dE));have h0:=hy 0 dE;rw[zL4,show ent [[2,4]] 0 0=2 from rfl,show ent [[1,2]] 0 0=1 from rfl]at h0;omega
theorem zPQ:¬ zJi 2 2 (ent [[1,0],[1,0]]):=fun h=>by
 have:=zCh (q:=1) (F:=ent [[1,0],[1,0]]) (X:=fun _ _=>1) (G:=ent [[1,0]]) (C:=2) (lt2 (lt2 dE dE) (lt2 dE dE)) h.full;omega
theorem zPR:zJi 0 2 (ent []):=zHc (Q:=idf) (P:=idf) dE (lt2 (lt2 dE dE) (lt2 dE dE)) fun a ha=>by omega
theorem zP3:HB 2 2 idf (zE3 2 0 (ent (jD 2 0))):=⟨⟨_,zNC 2⟩,fun x=>⟨fun _=>⟨x,fun b hb=>by rw[qW hb (fun i _ hne=>by rw[show idf i b=0 from if_neg hne,Int.mul_zero]),show idf b b=1 from if_pos rfl,Int.mul_one]⟩,fun _ b hb=>by omega⟩⟩
theorem zBZ{h R C:Nat}{M:List (List Int)}(hd:zOI (h+1) M=true)(hF:yI R C M):leM h R C (ent M):=zNK hd hF
theorem zMV{h e:Nat}(h1:1<=h)(he:2*h<=2^e)(he2:e<=1000000)(v:Value)(M:List (List Int))(R C m:Nat)(G:Nat->Nat->Int)(w:World)(hm:qX w v R C M)(hF:yI R C M)(hR:R<=4)(hC:C<=1000000)(hA:leM h R C (ent M))(hG:HB R m G (zE3 R C (ent M)))(W:List (List Int))(hW:genM m R G=W):
  Calls Tryz.prog 19 #[v] w fun e w'=>∃v,e= .returned v/\qX w' v m R W/\Below w.heap.size w w':=
 (zCt h1 he he2 v M R C w hm hF hR hC hA).mono fun e w' ⟨v,h2,h3,h4⟩=>⟨v,h2,hW ▸ zGj h3 hG,h4⟩
theorem zO5{h e:Nat}(h1:1<=h)(he:2*h<=2^e)(he2:e<=60000)(v:Value)(M:List (List Int))(R C m:Nat)(G:Nat->Nat->Int)(w:World)(hm:qX w v R C M)(hF:yI R C M)(hR:R<=1000000)(hC:C<=4)(hA:leM h R C (ent M))(hG:HB C m G (zBp R C (ent M)))(W:List (List Int))(hW:genM m C G=W):
  Calls Tryz.prog 21 #[v] w fun e w'=>∃v,e= .returned v/\qX w' v m C W/\Below w.heap.size w w':=
 (zFl h1 he he2 v M R C w hm hF hR hC hA).mono fun e w' ⟨v,h2,h3,h4⟩=>⟨v,h2,hW ▸ zIY h3 hG,h4⟩
theorem zOD(C:Nat)(v:Value)(w:World)(hm:qX w v (0:Nat) C [])(hC:C<=1000000):
  Calls Tryz.prog 19 #[v] w fun e w'=>∃v,e= .returned v/\qX w' v (0:Nat) (0:Nat) []/\Below w.heap.size w w':=
 (zCt (h:=1) (e:=1) dE dE dE v [] 0 C w hm ⟨rfl,by simp⟩ dE hC fun a ha=>by omega).mono fun e w' ⟨v,h2,⟨m,G,h3,h5⟩,h4⟩=>⟨v,h2,by
  obtain rfl:m=0:=by have:=h3.rows;omega
  exact h5,h4⟩
theorem zFe{B R C:Nat}{A:Nat->Nat->Int}{w:World}{v:Value}(h:jX B R C A true w v):∃u,v= .tuple #[u,.int .i64 0]/\zBq B R C A w u:=by
 unfold jX at h;rwa[if_pos rfl]at h
theorem zHC{B R C:Nat}{A:Nat->Nat->Int}{w:World}{v:Value}(h:jX B R C A false w v):v= .tuple #[.agg #[.int .i64 0,.int .i64 0,.slice none 0 0],.int .i64 170]:=by
 unfold jX at h;rwa[if_neg dE]at h
theorem zKB{h e k:Nat}(he:2*h<=2^e):2*gk k h<=2^(e*2^k):=by
 have h3:(2*h)^(2^k)<=(2^e)^(2^k):=Nat.pow_le_pow_left he _;rw[<-Nat.pow_mul,<-zKC]at h3;exact h3
theorem zBq.below{B R C:Nat}{A:Nat->Nat->Int}{w w':World}{u:Value}(h:zBq B R C A w u)(hb:Below w.heap.size w w'):zBq B R C A w' u:=zEN B R C A _ _ _ hb h
theorem zBq.agg{B R C:Nat}{A:Nat->Nat->Int}{w:World}{u:Value}(h:zBq B R C A w u):∃o n k,u= .agg #[.int .i64 ((C-R:Nat):Int),.int .i64 C,.slice o n k]:=by
 obtain⟨Q,P,-,-,-,h4⟩:=h;exact h4.agg
abbrev zP5:=fun{α:Type}{a b c d e f g h i j k L m n o p q r s t u v w X y z a1 b1 c1 d1 e1 f1 g1 h1 i1 j1 k1 l1 m1 n1 o1 p1 q1 r1 s1 t1 u1 v1 w1 x1 y1 z1 a2 b2 c2 d2 e2 f2 g2 h2 i2 x:α}{l:List α}=>List.Mem.tail a (@zPP α b c d e f g h i j k L m n o p q r s t u v w X y z a1 b1 c1 d1 e1 f1 g1 h1 i1 j1 k1 l1 m1 n1 o1 p1 q1 r1 s1 t1 u1 v1 w1 x1 y1 z1 a2 b2 c2 d2 e2 f2 g2 h2 i2 x l)
theorem zGr(w:World):Calls Tryz.prog 13 #[] w fun e w'=>e= .returned (.bool true)/\Below w.heap.size w w':=by
 go_enter Tryz.func13,Tryz.ntmps13;have hB:=Below.refl w.heap.size w;go_wp2_with fail
 refine(zHK _ [1,2] 1 2 _ _ [[1,2]] _ (zEv.new _ [1,2] dE dE) (by rfl) (by rfl) (by rfl) oM oM (by rfl)).mono ?_;rintro e wa ⟨v1,rfl,hm,hb1⟩;have hB:=nxa hB hb1;obtain⟨wao,wan,wak,rfl⟩:=hm.agg;have HL:=xgv hm;clear hm;go_upto_region 2 with(fail)
 refine zB ?_;intro W1 hW1;obtain⟨hB1,b1,hsW1⟩:=zO hW1;have hB:=nx hB hB1;have HL:=xgv (HL.out.below hB1);clear hW1;obtain⟨c1,c2,c3,c4,c5,c6⟩:=b1.three;go_wp2_with fail
 refine(zBy (h:=9) (e:=5) dE dE dE _ [[1,2]] 1 2 W1 HL.out ⟨rfl,by simp⟩ dE dE (zBZ dE ⟨rfl,by simp⟩) (ans:=true) ⟨fun _=>zOQ,fun _=>rfl⟩).mono ?_;rintro e w2 ⟨_,rfl,hret,hb2⟩;obtain⟨u,rfl,hcv⟩:=zFe hret;obtain⟨k1,k2,k3,rfl⟩:=hcv.agg;have HC:=xgv hcv;have hB:=nx hB hb2;clear c1 c2 c3 c4 c5 c6 hret hcv;have HL:=xgv (HL.out.below hb2);have b1:=b1.below hb2;go_upto_region 3 with(fail)
 refine zB ?_;intro W3 hW3;obtain⟨hB3,b2,hsW3⟩:=zO hW3;have hB:=nx hB hB3;have HL:=xgv (HL.out.below hB3);have b1:=b1.below hB3;have HC:=xgv (HC.out.below hB3);clear hW3;go_wp2_with fail
 refine(zHK _ [2,4] 1 2 _ _ [[2,4]] _ (zEv.new _ [2,4] dE dE) (by rfl) (by rfl) (by rfl) oM oM (by rfl)).mono ?_;rintro e wb ⟨v1,rfl,hm,hb1⟩;have hB:=nxa hB hb1;obtain⟨wbo,wbn,wbk,rfl⟩:=hm.agg;have hb1:=nxd hb1;have HL:=xgv (HL.out.below hb1);have b1:=b1.below hb1;have HC:=xgv (HC.out.below hb1);have b2:=b2.below hb1;have HM:=xgv hm;clear hm;go_wp2_with fail
 refine(zBy (h:=9) (e:=5) dE dE dE _ [[2,4]] 1 2 wb HM.out ⟨rfl,by simp⟩ dE dE (zBZ dE ⟨rfl,by simp⟩) (ans:=false) ⟨nofun,fun h=>absurd h (fun h=>zOY (zJi.sat h))⟩).mono ?_;rintro e w4 ⟨_,rfl,hret,hb2⟩;obtain rfl:=zHC hret;have hB:=nx hB hb2;clear hret HM;have HL:=xgv (HL.out.below hb2);have b1:=b1.below hb2;have HC:=xgv (HC.out.below hb2);have b2:=b2.below hb2;go_upto_region 4 with(fail)
 refine zB ?_;intro W5 hW5;obtain⟨hBW5,b4,hsW5⟩:=zO hW5;have hB:=nx hB hBW5;have HL:=xgv (HL.out.below hBW5);have b1:=b1.below hBW5;have HC:=xgv (HC.out.below hBW5);have b2:=b2.below hBW5;clear hW5;go_wp2_with fail
 refine(zHK _ [1,0,1,0] 2 2 _ _ [[1,0],[1,0]] _ (zEv.new _ [1,0,1,0] dE dE) (by rfl) (by rfl) (by rfl) oM oM (by rfl)).mono ?_;rintro e wc ⟨v1,rfl,hm,hb1⟩;have hB:=nxa hB hb1;obtain⟨wco,wcn,wck,rfl⟩:=hm.agg;have hb1:=nxd hb1;have HL:=xgv (HL.out.below hb1);have b1:=b1.below hb1;have HC:=xgv (HC.out.below hb1);have b2:=b2.below hb1;have HM:=xgv hm;clear hm;go_wp2_with fail
 refine(zBy (h:=9) (e:=5) dE dE dE _ [[1,0],[1,0]] 2 2 wc HM.out ⟨rfl,by simp⟩ dE dE (zBZ dE ⟨rfl,by simp⟩) (ans:=false) ⟨nofun,fun h=>absurd h (zPQ)⟩).mono ?_;rintro e w5 ⟨_,rfl,hret,hb2⟩;obtain rfl:=zHC hret;have hB:=nx hB hb2;clear hret HM;have HL:=xgv (HL.out.below hb2);have b1:=b1.below hb2;have HC:=xgv (HC.out.below hb2);have b2:=b2.below hb2;go_upto_region 5 with(fail)
 refine zB ?_;intro W7 hW7;obtain⟨hBW7,b6,hsW7⟩:=zO hW7;have hB:=nx hB hBW7;have HL:=xgv (HL.out.below hBW7);have b1:=b1.below hBW7;have HC:=xgv (HC.out.below hBW7);have b2:=b2.below hBW7;clear hW7;go_wp2_with fail
 refine(zBy (h:=9) (e:=5) dE dE dE _ [] 0 2 W7 ⟨_,rfl,qY.nil _⟩ ⟨rfl,by simp⟩ dE dE (fun a ha=>by omega) (ans:=true) ⟨fun _=>zPR,fun _=>rfl⟩).mono ?_;rintro e w9 ⟨_,rfl,hret,hb2⟩;obtain⟨u,rfl,hcv⟩:=zFe hret;obtain⟨l1,l2,l3,rfl⟩:=hcv.agg;have HD:=xgv hcv;have hB:=nx hB hb2;clear hret hcv;have HL:=xgv (HL.out.below hb2);have b1:=b1.below hb2;have HC:=xgv (HC.out.below hb2);have b2:=b2.below hb2;go_upto_region 6 with(fail)
 refine zB ?_;intro W9 hW9;obtain⟨hB9,b8,hsW9⟩:=zO hW9;have hB:=nx hB hB9;have HL:=xgv (HL.out.below hB9);have b1:=b1.below hB9;have HC:=xgv (HC.out.below hB9);have b2:=b2.below hB9;have HD:=xgv (HD.out.below hB9);clear hW9;obtain⟨c1,c2,c3,-,-,-⟩:=b1.three;obtain⟨d1,d2,d3,-,-,-⟩:=b2.three;obtain⟨f1,f2,f3,-,-,-⟩:=b8.three;have hl1:=zDL [1,2];have hl2:=zDL [2,-1];have hl3:=zDL [2,4];have hm1:=jL (2:Nat) (1:Nat) [[1],[2]];have hm2:=jL (1:Nat) (2:Nat) [[2,-1]];have hm3:=jL (1:Nat) (2:Nat) [[2,4]];have hm4:=jL (1:Nat) (2:Nat) [[1,2]];have hm5:=jL (2:Nat) (0:Nat) (jD 2 0);have hm6:=jL (2:Nat) (2:Nat) (genM 2 2 idf);have hm7:=jL (0:Nat) (0:Nat) [];refine zE rfl (RV W9 _ [⟨0,34,fun w v=>zEv w v [1,2]⟩,⟨1,35,fun w v=>qX w v (2:Nat) (1:Nat) [[1],[2]]⟩,⟨2,36,fun w v=>qX w v (1:Nat) (2:Nat) [[2,-1]]⟩,⟨3,37,fun w v=>zEv w v [2,-1]⟩,⟨4,38,fun w v=>qX w v (1:Nat) (2:Nat) [[2,-1]]⟩,E 5 39 (.bool true),E 6 40 (.bool true),⟨7,41,fun w v=>zEv w v [2,4]⟩,⟨8,42,fun w v=>qX w v (1:Nat) (2:Nat) [[2,4]]⟩,⟨9,43,fun w v=>qX w v (1:Nat) (2:Nat) [[1,2]]⟩,E 10 44 (.agg #[.int .i64 (1:Nat),.int .i64 (2:Nat),.slice wao wan wak]),E 11 45 (.bool true),E 12 46 (.bool true),E 13 47 (.bool true),E 14 48 (.agg #[.int .i64 (1:Nat),.int .i64 (2:Nat),.slice wao wan wak]),E 15 49 (.bool true),E 16 50 (.bool true),E 17 51 (.bool true),⟨18,52,fun w v=>zEv w v [2,4]⟩,⟨19,53,fun w v=>qX w v (1:Nat) (2:Nat) [[2,4]]⟩,E 20 54 (.bool false),E 21 55 (.bool true),E 22 56 (.bool true),E 23 57 (.bool true),VN 24 58 0,E 25 59 (.bool true),E 26 60 (.bool true),E 27 61 (.bool true),E 28 62 (.agg #[.int .i64 (1:Nat),.int .i64 (2:Nat),.slice wao wan wak]),E 29 63 (.agg #[.int .i64 ((2-1:Nat):Int),.int .i64 (2:Nat),.slice k1 k2 k3]),E 30 64 (.bool true),E 31 65 (.bool true),E 32 66 (.bool true),VN 33 67 170,E 34 68 (.bool true),E 35 69 (.bool true),E 36 70 (.bool true),VN 37 71 170,E 38 72 (.bool true),E 39 73 (.bool true),E 40 74 (.bool true),VN 41 75 0,E 42 76 (.bool true),E 43 77 (.bool true),E 44 78 (.bool true),E 45 79 (.agg #[.int .i64 0,.int .i64 2,.slice none 0 0]),E 46 80 (.agg #[.int .i64 ((2-0:Nat):Int),.int .i64 (2:Nat),.slice l1 l2 l3]),E 47 81 (.bool true),E 48 82 (.bool true),E 49 83 (.bool true),⟨50,84,fun w v=>qX w v (2:Nat) (0:Nat) (jD 2 0)⟩,⟨51,85,fun w v=>qX w v (2:Nat) (2:Nat) (genM 2 2 idf)⟩,⟨52,86,fun w v=>qX w v (2:Nat) (2:Nat) (genM 2 2 idf)⟩,E 53 87 (.bool true),E 54 88 (.bool true),E 55 89 (.bool true),E 56 90 (.agg #[.int .i64 0,.int .i64 3,.slice none 0 0]),⟨57,91,fun w v=>qX w v (0:Nat) (0:Nat) []⟩,⟨58,92,fun w v=>qX w v (0:Nat) (0:Nat) []⟩,E 59 93 (.bool true),E 60 94 (.bool true),E 61 0 (.bool true)]) kR RV.start (RV.fin kR ?fin1) ?steps1
 case steps1=>
  refine⟨?_,?_,?_,?_,?_,?_,?_,?_,?_,?_,?_,?_,?_,?_,?_,?_,?_,?_,?_,?_,?_,?_,?_,?_,?_,?_,?_,?_,?_,?_,?_,?_,?_,?_,?_,?_,?_,?_,?_,?_,?_,?_,?_,?_,?_,?_,?_,?_,?_,?_,?_,?_,?_,?_,?_,?_,?_,?_,?_,?_,?_,?_,trivial⟩<;>(intro L T wS hL hd hcl hI K hK;try refine zA rfl ?_)
  ·go_simp
   exact hK _ _ ((hI.world ((Below.refl _ _).alloc (xgf _) _)).y mm0 (zEv.new _ [1,2] dE dE))
  ·obtain⟨v0,zt0,h0⟩:=hI.v mm0 (hd 0)
   go_simp;refine(zHK _ [1,2] 2 1 _ _ [[1],[2]] _ h0 (by rfl) (by rfl) (by rfl) oM oM (by rfl)).mono ?_;rintro e wa ⟨v,rfl,hv,hba⟩;exact hK _ _ ((hI.world hba).y mm1 hv)
  ·obtain⟨v1,zt1,h1⟩:=hI.v mm1 (hd 1)
   go_simp;refine(zMV (h:=9) (e:=5) dE dE dE _ [[1],[2]] 2 1 1 _ _ h1 ⟨rfl,by simp⟩ dE dE (zBZ dE ⟨rfl,by simp⟩) zP2 _ (by rfl)).mono ?_;rintro e wa ⟨v,rfl,hv,hba⟩;exact hK _ _ ((hI.world hba).y mm2 hv)
  ·go_simp
   exact hK _ _ ((hI.world ((Below.refl _ _).alloc (xgf _) _)).y mm3 (zEv.new _ [2,-1] dE dE))
  ·obtain⟨v3,zt3,h3⟩:=hI.v mm3 (hd 3)
   go_simp;refine(zHK _ [2,-1] 1 2 _ _ [[2,-1]] _ h3 (by rfl) (by rfl) (by rfl) oM oM (by rfl)).mono ?_;rintro e wa ⟨v,rfl,hv,hba⟩;exact hK _ _ ((hI.world hba).y mm4 hv)
  ·obtain⟨v2,zt2,h2⟩:=hI.v mm2 (hd 2)
   obtain⟨v4,zt4,h4⟩:=hI.v mm4 (hd 4);go_simp;refine(zHn _ _ _ _ _ _ h2 h4).mono ?_;rintro e wa ⟨v,rfl,hv,hba⟩;exact hK _ _ ((hI.world hba).y mm5 hv)
  ·exact xgs (hI.e mm5 (hd 5))
  ·have zg:=hI.e mm6 (hd 6)
   refine zA xgp ?_;go_simp;exact hK _ _ ((hI.world ((Below.refl _ _).alloc (xgf _) _)).y mm7 (zEv.new _ [2,4] dE dE))
  ·have zg:=hI.e mm6 (hd 6)
   refine zA xgp ?_;obtain⟨v7,zt7,h7⟩:=hI.v mm7 (hd 7);go_simp;refine(zHK _ [2,4] 1 2 _ _ [[2,4]] _ h7 (by rfl) (by rfl) (by rfl) oM oM (by rfl)).mono ?_;rintro e wa ⟨v,rfl,hv,hba⟩;exact hK _ _ ((hI.world hba).y mm8 hv)
  ·have zg:=hI.e mm6 (hd 6)
   refine zA xgp ?_;obtain⟨v8,zt8,h8⟩:=hI.v mm8 (hd 8);go_simp;refine(zO5 (h:=9) (e:=5) dE dE dE _ [[2,4]] 1 2 1 _ _ h8 ⟨rfl,by simp⟩ dE dE (zBZ dE ⟨rfl,by simp⟩) zPn _ (by rfl)).mono ?_;rintro e wa ⟨v,rfl,hv,hba⟩;exact hK _ _ ((hI.world hba).y mm9 hv)
  ·have zg:=hI.e mm6 (hd 6)
   refine zA xgp ?_;have zt:=hI.k 1 rfl kR;have cc0:=hI.cell c1;have cc1:=hI.cell c2;have cc2:=hI.cell c3;exact xgu
  ·have zg:=hI.e mm6 (hd 6)
   refine zA xgp ?_;obtain⟨v9,zt9,h9⟩:=hI.v mm9 (hd 9);have zt10:=hI.e yC (hd 10);go_simp;refine(zHn _ _ _ _ _ _ h9 (HL.out.below hI.bel)).mono ?_;rintro e wa ⟨v,rfl,hv,hba⟩;exact hK _ _ ((hI.world hba).y jQ hv)
  ·exact xgt (hI.e mm6 (hd 6)) (hI.e jQ (hd 11))
  ·exact xgs (hI.e zAY (hd 12))
  ·have zg:=hI.e zBk (hd 13)
   refine zA xgp ?_;have zt:=hI.k 1 rfl kR;have cc0:=hI.cell c1;have cc1:=hI.cell c2;have cc2:=hI.cell c3;exact xgu
  ·have zg:=hI.e zBk (hd 13)
   refine zA xgp ?_;have zt14:=hI.e zCB (hd 14);go_simp;refine(zEL (h:=9) (e:=5) dE dE dE _ [[1,2]] 1 2 _ (HL.out.below hI.bel) ⟨rfl,by simp⟩ dE dE (zBZ dE ⟨rfl,by simp⟩) (ans:=true) ⟨fun _=>zOQ.sat,fun _=>rfl⟩).mono ?_;rintro e wa ⟨v,rfl,hv,hba⟩;exact hK _ _ ((hI.world hba).y zCH hv)
  ·exact xgt (hI.e zBk (hd 13)) (hI.e zCH (hd 15))
  ·exact xgs (hI.e zCa (hd 16))
  ·have zg:=hI.e zCb (hd 17)
   refine zA xgp ?_;go_simp;exact hK _ _ ((hI.world ((Below.refl _ _).alloc (xgf _) _)).y zCw (zEv.new _ [2,4] dE dE))
  ·have zg:=hI.e zCb (hd 17)
   refine zA xgp ?_;obtain⟨v18,zt18,h18⟩:=hI.v zCw (hd 18);go_simp;refine(zHK _ [2,4] 1 2 _ _ [[2,4]] _ h18 (by rfl) (by rfl) (by rfl) oM oM (by rfl)).mono ?_;rintro e wa ⟨v,rfl,hv,hba⟩;exact hK _ _ ((hI.world hba).y zDf hv)
  ·have zg:=hI.e zCb (hd 17)
   refine zA xgp ?_;obtain⟨v19,zt19,h19⟩:=hI.v zDf (hd 19);go_simp;refine(zEL (h:=9) (e:=5) dE dE dE _ [[2,4]] 1 2 _ h19 ⟨rfl,by simp⟩ dE dE (zBZ dE ⟨rfl,by simp⟩) (ans:=false) ⟨nofun,fun h=>absurd h zOY⟩).mono ?_;rintro e wa ⟨v,rfl,hv,hba⟩;exact hK _ _ ((hI.world hba).y zET hv)
  ·have zg:=hI.e zCb (hd 17)
   refine zA xgp ?_;exact xgs (hI.e zET (hd 20))
  ·exact xgt (hI.e zCb (hd 17)) (hI.e zEq (hd 21))
  ·exact xgs (hI.e zEr (hd 22))
  ·have zg:=hI.e zEU (hd 23)
   refine zA xgp ?_;exact xgs (hI.k 3 rfl kR)
  ·have zg:=hI.e zEU (hd 23)
   refine zA xgp ?_;exact xgs (hI.e zF8 (hd 24))
  ·exact xgt (hI.e zEU (hd 23)) (hI.e zF9 (hd 25))
  ·exact xgs (hI.e zHX (hd 26))
  ·have zg:=hI.e zGA (hd 27)
   refine zA xgp ?_;have zt:=hI.k 1 rfl kR;have cc0:=hI.cell c1;have cc1:=hI.cell c2;have cc2:=hI.cell c3;exact xgu
  ·have zg:=hI.e zGA (hd 27)
   refine zA xgp ?_;have zt:=hI.k 2 rfl kR;have cc0:=hI.cell d1;have cc1:=hI.cell d2;have cc2:=hI.cell d3;exact xgu
  ·have zg:=hI.e zGA (hd 27)
   refine zA xgp ?_;have zt28:=hI.e zIJ (hd 28);have zt29:=hI.e zIK (hd 29);go_simp;refine(zBT (eb:=5*2^16) (zCL 16 dE) (zKB dE) dE _ _ [[1,2]] 1 2 _ (HL.out.below hI.bel) ⟨rfl,by simp⟩ dE dE (HC.out.below hI.bel)).mono ?_;rintro e wa ⟨v,rfl,hv,hba⟩;exact hK _ _ ((hI.world hba).y zI7 hv)
  ·exact xgt (hI.e zGA (hd 27)) (hI.e zI7 (hd 30))
  ·exact xgs (hI.e zLq (hd 31))
  ·have zg:=hI.e zKS (hd 32)
   refine zA xgp ?_;exact xgs (hI.k 5 rfl kR)
  ·have zg:=hI.e zKS (hd 32)
   refine zA xgp ?_;exact xgs (hI.e zNm (hd 33))
  ·exact xgt (hI.e zKS (hd 32)) (hI.e zNn (hd 34))
  ·exact xgs (hI.e zNo (hd 35))
  ·have zg:=hI.e zMY (hd 36)
   refine zA xgp ?_;exact xgs (hI.k 7 rfl kR)
  ·have zg:=hI.e zMY (hd 36)
   refine zA xgp ?_;exact xgs (hI.e zNp (hd 37))
  ·exact xgt (hI.e zMY (hd 36)) (hI.e zNq (hd 38))
  ·exact xgs (hI.e zNr (hd 39))
  ·have zg:=hI.e zMZ (hd 40)
   refine zA xgp ?_;have zt:=hI.k 9 rfl kR;go_simp;exact hK _ _ (hI.q zO9)
  ·have zg:=hI.e zMZ (hd 40)
   refine zA xgp ?_;have zt41:=hI.e zO9 (hd 41);go_simp;exact hK _ _ (hI.q zPA)
  ·have zt40:=hI.e zMZ (hd 40)
   have zt42:=hI.e zPA (hd 42);go_simp;exact hK _ _ (hI.q zPB)
  ·have zt43:=hI.e zPB (hd 43)
   go_simp;exact hK _ _ (hI.q zNs)
  ·have zg:=hI.e zNs (hd 44)
   refine zA xgp ?_;go_simp;exact hK _ _ (hI.q zPC)
  ·have zg:=hI.e zNs (hd 44)
   refine zA xgp ?_;have zt:=hI.k 8 rfl kR;have cc0:=hI.cell f1;have cc1:=hI.cell f2;have cc2:=hI.cell f3;go_simp;exact hK _ _ (hI.q zPD)
  ·have zg:=hI.e zNs (hd 44)
   refine zA xgp ?_;have zt45:=hI.e zPC (hd 45);have zt46:=hI.e zPD (hd 46);go_simp;refine(zBT (eb:=5*2^16) (zCL 16 dE) (zKB dE) dE _ _ [] 0 2 _ ⟨_,rfl,qY.nil _⟩ ⟨rfl,by simp⟩ dE dE (HD.out.below hI.bel)).mono ?_;rintro e wa ⟨v,rfl,hv,hba⟩;exact hK _ _ ((hI.world hba).y zPE hv)
  ·have zt44:=hI.e zNs (hd 44)
   have zt47:=hI.e zPE (hd 47);go_simp;exact hK _ _ (hI.q zPF)
  ·have zt48:=hI.e zPF (hd 48)
   go_simp;exact hK _ _ (hI.q zNR)
  ·have zg:=hI.e zNR (hd 49)
   refine zA xgp ?_;go_simp;refine(zPh 2 0 _ _ _ (by rfl) (by rfl) dE dE).mono ?_;rintro e wa ⟨v,rfl,hv,hba⟩;exact hK _ _ ((hI.world hba).y zPG hv)
  ·have zg:=hI.e zNR (hd 49)
   refine zA xgp ?_;obtain⟨v50,zt50,h50⟩:=hI.v zPG (hd 50);go_simp;refine(zMV (h:=9) (e:=5) dE dE dE _ (jD 2 0) 2 0 2 _ _ h50 ⟨rfl,by simp[jD]⟩ dE dE (fun _ _ b hb=>by omega) zP3 _ (by rfl)).mono ?_;rintro e wa ⟨v,rfl,hv,hba⟩;exact hK _ _ ((hI.world hba).y zPH hv)
  ·have zg:=hI.e zNR (hd 49)
   refine zA xgp ?_;go_simp;refine(zEb 2 _ dE).mono ?_;rintro e wa ⟨v,rfl,hv,hba⟩;exact hK _ _ ((hI.world hba).y zPI hv)
  ·have zg:=hI.e zNR (hd 49)
   refine zA xgp ?_;obtain⟨v51,zt51,h51⟩:=hI.v zPH (hd 51);obtain⟨v52,zt52,h52⟩:=hI.v zPI (hd 52);go_simp;refine(zHn _ _ _ _ _ _ h51 h52).mono ?_;rintro e wa ⟨v,rfl,hv,hba⟩;exact hK _ _ ((hI.world hba).y zPJ hv)
  ·have zt49:=hI.e zNR (hd 49)
   have zt53:=hI.e zPJ (hd 53);go_simp;exact hK _ _ (hI.q zPK)
  ·have zt54:=hI.e zPK (hd 54)
   go_simp;exact hK _ _ (hI.q zNS)
  ·have zg:=hI.e zNS (hd 55)
   refine zA xgp ?_;go_simp;exact hK _ _ (hI.q zPL)
  ·have zg:=hI.e zNS (hd 55)
   refine zA xgp ?_;have zt56:=hI.e zPL (hd 56);go_simp;refine(zOD 3 _ _ ⟨_,rfl,qY.nil _⟩ dE).mono ?_;rintro e wa ⟨v,rfl,hv,hba⟩;exact hK _ _ ((hI.world hba).y zPM hv)
  ·have zg:=hI.e zNS (hd 55)
   refine zA xgp ?_;go_simp;refine(zPh 0 0 _ _ _ (by rfl) (by rfl) dE dE).mono ?_;rintro e wa ⟨v,rfl,hv,hba⟩;exact hK _ _ ((hI.world hba).y zPN hv)
  ·have zg:=hI.e zNS (hd 55)
   refine zA xgp ?_;obtain⟨v57,zt57,h57⟩:=hI.v zPM (hd 57);obtain⟨v58,zt58,h58⟩:=hI.v zPN (hd 58);go_simp;refine(zHn _ _ _ _ _ _ h57 h58).mono ?_;rintro e wa ⟨v,rfl,hv,hba⟩;exact hK _ _ ((hI.world hba).y zPO hv)
  ·have zt55:=hI.e zNS (hd 55)
   have zt59:=hI.e zPO (hd 59);go_simp;exact hK _ _ (hI.q zPP)
  ·have zt60:=hI.e zPP (hd 60)
   go_simp;exact hK _ _ (hI.q zP5)
 intro wz hbwz T hT;simp only[Fin,E,EI,VP,VSl,VN,xgg,xgh,xgi,xgj]at hT;obtain⟨vz0,hz0,vz1,hz1,vz2,hz2,vz3,hz3,vz4,hz4,vz7,hz7,vz8,hz8,vz9,hz9,vz18,hz18,vz19,hz19,vz50,hz50,vz51,hz51,vz52,hz52,vz57,hz57,vz58,hz58,rfl⟩:=hT;have hB:=nx hB hbwz;go_wp2;go_ret;exact⟨rfl,hB⟩
end Go.Proofs.YtgnmdddaiefooaaGreat

namespace Go.Proofs.YtgnmdddaiefooaaGreat
open Go.ChangeShapes Go.WideShapes Go.ChangeAt Go.RowKit
theorem Tryz.own:ownKnob Tryz.prog.godebug=none:=by kernel_rfl
theorem Tryz.laidOut:laidOutB Tryz.prog=true:=by kernel_rfl
theorem zMw:Tryz.prog.cellsOf 55=2:=by kernel_rfl
theorem zMR:Tryz.prog.cellsOf 5=1:=by kernel_rfl
theorem zOM{H:Type}{enc:TypeId × Value->H}{w:World}{b0 base:Nat}{spare:Nat->Bool}{held:Bool}{r:Reach}{v:Value}{d:DataW H}{ps:List MemPlace}(hval:Value.okWide Tryz.prog w r b0 55 v)
  (h:DataW.Trod enc Tryz.prog w base spare held 55 v d ps):∃a b:Int,v= .agg #[.int .u8 a,.int .u8 b]/\(0<=a/\a<=255)/\(0<=b/\b<=255):=by
 simp only[Value.okWide,Tryz.underlying55]at hval;obtain⟨cs,rfl,hsz,-⟩:=hval;obtain⟨fuel,hf⟩:=h;obtain⟨xs,m,-,-,h1,h2,h3⟩:=DataW.trod_array Tryz.underlying55 hf;rw[zMw]at h1;have e0:=h3 0 oM;have e1:=h3 1 oM;rw[zMR]at e0 e1;rw[xga oM]at e0 e1;obtain⟨a,ha,-,wa⟩:=DataW.trod_int Tryz.underlying5 e0;obtain⟨b,hb,-,wb⟩:=DataW.trod_int Tryz.underlying5 e1;simp only[Value.cells]at ha hb h1;obtain⟨cl⟩:=cs;match cl,h1 with
 | [c0,c1],_=>
  simp at ha hb;subst ha;subst hb;simp[Lit.wf,IntKind.min,IntKind.max,IntKind.bits,IntKind.signed]at wa wb;exact⟨a,b,rfl,by omega,by omega⟩
theorem zNX{H:Type}{enc:TypeId × Value->H}{w:World}{f:Nat}{cs:List Value}{y:DataW H × List MemPlace}(hf:DataW.trod enc Tryz.prog w 0 (fun _=>true) true f 22 cs=some y)(hlt:∀x∈y.2,x.block<w.heap.size):
  ∃ao n cap ls,cs= [.slice ao n cap]/\I8V w (.slice ao n cap) ls:=by
 rcases open_ints Tryz.underlying22 Tryz.underlying73 kR hf with⟨e1,-⟩|⟨a,len,cap,zs,e1,-,hl,hm,hzl,e2,hcell,hwf⟩
 ·exact⟨none,0,0,[],e1,none,0,0,rfl,rfl,xgf _,by omega,fun z hz=>(by cases hz),fun h=>absurd rfl h⟩
 ·simp only[if_true]at hzl
  unfold maxLen at hm;refine⟨some a,len,cap,zs.take len,e1,some a,len,cap,rfl,by simp;omega,hl,by omega,fun z hz=>?_,fun h=>?_⟩
  ·have:=hwf z (List.mem_of_mem_take hz)
   exact bounds_i8 this
  ·have hpos:0<zs.length:=by
    rcases Nat.eq_zero_or_pos zs.length with h0|h0
    ·exact absurd (by rw[List.eq_nil_of_length_eq_zero h0];simp) h
    ·exact h0
   obtain⟨b,off,rfl,hj⟩:=ints_at hcell hpos;refine⟨b,off,rfl,?_,fun k z hk=>?_⟩
   ·exact hlt (.cell b off) (by rw[e2];exact MemPlace.mem_row.2 ⟨0,hpos,rfl⟩)
   ·obtain⟨h1,h2⟩:=xge.1 hk
    rw[List.getElem_take]at h2;have hkz:k<zs.length:=by
     simp at h1;omega
    rw[hj k hkz,<-h2];simp[hkz]
theorem zLv{H:Type}{enc:TypeId × Value->H}{w:World}{b0:Nat}{r:Reach}{v:Value}{d:DataW H}{ps:List MemPlace}(hval:Value.okWide Tryz.prog w r b0 24 v)
  (h:DataW.Trod enc Tryz.prog w 0 (fun _=>true) true 24 v d ps) (hlt:∀x∈ps,x.block<w.heap.size):∃(a b:Nat) (sv:Value) (ls:List Int),v= .agg #[.int .u8 a,.int .u8 b,sv]/\a<=255/\b<=255/\I8V w sv ls:=by
 simp only[Value.okWide,Tryz.underlying24]at hval;obtain⟨cs,rfl,hsz,-⟩:=hval;obtain⟨fuel,hf⟩:=h;obtain⟨xs,m,h0,h1,h2,h3,h4⟩:=DataW.trod_struct Tryz.underlying24 hf;have c24:Tryz.prog.cellsOf 24=3:=by kernel_rfl
 have c22:Tryz.prog.cellsOf 22=1:=by kernel_rfl
 have g0:DataW.trod enc Tryz.prog w 0 (fun _=>true) true m 5 (List.take (Tryz.prog.cellsOf 5) (List.drop 0 (Value.agg cs).cells.toList))=xs[0]?:=h4 0 _ rfl;have g1:DataW.trod enc Tryz.prog w 0 (fun _=>true) true m 5 (List.take (Tryz.prog.cellsOf 5) (List.drop 1 (Value.agg cs).cells.toList))=xs[1]?:=h4 1 _ rfl;have g2:DataW.trod enc Tryz.prog w 0 (fun _=>true) true m 22 (List.take (Tryz.prog.cellsOf 22) (List.drop 2 (Value.agg cs).cells.toList))=xs[2]?:=h4 2 _ rfl;rw[c24]at h2;rw[zMR]at g0 g1;rw[c22]at g2;simp only[Value.cells]at g0 g1 g2 h2;obtain⟨cl⟩:=cs;match xs,h3 with
 | [y0,y1,y2],_=>
  match cl,h2 with
  | [k0,k1,k2],_=>
   simp at g0 g1 g2;obtain⟨a,ha,-,wa⟩:=DataW.trod_int Tryz.underlying5 g0;obtain⟨b,hb,-,wb⟩:=DataW.trod_int Tryz.underlying5 g1;simp only[Prod.mk.injEq]at h1;obtain⟨ao,n,cap,ls,hk,hI⟩:=zNX g2 (fun x hx=>hlt x (by rw[h1.2];simp[hx]));simp at ha hb hk;subst ha;subst hb;subst hk;have wa:=bounds_u8 wa;have wb:=bounds_u8 wb;exact⟨a.toNat,b.toNat,_,ls,by rw[Int.toNat_of_nonneg wa.1,Int.toNat_of_nonneg wb.1],by omega,by omega,hI⟩
end Go.Proofs.YtgnmdddaiefooaaGreat
