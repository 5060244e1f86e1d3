/- torsionlaw15.sanity. torsionlaw15.KernelMatchesReference: the walk. torsionlaw15.KernelComplements: the walk. torsionref15.Multiplied. The rest that Reduce leaves: plain Lean. -/
import Derived.Test.YtgnmdddaiefooaaGreatR35
import Derived.Test.YtgnmdddaiefooaaGreatR44
import Derived.Test.YtgnmdddaiefooaaGreatR45
import Derived.Test.YtgnmdddaiefooaaGreatR50
set_option linter.unusedVariables false
set_option linter.unusedSimpArgs false
set_option linter.unusedSectionVars false
set_option maxHeartbeats 16000000
set_option maxRecDepth 100000
namespace Go.Proofs.YtgnmdddaiefooaaGreat
open Go.RowKit
theorem zKb{R C m:Nat}{A G:Nat->Nat->Int}{w:World}{v:Value}(h:zDy R C A w v)(hG:HB R m G (zE1 R C A)):qL w v m R (genM m R G):=by
 obtain⟨m',G',hl,hm⟩:=h;obtain⟨rfl,e⟩:=hl.1.mat hG fun x=>Iff.rfl
 rwa[e]at hm
theorem zMX{R C m:Nat}{A G:Nat->Nat->Int}{w:World}{v:Value}(h:zNN R C A w v)(hG:HB C m G (zBn R C A)):qL w v m C (genM m C G):=by
 obtain⟨m',G',hl,hm⟩:=h;obtain⟨rfl,e⟩:=hl.1.mat hG fun x=>Iff.rfl
 rwa[e]at hm
theorem zKQ{C:Nat}{G:Nat->Nat->Int}(hC:0<C)(h:0<G 0 0):Hnf C 1 1 (fun k=>k) G:=
 ⟨xgf _,⟨fun k hk=>oM,fun k hk=>(by have e:k=0:=oM;rw[e];exact h),fun k hk t ht=>oM,fun k l h1 h2=>oM⟩,fun i j h1 h2=>oM,fun a h1 h2=>oM⟩
theorem zNl(n:Nat):Hnf n n n (fun k=>k) idf:=
 ⟨xgf _,⟨fun k hk=>hk,fun k hk=>by rw[show idf k k=1 from if_pos rfl];decide,fun k hk t ht=>if_neg oM,fun k l hkl hl=>hkl⟩,fun i j hij hj _=>by rw[show idf i j=0 from if_neg oM,show idf j j=1 from if_pos rfl];omega,fun a h1 h2=>by omega⟩
theorem zO9(f:Nat->Int):zI 2 f=f 0+f 1:=by simp[zI]
theorem zMa(f:Nat->Int):zI 1 f=f 0:=by simp[zI]
theorem lt2{P:Nat->Prop}(h0:P 0)(h1:P 1):∀b,b<2->P b:=fun b hb=>by
 rcases(by omega:b=0∨b=1)with rfl|rfl
 ·exact h0
 ·exact h1
theorem zQY:HB 2 1 (ent [[2,-1]]) (zE1 2 1 (ent [[1],[2]])):=by
 refine⟨⟨_,zKQ dE dE⟩,fun x=>⟨fun h=>⟨fun _=>-x 1,?_⟩,?_⟩⟩
 ·have h0:=h 0 dE
  rw[zO9]at h0;have e0:ent [[1],[2]] 0 0=1:=rfl;have e1:ent [[1],[2]] 1 0=2:=rfl;rw[e0,e1]at h0;refine lt2 ?_ ?_
  ·rw[zMa,show ent [[2,-1]] 0 0=2 from rfl];dsimp only;omega
  ·rw[zMa,show ent [[2,-1]] 0 1=-1 from rfl];dsimp only;omega
 ·rintro⟨y,hy⟩ b hb
  obtain rfl:b=0:=by omega
  have h0:=hy 0 dE;have h1:=hy 1 dE;rw[zMa,show ent [[2,-1]] 0 0=2 from rfl]at h0;rw[zMa,show ent [[2,-1]] 0 1=-1 from rfl]at h1;rw[zO9,show ent [[1],[2]] 0 0=1 from rfl,show ent [[1],[2]] 1 0=2 from rfl];omega
theorem zQJ:HB 2 1 (ent [[1,2]]) (zBn 1 2 (ent [[2,4]])):=by
 refine⟨⟨_,zKQ dE dE⟩,fun x=>⟨fun h=>⟨fun _=>x 0,?_⟩,?_⟩⟩
 ·have h0:=h (ent [[2,-1]] 0) fun a ha=>by
   obtain rfl:a=0:=by omega
   decide
  rw[zO9,show ent [[2,-1]] 0 0=2 from rfl,show ent [[2,-1]] 0 1=-1 from rfl]at h0;refine lt2 ?_ ?_
  ·rw[zMa,show ent [[1,2]] 0 0=1 from rfl];dsimp only;omega
  ·rw[zMa,show ent [[1,2]] 0 1=2 from rfl];dsimp only;omega
 ·rintro⟨y,hy⟩ z hz
  have h0:=hy 0 dE;have h1:=hy 1 dE;have h2:=hz 0 dE;rw[zMa,show ent [[1,2]] 0 0=1 from rfl]at h0;rw[zMa,show ent [[1,2]] 0 1=2 from rfl]at h1;rw[zO9,show ent [[2,4]] 0 0=2 from rfl,show ent [[2,4]] 0 1=4 from rfl]at h2;rw[zO9,h0,h1,Int.mul_one,Int.mul_assoc,<-Int.mul_add,show z 0+2*z 1=0 by omega,Int.mul_zero]
theorem zOx:zJm 1 2 (ent [[1,2]]):=zHi (Q:=ent [[1,2],[0,1]]) (P:=ent [[1,-2],[0,1]]) dE (lt2 (lt2 dE dE) (lt2 dE dE)) fun a ha=>by
 obtain rfl:a=0:=by omega
 exact lt2 rfl rfl
theorem zO4:¬ zIs 1 2 (ent [[2,4]]):=fun h=>by
 obtain⟨y,hy⟩:=h (ent [[1,2]] 0) ((zQJ.iff _).2 (jK.row _ dE));have h0:=hy 0 dE;rw[zMa,show ent [[2,4]] 0 0=2 from rfl,show ent [[1,2]] 0 0=1 from rfl]at h0;omega
theorem zPz:¬ zJm 2 2 (ent [[1,0],[1,0]]):=fun h=>by
 have:=zDb (q:=1) (F:=ent [[1,0],[1,0]]) (X:=fun _ _=>1) (G:=ent [[1,0]]) (C:=2) (lt2 (lt2 dE dE) (lt2 dE dE)) h.full;omega
theorem zP0:zJm 0 2 (ent []):=zHi (Q:=idf) (P:=idf) dE (lt2 (lt2 dE dE) (lt2 dE dE)) fun a ha=>by omega
theorem zQZ:HB 2 2 idf (zE1 2 0 (ent (yX 2 0))):=⟨⟨_,zNl 2⟩,fun x=>⟨fun _=>⟨x,fun b hb=>by rw[qU hb (fun i _ hne=>by rw[show idf i b=0 from if_neg hne,Int.mul_zero]),show idf b b=1 from if_pos rfl,Int.mul_one]⟩,fun _ b hb=>by omega⟩⟩
theorem zBd{h R C:Nat}{M:List (List Int)}(hd:zOr (h+1) M=true)(hF:yG R C M):leM h R C (ent M):=zNu hd hF
theorem zM1{h e:Nat}(h1:1<=h)(he:2*h<=2^e)(he2:e<=32000)(v:Value)(M:List (List Int))(R C m:Nat)(G:Nat->Nat->Int)(w:World)(hm:qL w v R C M)(hF:yG R C M)(hR:R<=4)(hC:C<=1000000)(hA:leM h R C (ent M))(hG:HB R m G (zE1 R C (ent M)))(W:List (List Int))(hW:genM m R G=W):
  Calls Tryz.prog 19 #[v] w fun e w'=>∃v,e= .returned v/\qL w' v m R W/\Below w.heap.size w w':=
 (zC1 h1 he he2 v M R C w hm hF oM oM hA).mono fun e w' ⟨v,h2,h3,h4⟩=>⟨v,h2,hW ▸ zKb h3 hG,h4⟩
theorem zPd{h e:Nat}(h1:1<=h)(he:2*h<=2^e)(he2:e<=1900)(v:Value)(M:List (List Int))(R C m:Nat)(G:Nat->Nat->Int)(w:World)(hm:qL w v R C M)(hF:yG R C M)(hR:R<=1000000)(hC:C<=4)(hA:leM h R C (ent M))(hG:HB C m G (zBn R C (ent M)))(W:List (List Int))(hW:genM m C G=W):
  Calls Tryz.prog 21 #[v] w fun e w'=>∃v,e= .returned v/\qL w' v m C W/\Below w.heap.size w w':=
 (zIP h1 he he2 v M R C w hm hF oM oM hA).mono fun e w' ⟨v,h2,h3,h4⟩=>⟨v,h2,hW ▸ zMX h3 hG,h4⟩
theorem zOl(C:Nat)(v:Value)(w:World)(hm:qL w v (0:Nat) C [])(hC:C<=1000000):
  Calls Tryz.prog 19 #[v] w fun e w'=>∃v,e= .returned v/\qL w' v (0:Nat) (0:Nat) []/\Below w.heap.size w w':=
 (zC1 (h:=1) (e:=1) dE dE dE v [] 0 C w hm ⟨rfl,by simp⟩ dE hC fun a ha=>by omega).mono fun e w' ⟨v,h2,⟨m,G,h3,h5⟩,h4⟩=>⟨v,h2,by
  obtain rfl:m=0:=by have:=h3.rows;omega
  exact h5,h4⟩
theorem zIE{B R C:Nat}{A:Nat->Nat->Int}{w:World}{v:Value}(h:zAH B R C A true w v):∃u,v= .tuple #[u,.int .i64 0]/\zCo B R C A w u:=by
 unfold zAH at h;rwa[if_pos rfl]at h
theorem zJ6{B R C:Nat}{A:Nat->Nat->Int}{w:World}{v:Value}(h:zAH B R C A false w v):v= .tuple #[.agg #[.int .i64 0,.int .i64 0,.slice none 0 0],.int .i64 170]:=by
 unfold zAH at h;rwa[if_neg dE]at h
theorem zMw{h e k:Nat}(he:2*h<=2^e):2*gk k h<=2^(e*2^k):=by
 have h3:(2*h)^(2^k)<=(2^e)^(2^k):=Nat.pow_le_pow_left he _;rw[<-Nat.pow_mul,<-zKM]at h3;exact h3
theorem zCo.below{B R C:Nat}{A:Nat->Nat->Int}{w w':World}{u:Value}(h:zCo B R C A w u)(hb:Below w.heap.size w w'):zCo B R C A w' u:=zEZ B R C A _ _ _ hb h
theorem zCo.agg{B R C:Nat}{A:Nat->Nat->Int}{w:World}{u:Value}(h:zCo B R C A w u):∃o n k,u= .agg #[.int .i64 ((C-R:Nat):Int),.int .i64 C,.slice o n k]:=by
 obtain⟨Q,P,-,-,-,h4⟩:=h;exact h4.agg
abbrev zQb:=fun{α:Type}{a b c d e f g h i j k L m n o p q r s t u v w X y z a1 b1 c1 d1 e1 f1 g1 h1 i1 j1 k1 l1 m1 n1 o1 p1 q1 r1 s1 t1 u1 v1 w1 x1 y1 z1 a2 b2 c2 d2 e2 f2 g2 h2 i2 x:α}{l:List α}=>List.Mem.tail a (@zPx α b c d e f g h i j k L m n o p q r s t u v w X y z a1 b1 c1 d1 e1 f1 g1 h1 i1 j1 k1 l1 m1 n1 o1 p1 q1 r1 s1 t1 u1 v1 w1 x1 y1 z1 a2 b2 c2 d2 e2 f2 g2 h2 i2 x l)
theorem zGz(w:World):Calls Tryz.prog 13 #[] w fun e w'=>e= .returned (.bool true)/\Below w.heap.size w w':=by
 go_enter Tryz.func13,Tryz.ntmps13;have hB:=Below.refl w.heap.size w;go_wp2_with fail
 refine(zGm _ [1,2] 1 2 _ _ [[1,2]] _ (zE0.new _ [1,2] dE dE) (by rfl) (by rfl) (by rfl) oM oM (by rfl)).mono ?_;rintro e wa ⟨v1,rfl,hm,hb1⟩;have hB:=nxa hB hb1;obtain⟨wao,wan,wak,rfl⟩:=hm.agg;have HL:=xgv hm;clear hm;go_upto_region 2 with(fail)
 refine zC ?_;intro W1 hW1;obtain⟨hB1,b1,hsW1⟩:=zN hW1;have hB:=nx hB hB1;have HL:=xgv (HL.out.below hB1);clear hW1;obtain⟨c1,c2,c3,c4,c5,c6⟩:=b1.three;go_wp2_with fail
 refine(zCz (h:=9) (e:=5) dE dE dE _ [[1,2]] 1 2 W1 HL.out ⟨rfl,by simp⟩ dE dE (zBd dE ⟨rfl,by simp⟩) (ans:=true) ⟨fun _=>zOx,fun _=>rfl⟩).mono ?_;rintro e w2 ⟨_,rfl,hret,hb2⟩;obtain⟨u,rfl,hcv⟩:=zIE hret;obtain⟨k1,k2,k3,rfl⟩:=hcv.agg;have HC:=xgv hcv;have hB:=nx hB hb2;clear c1 c2 c3 c4 c5 c6 hret hcv;have HL:=xgv (HL.out.below hb2);have b1:=b1.below hb2;go_upto_region 3 with(fail)
 refine zC ?_;intro W3 hW3;obtain⟨hB3,b2,hsW3⟩:=zN hW3;have hB:=nx hB hB3;have HL:=xgv (HL.out.below hB3);have b1:=b1.below hB3;have HC:=xgv (HC.out.below hB3);clear hW3;go_wp2_with fail
 refine(zGm _ [2,4] 1 2 _ _ [[2,4]] _ (zE0.new _ [2,4] dE dE) (by rfl) (by rfl) (by rfl) oM oM (by rfl)).mono ?_;rintro e wb ⟨v1,rfl,hm,hb1⟩;have hB:=nxa hB hb1;obtain⟨wbo,wbn,wbk,rfl⟩:=hm.agg;have hb1:=nxd hb1;have HL:=xgv (HL.out.below hb1);have b1:=b1.below hb1;have HC:=xgv (HC.out.below hb1);have b2:=b2.below hb1;have HM:=xgv hm;clear hm;go_wp2_with fail
 refine(zCz (h:=9) (e:=5) dE dE dE _ [[2,4]] 1 2 wb HM.out ⟨rfl,by simp⟩ dE dE (zBd dE ⟨rfl,by simp⟩) (ans:=false) ⟨nofun,fun h=>absurd h (fun h=>zO4 (zJm.sat h))⟩).mono ?_;rintro e w4 ⟨_,rfl,hret,hb2⟩;obtain rfl:=zJ6 hret;have hB:=nx hB hb2;clear hret HM;have HL:=xgv (HL.out.below hb2);have b1:=b1.below hb2;have HC:=xgv (HC.out.below hb2);have b2:=b2.below hb2;go_upto_region 4 with(fail)
 refine zC ?_;intro W5 hW5;obtain⟨hBW5,b4,hsW5⟩:=zN hW5;have hB:=nx hB hBW5;have HL:=xgv (HL.out.below hBW5);have b1:=b1.below hBW5;have HC:=xgv (HC.out.below hBW5);have b2:=b2.below hBW5;clear hW5;go_wp2_with fail
 refine(zGm _ [1,0,1,0] 2 2 _ _ [[1,0],[1,0]] _ (zE0.new _ [1,0,1,0] dE dE) (by rfl) (by rfl) (by rfl) oM oM (by rfl)).mono ?_;rintro e wc ⟨v1,rfl,hm,hb1⟩;have hB:=nxa hB hb1;obtain⟨wco,wcn,wck,rfl⟩:=hm.agg;have hb1:=nxd hb1;have HL:=xgv (HL.out.below hb1);have b1:=b1.below hb1;have HC:=xgv (HC.out.below hb1);have b2:=b2.below hb1;have HM:=xgv hm;clear hm;go_wp2_with fail
 refine(zCz (h:=9) (e:=5) dE dE dE _ [[1,0],[1,0]] 2 2 wc HM.out ⟨rfl,by simp⟩ dE dE (zBd dE ⟨rfl,by simp⟩) (ans:=false) ⟨nofun,fun h=>absurd h (zPz)⟩).mono ?_;rintro e w5 ⟨_,rfl,hret,hb2⟩;obtain rfl:=zJ6 hret;have hB:=nx hB hb2;clear hret HM;have HL:=xgv (HL.out.below hb2);have b1:=b1.below hb2;have HC:=xgv (HC.out.below hb2);have b2:=b2.below hb2;go_upto_region 5 with(fail)
 refine zC ?_;intro W7 hW7;obtain⟨hBW7,b6,hsW7⟩:=zN hW7;have hB:=nx hB hBW7;have HL:=xgv (HL.out.below hBW7);have b1:=b1.below hBW7;have HC:=xgv (HC.out.below hBW7);have b2:=b2.below hBW7;clear hW7;go_wp2_with fail
 refine(zCz (h:=9) (e:=5) dE dE dE _ [] 0 2 W7 ⟨_,rfl,qX.nil _⟩ ⟨rfl,by simp⟩ dE dE (fun a ha=>by omega) (ans:=true) ⟨fun _=>zP0,fun _=>rfl⟩).mono ?_;rintro e w9 ⟨_,rfl,hret,hb2⟩;obtain⟨u,rfl,hcv⟩:=zIE hret;obtain⟨l1,l2,l3,rfl⟩:=hcv.agg;have HD:=xgv hcv;have hB:=nx hB hb2;clear hret hcv;have HL:=xgv (HL.out.below hb2);have b1:=b1.below hb2;have HC:=xgv (HC.out.below hb2);have b2:=b2.below hb2;go_upto_region 6 with(fail)
 refine zC ?_;intro W9 hW9;obtain⟨hB9,b8,hsW9⟩:=zN hW9;have hB:=nx hB hB9;have HL:=xgv (HL.out.below hB9);have b1:=b1.below hB9;have HC:=xgv (HC.out.below hB9);have b2:=b2.below hB9;have HD:=xgv (HD.out.below hB9);clear hW9;obtain⟨c1,c2,c3,-,-,-⟩:=b1.three;obtain⟨d1,d2,d3,-,-,-⟩:=b2.three;obtain⟨f1,f2,f3,-,-,-⟩:=b8.three;have hl1:=zDR [1,2];have hl2:=zDR [2,-1];have hl3:=zDR [2,4];have hm1:=yW (2:Nat) (1:Nat) [[1],[2]];have hm2:=yW (1:Nat) (2:Nat) [[2,-1]];have hm3:=yW (1:Nat) (2:Nat) [[2,4]];have hm4:=yW (1:Nat) (2:Nat) [[1,2]];have hm5:=yW (2:Nat) (0:Nat) (yX 2 0);have hm6:=yW (2:Nat) (2:Nat) (genM 2 2 idf);have hm7:=yW (0:Nat) (0:Nat) [];refine zF rfl (RV W9 _ [⟨0,34,fun w v=>zE0 w v [1,2]⟩,⟨1,35,fun w v=>qL w v (2:Nat) (1:Nat) [[1],[2]]⟩,⟨2,36,fun w v=>qL w v (1:Nat) (2:Nat) [[2,-1]]⟩,⟨3,37,fun w v=>zE0 w v [2,-1]⟩,⟨4,38,fun w v=>qL w v (1:Nat) (2:Nat) [[2,-1]]⟩,E 5 39 (.bool true),E 6 40 (.bool true),⟨7,41,fun w v=>zE0 w v [2,4]⟩,⟨8,42,fun w v=>qL w v (1:Nat) (2:Nat) [[2,4]]⟩,⟨9,43,fun w v=>qL w v (1:Nat) (2:Nat) [[1,2]]⟩,E 10 44 (.agg #[.int .i64 (1:Nat),.int .i64 (2:Nat),.slice wao wan wak]),E 11 45 (.bool true),E 12 46 (.bool true),E 13 47 (.bool true),E 14 48 (.agg #[.int .i64 (1:Nat),.int .i64 (2:Nat),.slice wao wan wak]),E 15 49 (.bool true),E 16 50 (.bool true),E 17 51 (.bool true),⟨18,52,fun w v=>zE0 w v [2,4]⟩,⟨19,53,fun w v=>qL w v (1:Nat) (2:Nat) [[2,4]]⟩,E 20 54 (.bool false),E 21 55 (.bool true),E 22 56 (.bool true),E 23 57 (.bool true),VN 24 58 0,E 25 59 (.bool true),E 26 60 (.bool true),E 27 61 (.bool true),E 28 62 (.agg #[.int .i64 (1:Nat),.int .i64 (2:Nat),.slice wao wan wak]),E 29 63 (.agg #[.int .i64 ((2-1:Nat):Int),.int .i64 (2:Nat),.slice k1 k2 k3]),E 30 64 (.bool true),E 31 65 (.bool true),E 32 66 (.bool true),VN 33 67 170,E 34 68 (.bool true),E 35 69 (.bool true),E 36 70 (.bool true),VN 37 71 170,E 38 72 (.bool true),E 39 73 (.bool true),E 40 74 (.bool true),VN 41 75 0,E 42 76 (.bool true),E 43 77 (.bool true),E 44 78 (.bool true),E 45 79 (.agg #[.int .i64 0,.int .i64 2,.slice none 0 0]),E 46 80 (.agg #[.int .i64 ((2-0:Nat):Int),.int .i64 (2:Nat),.slice l1 l2 l3]),E 47 81 (.bool true),E 48 82 (.bool true),E 49 83 (.bool true),⟨50,84,fun w v=>qL w v (2:Nat) (0:Nat) (yX 2 0)⟩,⟨51,85,fun w v=>qL w v (2:Nat) (2:Nat) (genM 2 2 idf)⟩,⟨52,86,fun w v=>qL w v (2:Nat) (2:Nat) (genM 2 2 idf)⟩,E 53 87 (.bool true),E 54 88 (.bool true),E 55 89 (.bool true),E 56 90 (.agg #[.int .i64 0,.int .i64 3,.slice none 0 0]),⟨57,91,fun w v=>qL w v (0:Nat) (0:Nat) []⟩,⟨58,92,fun w v=>qL w v (0:Nat) (0:Nat) []⟩,E 59 93 (.bool true),E 60 94 (.bool true),E 61 0 (.bool true)]) kR RV.start (RV.fin kR ?fin1) ?steps1
 case steps1=>
  refine⟨?_,?_,?_,?_,?_,?_,?_,?_,?_,?_,?_,?_,?_,?_,?_,?_,?_,?_,?_,?_,?_,?_,?_,?_,?_,?_,?_,?_,?_,?_,?_,?_,?_,?_,?_,?_,?_,?_,?_,?_,?_,?_,?_,?_,?_,?_,?_,?_,?_,?_,?_,?_,?_,?_,?_,?_,?_,?_,?_,?_,?_,?_,trivial⟩<;>(intro L T wS hL hd hcl hI K hK;try refine zA rfl ?_)
  ·go_simp
   exact hK _ _ ((hI.world ((Below.refl _ _).alloc (xgf _) _)).y mm0 (zE0.new _ [1,2] dE dE))
  ·obtain⟨v0,zt0,h0⟩:=hI.v mm0 (hd 0)
   go_simp;refine(zGm _ [1,2] 2 1 _ _ [[1],[2]] _ h0 (by rfl) (by rfl) (by rfl) oM oM (by rfl)).mono ?_;rintro e wa ⟨v,rfl,hv,hba⟩;exact hK _ _ ((hI.world hba).y mm1 hv)
  ·obtain⟨v1,zt1,h1⟩:=hI.v mm1 (hd 1)
   go_simp;refine(zM1 (h:=9) (e:=5) dE dE dE _ [[1],[2]] 2 1 1 _ _ h1 ⟨rfl,by simp⟩ dE dE (zBd dE ⟨rfl,by simp⟩) zQY _ (by rfl)).mono ?_;rintro e wa ⟨v,rfl,hv,hba⟩;exact hK _ _ ((hI.world hba).y mm2 hv)
  ·go_simp
   exact hK _ _ ((hI.world ((Below.refl _ _).alloc (xgf _) _)).y mm3 (zE0.new _ [2,-1] dE dE))
  ·obtain⟨v3,zt3,h3⟩:=hI.v mm3 (hd 3)
   go_simp;refine(zGm _ [2,-1] 1 2 _ _ [[2,-1]] _ h3 (by rfl) (by rfl) (by rfl) oM oM (by rfl)).mono ?_;rintro e wa ⟨v,rfl,hv,hba⟩;exact hK _ _ ((hI.world hba).y mm4 hv)
  ·obtain⟨v2,zt2,h2⟩:=hI.v mm2 (hd 2)
   obtain⟨v4,zt4,h4⟩:=hI.v mm4 (hd 4);go_simp;refine(zJT _ _ _ _ _ _ h2 h4).mono ?_;rintro e wa ⟨v,rfl,hv,hba⟩;exact hK _ _ ((hI.world hba).y mm5 hv)
  ·exact xgs (hI.e mm5 (hd 5))
  ·have zg:=hI.e mm6 (hd 6)
   refine zA xgp ?_;go_simp;exact hK _ _ ((hI.world ((Below.refl _ _).alloc (xgf _) _)).y mm7 (zE0.new _ [2,4] dE dE))
  ·have zg:=hI.e mm6 (hd 6)
   refine zA xgp ?_;obtain⟨v7,zt7,h7⟩:=hI.v mm7 (hd 7);go_simp;refine(zGm _ [2,4] 1 2 _ _ [[2,4]] _ h7 (by rfl) (by rfl) (by rfl) oM oM (by rfl)).mono ?_;rintro e wa ⟨v,rfl,hv,hba⟩;exact hK _ _ ((hI.world hba).y mm8 hv)
  ·have zg:=hI.e mm6 (hd 6)
   refine zA xgp ?_;obtain⟨v8,zt8,h8⟩:=hI.v mm8 (hd 8);go_simp;refine(zPd (h:=9) (e:=5) dE dE dE _ [[2,4]] 1 2 1 _ _ h8 ⟨rfl,by simp⟩ dE dE (zBd dE ⟨rfl,by simp⟩) zQJ _ (by rfl)).mono ?_;rintro e wa ⟨v,rfl,hv,hba⟩;exact hK _ _ ((hI.world hba).y mm9 hv)
  ·have zg:=hI.e mm6 (hd 6)
   refine zA xgp ?_;have zt:=hI.k 1 rfl kR;have cc0:=hI.cell c1;have cc1:=hI.cell c2;have cc2:=hI.cell c3;exact xgu
  ·have zg:=hI.e mm6 (hd 6)
   refine zA xgp ?_;obtain⟨v9,zt9,h9⟩:=hI.v mm9 (hd 9);have zt10:=hI.e yD (hd 10);go_simp;refine(zJT _ _ _ _ _ _ h9 (HL.out.below hI.bel)).mono ?_;rintro e wa ⟨v,rfl,hv,hba⟩;exact hK _ _ ((hI.world hba).y zAB hv)
  ·exact xgt (hI.e mm6 (hd 6)) (hI.e zAB (hd 11))
  ·exact xgs (hI.e zAh (hd 12))
  ·have zg:=hI.e zBv (hd 13)
   refine zA xgp ?_;have zt:=hI.k 1 rfl kR;have cc0:=hI.cell c1;have cc1:=hI.cell c2;have cc2:=hI.cell c3;exact xgu
  ·have zg:=hI.e zBv (hd 13)
   refine zA xgp ?_;have zt14:=hI.e zBF (hd 14);go_simp;refine(zEX (h:=9) (e:=5) dE dE dE _ [[1,2]] 1 2 _ (HL.out.below hI.bel) ⟨rfl,by simp⟩ dE dE (zBd dE ⟨rfl,by simp⟩) (ans:=true) ⟨fun _=>zOx.sat,fun _=>rfl⟩).mono ?_;rintro e wa ⟨v,rfl,hv,hba⟩;exact hK _ _ ((hI.world hba).y zCN hv)
  ·exact xgt (hI.e zBv (hd 13)) (hI.e zCN (hd 15))
  ·exact xgs (hI.e zCf (hd 16))
  ·have zg:=hI.e zCg (hd 17)
   refine zA xgp ?_;go_simp;exact hK _ _ ((hI.world ((Below.refl _ _).alloc (xgf _) _)).y zCh (zE0.new _ [2,4] dE dE))
  ·have zg:=hI.e zCg (hd 17)
   refine zA xgp ?_;obtain⟨v18,zt18,h18⟩:=hI.v zCh (hd 18);go_simp;refine(zGm _ [2,4] 1 2 _ _ [[2,4]] _ h18 (by rfl) (by rfl) (by rfl) oM oM (by rfl)).mono ?_;rintro e wa ⟨v,rfl,hv,hba⟩;exact hK _ _ ((hI.world hba).y zDW hv)
  ·have zg:=hI.e zCg (hd 17)
   refine zA xgp ?_;obtain⟨v19,zt19,h19⟩:=hI.v zDW (hd 19);go_simp;refine(zEX (h:=9) (e:=5) dE dE dE _ [[2,4]] 1 2 _ h19 ⟨rfl,by simp⟩ dE dE (zBd dE ⟨rfl,by simp⟩) (ans:=false) ⟨nofun,fun h=>absurd h zO4⟩).mono ?_;rintro e wa ⟨v,rfl,hv,hba⟩;exact hK _ _ ((hI.world hba).y zD6 hv)
  ·have zg:=hI.e zCg (hd 17)
   refine zA xgp ?_;exact xgs (hI.e zD6 (hd 20))
  ·exact xgt (hI.e zCg (hd 17)) (hI.e zEf (hd 21))
  ·exact xgs (hI.e zEg (hd 22))
  ·have zg:=hI.e zEh (hd 23)
   refine zA xgp ?_;exact xgs (hI.k 3 rfl kR)
  ·have zg:=hI.e zEh (hd 23)
   refine zA xgp ?_;exact xgs (hI.e zGC (hd 24))
  ·exact xgt (hI.e zEh (hd 23)) (hI.e zGD (hd 25))
  ·exact xgs (hI.e zHd (hd 26))
  ·have zg:=hI.e zGE (hd 27)
   refine zA xgp ?_;have zt:=hI.k 1 rfl kR;have cc0:=hI.cell c1;have cc1:=hI.cell c2;have cc2:=hI.cell c3;exact xgu
  ·have zg:=hI.e zGE (hd 27)
   refine zA xgp ?_;have zt:=hI.k 2 rfl kR;have cc0:=hI.cell d1;have cc1:=hI.cell d2;have cc2:=hI.cell d3;exact xgu
  ·have zg:=hI.e zGE (hd 27)
   refine zA xgp ?_;have zt28:=hI.e zIS (hd 28);have zt29:=hI.e zIT (hd 29);go_simp;refine(zCs (eb:=5*2^16) (zCy 16 dE) (zMw dE) dE _ _ [[1,2]] 1 2 _ (HL.out.below hI.bel) ⟨rfl,by simp⟩ dE dE (HC.out.below hI.bel)).mono ?_;rintro e wa ⟨v,rfl,hv,hba⟩;exact hK _ _ ((hI.world hba).y zJD hv)
  ·exact xgt (hI.e zGE (hd 27)) (hI.e zJD (hd 30))
  ·exact xgs (hI.e zMG (hd 31))
  ·have zg:=hI.e zKe (hd 32)
   refine zA xgp ?_;exact xgs (hI.k 5 rfl kR)
  ·have zg:=hI.e zKe (hd 32)
   refine zA xgp ?_;exact xgs (hI.e zOM (hd 33))
  ·exact xgt (hI.e zKe (hd 32)) (hI.e zON (hd 34))
  ·exact xgs (hI.e zOO (hd 35))
  ·have zg:=hI.e zM3 (hd 36)
   refine zA xgp ?_;exact xgs (hI.k 7 rfl kR)
  ·have zg:=hI.e zM3 (hd 36)
   refine zA xgp ?_;exact xgs (hI.e zOP (hd 37))
  ·exact xgt (hI.e zM3 (hd 36)) (hI.e zOQ (hd 38))
  ·exact xgs (hI.e zOR (hd 39))
  ·have zg:=hI.e zM4 (hd 40)
   refine zA xgp ?_;have zt:=hI.k 9 rfl kR;go_simp;exact hK _ _ (hI.q zPh)
  ·have zg:=hI.e zM4 (hd 40)
   refine zA xgp ?_;have zt41:=hI.e zPh (hd 41);go_simp;exact hK _ _ (hI.q zPi)
  ·have zt40:=hI.e zM4 (hd 40)
   have zt42:=hI.e zPi (hd 42);go_simp;exact hK _ _ (hI.q zPj)
  ·have zt43:=hI.e zPj (hd 43)
   go_simp;exact hK _ _ (hI.q zOS)
  ·have zg:=hI.e zOS (hd 44)
   refine zA xgp ?_;go_simp;exact hK _ _ (hI.q zPk)
  ·have zg:=hI.e zOS (hd 44)
   refine zA xgp ?_;have zt:=hI.k 8 rfl kR;have cc0:=hI.cell f1;have cc1:=hI.cell f2;have cc2:=hI.cell f3;go_simp;exact hK _ _ (hI.q zPl)
  ·have zg:=hI.e zOS (hd 44)
   refine zA xgp ?_;have zt45:=hI.e zPk (hd 45);have zt46:=hI.e zPl (hd 46);go_simp;refine(zCs (eb:=5*2^16) (zCy 16 dE) (zMw dE) dE _ _ [] 0 2 _ ⟨_,rfl,qX.nil _⟩ ⟨rfl,by simp⟩ dE dE (HD.out.below hI.bel)).mono ?_;rintro e wa ⟨v,rfl,hv,hba⟩;exact hK _ _ ((hI.world hba).y zPm hv)
  ·have zt44:=hI.e zOS (hd 44)
   have zt47:=hI.e zPm (hd 47);go_simp;exact hK _ _ (hI.q zPn)
  ·have zt48:=hI.e zPn (hd 48)
   go_simp;exact hK _ _ (hI.q zN1)
  ·have zg:=hI.e zN1 (hd 49)
   refine zA xgp ?_;go_simp;refine(zPy 2 0 _ _ _ (by rfl) (by rfl) dE dE).mono ?_;rintro e wa ⟨v,rfl,hv,hba⟩;exact hK _ _ ((hI.world hba).y zPo hv)
  ·have zg:=hI.e zN1 (hd 49)
   refine zA xgp ?_;obtain⟨v50,zt50,h50⟩:=hI.v zPo (hd 50);go_simp;refine(zM1 (h:=9) (e:=5) dE dE dE _ (yX 2 0) 2 0 2 _ _ h50 ⟨rfl,by simp[yX]⟩ dE dE (fun _ _ b hb=>by omega) zQZ _ (by rfl)).mono ?_;rintro e wa ⟨v,rfl,hv,hba⟩;exact hK _ _ ((hI.world hba).y zPp hv)
  ·have zg:=hI.e zN1 (hd 49)
   refine zA xgp ?_;go_simp;refine(zEo 2 _ dE).mono ?_;rintro e wa ⟨v,rfl,hv,hba⟩;exact hK _ _ ((hI.world hba).y zPq hv)
  ·have zg:=hI.e zN1 (hd 49)
   refine zA xgp ?_;obtain⟨v51,zt51,h51⟩:=hI.v zPp (hd 51);obtain⟨v52,zt52,h52⟩:=hI.v zPq (hd 52);go_simp;refine(zJT _ _ _ _ _ _ h51 h52).mono ?_;rintro e wa ⟨v,rfl,hv,hba⟩;exact hK _ _ ((hI.world hba).y zPr hv)
  ·have zt49:=hI.e zN1 (hd 49)
   have zt53:=hI.e zPr (hd 53);go_simp;exact hK _ _ (hI.q zPs)
  ·have zt54:=hI.e zPs (hd 54)
   go_simp;exact hK _ _ (hI.q zN2)
  ·have zg:=hI.e zN2 (hd 55)
   refine zA xgp ?_;go_simp;exact hK _ _ (hI.q zPt)
  ·have zg:=hI.e zN2 (hd 55)
   refine zA xgp ?_;have zt56:=hI.e zPt (hd 56);go_simp;refine(zOl 3 _ _ ⟨_,rfl,qX.nil _⟩ dE).mono ?_;rintro e wa ⟨v,rfl,hv,hba⟩;exact hK _ _ ((hI.world hba).y zPu hv)
  ·have zg:=hI.e zN2 (hd 55)
   refine zA xgp ?_;go_simp;refine(zPy 0 0 _ _ _ (by rfl) (by rfl) dE dE).mono ?_;rintro e wa ⟨v,rfl,hv,hba⟩;exact hK _ _ ((hI.world hba).y zPv hv)
  ·have zg:=hI.e zN2 (hd 55)
   refine zA xgp ?_;obtain⟨v57,zt57,h57⟩:=hI.v zPu (hd 57);obtain⟨v58,zt58,h58⟩:=hI.v zPv (hd 58);go_simp;refine(zJT _ _ _ _ _ _ h57 h58).mono ?_;rintro e wa ⟨v,rfl,hv,hba⟩;exact hK _ _ ((hI.world hba).y zPw hv)
  ·have zt55:=hI.e zN2 (hd 55)
   have zt59:=hI.e zPw (hd 59);go_simp;exact hK _ _ (hI.q zPx)
  ·have zt60:=hI.e zPx (hd 60)
   go_simp;exact hK _ _ (hI.q zQb)
 intro wz hbwz T hT;simp only[Fin,E,EI,VP,VSl,VN,xgg,xgh,xgi,xgj]at hT;obtain⟨vz0,hz0,vz1,hz1,vz2,hz2,vz3,hz3,vz4,hz4,vz7,hz7,vz8,hz8,vz9,hz9,vz18,hz18,vz19,hz19,vz50,hz50,vz51,hz51,vz52,hz52,vz57,hz57,vz58,hz58,rfl⟩:=hT;have hB:=nx hB hbwz;go_wp2;go_ret;exact⟨rfl,hB⟩

theorem zJm.congr{R C:Nat}{A B:Nat->Nat->Int}(h:zJm R C A)(e:∀a,a<R->∀b,b<C->A a b=B a b):zJm R C B:=by
 refine⟨fun x hx=>(jK.congr e x).1 (h.sat x ((zBn.congr e x).2 hx)),?_⟩;obtain⟨σ,τ,a,b,d⟩:=h.full;exact⟨σ,τ,a,b,by rwa[<-qS (F:=fun x y=>A (σ x) (τ y)) fun x hx y hy=>e _ (a x hx) _ (b y hy)]⟩
def zQK(R C:Nat)(A:Nat->Nat->Int)(w:World)(v:Value):Prop:=∃(o:Option Addr) (n k:Nat) (B eb:Nat),v= .tuple #[.agg #[.int .i64 ((C-R:Nat):Int),.int .i64 C,.slice o n k],.int .i64 0]∧
 qM (1<=B/\2*B<=2^eb/\eb<=35000000/\R<=C/\zCo B R C A w (.agg #[.int .i64 ((C-R:Nat):Int),.int .i64 C,.slice o n k]))
def zQw(ls:List Int)(i:Nat):Int:=if(ls.getD i 0).tmod 5=0 then 1 else(ls.getD i 0).tmod 5
def zQy(f:Nat->Int)(M:Nat->Nat->Int):Nat->Nat->Int:=fun a b=>M a b*f a
def zQd(f:Nat->Int)(M:Nat->Nat->Int)(i j:Nat):Nat->Nat->Int:=fun a b=>if a<i∨(a=i/\b<j)then M a b*f a else M a b
def rest(R C:Nat)(H:Nat->Nat->Int)(x:Nat->Int):Nat->Int:=zCO C H x R
def zPH(r:Nat)(c:Nat->Nat)(H:Nat->Nat->Int)(y:Nat->Int):Prop:=∀s,s<r->0<=y (c s)/\y (c s)<H s (c s)
section
variable {n C r:Nat} {c:Nat->Nat} {H:Nat->Nat->Int}
theorem zK1(hH:Hnf C n r c H){i:Nat}(hi:i<r)(y:Nat->Int):quo C H y i=y (c i)/H i (c i):=by
 unfold quo;rw[hH.ech.lead hi,if_neg oM];rfl
theorem zHl(hH:Hnf C n r c H){i:Nat}(h1:r<=i)(h2:i<n)(y:Nat->Int):quo C H y i=0:=by
 unfold quo;rw[zCE (hH.zero i h1 h2),if_pos oM]
theorem zLA(C:Nat)(H:Nat->Nat->Int)(x:Nat->Int)(i b:Nat):zCO C H x i b=x b+zI i fun s=>-(zEA C H x s)*H s b:=by
 induction i with
 |zero=>simp[zCO,zI]
 |succ i ih=>
  show zCO C H x i b+-(zEA C H x i)*H i b=_;rw[ih];exact Int.add_assoc _ _ _
theorem zMU(hH:Hnf C n r c H)(x:Nat->Int):∀i,i<=r->zPH i c H (zCO C H x i):=by
 intro i;induction i with
 |zero=>intro _ s hs;omega
 | succ i ih=>
  intro hi s hs;have hq:zEA C H x i=zCO C H x i (c i)/H i (c i):=zK1 hH oM _;have he:zCO C H x (i+1) (c s)=zCO C H x i (c s)+-(zEA C H x i)*H i (c s):=rfl;rw[he];by_cases e:s=i
  ·subst e
   have hp:=hH.ech.pos s oM;have h1:=Int.emod_nonneg (zCO C H x s (c s)) (show H s (c s)≠0 by omega);have h2:=Int.emod_lt_of_pos (zCO C H x s (c s)) hp;have h3:=Int.emod_def (zCO C H x s (c s)) (H s (c s));rw[hq,Int.neg_mul,Int.mul_comm (zCO C H x s (c s)/H s (c s))];omega
  ·have h1:=ih oM s oM
   rw[hH.ech.zero i oM (c s) (hH.ech.inc s i oM oM),Int.mul_zero,Int.add_zero];exact h1
theorem zLC(hH:Hnf C n r c H)(x:Nat->Int):∀d b,r+d<=n->zCO C H x (r+d) b=zCO C H x r b:=by
 intro d b;induction d with
 |zero=>intro _;rfl
 |succ d ih=>
  intro hd;have hq:zEA C H x (r+d)=0:=zHl hH oM oM _;show zCO C H x (r+d) b+-(zEA C H x (r+d))*H (r+d) b=_;rw[hq,ih oM];simp
theorem zMV(hH:Hnf C n r c H)(x:Nat->Int):zPH r c H (rest n C H x):=by
 intro s hs;have h:=zMU hH x r (xgf _) s hs;have e:rest n C H x (c s)=zCO C H x r (c s):=by
  have:=zLC hH x (n-r) (c s) (by have:=hH.le;omega);rwa[show r+(n-r)=n by have:=hH.le;omega]at this
 rw[e];exact h
theorem zHu(hH:Hnf C n r c H){y y' z:Nat->Int}(h1:zPH r c H y)(h2:zPH r c H y')(h:∀b,b<C->y b-y' b=zI n fun t=>z t*H t b):∀b,b<C->y b=y' b:=by
 have h':∀b,b<C->y b-y' b=zI r fun t=>z t*H t b:=fun b hb=>by
  rw[h b hb];exact zBB hH.le fun t a1 a2=>by rw[hH.zero t a1 a2 b hb,Int.mul_zero]
 have hz:∀t,t<r->z t=0:=fun t ht=>Classical.byContradiction fun hne=>by
  obtain⟨t,ht,h0,hb⟩:=zD2 ⟨t,ht,hne⟩;have e:=h' (c t) (hH.ech.lt t ht);rw[zFj hH.ech ht hb]at e;have a1:=h1 t ht;have a2:=h2 t ht;have hp:=hH.ech.pos t ht;have hle:(H t (c t)).natAbs<=(z t*H t (c t)).natAbs:=by
   rw[Int.natAbs_mul];exact Nat.le_mul_of_pos_left _ (Int.natAbs_pos.2 h0)
  rw[<-e]at hle;omega
 intro b hb;have e:=h' b hb;rw[yC fun t ht=>by rw[hz t ht,Int.zero_mul]]at e;omega
theorem zLD(hH:Hnf C n r c H){x z:Nat->Int}(h:∀b,b<C->x b=zI n fun t=>z t*H t b):∀b,b<C->rest n C H x b=0:=
 zHu hH (zMV hH x) (y':=fun _=>0) (fun s hs=>⟨Int.le_refl _,hH.ech.pos s hs⟩) (z:=fun t=>z t+-(zEA C H x t)) fun b hb=>by
  have e1:rest n C H x b=_:=zLA C H x n b;rw[e1,h b hb,Int.sub_zero,<-jF];exact zD fun t _=>by rw[Int.add_mul]
end
theorem zEI(a b:Int):(a/b).natAbs<=a.natAbs:=Int.natAbs_ediv_le_natAbs a b
theorem Hnf.congr{C n r:Nat}{c:Nat->Nat}{F G:Nat->Nat->Int}(h:Hnf C n r c F)(e:∀a,a<n->∀b,b<C->F a b=G a b):Hnf C n r c G:=by
 have hl:=h.le;refine⟨h.le,⟨h.ech.lt,fun k hk=>?_,fun k hk t ht=>?_,h.ech.inc⟩,fun i j hij hj _=>?_,fun a h1 h2 t ht=>?_⟩
 ·rw[<-e k oM _ (h.ech.lt k hk)];exact h.ech.pos k hk
 ·rw[<-e k oM t (by have:=h.ech.lt k hk;omega)];exact h.ech.zero k hk t ht
 ·rw[<-e i oM _ (h.ech.lt j hj),<-e j oM _ (h.ech.lt j hj)];exact h.red i j hij hj trivial
 ·rw[<-e a h2 t ht];exact h.zero a h1 h2 t ht
theorem zLB{n C r h m:Nat}{c:Nat->Nat}{H:Nat->Nat->Int}(hH:Hnf C n r c H)(hh:leM h n C H){x:Nat->Int}(hx:∀b,b<C->(x b).natAbs<=m):
  ∀i,i<=n->∀b,b<C->(zCO C H x i b).natAbs<=m*(1+h)^i:=by
 intro i;induction i with
 |zero=>intro _ b hb;simpa[zCO]using hx b hb
 | succ i ih=>
  intro hi b hb;have h1:=ih oM b hb;have hq:(zEA C H x i).natAbs<=m*(1+h)^i:=by
   by_cases hr:i<r
   ·show(quo C H (zCO C H x i) i).natAbs<=_
    rw[zK1 hH hr];exact Nat.le_trans (zEI _ _) (ih oM _ (hH.ech.lt i hr))
   ·show(quo C H (zCO C H x i) i).natAbs<=_
    rw[zHl hH oM oM];simp
  show(zCO C H x i b+-(zEA C H x i)*H i b).natAbs<=_;have h2:(-(zEA C H x i)*H i b).natAbs<=m*(1+h)^i*h:=by
   rw[Int.natAbs_mul,Int.natAbs_neg];exact Nat.mul_le_mul hq (hh i oM b hb)
  refine Nat.le_trans (Int.natAbs_add_le _ _) (Nat.le_trans (Nat.add_le_add h1 h2) ?_);rw[Nat.pow_succ,<-Nat.mul_assoc,Nat.mul_add,Nat.mul_one];exact xgf _
theorem zK9{n C r h m:Nat}{c:Nat->Nat}{H:Nat->Nat->Int}(hH:Hnf C n r c H)(hh:leM h n C H){x:Nat->Int}(hx:∀b,b<C->(x b).natAbs<=m){i:Nat}(hi:i<n):(zEA C H x i).natAbs<=m*(1+h)^i:=by
 by_cases hr:i<r
 ·show(quo C H (zCO C H x i) i).natAbs<=_
  rw[zK1 hH hr];exact Nat.le_trans (zEI _ _) (zLB hH hh hx i oM _ (hH.ech.lt i hr))
 ·show(quo C H (zCO C H x i) i).natAbs<=_
  rw[zHl hH oM hi];simp
theorem zFU{a:Nat}(h:a<=2^199):a<BD:=by
 have h1:2^200<=B32^zHE:=zCH (by rw[jB];omega);rw[zJr];exact Nat.lt_of_le_of_lt h (Nat.lt_of_lt_of_le dE h1)
end Go.Proofs.YtgnmdddaiefooaaGreat
