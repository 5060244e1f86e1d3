/- torsionlaw12.sanity. -/
import Derived.Test.YtgnmdddaiefooaaGreatF40
set_option linter.unusedVariables false
set_option linter.unusedSimpArgs false
set_option linter.unusedSectionVars false
set_option maxHeartbeats 16000000
set_option maxRecDepth 100000
namespace Go.Proofs.YtgnmdddaiefooaaGreat
open Go.RowKit
theorem zFV(hv vv:Value)(R C:Nat)(M:List (List Int))(xs:List Int)(w:World)(h:yG w hv R C M)(hF:yM R C M)(hx:jG w vv xs)(hne:xs.length≠C):
  Calls Tryz.prog 46 #[hv,vv] w fun e w'=>e= .returned (.tuple #[.slice none 0 0,.slice none 0 0,.int .i64 50])/\Below w.heap.size w w':=by
 have h0:=h;obtain⟨A,rfl,h⟩:=h;obtain⟨ao,n,cap,rfl,e2,e3,e4,-⟩:=id h;obtain⟨xo,xn,xcap,rfl,x2,x3,x4,-⟩:=id hx;rw[x2]at hne;have hdv:decide (qF R C M)=true:=decide_eq_true hF.valid;have hn:((xn:Int) !=(C:Int))=true:=by simp;omega
 have H0:=xgv h0;clear h0 hF e2 h hx hne x2;go_enter Tryz.func46,Tryz.ntmps46;go_upto_region 1 with(fail)
 refine zB ?_;intro W0 hW0;obtain⟨hb0,bx1,hs0⟩:=zM hW0;obtain⟨c1,c2,c3,c4,c5,c6⟩:=bx1.three;clear hW0;go_wp2_with fail
 refine(yC _ R C M W0 (H0.out.below hb0)).mono ?_;rintro e w1 ⟨rfl,hb1⟩;rw[hdv];have bx1:=bx1.below hb1;have hb:=nx hb0 hb1;clear c1 c2 c3 c4 c5 c6 hdv;obtain⟨c1,c2,c3,c4,c5,c6⟩:=bx1.three;go_wp2;refine bodyPost_ret (zDd rfl _ _ _) rfl ?_;exact⟨rfl,hb⟩
def zMt(q r:List Int):World->Value->Prop:=fun w v=>∃qv rv,v= .tuple #[qv,rv,.int .i64 0]/\jG w qv q/\jG w rv r
theorem zHZ(q r:List Int):qQ (zMt q r):=fun _ _ _ hb ⟨a,b,h1,h2,h3⟩=>⟨a,b,h1,h2.below hb,h3.below hb⟩
def zM2(xs:List Int):World->Value->Prop:=fun w v=>∃b rv,v= .pointer (some ⟨b,0,none⟩)/\b<w.heap.size/\w.cell? ⟨b,0,none⟩=some rv/\jG w rv xs
theorem zGK(xs:List Int):qQ (zM2 xs):=fun _ _ _ hb ⟨b,rv,h1,h2,h3,h4⟩=>⟨b,rv,h1,Nat.lt_of_lt_of_le h2 hb.size,(hb.cell (p:=⟨b,0,none⟩) h2).trans h3,h4.below hb⟩
theorem zGL(M:List (List Int)):qQ (fun w v=>qT w v M):=fun _ _ _ hb h=>h.below hb
theorem zJ4(hv vv:Value)(w:World)(h:yG w hv (2:Nat) (2:Nat) [[1,1],[0,2]])(hx:jG w vv [3,6]):
  Calls Tryz.prog 46 #[hv,vv] w fun e w'=>∃v,e= .returned v/\zMt [3,1] [0,1] w' v/\Below w.heap.size w w':=by
 refine(zFU zLg hv vv 2 2 _ (fun t=>[3,6].getD t 0) w h ⟨rfl,by decide⟩ hx oM oM ⟨by decide,by decide,by decide⟩ dE).mono ?_;rintro e w' ⟨qv,rv,rfl,h1,h2,hb⟩;exact⟨_,rfl,⟨qv,rv,rfl,h1,h2⟩,hb⟩
def zJr:World->Value->Prop:=fun w v=>∃H U V,zBq w v 0 3 H U V/\zE7 0 3 [] H U V
theorem zFZ:qQ zJr:=fun _ _ _ hb ⟨a,b,c,h1,h2⟩=>⟨a,b,c,h1.below hb,h2⟩
theorem zMV(v:Value)(w:World)(h:yG w v (0:Nat) (3:Nat) []):
  Calls Tryz.prog 41 #[v] w fun e w'=>∃v,e= .returned v/\zJr w' v/\Below w.heap.size w w':=by
 refine(zEC (M0:=9) (e:=5) dE dE dE v [] 0 3 w h ⟨rfl,by decide⟩ oM oM (fun a ha=>by omega)).mono ?_;rintro e w' ⟨f,H,U,V,rfl,h1,h2,hb⟩;exact⟨f,rfl,⟨H,U,V,h1,h2⟩,hb⟩
theorem zLW(av fv:Value)(w:World)(ha:yG w av (0:Nat) (3:Nat) [])(hf:zJr w fv):
  Calls Tryz.prog 45 #[av,fv] w fun e w'=>∃v,e= .returned v/\v= .bool true/\Below w.heap.size w w':=by
 obtain⟨H,U,V,h1,h2⟩:=hf;exact zIf av fv 0 3 [] H U V w ha ⟨rfl,by decide⟩ h1 oM oM h2
theorem zK9(v1 v2:Value)(xs:List Int)(w:World)(h1:jG w v1 xs)(h2:jG w v2 xs):
  Calls Tryz.prog 49 #[v1,v2] w fun e w'=>∃v,e= .returned v/\v= .bool true/\Below w.heap.size w w':=
 (zDf v1 v2 xs xs w h1 h2).mono fun e w' ⟨h,hb⟩=>⟨_,h,by rw[decide_eq_true rfl],hb⟩
theorem zBq.agg{w:World}{f:Value}{R C:Nat}{H U V:List (List Int)}(h:zBq w f R C H U V):∃o1 n1 k1 o2 n2 k2 o3 n3 k3,f= .agg #[.int .i64 R,.int .i64 C,.slice o1 n1 k1,.int .i64 R,.int .i64 R,.slice o2 n2 k2,.int .i64 R,.int .i64 R,.slice o3 n3 k3]/\yG w (.agg #[.int .i64 R,.int .i64 C,.slice o1 n1 k1]) R C H:=by
 obtain⟨a,b,c,rfl,h1,h2,h3⟩:=h.ex;obtain⟨o1,n1,k1,rfl,-⟩:=id h1;obtain⟨o2,n2,k2,rfl,-⟩:=id h2;obtain⟨o3,n3,k3,rfl,-⟩:=id h3;exact⟨_,_,_,_,_,_,_,_,_,rfl,⟨_,rfl,h1⟩⟩
theorem nxd{W W':World}{o:Obj}(h:Below (W.alloc o).heap.size (W.alloc o) W'):Below W.heap.size W W':=nxa (Below.refl _ _) h
abbrev zNA:=fun{α:Type}{a b c d e f g h i j k L m n o p q r s t u v w X y z a1 b1 c1 d1 e1 f1 g1 h1 i1 j1 k1 l1 m1 n1 o1 x:α}{l:List α}=>List.Mem.tail a (@zL9 α b c d e f g h i j k L m n o p q r s t u v w X y z a1 b1 c1 d1 e1 f1 g1 h1 i1 j1 k1 l1 m1 n1 o1 x l)
abbrev zNB:=fun{α:Type}{a b c d e f g h i j k L m n o p q r s t u v w X y z a1 b1 c1 d1 e1 f1 g1 h1 i1 j1 k1 l1 m1 n1 o1 p1 x:α}{l:List α}=>List.Mem.tail a (@zNA α b c d e f g h i j k L m n o p q r s t u v w X y z a1 b1 c1 d1 e1 f1 g1 h1 i1 j1 k1 l1 m1 n1 o1 p1 x l)
abbrev zMA:=fun{α:Type}{a b c d e f g h i j k L m n o p q r s t u v w X y z a1 b1 c1 d1 e1 f1 g1 h1 i1 j1 k1 l1 m1 n1 o1 p1 q1 x:α}{l:List α}=>List.Mem.tail a (@zNB α b c d e f g h i j k L m n o p q r s t u v w X y z a1 b1 c1 d1 e1 f1 g1 h1 i1 j1 k1 l1 m1 n1 o1 p1 q1 x l)
abbrev zNC:=fun{α:Type}{a b c d e f g h i j k L m n o p q r s t u v w X y z a1 b1 c1 d1 e1 f1 g1 h1 i1 j1 k1 l1 m1 n1 o1 p1 q1 r1 x:α}{l:List α}=>List.Mem.tail a (@zMA α b c d e f g h i j k L m n o p q r s t u v w X y z a1 b1 c1 d1 e1 f1 g1 h1 i1 j1 k1 l1 m1 n1 o1 p1 q1 r1 x l)
abbrev zND:=fun{α:Type}{a b c d e f g h i j k L m n o p q r s t u v w X y z a1 b1 c1 d1 e1 f1 g1 h1 i1 j1 k1 l1 m1 n1 o1 p1 q1 r1 s1 x:α}{l:List α}=>List.Mem.tail a (@zNC α b c d e f g h i j k L m n o p q r s t u v w X y z a1 b1 c1 d1 e1 f1 g1 h1 i1 j1 k1 l1 m1 n1 o1 p1 q1 r1 s1 x l)
abbrev zNE:=fun{α:Type}{a b c d e f g h i j k L m n o p q r s t u v w X y z a1 b1 c1 d1 e1 f1 g1 h1 i1 j1 k1 l1 m1 n1 o1 p1 q1 r1 s1 t1 x:α}{l:List α}=>List.Mem.tail a (@zND α b c d e f g h i j k L m n o p q r s t u v w X y z a1 b1 c1 d1 e1 f1 g1 h1 i1 j1 k1 l1 m1 n1 o1 p1 q1 r1 s1 t1 x l)
abbrev zNF:=fun{α:Type}{a b c d e f g h i j k L m n o p q r s t u v w X y z a1 b1 c1 d1 e1 f1 g1 h1 i1 j1 k1 l1 m1 n1 o1 p1 q1 r1 s1 t1 u1 x:α}{l:List α}=>List.Mem.tail a (@zNE α b c d e f g h i j k L m n o p q r s t u v w X y z a1 b1 c1 d1 e1 f1 g1 h1 i1 j1 k1 l1 m1 n1 o1 p1 q1 r1 s1 t1 u1 x l)
abbrev zLk:=fun{α:Type}{a b c d e f g h i j k L m n o p q r s t u v w X y z a1 b1 c1 d1 e1 f1 g1 h1 i1 j1 k1 l1 m1 n1 o1 p1 q1 r1 s1 t1 u1 v1 x:α}{l:List α}=>List.Mem.tail a (@zNF α b c d e f g h i j k L m n o p q r s t u v w X y z a1 b1 c1 d1 e1 f1 g1 h1 i1 j1 k1 l1 m1 n1 o1 p1 q1 r1 s1 t1 u1 v1 x l)
abbrev zNG:=fun{α:Type}{a b c d e f g h i j k L m n o p q r s t u v w X y z a1 b1 c1 d1 e1 f1 g1 h1 i1 j1 k1 l1 m1 n1 o1 p1 q1 r1 s1 t1 u1 v1 w1 x:α}{l:List α}=>List.Mem.tail a (@zLk α b c d e f g h i j k L m n o p q r s t u v w X y z a1 b1 c1 d1 e1 f1 g1 h1 i1 j1 k1 l1 m1 n1 o1 p1 q1 r1 s1 t1 u1 v1 w1 x l)
abbrev zNH:=fun{α:Type}{a b c d e f g h i j k L m n o p q r s t u v w X y z a1 b1 c1 d1 e1 f1 g1 h1 i1 j1 k1 l1 m1 n1 o1 p1 q1 r1 s1 t1 u1 v1 w1 x1 x:α}{l:List α}=>List.Mem.tail a (@zNG α b c d e f g h i j k L m n o p q r s t u v w X y z a1 b1 c1 d1 e1 f1 g1 h1 i1 j1 k1 l1 m1 n1 o1 p1 q1 r1 s1 t1 u1 v1 w1 x1 x l)
abbrev zNI:=fun{α:Type}{a b c d e f g h i j k L m n o p q r s t u v w X y z a1 b1 c1 d1 e1 f1 g1 h1 i1 j1 k1 l1 m1 n1 o1 p1 q1 r1 s1 t1 u1 v1 w1 x1 y1 x:α}{l:List α}=>List.Mem.tail a (@zNH α b c d e f g h i j k L m n o p q r s t u v w X y z a1 b1 c1 d1 e1 f1 g1 h1 i1 j1 k1 l1 m1 n1 o1 p1 q1 r1 s1 t1 u1 v1 w1 x1 y1 x l)
abbrev zNJ:=fun{α:Type}{a b c d e f g h i j k L m n o p q r s t u v w X y z a1 b1 c1 d1 e1 f1 g1 h1 i1 j1 k1 l1 m1 n1 o1 p1 q1 r1 s1 t1 u1 v1 w1 x1 y1 z1 x:α}{l:List α}=>List.Mem.tail a (@zNI α b c d e f g h i j k L m n o p q r s t u v w X y z a1 b1 c1 d1 e1 f1 g1 h1 i1 j1 k1 l1 m1 n1 o1 p1 q1 r1 s1 t1 u1 v1 w1 x1 y1 z1 x l)
abbrev zNK:=fun{α:Type}{a b c d e f g h i j k L m n o p q r s t u v w X y z a1 b1 c1 d1 e1 f1 g1 h1 i1 j1 k1 l1 m1 n1 o1 p1 q1 r1 s1 t1 u1 v1 w1 x1 y1 z1 a2 x:α}{l:List α}=>List.Mem.tail a (@zNJ α b c d e f g h i j k L m n o p q r s t u v w X y z a1 b1 c1 d1 e1 f1 g1 h1 i1 j1 k1 l1 m1 n1 o1 p1 q1 r1 s1 t1 u1 v1 w1 x1 y1 z1 a2 x l)
abbrev zLl:=fun{α:Type}{a b c d e f g h i j k L m n o p q r s t u v w X y z a1 b1 c1 d1 e1 f1 g1 h1 i1 j1 k1 l1 m1 n1 o1 p1 q1 r1 s1 t1 u1 v1 w1 x1 y1 z1 a2 b2 x:α}{l:List α}=>List.Mem.tail a (@zNK α b c d e f g h i j k L m n o p q r s t u v w X y z a1 b1 c1 d1 e1 f1 g1 h1 i1 j1 k1 l1 m1 n1 o1 p1 q1 r1 s1 t1 u1 v1 w1 x1 y1 z1 a2 b2 x l)
abbrev zNL:=fun{α:Type}{a b c d e f g h i j k L m n o p q r s t u v w X y z a1 b1 c1 d1 e1 f1 g1 h1 i1 j1 k1 l1 m1 n1 o1 p1 q1 r1 s1 t1 u1 v1 w1 x1 y1 z1 a2 b2 c2 x:α}{l:List α}=>List.Mem.tail a (@zLl α b c d e f g h i j k L m n o p q r s t u v w X y z a1 b1 c1 d1 e1 f1 g1 h1 i1 j1 k1 l1 m1 n1 o1 p1 q1 r1 s1 t1 u1 v1 w1 x1 y1 z1 a2 b2 c2 x l)
abbrev zNM:=fun{α:Type}{a b c d e f g h i j k L m n o p q r s t u v w X y z a1 b1 c1 d1 e1 f1 g1 h1 i1 j1 k1 l1 m1 n1 o1 p1 q1 r1 s1 t1 u1 v1 w1 x1 y1 z1 a2 b2 c2 d2 x:α}{l:List α}=>List.Mem.tail a (@zNL α b c d e f g h i j k L m n o p q r s t u v w X y z a1 b1 c1 d1 e1 f1 g1 h1 i1 j1 k1 l1 m1 n1 o1 p1 q1 r1 s1 t1 u1 v1 w1 x1 y1 z1 a2 b2 c2 d2 x l)
abbrev zNN:=fun{α:Type}{a b c d e f g h i j k L m n o p q r s t u v w X y z a1 b1 c1 d1 e1 f1 g1 h1 i1 j1 k1 l1 m1 n1 o1 p1 q1 r1 s1 t1 u1 v1 w1 x1 y1 z1 a2 b2 c2 d2 e2 x:α}{l:List α}=>List.Mem.tail a (@zNM α b c d e f g h i j k L m n o p q r s t u v w X y z a1 b1 c1 d1 e1 f1 g1 h1 i1 j1 k1 l1 m1 n1 o1 p1 q1 r1 s1 t1 u1 v1 w1 x1 y1 z1 a2 b2 c2 d2 e2 x l)
abbrev zNO:=fun{α:Type}{a b c d e f g h i j k L m n o p q r s t u v w X y z a1 b1 c1 d1 e1 f1 g1 h1 i1 j1 k1 l1 m1 n1 o1 p1 q1 r1 s1 t1 u1 v1 w1 x1 y1 z1 a2 b2 c2 d2 e2 f2 x:α}{l:List α}=>List.Mem.tail a (@zNN α b c d e f g h i j k L m n o p q r s t u v w X y z a1 b1 c1 d1 e1 f1 g1 h1 i1 j1 k1 l1 m1 n1 o1 p1 q1 r1 s1 t1 u1 v1 w1 x1 y1 z1 a2 b2 c2 d2 e2 f2 x l)
abbrev zNP:=fun{α:Type}{a b c d e f g h i j k L m n o p q r s t u v w X y z a1 b1 c1 d1 e1 f1 g1 h1 i1 j1 k1 l1 m1 n1 o1 p1 q1 r1 s1 t1 u1 v1 w1 x1 y1 z1 a2 b2 c2 d2 e2 f2 g2 x:α}{l:List α}=>List.Mem.tail a (@zNO α b c d e f g h i j k L m n o p q r s t u v w X y z a1 b1 c1 d1 e1 f1 g1 h1 i1 j1 k1 l1 m1 n1 o1 p1 q1 r1 s1 t1 u1 v1 w1 x1 y1 z1 a2 b2 c2 d2 e2 f2 g2 x l)
abbrev zNv:=fun{α:Type}{a b c d e f g h i j k L m n o p q r s t u v w X y z a1 b1 c1 d1 e1 f1 g1 h1 i1 j1 k1 l1 m1 n1 o1 p1 q1 r1 s1 t1 u1 v1 w1 x1 y1 z1 a2 b2 c2 d2 e2 f2 g2 h2 x:α}{l:List α}=>List.Mem.tail a (@zNP α b c d e f g h i j k L m n o p q r s t u v w X y z a1 b1 c1 d1 e1 f1 g1 h1 i1 j1 k1 l1 m1 n1 o1 p1 q1 r1 s1 t1 u1 v1 w1 x1 y1 z1 a2 b2 c2 d2 e2 f2 g2 h2 x l)
theorem zHT(a b c:Value)(W:World):(Instr.field 28 (.agg #[a,b,c]) 2).run Tryz.prog W= .ok c W:=by kernel_rfl
theorem zFk(w:World):Calls Tryz.prog 40 #[] w fun e w'=>e= .returned (.bool true)/\Below w.heap.size w w':=by
 go_enter Tryz.func40,Tryz.ntmps40;have hB:=Below.refl w.heap.size w;go_wp2_with fail
 refine(zEj _ [2,4,3,5] 2 2 _ _ [[2,4],[3,5]] _ (zDm.new _ [2,4,3,5] dE dE) (by rfl) (by rfl) (by rfl) oM oM (by rfl)).mono ?_;rintro e wa ⟨v1,rfl,hm,hb1⟩;have hB:=nxa hB hb1;obtain⟨wao,wan,wak,rfl⟩:=hm.agg;have HA:=xgv hm;clear hm;go_upto_region 2 with(fail)
 refine zB ?_;intro W1 hW1;obtain⟨hB1,b1,hs1⟩:=zM hW1;have hB:=nx hB hB1;have HA:=xgv (HA.out.below hB1);clear hW1;go_wp2_with fail
 refine(zEj _ [1,1,0,2] 2 2 _ _ [[1,1],[0,2]] _ (zDm.new _ [1,1,0,2] dE dE) (by rfl) (by rfl) (by rfl) oM oM (by rfl)).mono ?_;rintro e wb ⟨v1,rfl,hm,hb1⟩;have hB:=nxa hB hb1;obtain⟨wbo,wbn,wbk,rfl⟩:=hm.agg;have HW:=xgv hm;have HA:=xgv (HA.out.below (nxd hb1));have b1:=b1.below (nxd hb1);clear hm;go_upto_region 3 with(fail)
 refine zB ?_;intro W2 hW2;obtain⟨hB2,b2,hs2⟩:=zM hW2;have hB:=nx hB hB2;have HA:=xgv (HA.out.below hB2);have HW:=xgv (HW.out.below hB2);have b1:=b1.below hB2;obtain⟨c1,c2,c3,-,-,-⟩:=b1.three;clear hW2;go_wp2_with fail
 refine(zED _ _ [[1,1],[0,2]] [[2,1],[3,1]] [[-1,1],[3,-2]] 2 2 W2 HA.out ⟨rfl,by decide⟩ oM oM dE ⟨rfl,by decide⟩ dE).mono ?_;rintro e w3 ⟨fv,U,V,rfl,hf,hg,hb3⟩;obtain⟨f1,f2,f3,f4,f5,f6,f7,f8,f9,rfl,hfh⟩:=hf.agg;have HF:=xgv hf;have HG:=xgv hg;have HH:=xgv hfh;have HA:=xgv (HA.out.below hb3);have HW:=xgv (HW.out.below hb3);have b1:=b1.below hb3;have b2:=b2.below hb3;have hB:=nx hB hb3;clear c1 c2 c3 hf hg hfh;go_upto_region 4 with(fail)
 refine zB ?_;intro W4 hW4;obtain⟨hB4,b3,hs4⟩:=zM hW4;have HA:=xgv (HA.out.below hB4);have HW:=xgv (HW.out.below hB4);have HF:=xgv (HF.out.below hB4);have HH:=xgv (HH.out.below hB4);have b1:=b1.below hB4;have b2:=b2.below hB4;have hB:=nx hB hB4;clear hW4;go_wp2_with fail
 refine(zEj _ [0,0,0,-3] 2 2 _ _ [[0,0],[0,-3]] _ (zDm.new _ [0,0,0,-3] dE dE) (by rfl) (by rfl) (by rfl) oM oM (by rfl)).mono ?_;rintro e wc ⟨v1,rfl,hm,hb1⟩;have hB:=nxa hB hb1;obtain⟨wco,wcn,wck,rfl⟩:=hm.agg;have hb1:=nxd hb1;have HA:=xgv (HA.out.below hb1);have HW:=xgv (HW.out.below hb1);have HF:=xgv (HF.out.below hb1);have HH:=xgv (HH.out.below hb1);have b1:=b1.below hb1;have b2:=b2.below hb1;have b3:=b3.below hb1;have HM:=xgv hm;clear hm;go_wp2_with fail
 refine(zED _ _ [[0,3],[0,0]] [[0,0],[-1,0]] [[0,-1],[1,0]] 2 2 wc HM.out ⟨rfl,by decide⟩ oM oM dE ⟨rfl,by decide⟩ dE).mono ?_;rintro e w5 ⟨gv,U2,V2,rfl,hf,-,hb5⟩;obtain⟨g1,g2,g3,g4,g5,g6,g7,g8,g9,rfl,hfh⟩:=hf.agg;have HA:=xgv (HA.out.below hb5);have HW:=xgv (HW.out.below hb5);have HF:=xgv (HF.out.below hb5);have HH:=xgv (HH.out.below hb5);have HH2:=xgv hfh;have b1:=b1.below hb5;have b2:=b2.below hb5;have b3:=b3.below hb5;have hB:=nx hB hb5;clear hf hfh HM;go_upto_region 5 with(fail)
 refine zB ?_;intro W6 hW6;obtain⟨hB6,b4,hs6⟩:=zM hW6;have HA:=xgv (HA.out.below hB6);have HW:=xgv (HW.out.below hB6);have HF:=xgv (HF.out.below hB6);have HH:=xgv (HH.out.below hB6);have HH2:=xgv (HH2.out.below hB6);have b1:=b1.below hB6;have b2:=b2.below hB6;have b3:=b3.below hB6;have hB:=nx hB hB6;clear hW6;go_wp2_with fail
 refine(zEj _ [4,6] 2 1 _ _ [[4],[6]] _ (zDm.new _ [4,6] dE dE) (by rfl) (by rfl) (by rfl) oM oM (by rfl)).mono ?_;rintro e wd ⟨v1,rfl,hm,hb1⟩;have hB:=nxa hB hb1;obtain⟨wdo,wdn,wdk,rfl⟩:=hm.agg;have hb1:=nxd hb1;have HA:=xgv (HA.out.below hb1);have HW:=xgv (HW.out.below hb1);have HF:=xgv (HF.out.below hb1);have HH:=xgv (HH.out.below hb1);have HH2:=xgv (HH2.out.below hb1);have b1:=b1.below hb1;have b2:=b2.below hb1;have b3:=b3.below hb1;have b4:=b4.below hb1;have HM:=xgv hm;clear hm;go_wp2_with fail
 refine(zGI _ _ [[2],[0]] [[2,0],[3,0]] [[-1,1],[0,0]] [[2]] 2 1 1 wd HM.out ⟨rfl,by decide⟩ oM oM dE ⟨rfl,by decide⟩ dE dE oM (by rfl)).mono ?_;rintro e w7 ⟨cv,rfl,hm,hb7⟩;obtain⟨k1,k2,k3,rfl⟩:=hm.agg;have HC:=xgv hm;have HA:=xgv (HA.out.below hb7);have HW:=xgv (HW.out.below hb7);have HF:=xgv (HF.out.below hb7);have HH:=xgv (HH.out.below hb7);have HH2:=xgv (HH2.out.below hb7);have b1:=b1.below hb7;have b2:=b2.below hb7;have b3:=b3.below hb7;have b4:=b4.below hb7;have hB:=nx hB hb7;clear hm HM;go_upto_region 6 with(fail)
 refine zB ?_;intro W8 hW8;obtain⟨hB8,b5,hs8⟩:=zM hW8;have HA:=xgv (HA.out.below hB8);have HW:=xgv (HW.out.below hB8);have HF:=xgv (HF.out.below hB8);have HH:=xgv (HH.out.below hB8);have HH2:=xgv (HH2.out.below hB8);have HC:=xgv (HC.out.below hB8);have b1:=b1.below hB8;have b2:=b2.below hB8;have b3:=b3.below hB8;have b4:=b4.below hB8;have hB:=nx hB hB8;obtain⟨d1,d2,d3,-,-,-⟩:=b2.three;have hl1:=zCW [3,6];have hl2:=zHZ [3,1] [0,1];have hl3:=zGK [3,6];have hl4:=zGL [[3,6]];have hl5:=jZ [3,6];have hl6:=jZ [3,1];have hl7:=jZ [0,1];clear hW8;refine zF rfl (RV W8 _ [E 0 26 (.agg #[.int .i64 2,.int .i64 2,.slice wbo wbn wbk]),⟨1,27,fun w v=>zDm w v [3,6]⟩,⟨2,28,fun w v=>yG w v (1:Nat) (2:Nat) [[3,6]]⟩,⟨3,29,fun w v=>qT w v [[3,6]]⟩,⟨4,30,zM2 [3,6]⟩,⟨5,31,fun w v=>jG w v [3,6]⟩,⟨6,32,zMt [3,1] [0,1]⟩,⟨7,25,zMt [3,1] [0,1]⟩,⟨8,33,fun w v=>jG w v [3,1]⟩,⟨9,34,fun w v=>jG w v [0,1]⟩,VN 10 35 0,⟨11,6,fun w v=>jG w v [3,1]⟩,⟨12,7,fun w v=>jG w v [0,1]⟩,VN 13 8 0]) kR RV.start (RV.fin kR ?fin1) ?steps1
 case steps1=>
  refine⟨?_,?_,?_,?_,?_,?_,?_,?_,?_,?_,?_,?_,?_,?_,trivial⟩<;>(intro L T wS hL hd hcl hI K hK;try refine zA rfl ?_)
  ·have zt:=hI.k 2 rfl kR
   have cc0:=hI.cell d1;have cc1:=hI.cell d2;have cc2:=hI.cell d3;exact xgu
  ·go_simp
   exact hK _ _ ((hI.world ((Below.refl _ _).alloc (xgf _) _)).y mm1 (zDm.new _ [3,6] dE dE))
  ·obtain⟨v1,zt1,h1⟩:=hI.v mm1 (hd 1)
   go_simp;refine(zEj _ [3,6] 1 2 _ _ [[3,6]] _ h1 (by rfl) (by rfl) (by rfl) oM oM (by rfl)).mono ?_;rintro e wa ⟨v,rfl,hv,hba⟩;exact hK _ _ ((hI.world hba).y mm2 hv)
  ·obtain⟨_,zt2,A2,rfl,hA2⟩:=hI.v mm2 (hd 2)
   obtain⟨oo,nn,kk,rfl,-⟩:=id hA2;go_simp;exact hK _ _ (hI.y mm3 hA2)
  ·obtain⟨v3,zt3,h3⟩:=hI.v mm3 (hd 3)
   replace h3:qT wS v3 [[3,6]]:=h3;obtain⟨oo,nn,kk,rfl,hn1,-⟩:=id h3;obtain rfl:1=nn:=hn1;obtain⟨bb,ra,rn,rc,zs,rfl,hbl,hz,p1,hrv⟩:=h3.row (k:=0) dE;obtain rfl: [3,6]=zs:=Option.some.inj hz;go_simp;exact hK _ _ (hI.y mm4 ⟨bb,_,rfl,hbl,p1,hrv⟩)
  ·obtain⟨v4,zt4,h4⟩:=hI.v mm4 (hd 4)
   obtain⟨bb,rv,rfl,hbl,p1,hrv⟩:zM2 [3,6] wS v4:=h4;obtain⟨oo,nn,kk,rfl,-⟩:=id hrv;go_simp;exact hK _ _ (hI.y mm5 hrv)
  ·have zt0:=hI.e mm0 (hd 0)
   obtain⟨v5,zt5,h5⟩:=hI.v mm5 (hd 5);go_simp;refine(zJ4 _ _ _ (HW.out.below hI.bel) h5).mono ?_;rintro e wa ⟨v,rfl,hv,hba⟩;exact hK _ _ ((hI.world hba).y mm6 hv)
  ·obtain⟨v6,zt6,h6⟩:=hI.v mm6 (hd 6)
   go_simp;exact hK _ _ (hI.y mm7 h6)
  ·obtain⟨v7,zt7,h7⟩:=hI.v mm7 (hd 7)
   obtain⟨qv,rv,rfl,hq,hr⟩:=h7;go_simp;exact hK _ _ (hI.y mm8 hq)
  ·obtain⟨v7,zt7,h7⟩:=hI.v mm7 (hd 7)
   obtain⟨qv,rv,rfl,hq,hr⟩:=h7;go_simp;exact hK _ _ (hI.y mm9 hr)
  ·obtain⟨v7,zt7,h7⟩:=hI.v mm7 (hd 7)
   obtain⟨qv,rv,rfl,hq,hr⟩:=h7;exact xgu
  ·obtain⟨v8,zt8,h8⟩:=hI.v mm8 (hd 8)
   go_simp;exact hK _ _ (hI.y zAH h8)
  ·obtain⟨v9,zt9,h9⟩:=hI.v mm9 (hd 9)
   go_simp;exact hK _ _ (hI.y zAb h9)
  ·exact xgs (hI.e yD (hd 10))
 intro w9 hbw9 T hT;simp only[Fin,E,EI,VP,VSl,VN,xgg,xgh,xgi,xgj]at hT;obtain⟨va1,ha1,va2,ha2,va3,ha3,va4,ha4,va5,ha5,va6,ha6,va7,ha7,va8,ha8,va9,ha9,va11,ha11,va12,ha12,rfl⟩:=hT;have hB:=nx hB hbw9;have HA:=xgv (HA.out.below hbw9);have HW:=xgv (HW.out.below hbw9);have HF:=xgv (HF.out.below hbw9);have HH:=xgv (HH.out.below hbw9);have HH2:=xgv (HH2.out.below hbw9);have HC:=xgv (HC.out.below hbw9);have b1:=b1.below hbw9;have b2:=b2.below hbw9;have b3:=b3.below hbw9;have b4:=b4.below hbw9;have b5:=b5.below hbw9;have HQ:=xgv (show jG w9 va11 [3,1] from ha11);have HR:=xgv (show jG w9 va12 [0,1] from ha12);clear ha1 ha2 ha3 ha4 ha5 ha6 ha7 ha8 ha9 ha11 ha12 hl1 hl2 hl3 hl4 hl5 hl6 hl7 d1 d2 d3;obtain⟨d1,d2,d3,-,-,-⟩:=b2.three;obtain⟨qo,qn,qk,rfl,-⟩:=id HQ.out;obtain⟨ro,rn0,rk,rfl,-⟩:=id HR.out;go_wp2_with fail
 refine(zFV _ _ 2 2 [[1,1],[0,2]] [] w9 HW.out ⟨rfl,by decide⟩ (jG.nil _) dE).mono ?_;rintro e w10 ⟨rfl,hb10⟩;have hB:=nx hB hb10;have HA:=xgv (HA.out.below hb10);have HW:=xgv (HW.out.below hb10);have HF:=xgv (HF.out.below hb10);have HH:=xgv (HH.out.below hb10);have HH2:=xgv (HH2.out.below hb10);have HC:=xgv (HC.out.below hb10);have b1:=b1.below hb10;have b2:=b2.below hb10;have b3:=b3.below hb10;have b4:=b4.below hb10;have b5:=b5.below hb10;have HQ:=xgv (HQ.out.below hb10);have HR:=xgv (HR.out.below hb10);clear d1 d2 d3;have hfl:=zHT;go_wp2_with fail
 refine(zEj _ [3,1] 1 2 _ _ [[3,1]] _ (zDm.new _ [3,1] dE dE) (by rfl) (by rfl) (by rfl) oM oM (by rfl)).mono ?_;rintro e w1 ⟨v1,rfl,hm,hb1⟩;have hb1:=nxd hb1;have hB:=nx hB hb1;have HA:=xgv (HA.out.below hb1);have HW:=xgv (HW.out.below hb1);have HF:=xgv (HF.out.below hb1);have HH:=xgv (HH.out.below hb1);have HH2:=xgv (HH2.out.below hb1);have HC:=xgv (HC.out.below hb1);have b1:=b1.below hb1;have b2:=b2.below hb1;have b3:=b3.below hb1;have b4:=b4.below hb1;have b5:=b5.below hb1;have HQ:=xgv (HQ.out.below hb1);have HR:=xgv (HR.out.below hb1);obtain⟨A2,rfl,hA2⟩:=hm;obtain⟨oo,nn,kk,rfl,hn1,-⟩:=id hA2;obtain rfl:1=nn:=hn1;obtain⟨bb,ra,rn,rc,zs,rfl,hbl,hz,p1,hrv⟩:=hA2.row (k:=0) dE;obtain rfl: [3,1]=zs:=Option.some.inj hz;have HRV:=xgv hrv;clear hA2 hrv hz;go_wp2_with fail
 refine(zK9 _ _ [3,1] w1 HQ.out HRV.out).mono ?_;rintro e w2 ⟨_,rfl,rfl,hb2⟩;have hB:=nx hB hb2;have HA:=xgv (HA.out.below hb2);have HW:=xgv (HW.out.below hb2);have HF:=xgv (HF.out.below hb2);have HH:=xgv (HH.out.below hb2);have HH2:=xgv (HH2.out.below hb2);have HC:=xgv (HC.out.below hb2);have b1:=b1.below hb2;have b2:=b2.below hb2;have b3:=b3.below hb2;have b4:=b4.below hb2;have b5:=b5.below hb2;have HQ:=xgv (HQ.out.below hb2);have HR:=xgv (HR.out.below hb2);clear p1 HRV;go_wp2_with fail
 refine(zEj _ [0,1] 1 2 _ _ [[0,1]] _ (zDm.new _ [0,1] dE dE) (by rfl) (by rfl) (by rfl) oM oM (by rfl)).mono ?_;rintro e w1 ⟨v1,rfl,hm,hb1⟩;have hb1:=nxd hb1;have hB:=nx hB hb1;have HA:=xgv (HA.out.below hb1);have HW:=xgv (HW.out.below hb1);have HF:=xgv (HF.out.below hb1);have HH:=xgv (HH.out.below hb1);have HH2:=xgv (HH2.out.below hb1);have HC:=xgv (HC.out.below hb1);have b1:=b1.below hb1;have b2:=b2.below hb1;have b3:=b3.below hb1;have b4:=b4.below hb1;have b5:=b5.below hb1;have HQ:=xgv (HQ.out.below hb1);have HR:=xgv (HR.out.below hb1);obtain⟨A2,rfl,hA2⟩:=hm;obtain⟨oo,nn,kk,rfl,hn1,-⟩:=id hA2;obtain rfl:1=nn:=hn1;obtain⟨bb,ra,rn,rc,zs,rfl,hbl,hz,p1,hrv⟩:=hA2.row (k:=0) dE;obtain rfl: [0,1]=zs:=Option.some.inj hz;have HRV:=xgv hrv;clear hA2 hrv hz;go_wp2_with fail
 refine(zK9 _ _ [0,1] w1 HR.out HRV.out).mono ?_;rintro e w2 ⟨_,rfl,rfl,hb2⟩;have hB:=nx hB hb2;have HA:=xgv (HA.out.below hb2);have HW:=xgv (HW.out.below hb2);have HF:=xgv (HF.out.below hb2);have HH:=xgv (HH.out.below hb2);have HH2:=xgv (HH2.out.below hb2);have HC:=xgv (HC.out.below hb2);have b1:=b1.below hb2;have b2:=b2.below hb2;have b3:=b3.below hb2;have b4:=b4.below hb2;have b5:=b5.below hb2;have HQ:=xgv (HQ.out.below hb2);have HR:=xgv (HR.out.below hb2);clear p1 HRV;clear hfl;obtain⟨c1,c2,c3,-,-,-⟩:=b1.three;obtain⟨d1,d2,d3,-,-,-⟩:=b2.three;obtain⟨q0,q1,q2,q3,q4,q5,q6,q7,q8⟩:=b3.nine;obtain⟨r0,r1,r2,r3,r4,r5,r6,r7,r8⟩:=b4.nine;obtain⟨s0,s1,s2,-,-,-⟩:=b5.three;have hl1:=zCW [0,3,0,0];have hl2:=zCW [2];have hl3:=zFZ;clear HQ HR;go_upto_region 9 with(fail)
 refine zF rfl (RV w2 _ [E 0 66 (.bool true),E 1 67 (.bool true),VP 2 68 w3.heap.size 0,E 3 69 (.agg #[.int .i64 2,.int .i64 2,.slice f1 f2 f3]),E 4 70 (.agg #[.int .i64 2,.int .i64 2,.slice wbo wbn wbk]),E 5 71 (.bool true),E 6 72 (.bool true),E 7 73 (.bool true),E 8 74 (.agg #[.int .i64 2,.int .i64 2,.slice wao wan wak]),E 9 75 (.agg #[.int .i64 2,.int .i64 2,.slice f1 f2 f3,.int .i64 2,.int .i64 2,.slice f4 f5 f6,.int .i64 2,.int .i64 2,.slice f7 f8 f9]),E 10 76 (.bool true),E 11 77 (.bool true),E 12 78 (.bool true),E 13 79 (.agg #[.int .i64 2,.int .i64 2,.slice wao wan wak]),E 14 80 (.agg #[.int .i64 2,.int .i64 2,.slice f1 f2 f3,.int .i64 2,.int .i64 2,.slice f4 f5 f6,.int .i64 2,.int .i64 2,.slice f7 f8 f9]),E 15 81 (.bool true),E 16 82 (.bool true),E 17 83 (.bool true),VP 18 84 w5.heap.size 0,E 19 85 (.agg #[.int .i64 2,.int .i64 2,.slice g1 g2 g3]),⟨20,86,fun w v=>zDm w v [0,3,0,0]⟩,⟨21,87,fun w v=>yG w v (2:Nat) (2:Nat) [[0,3],[0,0]]⟩,E 22 88 (.bool true),E 23 89 (.bool true),E 24 90 (.bool true),E 25 91 (.agg #[.int .i64 1,.int .i64 1,.slice k1 k2 k3]),⟨26,92,fun w v=>zDm w v [2]⟩,⟨27,93,fun w v=>yG w v (1:Nat) (1:Nat) [[2]]⟩,E 28 94 (.bool true),E 29 95 (.bool true),E 30 96 (.bool true),E 31 97 (.agg #[.int .i64 2,.int .i64 2,.slice wbo wbn wbk]),E 32 98 (.bool true),E 33 99 (.bool true),E 34 100 (.bool true),E 35 101 (.agg #[.int .i64 2,.int .i64 2,.slice wao wan wak]),E 36 102 (.bool false),E 37 103 (.bool true),E 38 104 (.bool true),E 39 105 (.bool true),E 40 106 (.agg #[.int .i64 0,.int .i64 0,.slice none 0 0]),E 41 107 (.bool true),E 42 108 (.bool true),E 43 109 (.bool true),E 44 110 (.agg #[.int .i64 1,.int .i64 0,.slice none 0 0]),E 45 111 (.bool false),E 46 112 (.bool true),E 47 113 (.bool true),E 48 114 (.bool true),E 49 115 (.agg #[.int .i64 2,.int .i64 2,.slice wao wan wak]),E 50 116 (.agg #[.int .i64 0,.int .i64 0,.slice none 0 0,.int .i64 0,.int .i64 0,.slice none 0 0,.int .i64 0,.int .i64 0,.slice none 0 0]),E 51 117 (.bool false),E 52 118 (.bool true),E 53 119 (.bool true),E 54 120 (.bool true),E 55 121 (.agg #[.int .i64 0,.int .i64 3,.slice none 0 0]),E 56 122 (.agg #[.int .i64 0,.int .i64 3,.slice none 0 0]),⟨57,123,zJr⟩,E 58 124 (.bool true),E 59 125 (.bool true),E 60 0 (.bool true)]) kR RV.start (RV.fin kR ?fin2) ?steps2
 case steps2=>
  refine⟨?_,?_,?_,?_,?_,?_,?_,?_,?_,?_,?_,?_,?_,?_,?_,?_,?_,?_,?_,?_,?_,?_,?_,?_,?_,?_,?_,?_,?_,?_,?_,?_,?_,?_,?_,?_,?_,?_,?_,?_,?_,?_,?_,?_,?_,?_,?_,?_,?_,?_,?_,?_,?_,?_,?_,?_,?_,?_,?_,?_,?_,trivial⟩<;>(intro L T wS hL hd hcl hI K hK;try refine zA rfl ?_)
  ·exact xgs (hI.k 12 rfl kR)
  ·exact xgs (hI.e mm0 (hd 0))
  ·have zg:=hI.e mm1 (hd 1)
   refine zA xgp ?_;exact xgs (hI.k 3 rfl kR)
  ·have zg:=hI.e mm1 (hd 1)
   refine zA xgp ?_;have zt2:=hI.e mm2 (hd 2);have cc0:=hI.cell q0;have cc1:=hI.cell q1;have cc2:=hI.cell q2;exact xgu
  ·have zg:=hI.e mm1 (hd 1)
   refine zA xgp ?_;have zt:=hI.k 2 rfl kR;have cc0:=hI.cell d1;have cc1:=hI.cell d2;have cc2:=hI.cell d3;exact xgu
  ·have zg:=hI.e mm1 (hd 1)
   refine zA xgp ?_;have zt3:=hI.e mm3 (hd 3);have zt4:=hI.e mm4 (hd 4);go_simp;refine(zL0 _ _ 2 2 [[1,1],[0,2]] _ (HH.out.below hI.bel) (HW.out.below hI.bel)).mono ?_;rintro e wa ⟨v,rfl,hv,hba⟩;exact hK _ _ ((hI.world hba).y mm5 hv)
  ·exact xgt (hI.e mm1 (hd 1)) (hI.e mm5 (hd 5))
  ·exact xgs (hI.e mm6 (hd 6))
  ·have zg:=hI.e mm7 (hd 7)
   refine zA xgp ?_;have zt:=hI.k 1 rfl kR;have cc0:=hI.cell c1;have cc1:=hI.cell c2;have cc2:=hI.cell c3;exact xgu
  ·have zg:=hI.e mm7 (hd 7)
   refine zA xgp ?_;have zt:=hI.k 3 rfl kR;have cc0:=hI.cell q0;have cc1:=hI.cell q1;have cc2:=hI.cell q2;have cc3:=hI.cell q3;have cc4:=hI.cell q4;have cc5:=hI.cell q5;have cc6:=hI.cell q6;have cc7:=hI.cell q7;have cc8:=hI.cell q8;exact xgu
  ·have zg:=hI.e mm7 (hd 7)
   refine zA xgp ?_;have zt8:=hI.e mm8 (hd 8);have zt9:=hI.e mm9 (hd 9);go_simp;refine(zJJ _ _ 2 2 _ _ U V _ (HA.out.below hI.bel) ⟨rfl,by decide⟩ (HF.out.below hI.bel) oM oM HG.out).mono ?_;rintro e wa ⟨v,rfl,hv,hba⟩;exact hK _ _ ((hI.world hba).y yD hv)
  ·exact xgt (hI.e mm7 (hd 7)) (hI.e yD (hd 10))
  ·exact xgs (hI.e zAH (hd 11))
  ·have zg:=hI.e zAb (hd 12)
   refine zA xgp ?_;have zt:=hI.k 1 rfl kR;have cc0:=hI.cell c1;have cc1:=hI.cell c2;have cc2:=hI.cell c3;exact xgu
  ·have zg:=hI.e zAb (hd 12)
   refine zA xgp ?_;have zt:=hI.k 3 rfl kR;have cc0:=hI.cell q0;have cc1:=hI.cell q1;have cc2:=hI.cell q2;have cc3:=hI.cell q3;have cc4:=hI.cell q4;have cc5:=hI.cell q5;have cc6:=hI.cell q6;have cc7:=hI.cell q7;have cc8:=hI.cell q8;exact xgu
  ·have zg:=hI.e zAb (hd 12)
   refine zA xgp ?_;have zt13:=hI.e jK (hd 13);have zt14:=hI.e zCP (hd 14);go_simp;refine(zIf _ _ 2 2 _ _ U V _ (HA.out.below hI.bel) ⟨rfl,by decide⟩ (HF.out.below hI.bel) oM oM HG.out).mono ?_;rintro e wa ⟨v,rfl,hv,hba⟩;exact hK _ _ ((hI.world hba).y zB8 hv)
  ·exact xgt (hI.e zAb (hd 12)) (hI.e zB8 (hd 15))
  ·exact xgs (hI.e zCx (hd 16))
  ·have zg:=hI.e zCa (hd 17)
   refine zA xgp ?_;exact xgs (hI.k 4 rfl kR)
  ·have zg:=hI.e zCa (hd 17)
   refine zA xgp ?_;have zt18:=hI.e zDX (hd 18);have cc0:=hI.cell r0;have cc1:=hI.cell r1;have cc2:=hI.cell r2;exact xgu
  ·have zg:=hI.e zCa (hd 17)
   refine zA xgp ?_;go_simp;exact hK _ _ ((hI.world ((Below.refl _ _).alloc (xgf _) _)).y zDs (zDm.new _ [0,3,0,0] dE dE))
  ·have zg:=hI.e zCa (hd 17)
   refine zA xgp ?_;obtain⟨v20,zt20,h20⟩:=hI.v zDs (hd 20);go_simp;refine(zEj _ [0,3,0,0] 2 2 _ _ [[0,3],[0,0]] _ h20 (by rfl) (by rfl) (by rfl) oM oM (by rfl)).mono ?_;rintro e wa ⟨v,rfl,hv,hba⟩;exact hK _ _ ((hI.world hba).y zDn hv)
  ·have zg:=hI.e zCa (hd 17)
   refine zA xgp ?_;have zt19:=hI.e zEJ (hd 19);obtain⟨v21,zt21,h21⟩:=hI.v zDn (hd 21);go_simp;refine(zL0 _ _ 2 2 [[0,3],[0,0]] _ (HH2.out.below hI.bel) h21).mono ?_;rintro e wa ⟨v,rfl,hv,hba⟩;exact hK _ _ ((hI.world hba).y zDt hv)
  ·exact xgt (hI.e zCa (hd 17)) (hI.e zDt (hd 22))
  ·exact xgs (hI.e zF2 (hd 23))
  ·have zg:=hI.e zGO (hd 24)
   refine zA xgp ?_;have zt:=hI.k 5 rfl kR;have cc0:=hI.cell s0;have cc1:=hI.cell s1;have cc2:=hI.cell s2;exact xgu
  ·have zg:=hI.e zGO (hd 24)
   refine zA xgp ?_;go_simp;exact hK _ _ ((hI.world ((Below.refl _ _).alloc (xgf _) _)).y zH6 (zDm.new _ [2] dE dE))
  ·have zg:=hI.e zGO (hd 24)
   refine zA xgp ?_;obtain⟨v26,zt26,h26⟩:=hI.v zH6 (hd 26);go_simp;refine(zEj _ [2] 1 1 _ _ [[2]] _ h26 (by rfl) (by rfl) (by rfl) oM oM (by rfl)).mono ?_;rintro e wa ⟨v,rfl,hv,hba⟩;exact hK _ _ ((hI.world hba).y zHh hv)
  ·have zg:=hI.e zGO (hd 24)
   refine zA xgp ?_;have zt25:=hI.e zIx (hd 25);obtain⟨v27,zt27,h27⟩:=hI.v zHh (hd 27);go_simp;refine(zL0 _ _ 1 1 [[2]] _ (HC.out.below hI.bel) h27).mono ?_;rintro e wa ⟨v,rfl,hv,hba⟩;exact hK _ _ ((hI.world hba).y zH7 hv)
  ·exact xgt (hI.e zGO (hd 24)) (hI.e zH7 (hd 28))
  ·exact xgs (hI.e zIy (hd 29))
  ·have zg:=hI.e zIz (hd 30)
   refine zA xgp ?_;have zt:=hI.k 2 rfl kR;have cc0:=hI.cell d1;have cc1:=hI.cell d2;have cc2:=hI.cell d3;exact xgu
  ·have zg:=hI.e zIz (hd 30)
   refine zA xgp ?_;have zt31:=hI.e zL4 (hd 31);go_simp;refine(zMu _ 2 2 [[1,1],[0,2]] true _ (HW.out.below hI.bel) dE).mono ?_;rintro e wa ⟨v,rfl,hv,hba⟩;exact hK _ _ ((hI.world hba).y zLi hv)
  ·exact xgt (hI.e zIz (hd 30)) (hI.e zLi (hd 32))
  ·exact xgs (hI.e zL5 (hd 33))
  ·have zg:=hI.e zKK (hd 34)
   refine zA xgp ?_;have zt:=hI.k 1 rfl kR;have cc0:=hI.cell c1;have cc1:=hI.cell c2;have cc2:=hI.cell c3;exact xgu
  ·have zg:=hI.e zKK (hd 34)
   refine zA xgp ?_;have zt35:=hI.e zL6 (hd 35);go_simp;refine(zMu _ 2 2 [[2,4],[3,5]] false _ (HA.out.below hI.bel) dE).mono ?_;rintro e wa ⟨v,rfl,hv,hba⟩;exact hK _ _ ((hI.world hba).y zLj hv)
  ·have zg:=hI.e zKK (hd 34)
   refine zA xgp ?_;exact xgs (hI.e zLj (hd 36))
  ·exact xgt (hI.e zKK (hd 34)) (hI.e zL7 (hd 37))
  ·exact xgs (hI.e zL8 (hd 38))
  ·have zg:=hI.e zK5 (hd 39)
   refine zA xgp ?_;exact xgu
  ·have zg:=hI.e zK5 (hd 39)
   refine zA xgp ?_;have zt40:=hI.e zL9 (hd 40);go_simp;refine(zMu _ 0 0 [] true _ ⟨_,rfl,qT.nil _⟩ dE).mono ?_;rintro e wa ⟨v,rfl,hv,hba⟩;exact hK _ _ ((hI.world hba).y zNA hv)
  ·have zt39:=hI.e zK5 (hd 39)
   have zt41:=hI.e zNA (hd 41);go_simp;exact hK _ _ (hI.q zNB)
  ·have zt42:=hI.e zNB (hd 42)
   go_simp;exact hK _ _ (hI.q zMA)
  ·have zg:=hI.e zMA (hd 43)
   refine zA xgp ?_;go_simp;exact hK _ _ (hI.q zNC)
  ·have zg:=hI.e zMA (hd 43)
   refine zA xgp ?_;have zt44:=hI.e zNC (hd 44);go_simp;refine(zMu _ 1 0 [] false _ ⟨_,rfl,qT.nil _⟩ dE).mono ?_;rintro e wa ⟨v,rfl,hv,hba⟩;exact hK _ _ ((hI.world hba).y zND hv)
  ·have zg:=hI.e zMA (hd 43)
   refine zA xgp ?_;have zt45:=hI.e zND (hd 45);go_simp;exact hK _ _ (hI.q zNE)
  ·have zt43:=hI.e zMA (hd 43)
   have zt46:=hI.e zNE (hd 46);go_simp;exact hK _ _ (hI.q zNF)
  ·have zt47:=hI.e zNF (hd 47)
   go_simp;exact hK _ _ (hI.q zLk)
  ·have zg:=hI.e zLk (hd 48)
   refine zA xgp ?_;have zt:=hI.k 1 rfl kR;have cc0:=hI.cell c1;have cc1:=hI.cell c2;have cc2:=hI.cell c3;go_simp;exact hK _ _ (hI.q zNG)
  ·have zg:=hI.e zLk (hd 48)
   refine zA xgp ?_;go_simp;exact hK _ _ (hI.q zNH)
  ·have zg:=hI.e zLk (hd 48)
   refine zA xgp ?_;have zt49:=hI.e zNG (hd 49);have zt50:=hI.e zNH (hd 50);go_simp;refine(zLX _ 2 2 _ _ (HA.out.below hI.bel) ⟨rfl,by decide⟩ oM oM oM).mono ?_;rintro e wa ⟨v,rfl,hv,hba⟩;exact hK _ _ ((hI.world hba).y zNI hv)
  ·have zg:=hI.e zLk (hd 48)
   refine zA xgp ?_;have zt51:=hI.e zNI (hd 51);go_simp;exact hK _ _ (hI.q zNJ)
  ·have zt48:=hI.e zLk (hd 48)
   have zt52:=hI.e zNJ (hd 52);go_simp;exact hK _ _ (hI.q zNK)
  ·have zt53:=hI.e zNK (hd 53)
   go_simp;exact hK _ _ (hI.q zLl)
  ·have zg:=hI.e zLl (hd 54)
   refine zA xgp ?_;go_simp;exact hK _ _ (hI.q zNL)
  ·have zg:=hI.e zLl (hd 54)
   refine zA xgp ?_;go_simp;exact hK _ _ (hI.q zNM)
  ·have zg:=hI.e zLl (hd 54)
   refine zA xgp ?_;have zt56:=hI.e zNM (hd 56);go_simp;refine(zMV _ _ ⟨_,rfl,qT.nil _⟩).mono ?_;rintro e wa ⟨v,rfl,hv,hba⟩;exact hK _ _ ((hI.world hba).y zNN hv)
  ·have zg:=hI.e zLl (hd 54)
   refine zA xgp ?_;have zt55:=hI.e zNL (hd 55);obtain⟨v57,zt57,h57⟩:=hI.v zNN (hd 57);go_simp;refine(zLW _ _ _ ⟨_,rfl,qT.nil _⟩ h57).mono ?_;rintro e wa ⟨v,rfl,hv,hba⟩;exact hK _ _ ((hI.world hba).y zNO hv)
  ·have zt54:=hI.e zLl (hd 54)
   have zt58:=hI.e zNO (hd 58);go_simp;exact hK _ _ (hI.q zNP)
  ·have zt59:=hI.e zNP (hd 59)
   go_simp;exact hK _ _ (hI.q zNv)
 intro w99 hbw99 T hT;simp only[Fin,E,EI,VP,VSl,VN,xgg,xgh,xgi,xgj]at hT;obtain⟨va20,ha20,va21,ha21,va26,ha26,va27,ha27,va57,ha57,rfl⟩:=hT;have hBF:=nx hB hbw99;go_wp2;go_ret;exact⟨rfl,hBF⟩
end Go.Proofs.YtgnmdddaiefooaaGreat
