/- torsionlaw12.sanity. -/
import Derived.Test.YtgnmdddaiefooaaGreatE42
set_option linter.unusedVariables false
set_option linter.unusedSimpArgs false
set_option linter.unusedSectionVars false
set_option maxHeartbeats 16000000
set_option maxRecDepth 100000
namespace Go.Proofs.YtgnmdddaiefooaaGreat
open Go.RowKit
theorem hreduce2_bad (hv vv : Value) (R C : Nat) (M : List (List Int)) (xs : List Int) (w : World) (h : MatV w hv R C M) (hF : Fits R C M) (hx : VecV w vv xs) (hne : xs.length ≠ C) :
  Calls Tryz.prog 46 #[hv,vv] w fun e w'=>e = .returned (.tuple #[.slice none 0 0,.slice none 0 0,.int .i64 50])/\Below w.heap.size w w':=by
 have h0:=h;obtain ⟨A,rfl,h⟩:=h;obtain ⟨ao,n,cap,rfl,e2,e3,e4,-⟩:=id h;obtain ⟨xo,xn,xcap,rfl,x2,x3,x4,-⟩:=id hx;rw [x2] at hne;have hdv : decide (ValidM R C M) = true:=decide_eq_true hF.valid;have hn : ((xn : Int) != (C : Int)) = true:=by simp; omega
 have H0:=xgv h0;clear h0 hF e2 h hx hne x2;go_enter Tryz.func46,Tryz.ntmps46;go_upto_region 1 with (fail)
 refine wp_world ?_;intro W0 hW0;obtain ⟨hb0,bx1,hs0⟩:=world1 hW0;obtain ⟨c1,c2,c3,c4,c5,c6⟩:=bx1.three;clear hW0;go_wp2_with fail
 refine (mvalid_any _ R C M W0 (H0.out.below hb0)).mono ?_;rintro e w1 ⟨rfl,hb1⟩;rw [hdv];have bx1:=bx1.below hb1;have hb:=nx hb0 hb1;clear c1 c2 c3 c4 c5 c6 hdv;obtain ⟨c1,c2,c3,c4,c5,c6⟩:=bx1.three;go_wp2;refine bodyPost_ret (results_ttt rfl _ _ _) rfl ?_;exact ⟨rfl,hb⟩
def RedV (q r : List Int) : World->Value->Prop:=fun w v=>∃qv rv,v = .tuple #[qv,rv,.int .i64 0]/\VecV w qv q/\VecV w rv r
theorem lastsB_red (q r : List Int) : LastsB (RedV q r):=fun _ _ _ hb ⟨a,b,h1,h2,h3⟩=>⟨a,b,h1,h2.below hb,h3.below hb⟩
def RowP (xs : List Int) : World->Value->Prop:=fun w v=>∃b rv,v = .pointer (some ⟨b,0,none⟩)/\b < w.heap.size/\w.cell? ⟨b,0,none⟩ = some rv/\VecV w rv xs
theorem lastsB_rowP (xs : List Int) : LastsB (RowP xs):=fun _ _ _ hb ⟨b,rv,h1,h2,h3,h4⟩=>⟨b,rv,h1,Nat.lt_of_lt_of_le h2 hb.size,(hb.cell (p:=⟨b,0,none⟩) h2).trans h3,h4.below hb⟩
theorem lastsB_rows (M : List (List Int)) : LastsB (fun w v=>RowsV w v M):=fun _ _ _ hb h=>h.below hb
theorem hreduceT (hv vv : Value) (w : World) (h : MatV w hv (2 : Nat) (2 : Nat) [[1,1],[0,2]]) (hx : VecV w vv [3,6]) :
  Calls Tryz.prog 46 #[hv,vv] w fun e w'=>∃v,e = .returned v/\RedV [3,1] [0,1] w' v/\Below w.heap.size w w':=by
 refine (hreduce2_any million hv vv 2 2 _ (fun t=>[3,6].getD t 0) w h ⟨rfl,by decide⟩ hx oM oM ⟨by decide,by decide,by decide⟩ dE).mono ?_;rintro e w' ⟨qv,rv,rfl,h1,h2,hb⟩;exact ⟨_,rfl,⟨qv,rv,rfl,h1,h2⟩,hb⟩
def NoneF : World->Value->Prop:=fun w v=>∃H U V,HermV w v 0 3 H U V/\GoodF 0 3 [] H U V
theorem lastsB_noneF : LastsB NoneF:=fun _ _ _ hb ⟨a,b,c,h1,h2⟩=>⟨a,b,c,h1.below hb,h2⟩
theorem hformN (v : Value) (w : World) (h : MatV w v (0 : Nat) (3 : Nat) []) :
  Calls Tryz.prog 41 #[v] w fun e w'=>∃v,e = .returned v/\NoneF w' v/\Below w.heap.size w w':=by
 refine (hform_good (M0:=9) (e:=5) dE dE dE v [] 0 3 w h ⟨rfl,by decide⟩ oM oM (fun a ha=>by omega)).mono ?_;rintro e w' ⟨f,H,U,V,rfl,h1,h2,hb⟩;exact ⟨f,rfl,⟨H,U,V,h1,h2⟩,hb⟩
theorem hcheckN (av fv : Value) (w : World) (ha : MatV w av (0 : Nat) (3 : Nat) []) (hf : NoneF w fv) :
  Calls Tryz.prog 45 #[av,fv] w fun e w'=>∃v,e = .returned v/\v = .bool true/\Below w.heap.size w w':=by
 obtain ⟨H,U,V,h1,h2⟩:=hf;exact hcheckT av fv 0 3 [] H U V w ha ⟨rfl,by decide⟩ h1 oM oM h2
theorem samevT (v1 v2 : Value) (xs : List Int) (w : World) (h1 : VecV w v1 xs) (h2 : VecV w v2 xs) :
  Calls Tryz.prog 49 #[v1,v2] w fun e w'=>∃v,e = .returned v/\v = .bool true/\Below w.heap.size w w':=
 (samevec_any v1 v2 xs xs w h1 h2).mono fun e w' ⟨h,hb⟩=>⟨_,h,by rw [decide_eq_true rfl],hb⟩
theorem HermV.agg {w : World} {f : Value} {R C : Nat} {H U V : List (List Int)} (h : HermV w f R C H U V) : ∃o1 n1 k1 o2 n2 k2 o3 n3 k3,f = .agg #[.int .i64 R,.int .i64 C,.slice o1 n1 k1,.int .i64 R,.int .i64 R,.slice o2 n2 k2,.int .i64 R,.int .i64 R,.slice o3 n3 k3]/\MatV w (.agg #[.int .i64 R,.int .i64 C,.slice o1 n1 k1]) R C H:=by
 obtain ⟨a,b,c,rfl,h1,h2,h3⟩:=h.ex;obtain ⟨o1,n1,k1,rfl,-⟩:=id h1;obtain ⟨o2,n2,k2,rfl,-⟩:=id h2;obtain ⟨o3,n3,k3,rfl,-⟩:=id h3;exact ⟨_,_,_,_,_,_,_,_,_,rfl,⟨_,rfl,h1⟩⟩
theorem nxd {W W' : World} {o : Obj} (h : Below (W.alloc o).heap.size (W.alloc o) W') : Below W.heap.size W W':=nxa (Below.refl _ _) h
abbrev mm41:=fun{α:Type}{a b c d e f g h i j k L m n o p q r s t u v w X y z a1 b1 c1 d1 e1 f1 g1 h1 i1 j1 k1 l1 m1 n1 o1 x:α}{l:List α}=>List.Mem.tail a (@mm40 α b c d e f g h i j k L m n o p q r s t u v w X y z a1 b1 c1 d1 e1 f1 g1 h1 i1 j1 k1 l1 m1 n1 o1 x l)
abbrev mm42:=fun{α:Type}{a b c d e f g h i j k L m n o p q r s t u v w X y z a1 b1 c1 d1 e1 f1 g1 h1 i1 j1 k1 l1 m1 n1 o1 p1 x:α}{l:List α}=>List.Mem.tail a (@mm41 α b c d e f g h i j k L m n o p q r s t u v w X y z a1 b1 c1 d1 e1 f1 g1 h1 i1 j1 k1 l1 m1 n1 o1 p1 x l)
abbrev mm43:=fun{α:Type}{a b c d e f g h i j k L m n o p q r s t u v w X y z a1 b1 c1 d1 e1 f1 g1 h1 i1 j1 k1 l1 m1 n1 o1 p1 q1 x:α}{l:List α}=>List.Mem.tail a (@mm42 α b c d e f g h i j k L m n o p q r s t u v w X y z a1 b1 c1 d1 e1 f1 g1 h1 i1 j1 k1 l1 m1 n1 o1 p1 q1 x l)
abbrev mm44:=fun{α:Type}{a b c d e f g h i j k L m n o p q r s t u v w X y z a1 b1 c1 d1 e1 f1 g1 h1 i1 j1 k1 l1 m1 n1 o1 p1 q1 r1 x:α}{l:List α}=>List.Mem.tail a (@mm43 α b c d e f g h i j k L m n o p q r s t u v w X y z a1 b1 c1 d1 e1 f1 g1 h1 i1 j1 k1 l1 m1 n1 o1 p1 q1 r1 x l)
abbrev mm45:=fun{α:Type}{a b c d e f g h i j k L m n o p q r s t u v w X y z a1 b1 c1 d1 e1 f1 g1 h1 i1 j1 k1 l1 m1 n1 o1 p1 q1 r1 s1 x:α}{l:List α}=>List.Mem.tail a (@mm44 α b c d e f g h i j k L m n o p q r s t u v w X y z a1 b1 c1 d1 e1 f1 g1 h1 i1 j1 k1 l1 m1 n1 o1 p1 q1 r1 s1 x l)
abbrev mm46:=fun{α:Type}{a b c d e f g h i j k L m n o p q r s t u v w X y z a1 b1 c1 d1 e1 f1 g1 h1 i1 j1 k1 l1 m1 n1 o1 p1 q1 r1 s1 t1 x:α}{l:List α}=>List.Mem.tail a (@mm45 α b c d e f g h i j k L m n o p q r s t u v w X y z a1 b1 c1 d1 e1 f1 g1 h1 i1 j1 k1 l1 m1 n1 o1 p1 q1 r1 s1 t1 x l)
abbrev mm47:=fun{α:Type}{a b c d e f g h i j k L m n o p q r s t u v w X y z a1 b1 c1 d1 e1 f1 g1 h1 i1 j1 k1 l1 m1 n1 o1 p1 q1 r1 s1 t1 u1 x:α}{l:List α}=>List.Mem.tail a (@mm46 α b c d e f g h i j k L m n o p q r s t u v w X y z a1 b1 c1 d1 e1 f1 g1 h1 i1 j1 k1 l1 m1 n1 o1 p1 q1 r1 s1 t1 u1 x l)
abbrev mm48:=fun{α:Type}{a b c d e f g h i j k L m n o p q r s t u v w X y z a1 b1 c1 d1 e1 f1 g1 h1 i1 j1 k1 l1 m1 n1 o1 p1 q1 r1 s1 t1 u1 v1 x:α}{l:List α}=>List.Mem.tail a (@mm47 α b c d e f g h i j k L m n o p q r s t u v w X y z a1 b1 c1 d1 e1 f1 g1 h1 i1 j1 k1 l1 m1 n1 o1 p1 q1 r1 s1 t1 u1 v1 x l)
abbrev mm49:=fun{α:Type}{a b c d e f g h i j k L m n o p q r s t u v w X y z a1 b1 c1 d1 e1 f1 g1 h1 i1 j1 k1 l1 m1 n1 o1 p1 q1 r1 s1 t1 u1 v1 w1 x:α}{l:List α}=>List.Mem.tail a (@mm48 α b c d e f g h i j k L m n o p q r s t u v w X y z a1 b1 c1 d1 e1 f1 g1 h1 i1 j1 k1 l1 m1 n1 o1 p1 q1 r1 s1 t1 u1 v1 w1 x l)
abbrev mm50:=fun{α:Type}{a b c d e f g h i j k L m n o p q r s t u v w X y z a1 b1 c1 d1 e1 f1 g1 h1 i1 j1 k1 l1 m1 n1 o1 p1 q1 r1 s1 t1 u1 v1 w1 x1 x:α}{l:List α}=>List.Mem.tail a (@mm49 α b c d e f g h i j k L m n o p q r s t u v w X y z a1 b1 c1 d1 e1 f1 g1 h1 i1 j1 k1 l1 m1 n1 o1 p1 q1 r1 s1 t1 u1 v1 w1 x1 x l)
abbrev mm51:=fun{α:Type}{a b c d e f g h i j k L m n o p q r s t u v w X y z a1 b1 c1 d1 e1 f1 g1 h1 i1 j1 k1 l1 m1 n1 o1 p1 q1 r1 s1 t1 u1 v1 w1 x1 y1 x:α}{l:List α}=>List.Mem.tail a (@mm50 α b c d e f g h i j k L m n o p q r s t u v w X y z a1 b1 c1 d1 e1 f1 g1 h1 i1 j1 k1 l1 m1 n1 o1 p1 q1 r1 s1 t1 u1 v1 w1 x1 y1 x l)
abbrev mm52:=fun{α:Type}{a b c d e f g h i j k L m n o p q r s t u v w X y z a1 b1 c1 d1 e1 f1 g1 h1 i1 j1 k1 l1 m1 n1 o1 p1 q1 r1 s1 t1 u1 v1 w1 x1 y1 z1 x:α}{l:List α}=>List.Mem.tail a (@mm51 α b c d e f g h i j k L m n o p q r s t u v w X y z a1 b1 c1 d1 e1 f1 g1 h1 i1 j1 k1 l1 m1 n1 o1 p1 q1 r1 s1 t1 u1 v1 w1 x1 y1 z1 x l)
abbrev mm53:=fun{α:Type}{a b c d e f g h i j k L m n o p q r s t u v w X y z a1 b1 c1 d1 e1 f1 g1 h1 i1 j1 k1 l1 m1 n1 o1 p1 q1 r1 s1 t1 u1 v1 w1 x1 y1 z1 a2 x:α}{l:List α}=>List.Mem.tail a (@mm52 α b c d e f g h i j k L m n o p q r s t u v w X y z a1 b1 c1 d1 e1 f1 g1 h1 i1 j1 k1 l1 m1 n1 o1 p1 q1 r1 s1 t1 u1 v1 w1 x1 y1 z1 a2 x l)
abbrev mm54:=fun{α:Type}{a b c d e f g h i j k L m n o p q r s t u v w X y z a1 b1 c1 d1 e1 f1 g1 h1 i1 j1 k1 l1 m1 n1 o1 p1 q1 r1 s1 t1 u1 v1 w1 x1 y1 z1 a2 b2 x:α}{l:List α}=>List.Mem.tail a (@mm53 α b c d e f g h i j k L m n o p q r s t u v w X y z a1 b1 c1 d1 e1 f1 g1 h1 i1 j1 k1 l1 m1 n1 o1 p1 q1 r1 s1 t1 u1 v1 w1 x1 y1 z1 a2 b2 x l)
abbrev mm55:=fun{α:Type}{a b c d e f g h i j k L m n o p q r s t u v w X y z a1 b1 c1 d1 e1 f1 g1 h1 i1 j1 k1 l1 m1 n1 o1 p1 q1 r1 s1 t1 u1 v1 w1 x1 y1 z1 a2 b2 c2 x:α}{l:List α}=>List.Mem.tail a (@mm54 α b c d e f g h i j k L m n o p q r s t u v w X y z a1 b1 c1 d1 e1 f1 g1 h1 i1 j1 k1 l1 m1 n1 o1 p1 q1 r1 s1 t1 u1 v1 w1 x1 y1 z1 a2 b2 c2 x l)
abbrev mm56:=fun{α:Type}{a b c d e f g h i j k L m n o p q r s t u v w X y z a1 b1 c1 d1 e1 f1 g1 h1 i1 j1 k1 l1 m1 n1 o1 p1 q1 r1 s1 t1 u1 v1 w1 x1 y1 z1 a2 b2 c2 d2 x:α}{l:List α}=>List.Mem.tail a (@mm55 α b c d e f g h i j k L m n o p q r s t u v w X y z a1 b1 c1 d1 e1 f1 g1 h1 i1 j1 k1 l1 m1 n1 o1 p1 q1 r1 s1 t1 u1 v1 w1 x1 y1 z1 a2 b2 c2 d2 x l)
abbrev mm57:=fun{α:Type}{a b c d e f g h i j k L m n o p q r s t u v w X y z a1 b1 c1 d1 e1 f1 g1 h1 i1 j1 k1 l1 m1 n1 o1 p1 q1 r1 s1 t1 u1 v1 w1 x1 y1 z1 a2 b2 c2 d2 e2 x:α}{l:List α}=>List.Mem.tail a (@mm56 α b c d e f g h i j k L m n o p q r s t u v w X y z a1 b1 c1 d1 e1 f1 g1 h1 i1 j1 k1 l1 m1 n1 o1 p1 q1 r1 s1 t1 u1 v1 w1 x1 y1 z1 a2 b2 c2 d2 e2 x l)
abbrev mm58:=fun{α:Type}{a b c d e f g h i j k L m n o p q r s t u v w X y z a1 b1 c1 d1 e1 f1 g1 h1 i1 j1 k1 l1 m1 n1 o1 p1 q1 r1 s1 t1 u1 v1 w1 x1 y1 z1 a2 b2 c2 d2 e2 f2 x:α}{l:List α}=>List.Mem.tail a (@mm57 α b c d e f g h i j k L m n o p q r s t u v w X y z a1 b1 c1 d1 e1 f1 g1 h1 i1 j1 k1 l1 m1 n1 o1 p1 q1 r1 s1 t1 u1 v1 w1 x1 y1 z1 a2 b2 c2 d2 e2 f2 x l)
abbrev mm59:=fun{α:Type}{a b c d e f g h i j k L m n o p q r s t u v w X y z a1 b1 c1 d1 e1 f1 g1 h1 i1 j1 k1 l1 m1 n1 o1 p1 q1 r1 s1 t1 u1 v1 w1 x1 y1 z1 a2 b2 c2 d2 e2 f2 g2 x:α}{l:List α}=>List.Mem.tail a (@mm58 α b c d e f g h i j k L m n o p q r s t u v w X y z a1 b1 c1 d1 e1 f1 g1 h1 i1 j1 k1 l1 m1 n1 o1 p1 q1 r1 s1 t1 u1 v1 w1 x1 y1 z1 a2 b2 c2 d2 e2 f2 g2 x l)
abbrev mm60:=fun{α:Type}{a b c d e f g h i j k L m n o p q r s t u v w X y z a1 b1 c1 d1 e1 f1 g1 h1 i1 j1 k1 l1 m1 n1 o1 p1 q1 r1 s1 t1 u1 v1 w1 x1 y1 z1 a2 b2 c2 d2 e2 f2 g2 h2 x:α}{l:List α}=>List.Mem.tail a (@mm59 α b c d e f g h i j k L m n o p q r s t u v w X y z a1 b1 c1 d1 e1 f1 g1 h1 i1 j1 k1 l1 m1 n1 o1 p1 q1 r1 s1 t1 u1 v1 w1 x1 y1 z1 a2 b2 c2 d2 e2 f2 g2 h2 x l)
theorem field_mat2 (a b c : Value) (W : World) : (Instr.field 28 (.agg #[a,b,c]) 2).run Tryz.prog W = .ok c W:=by kernel_rfl
theorem sanity12_any (w : World) : Calls Tryz.prog 40 #[] w fun e w'=>e = .returned (.bool true)/\Below w.heap.size w w':=by
 go_enter Tryz.func40,Tryz.ntmps40;have hB:=Below.refl w.heap.size w;go_wp2_with fail
 refine (intsM _ [2,4,3,5] 2 2 _ _ [[2,4],[3,5]] _ (I64V.new _ [2,4,3,5] dE dE) (by rfl) (by rfl) (by rfl) oM oM (by rfl)).mono ?_;rintro e wa ⟨v1,rfl,hm,hb1⟩;have hB:=nxa hB hb1;obtain ⟨wao,wan,wak,rfl⟩:=hm.agg;have HA:=xgv hm;clear hm;go_upto_region 2 with (fail)
 refine wp_world ?_;intro W1 hW1;obtain ⟨hB1,b1,hs1⟩:=world1 hW1;have hB:=nx hB hB1;have HA:=xgv (HA.out.below hB1);clear hW1;go_wp2_with fail
 refine (intsM _ [1,1,0,2] 2 2 _ _ [[1,1],[0,2]] _ (I64V.new _ [1,1,0,2] dE dE) (by rfl) (by rfl) (by rfl) oM oM (by rfl)).mono ?_;rintro e wb ⟨v1,rfl,hm,hb1⟩;have hB:=nxa hB hb1;obtain ⟨wbo,wbn,wbk,rfl⟩:=hm.agg;have HW:=xgv hm;have HA:=xgv (HA.out.below (nxd hb1));have b1:=b1.below (nxd hb1);clear hm;go_upto_region 3 with (fail)
 refine wp_world ?_;intro W2 hW2;obtain ⟨hB2,b2,hs2⟩:=world1 hW2;have hB:=nx hB hB2;have HA:=xgv (HA.out.below hB2);have HW:=xgv (HW.out.below hB2);have b1:=b1.below hB2;obtain ⟨c1,c2,c3,-,-,-⟩:=b1.three;clear hW2;go_wp2_with fail
 refine (hform_want _ _ [[1,1],[0,2]] [[2,1],[3,1]] [[-1,1],[3,-2]] 2 2 W2 HA.out ⟨rfl,by decide⟩ oM oM dE ⟨rfl,by decide⟩ dE).mono ?_;rintro e w3 ⟨fv,U,V,rfl,hf,hg,hb3⟩;obtain ⟨f1,f2,f3,f4,f5,f6,f7,f8,f9,rfl,hfh⟩:=hf.agg;have HF:=xgv hf;have HG:=xgv hg;have HH:=xgv hfh;have HA:=xgv (HA.out.below hb3);have HW:=xgv (HW.out.below hb3);have b1:=b1.below hb3;have b2:=b2.below hb3;have hB:=nx hB hb3;clear c1 c2 c3 hf hg hfh;go_upto_region 4 with (fail)
 refine wp_world ?_;intro W4 hW4;obtain ⟨hB4,b3,hs4⟩:=world1 hW4;have HA:=xgv (HA.out.below hB4);have HW:=xgv (HW.out.below hB4);have HF:=xgv (HF.out.below hB4);have HH:=xgv (HH.out.below hB4);have b1:=b1.below hB4;have b2:=b2.below hB4;have hB:=nx hB hB4;clear hW4;go_wp2_with fail
 refine (intsM _ [0,0,0,-3] 2 2 _ _ [[0,0],[0,-3]] _ (I64V.new _ [0,0,0,-3] dE dE) (by rfl) (by rfl) (by rfl) oM oM (by rfl)).mono ?_;rintro e wc ⟨v1,rfl,hm,hb1⟩;have hB:=nxa hB hb1;obtain ⟨wco,wcn,wck,rfl⟩:=hm.agg;have hb1:=nxd hb1;have HA:=xgv (HA.out.below hb1);have HW:=xgv (HW.out.below hb1);have HF:=xgv (HF.out.below hb1);have HH:=xgv (HH.out.below hb1);have b1:=b1.below hb1;have b2:=b2.below hb1;have b3:=b3.below hb1;have HM:=xgv hm;clear hm;go_wp2_with fail
 refine (hform_want _ _ [[0,3],[0,0]] [[0,0],[-1,0]] [[0,-1],[1,0]] 2 2 wc HM.out ⟨rfl,by decide⟩ oM oM dE ⟨rfl,by decide⟩ dE).mono ?_;rintro e w5 ⟨gv,U2,V2,rfl,hf,-,hb5⟩;obtain ⟨g1,g2,g3,g4,g5,g6,g7,g8,g9,rfl,hfh⟩:=hf.agg;have HA:=xgv (HA.out.below hb5);have HW:=xgv (HW.out.below hb5);have HF:=xgv (HF.out.below hb5);have HH:=xgv (HH.out.below hb5);have HH2:=xgv hfh;have b1:=b1.below hb5;have b2:=b2.below hb5;have b3:=b3.below hb5;have hB:=nx hB hb5;clear hf hfh HM;go_upto_region 5 with (fail)
 refine wp_world ?_;intro W6 hW6;obtain ⟨hB6,b4,hs6⟩:=world1 hW6;have HA:=xgv (HA.out.below hB6);have HW:=xgv (HW.out.below hB6);have HF:=xgv (HF.out.below hB6);have HH:=xgv (HH.out.below hB6);have HH2:=xgv (HH2.out.below hB6);have b1:=b1.below hB6;have b2:=b2.below hB6;have b3:=b3.below hB6;have hB:=nx hB hB6;clear hW6;go_wp2_with fail
 refine (intsM _ [4,6] 2 1 _ _ [[4],[6]] _ (I64V.new _ [4,6] dE dE) (by rfl) (by rfl) (by rfl) oM oM (by rfl)).mono ?_;rintro e wd ⟨v1,rfl,hm,hb1⟩;have hB:=nxa hB hb1;obtain ⟨wdo,wdn,wdk,rfl⟩:=hm.agg;have hb1:=nxd hb1;have HA:=xgv (HA.out.below hb1);have HW:=xgv (HW.out.below hb1);have HF:=xgv (HF.out.below hb1);have HH:=xgv (HH.out.below hb1);have HH2:=xgv (HH2.out.below hb1);have b1:=b1.below hb1;have b2:=b2.below hb1;have b3:=b3.below hb1;have b4:=b4.below hb1;have HM:=xgv hm;clear hm;go_wp2_with fail
 refine (hbasis_want _ _ [[2],[0]] [[2,0],[3,0]] [[-1,1],[0,0]] [[2]] 2 1 1 wd HM.out ⟨rfl,by decide⟩ oM oM dE ⟨rfl,by decide⟩ dE dE oM (by rfl)).mono ?_;rintro e w7 ⟨cv,rfl,hm,hb7⟩;obtain ⟨k1,k2,k3,rfl⟩:=hm.agg;have HC:=xgv hm;have HA:=xgv (HA.out.below hb7);have HW:=xgv (HW.out.below hb7);have HF:=xgv (HF.out.below hb7);have HH:=xgv (HH.out.below hb7);have HH2:=xgv (HH2.out.below hb7);have b1:=b1.below hb7;have b2:=b2.below hb7;have b3:=b3.below hb7;have b4:=b4.below hb7;have hB:=nx hB hb7;clear hm HM;go_upto_region 6 with (fail)
 refine wp_world ?_;intro W8 hW8;obtain ⟨hB8,b5,hs8⟩:=world1 hW8;have HA:=xgv (HA.out.below hB8);have HW:=xgv (HW.out.below hB8);have HF:=xgv (HF.out.below hB8);have HH:=xgv (HH.out.below hB8);have HH2:=xgv (HH2.out.below hB8);have HC:=xgv (HC.out.below hB8);have b1:=b1.below hB8;have b2:=b2.below hB8;have b3:=b3.below hB8;have b4:=b4.below hB8;have hB:=nx hB hB8;obtain ⟨d1,d2,d3,-,-,-⟩:=b2.three;have hl1:=lastsB_i64 [3,6];have hl2:=lastsB_red [3,1] [0,1];have hl3:=lastsB_rowP [3,6];have hl4:=lastsB_rows [[3,6]];have hl5:=lastsB_vec [3,6];have hl6:=lastsB_vec [3,1];have hl7:=lastsB_vec [0,1];clear hW8;refine wp_region_each rfl (RV W8 _ [E 0 26 (.agg #[.int .i64 2,.int .i64 2,.slice wbo wbn wbk]),⟨1,27,fun w v=>I64V w v [3,6]⟩,⟨2,28,fun w v=>MatV w v (1 : Nat) (2 : Nat) [[3,6]]⟩,⟨3,29,fun w v=>RowsV w v [[3,6]]⟩,⟨4,30,RowP [3,6]⟩,⟨5,31,fun w v=>VecV w v [3,6]⟩,⟨6,32,RedV [3,1] [0,1]⟩,⟨7,25,RedV [3,1] [0,1]⟩,⟨8,33,fun w v=>VecV w v [3,1]⟩,⟨9,34,fun w v=>VecV w v [0,1]⟩,VN 10 35 0,⟨11,6,fun w v=>VecV w v [3,1]⟩,⟨12,7,fun w v=>VecV w v [0,1]⟩,VN 13 8 0]) kR RV.start (RV.fin kR ?fin1) ?steps1
 case steps1=>
  refine ⟨?_,?_,?_,?_,?_,?_,?_,?_,?_,?_,?_,?_,?_,?_,trivial⟩ <;> (intro L T wS hL hd hcl hI K hK; try refine step_wanted rfl ?_)
  ·have zt:=hI.k 2 rfl kR
   have cc0:=hI.cell d1;have cc1:=hI.cell d2;have cc2:=hI.cell d3; exact xgu
  ·go_simp
   exact hK _ _ ((hI.world ((Below.refl _ _).alloc (xgf _) _)).y mm1 (I64V.new _ [3,6] dE dE))
  ·obtain ⟨v1,zt1,h1⟩:=hI.v mm1 (hd 1)
   go_simp;refine (intsM _ [3,6] 1 2 _ _ [[3,6]] _ h1 (by rfl) (by rfl) (by rfl) oM oM (by rfl)).mono ?_;rintro e wa ⟨v,rfl,hv,hba⟩;exact hK _ _ ((hI.world hba).y mm2 hv)
  ·obtain ⟨_,zt2,A2,rfl,hA2⟩:=hI.v mm2 (hd 2)
   obtain ⟨oo,nn,kk,rfl,-⟩:=id hA2;go_simp;exact hK _ _ (hI.y mm3 hA2)
  ·obtain ⟨v3,zt3,h3⟩:=hI.v mm3 (hd 3)
   replace h3 : RowsV wS v3 [[3,6]]:=h3;obtain ⟨oo,nn,kk,rfl,hn1,-⟩:=id h3;obtain rfl : 1 = nn:=hn1;obtain ⟨bb,ra,rn,rc,zs,rfl,hbl,hz,p1,hrv⟩:=h3.row (k:=0) dE;obtain rfl : [3,6] = zs:=Option.some.inj hz;go_simp;exact hK _ _ (hI.y mm4 ⟨bb,_,rfl,hbl,p1,hrv⟩)
  ·obtain ⟨v4,zt4,h4⟩:=hI.v mm4 (hd 4)
   obtain ⟨bb,rv,rfl,hbl,p1,hrv⟩ : RowP [3,6] wS v4:=h4;obtain ⟨oo,nn,kk,rfl,-⟩:=id hrv;go_simp;exact hK _ _ (hI.y mm5 hrv)
  ·have zt0:=hI.e mm0 (hd 0)
   obtain ⟨v5,zt5,h5⟩:=hI.v mm5 (hd 5);go_simp;refine (hreduceT _ _ _ (HW.out.below hI.bel) h5).mono ?_;rintro e wa ⟨v,rfl,hv,hba⟩;exact hK _ _ ((hI.world hba).y mm6 hv)
  ·obtain ⟨v6,zt6,h6⟩:=hI.v mm6 (hd 6)
   go_simp;exact hK _ _ (hI.y mm7 h6)
  ·obtain ⟨v7,zt7,h7⟩:=hI.v mm7 (hd 7)
   obtain ⟨qv,rv,rfl,hq,hr⟩:=h7;go_simp;exact hK _ _ (hI.y mm8 hq)
  ·obtain ⟨v7,zt7,h7⟩:=hI.v mm7 (hd 7)
   obtain ⟨qv,rv,rfl,hq,hr⟩:=h7;go_simp;exact hK _ _ (hI.y mm9 hr)
  ·obtain ⟨v7,zt7,h7⟩:=hI.v mm7 (hd 7)
   obtain ⟨qv,rv,rfl,hq,hr⟩:=h7; exact xgu
  ·obtain ⟨v8,zt8,h8⟩:=hI.v mm8 (hd 8)
   go_simp;exact hK _ _ (hI.y mm11 h8)
  ·obtain ⟨v9,zt9,h9⟩:=hI.v mm9 (hd 9)
   go_simp;exact hK _ _ (hI.y mm12 h9)
  ·exact xgs (hI.e mm10 (hd 10))
 intro w9 hbw9 T hT;simp only [Fin,E,EI,VP,VSl,VN,xgg,xgh,xgi,xgj] at hT;obtain ⟨va1,ha1,va2,ha2,va3,ha3,va4,ha4,va5,ha5,va6,ha6,va7,ha7,va8,ha8,va9,ha9,va11,ha11,va12,ha12,rfl⟩:=hT;have hB:=nx hB hbw9;have HA:=xgv (HA.out.below hbw9);have HW:=xgv (HW.out.below hbw9);have HF:=xgv (HF.out.below hbw9);have HH:=xgv (HH.out.below hbw9);have HH2:=xgv (HH2.out.below hbw9);have HC:=xgv (HC.out.below hbw9);have b1:=b1.below hbw9;have b2:=b2.below hbw9;have b3:=b3.below hbw9;have b4:=b4.below hbw9;have b5:=b5.below hbw9;have HQ:=xgv (show VecV w9 va11 [3,1] from ha11);have HR:=xgv (show VecV w9 va12 [0,1] from ha12);clear ha1 ha2 ha3 ha4 ha5 ha6 ha7 ha8 ha9 ha11 ha12 hl1 hl2 hl3 hl4 hl5 hl6 hl7 d1 d2 d3;obtain ⟨d1,d2,d3,-,-,-⟩:=b2.three;obtain ⟨qo,qn,qk,rfl,-⟩:=id HQ.out;obtain ⟨ro,rn0,rk,rfl,-⟩:=id HR.out;go_wp2_with fail
 refine (hreduce2_bad _ _ 2 2 [[1,1],[0,2]] [] w9 HW.out ⟨rfl,by decide⟩ (VecV.nil _) dE).mono ?_;rintro e w10 ⟨rfl,hb10⟩;have hB:=nx hB hb10;have HA:=xgv (HA.out.below hb10);have HW:=xgv (HW.out.below hb10);have HF:=xgv (HF.out.below hb10);have HH:=xgv (HH.out.below hb10);have HH2:=xgv (HH2.out.below hb10);have HC:=xgv (HC.out.below hb10);have b1:=b1.below hb10;have b2:=b2.below hb10;have b3:=b3.below hb10;have b4:=b4.below hb10;have b5:=b5.below hb10;have HQ:=xgv (HQ.out.below hb10);have HR:=xgv (HR.out.below hb10);clear d1 d2 d3;have hfl:=field_mat2;go_wp2_with fail
 refine (intsM _ [3,1] 1 2 _ _ [[3,1]] _ (I64V.new _ [3,1] dE dE) (by rfl) (by rfl) (by rfl) oM oM (by rfl)).mono ?_;rintro e w1 ⟨v1,rfl,hm,hb1⟩;have hb1:=nxd hb1;have hB:=nx hB hb1;have HA:=xgv (HA.out.below hb1);have HW:=xgv (HW.out.below hb1);have HF:=xgv (HF.out.below hb1);have HH:=xgv (HH.out.below hb1);have HH2:=xgv (HH2.out.below hb1);have HC:=xgv (HC.out.below hb1);have b1:=b1.below hb1;have b2:=b2.below hb1;have b3:=b3.below hb1;have b4:=b4.below hb1;have b5:=b5.below hb1;have HQ:=xgv (HQ.out.below hb1);have HR:=xgv (HR.out.below hb1);obtain ⟨A2,rfl,hA2⟩:=hm;obtain ⟨oo,nn,kk,rfl,hn1,-⟩:=id hA2;obtain rfl : 1 = nn:=hn1;obtain ⟨bb,ra,rn,rc,zs,rfl,hbl,hz,p1,hrv⟩:=hA2.row (k:=0) dE;obtain rfl : [3,1] = zs:=Option.some.inj hz;have HRV:=xgv hrv;clear hA2 hrv hz;go_wp2_with fail
 refine (samevT _ _ [3,1] w1 HQ.out HRV.out).mono ?_;rintro e w2 ⟨_,rfl,rfl,hb2⟩;have hB:=nx hB hb2;have HA:=xgv (HA.out.below hb2);have HW:=xgv (HW.out.below hb2);have HF:=xgv (HF.out.below hb2);have HH:=xgv (HH.out.below hb2);have HH2:=xgv (HH2.out.below hb2);have HC:=xgv (HC.out.below hb2);have b1:=b1.below hb2;have b2:=b2.below hb2;have b3:=b3.below hb2;have b4:=b4.below hb2;have b5:=b5.below hb2;have HQ:=xgv (HQ.out.below hb2);have HR:=xgv (HR.out.below hb2);clear p1 HRV;go_wp2_with fail
 refine (intsM _ [0,1] 1 2 _ _ [[0,1]] _ (I64V.new _ [0,1] dE dE) (by rfl) (by rfl) (by rfl) oM oM (by rfl)).mono ?_;rintro e w1 ⟨v1,rfl,hm,hb1⟩;have hb1:=nxd hb1;have hB:=nx hB hb1;have HA:=xgv (HA.out.below hb1);have HW:=xgv (HW.out.below hb1);have HF:=xgv (HF.out.below hb1);have HH:=xgv (HH.out.below hb1);have HH2:=xgv (HH2.out.below hb1);have HC:=xgv (HC.out.below hb1);have b1:=b1.below hb1;have b2:=b2.below hb1;have b3:=b3.below hb1;have b4:=b4.below hb1;have b5:=b5.below hb1;have HQ:=xgv (HQ.out.below hb1);have HR:=xgv (HR.out.below hb1);obtain ⟨A2,rfl,hA2⟩:=hm;obtain ⟨oo,nn,kk,rfl,hn1,-⟩:=id hA2;obtain rfl : 1 = nn:=hn1;obtain ⟨bb,ra,rn,rc,zs,rfl,hbl,hz,p1,hrv⟩:=hA2.row (k:=0) dE;obtain rfl : [0,1] = zs:=Option.some.inj hz;have HRV:=xgv hrv;clear hA2 hrv hz;go_wp2_with fail
 refine (samevT _ _ [0,1] w1 HR.out HRV.out).mono ?_;rintro e w2 ⟨_,rfl,rfl,hb2⟩;have hB:=nx hB hb2;have HA:=xgv (HA.out.below hb2);have HW:=xgv (HW.out.below hb2);have HF:=xgv (HF.out.below hb2);have HH:=xgv (HH.out.below hb2);have HH2:=xgv (HH2.out.below hb2);have HC:=xgv (HC.out.below hb2);have b1:=b1.below hb2;have b2:=b2.below hb2;have b3:=b3.below hb2;have b4:=b4.below hb2;have b5:=b5.below hb2;have HQ:=xgv (HQ.out.below hb2);have HR:=xgv (HR.out.below hb2);clear p1 HRV;clear hfl;obtain ⟨c1,c2,c3,-,-,-⟩:=b1.three;obtain ⟨d1,d2,d3,-,-,-⟩:=b2.three;obtain ⟨q0,q1,q2,q3,q4,q5,q6,q7,q8⟩:=b3.nine;obtain ⟨r0,r1,r2,r3,r4,r5,r6,r7,r8⟩:=b4.nine;obtain ⟨s0,s1,s2,-,-,-⟩:=b5.three;have hl1:=lastsB_i64 [0,3,0,0];have hl2:=lastsB_i64 [2];have hl3:=lastsB_noneF;clear HQ HR;go_upto_region 9 with (fail)
 refine wp_region_each rfl (RV w2 _ [E 0 66 (.bool true),E 1 67 (.bool true),VP 2 68 w3.heap.size 0,E 3 69 (.agg #[.int .i64 2,.int .i64 2,.slice f1 f2 f3]),E 4 70 (.agg #[.int .i64 2,.int .i64 2,.slice wbo wbn wbk]),E 5 71 (.bool true),E 6 72 (.bool true),E 7 73 (.bool true),E 8 74 (.agg #[.int .i64 2,.int .i64 2,.slice wao wan wak]),E 9 75 (.agg #[.int .i64 2,.int .i64 2,.slice f1 f2 f3,.int .i64 2,.int .i64 2,.slice f4 f5 f6,.int .i64 2,.int .i64 2,.slice f7 f8 f9]),E 10 76 (.bool true),E 11 77 (.bool true),E 12 78 (.bool true),E 13 79 (.agg #[.int .i64 2,.int .i64 2,.slice wao wan wak]),E 14 80 (.agg #[.int .i64 2,.int .i64 2,.slice f1 f2 f3,.int .i64 2,.int .i64 2,.slice f4 f5 f6,.int .i64 2,.int .i64 2,.slice f7 f8 f9]),E 15 81 (.bool true),E 16 82 (.bool true),E 17 83 (.bool true),VP 18 84 w5.heap.size 0,E 19 85 (.agg #[.int .i64 2,.int .i64 2,.slice g1 g2 g3]),⟨20,86,fun w v=>I64V w v [0,3,0,0]⟩,⟨21,87,fun w v=>MatV w v (2 : Nat) (2 : Nat) [[0,3],[0,0]]⟩,E 22 88 (.bool true),E 23 89 (.bool true),E 24 90 (.bool true),E 25 91 (.agg #[.int .i64 1,.int .i64 1,.slice k1 k2 k3]),⟨26,92,fun w v=>I64V w v [2]⟩,⟨27,93,fun w v=>MatV w v (1 : Nat) (1 : Nat) [[2]]⟩,E 28 94 (.bool true),E 29 95 (.bool true),E 30 96 (.bool true),E 31 97 (.agg #[.int .i64 2,.int .i64 2,.slice wbo wbn wbk]),E 32 98 (.bool true),E 33 99 (.bool true),E 34 100 (.bool true),E 35 101 (.agg #[.int .i64 2,.int .i64 2,.slice wao wan wak]),E 36 102 (.bool false),E 37 103 (.bool true),E 38 104 (.bool true),E 39 105 (.bool true),E 40 106 (.agg #[.int .i64 0,.int .i64 0,.slice none 0 0]),E 41 107 (.bool true),E 42 108 (.bool true),E 43 109 (.bool true),E 44 110 (.agg #[.int .i64 1,.int .i64 0,.slice none 0 0]),E 45 111 (.bool false),E 46 112 (.bool true),E 47 113 (.bool true),E 48 114 (.bool true),E 49 115 (.agg #[.int .i64 2,.int .i64 2,.slice wao wan wak]),E 50 116 (.agg #[.int .i64 0,.int .i64 0,.slice none 0 0,.int .i64 0,.int .i64 0,.slice none 0 0,.int .i64 0,.int .i64 0,.slice none 0 0]),E 51 117 (.bool false),E 52 118 (.bool true),E 53 119 (.bool true),E 54 120 (.bool true),E 55 121 (.agg #[.int .i64 0,.int .i64 3,.slice none 0 0]),E 56 122 (.agg #[.int .i64 0,.int .i64 3,.slice none 0 0]),⟨57,123,NoneF⟩,E 58 124 (.bool true),E 59 125 (.bool true),E 60 0 (.bool true)]) kR RV.start (RV.fin kR ?fin2) ?steps2
 case steps2=>
  refine ⟨?_,?_,?_,?_,?_,?_,?_,?_,?_,?_,?_,?_,?_,?_,?_,?_,?_,?_,?_,?_,?_,?_,?_,?_,?_,?_,?_,?_,?_,?_,?_,?_,?_,?_,?_,?_,?_,?_,?_,?_,?_,?_,?_,?_,?_,?_,?_,?_,?_,?_,?_,?_,?_,?_,?_,?_,?_,?_,?_,?_,?_,trivial⟩ <;> (intro L T wS hL hd hcl hI K hK; try refine step_wanted rfl ?_)
  ·exact xgs (hI.k 12 rfl kR)
  ·exact xgs (hI.e mm0 (hd 0))
  ·have zg:=hI.e mm1 (hd 1)
   refine step_wanted xgp ?_;exact xgs (hI.k 3 rfl kR)
  ·have zg:=hI.e mm1 (hd 1)
   refine step_wanted xgp ?_;have zt2:=hI.e mm2 (hd 2);have cc0:=hI.cell q0;have cc1:=hI.cell q1;have cc2:=hI.cell q2; exact xgu
  ·have zg:=hI.e mm1 (hd 1)
   refine step_wanted xgp ?_;have zt:=hI.k 2 rfl kR;have cc0:=hI.cell d1;have cc1:=hI.cell d2;have cc2:=hI.cell d3; exact xgu
  ·have zg:=hI.e mm1 (hd 1)
   refine step_wanted xgp ?_;have zt3:=hI.e mm3 (hd 3);have zt4:=hI.e mm4 (hd 4);go_simp;refine (sameT _ _ 2 2 [[1,1],[0,2]] _ (HH.out.below hI.bel) (HW.out.below hI.bel)).mono ?_;rintro e wa ⟨v,rfl,hv,hba⟩;exact hK _ _ ((hI.world hba).y mm5 hv)
  ·exact xgt (hI.e mm1 (hd 1)) (hI.e mm5 (hd 5))
  ·exact xgs (hI.e mm6 (hd 6))
  ·have zg:=hI.e mm7 (hd 7)
   refine step_wanted xgp ?_;have zt:=hI.k 1 rfl kR;have cc0:=hI.cell c1;have cc1:=hI.cell c2;have cc2:=hI.cell c3; exact xgu
  ·have zg:=hI.e mm7 (hd 7)
   refine step_wanted xgp ?_;have zt:=hI.k 3 rfl kR;have cc0:=hI.cell q0;have cc1:=hI.cell q1;have cc2:=hI.cell q2;have cc3:=hI.cell q3;have cc4:=hI.cell q4;have cc5:=hI.cell q5;have cc6:=hI.cell q6;have cc7:=hI.cell q7;have cc8:=hI.cell q8; exact xgu
  ·have zg:=hI.e mm7 (hd 7)
   refine step_wanted xgp ?_;have zt8:=hI.e mm8 (hd 8);have zt9:=hI.e mm9 (hd 9);go_simp;refine (r12checkT _ _ 2 2 _ _ U V _ (HA.out.below hI.bel) ⟨rfl,by decide⟩ (HF.out.below hI.bel) oM oM HG.out).mono ?_;rintro e wa ⟨v,rfl,hv,hba⟩;exact hK _ _ ((hI.world hba).y mm10 hv)
  ·exact xgt (hI.e mm7 (hd 7)) (hI.e mm10 (hd 10))
  ·exact xgs (hI.e mm11 (hd 11))
  ·have zg:=hI.e mm12 (hd 12)
   refine step_wanted xgp ?_;have zt:=hI.k 1 rfl kR;have cc0:=hI.cell c1;have cc1:=hI.cell c2;have cc2:=hI.cell c3; exact xgu
  ·have zg:=hI.e mm12 (hd 12)
   refine step_wanted xgp ?_;have zt:=hI.k 3 rfl kR;have cc0:=hI.cell q0;have cc1:=hI.cell q1;have cc2:=hI.cell q2;have cc3:=hI.cell q3;have cc4:=hI.cell q4;have cc5:=hI.cell q5;have cc6:=hI.cell q6;have cc7:=hI.cell q7;have cc8:=hI.cell q8; exact xgu
  ·have zg:=hI.e mm12 (hd 12)
   refine step_wanted xgp ?_;have zt13:=hI.e mm13 (hd 13);have zt14:=hI.e mm14 (hd 14);go_simp;refine (hcheckT _ _ 2 2 _ _ U V _ (HA.out.below hI.bel) ⟨rfl,by decide⟩ (HF.out.below hI.bel) oM oM HG.out).mono ?_;rintro e wa ⟨v,rfl,hv,hba⟩;exact hK _ _ ((hI.world hba).y mm15 hv)
  ·exact xgt (hI.e mm12 (hd 12)) (hI.e mm15 (hd 15))
  ·exact xgs (hI.e mm16 (hd 16))
  ·have zg:=hI.e mm17 (hd 17)
   refine step_wanted xgp ?_;exact xgs (hI.k 4 rfl kR)
  ·have zg:=hI.e mm17 (hd 17)
   refine step_wanted xgp ?_;have zt18:=hI.e mm18 (hd 18);have cc0:=hI.cell r0;have cc1:=hI.cell r1;have cc2:=hI.cell r2; exact xgu
  ·have zg:=hI.e mm17 (hd 17)
   refine step_wanted xgp ?_;go_simp;exact hK _ _ ((hI.world ((Below.refl _ _).alloc (xgf _) _)).y mm20 (I64V.new _ [0,3,0,0] dE dE))
  ·have zg:=hI.e mm17 (hd 17)
   refine step_wanted xgp ?_;obtain ⟨v20,zt20,h20⟩:=hI.v mm20 (hd 20);go_simp;refine (intsM _ [0,3,0,0] 2 2 _ _ [[0,3],[0,0]] _ h20 (by rfl) (by rfl) (by rfl) oM oM (by rfl)).mono ?_;rintro e wa ⟨v,rfl,hv,hba⟩;exact hK _ _ ((hI.world hba).y mm21 hv)
  ·have zg:=hI.e mm17 (hd 17)
   refine step_wanted xgp ?_;have zt19:=hI.e mm19 (hd 19);obtain ⟨v21,zt21,h21⟩:=hI.v mm21 (hd 21);go_simp;refine (sameT _ _ 2 2 [[0,3],[0,0]] _ (HH2.out.below hI.bel) h21).mono ?_;rintro e wa ⟨v,rfl,hv,hba⟩;exact hK _ _ ((hI.world hba).y mm22 hv)
  ·exact xgt (hI.e mm17 (hd 17)) (hI.e mm22 (hd 22))
  ·exact xgs (hI.e mm23 (hd 23))
  ·have zg:=hI.e mm24 (hd 24)
   refine step_wanted xgp ?_;have zt:=hI.k 5 rfl kR;have cc0:=hI.cell s0;have cc1:=hI.cell s1;have cc2:=hI.cell s2; exact xgu
  ·have zg:=hI.e mm24 (hd 24)
   refine step_wanted xgp ?_;go_simp;exact hK _ _ ((hI.world ((Below.refl _ _).alloc (xgf _) _)).y mm26 (I64V.new _ [2] dE dE))
  ·have zg:=hI.e mm24 (hd 24)
   refine step_wanted xgp ?_;obtain ⟨v26,zt26,h26⟩:=hI.v mm26 (hd 26);go_simp;refine (intsM _ [2] 1 1 _ _ [[2]] _ h26 (by rfl) (by rfl) (by rfl) oM oM (by rfl)).mono ?_;rintro e wa ⟨v,rfl,hv,hba⟩;exact hK _ _ ((hI.world hba).y mm27 hv)
  ·have zg:=hI.e mm24 (hd 24)
   refine step_wanted xgp ?_;have zt25:=hI.e mm25 (hd 25);obtain ⟨v27,zt27,h27⟩:=hI.v mm27 (hd 27);go_simp;refine (sameT _ _ 1 1 [[2]] _ (HC.out.below hI.bel) h27).mono ?_;rintro e wa ⟨v,rfl,hv,hba⟩;exact hK _ _ ((hI.world hba).y mm28 hv)
  ·exact xgt (hI.e mm24 (hd 24)) (hI.e mm28 (hd 28))
  ·exact xgs (hI.e mm29 (hd 29))
  ·have zg:=hI.e mm30 (hd 30)
   refine step_wanted xgp ?_;have zt:=hI.k 2 rfl kR;have cc0:=hI.cell d1;have cc1:=hI.cell d2;have cc2:=hI.cell d3; exact xgu
  ·have zg:=hI.e mm30 (hd 30)
   refine step_wanted xgp ?_;have zt31:=hI.e mm31 (hd 31);go_simp;refine (hisT _ 2 2 [[1,1],[0,2]] true _ (HW.out.below hI.bel) dE).mono ?_;rintro e wa ⟨v,rfl,hv,hba⟩;exact hK _ _ ((hI.world hba).y mm32 hv)
  ·exact xgt (hI.e mm30 (hd 30)) (hI.e mm32 (hd 32))
  ·exact xgs (hI.e mm33 (hd 33))
  ·have zg:=hI.e mm34 (hd 34)
   refine step_wanted xgp ?_;have zt:=hI.k 1 rfl kR;have cc0:=hI.cell c1;have cc1:=hI.cell c2;have cc2:=hI.cell c3; exact xgu
  ·have zg:=hI.e mm34 (hd 34)
   refine step_wanted xgp ?_;have zt35:=hI.e mm35 (hd 35);go_simp;refine (hisT _ 2 2 [[2,4],[3,5]] false _ (HA.out.below hI.bel) dE).mono ?_;rintro e wa ⟨v,rfl,hv,hba⟩;exact hK _ _ ((hI.world hba).y mm36 hv)
  ·have zg:=hI.e mm34 (hd 34)
   refine step_wanted xgp ?_;exact xgs (hI.e mm36 (hd 36))
  ·exact xgt (hI.e mm34 (hd 34)) (hI.e mm37 (hd 37))
  ·exact xgs (hI.e mm38 (hd 38))
  ·have zg:=hI.e mm39 (hd 39)
   refine step_wanted xgp ?_; exact xgu
  ·have zg:=hI.e mm39 (hd 39)
   refine step_wanted xgp ?_;have zt40:=hI.e mm40 (hd 40);go_simp;refine (hisT _ 0 0 [] true _ ⟨_,rfl,RowsV.nil _⟩ dE).mono ?_;rintro e wa ⟨v,rfl,hv,hba⟩;exact hK _ _ ((hI.world hba).y mm41 hv)
  ·have zt39:=hI.e mm39 (hd 39)
   have zt41:=hI.e mm41 (hd 41);go_simp;exact hK _ _ (hI.q mm42)
  ·have zt42:=hI.e mm42 (hd 42)
   go_simp;exact hK _ _ (hI.q mm43)
  ·have zg:=hI.e mm43 (hd 43)
   refine step_wanted xgp ?_;go_simp;exact hK _ _ (hI.q mm44)
  ·have zg:=hI.e mm43 (hd 43)
   refine step_wanted xgp ?_;have zt44:=hI.e mm44 (hd 44);go_simp;refine (hisT _ 1 0 [] false _ ⟨_,rfl,RowsV.nil _⟩ dE).mono ?_;rintro e wa ⟨v,rfl,hv,hba⟩;exact hK _ _ ((hI.world hba).y mm45 hv)
  ·have zg:=hI.e mm43 (hd 43)
   refine step_wanted xgp ?_;have zt45:=hI.e mm45 (hd 45);go_simp;exact hK _ _ (hI.q mm46)
  ·have zt43:=hI.e mm43 (hd 43)
   have zt46:=hI.e mm46 (hd 46);go_simp;exact hK _ _ (hI.q mm47)
  ·have zt47:=hI.e mm47 (hd 47)
   go_simp;exact hK _ _ (hI.q mm48)
  ·have zg:=hI.e mm48 (hd 48)
   refine step_wanted xgp ?_;have zt:=hI.k 1 rfl kR;have cc0:=hI.cell c1;have cc1:=hI.cell c2;have cc2:=hI.cell c3;go_simp;exact hK _ _ (hI.q mm49)
  ·have zg:=hI.e mm48 (hd 48)
   refine step_wanted xgp ?_;go_simp;exact hK _ _ (hI.q mm50)
  ·have zg:=hI.e mm48 (hd 48)
   refine step_wanted xgp ?_;have zt49:=hI.e mm49 (hd 49);have zt50:=hI.e mm50 (hd 50);go_simp;refine (hcheckZ _ 2 2 _ _ (HA.out.below hI.bel) ⟨rfl,by decide⟩ oM oM oM).mono ?_;rintro e wa ⟨v,rfl,hv,hba⟩;exact hK _ _ ((hI.world hba).y mm51 hv)
  ·have zg:=hI.e mm48 (hd 48)
   refine step_wanted xgp ?_;have zt51:=hI.e mm51 (hd 51);go_simp;exact hK _ _ (hI.q mm52)
  ·have zt48:=hI.e mm48 (hd 48)
   have zt52:=hI.e mm52 (hd 52);go_simp;exact hK _ _ (hI.q mm53)
  ·have zt53:=hI.e mm53 (hd 53)
   go_simp;exact hK _ _ (hI.q mm54)
  ·have zg:=hI.e mm54 (hd 54)
   refine step_wanted xgp ?_;go_simp;exact hK _ _ (hI.q mm55)
  ·have zg:=hI.e mm54 (hd 54)
   refine step_wanted xgp ?_;go_simp;exact hK _ _ (hI.q mm56)
  ·have zg:=hI.e mm54 (hd 54)
   refine step_wanted xgp ?_;have zt56:=hI.e mm56 (hd 56);go_simp;refine (hformN _ _ ⟨_,rfl,RowsV.nil _⟩).mono ?_;rintro e wa ⟨v,rfl,hv,hba⟩;exact hK _ _ ((hI.world hba).y mm57 hv)
  ·have zg:=hI.e mm54 (hd 54)
   refine step_wanted xgp ?_;have zt55:=hI.e mm55 (hd 55);obtain ⟨v57,zt57,h57⟩:=hI.v mm57 (hd 57);go_simp;refine (hcheckN _ _ _ ⟨_,rfl,RowsV.nil _⟩ h57).mono ?_;rintro e wa ⟨v,rfl,hv,hba⟩;exact hK _ _ ((hI.world hba).y mm58 hv)
  ·have zt54:=hI.e mm54 (hd 54)
   have zt58:=hI.e mm58 (hd 58);go_simp;exact hK _ _ (hI.q mm59)
  ·have zt59:=hI.e mm59 (hd 59)
   go_simp;exact hK _ _ (hI.q mm60)
 intro w99 hbw99 T hT;simp only [Fin,E,EI,VP,VSl,VN,xgg,xgh,xgi,xgj] at hT;obtain ⟨va20,ha20,va21,ha21,va26,ha26,va27,ha27,va57,ha57,rfl⟩:=hT;have hBF:=nx hB hbw99;go_wp2;go_ret;exact ⟨rfl,hBF⟩
end Go.Proofs.YtgnmdddaiefooaaGreat
