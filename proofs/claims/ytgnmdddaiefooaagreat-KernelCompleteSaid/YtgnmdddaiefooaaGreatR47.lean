/- torsionlaw12.sanity. torsionref12: Rank, Top, Basis. kernel.Left. -/
import Derived.Test.YtgnmdddaiefooaaGreatR38
import Derived.Test.YtgnmdddaiefooaaGreatR45
import Derived.Test.YtgnmdddaiefooaaGreatR46
set_option linter.unusedVariables false
set_option linter.unusedSimpArgs false
set_option linter.unusedSectionVars false
set_option maxHeartbeats 16000000
set_option maxRecDepth 100000
namespace Go.Proofs.YtgnmdddaiefooaaGreat
open Go.RowKit
def zQr(q r:List Int):World->Value->Prop:=fun w v=>∃qv rv,v= .tuple #[qv,rv,.int .i64 0]/\zAZ w qv q/\zAZ w rv r
def zQs(xs:List Int):World->Value->Prop:=fun w v=>∃b rv,v= .pointer (some ⟨b,0,none⟩)/\b<w.heap.size/\w.cell? ⟨b,0,none⟩=some rv/\zAZ w rv xs
theorem zHY(M:List (List Int)):qQ (fun w v=>qX w v M):=fun _ _ _ hb h=>h.below hb
def zQM:World->Value->Prop:=fun w v=>∃H U V,zCY w v 0 3 H U V/\zNH 0 3 [] H U V
theorem zCY.agg{w:World}{f:Value}{R C:Nat}{H U V:List (List Int)}(h:zCY w f R C H U V):∃o1 n1 k1 o2 n2 k2 o3 n3 k3,f= .agg #[.int .i64 R,.int .i64 C,.slice o1 n1 k1,.int .i64 R,.int .i64 R,.slice o2 n2 k2,.int .i64 R,.int .i64 R,.slice o3 n3 k3]/\qL w (.agg #[.int .i64 R,.int .i64 C,.slice o1 n1 k1]) R C H:=by
 obtain⟨a,b,c,rfl,h1,h2,h3⟩:=h.ex;obtain⟨o1,n1,k1,rfl,-⟩:=id h1;obtain⟨o2,n2,k2,rfl,-⟩:=id h2;obtain⟨o3,n3,k3,rfl,-⟩:=id h3;exact⟨_,_,_,_,_,_,_,_,_,rfl,⟨_,rfl,h1⟩⟩
theorem nxd{W W':World}{o:Obj}(h:Below (W.alloc o).heap.size (W.alloc o) W'):Below W.heap.size W W':=nxa (Below.refl _ _) h
abbrev zPh:=fun{α:Type}{a b c d e f g h i j k L m n o p q r s t u v w X y z a1 b1 c1 d1 e1 f1 g1 h1 i1 j1 k1 l1 m1 n1 o1 x:α}{l:List α}=>List.Mem.tail a (@zM4 α b c d e f g h i j k L m n o p q r s t u v w X y z a1 b1 c1 d1 e1 f1 g1 h1 i1 j1 k1 l1 m1 n1 o1 x l)
abbrev zPi:=fun{α:Type}{a b c d e f g h i j k L m n o p q r s t u v w X y z a1 b1 c1 d1 e1 f1 g1 h1 i1 j1 k1 l1 m1 n1 o1 p1 x:α}{l:List α}=>List.Mem.tail a (@zPh α b c d e f g h i j k L m n o p q r s t u v w X y z a1 b1 c1 d1 e1 f1 g1 h1 i1 j1 k1 l1 m1 n1 o1 p1 x l)
abbrev zPj:=fun{α:Type}{a b c d e f g h i j k L m n o p q r s t u v w X y z a1 b1 c1 d1 e1 f1 g1 h1 i1 j1 k1 l1 m1 n1 o1 p1 q1 x:α}{l:List α}=>List.Mem.tail a (@zPi α b c d e f g h i j k L m n o p q r s t u v w X y z a1 b1 c1 d1 e1 f1 g1 h1 i1 j1 k1 l1 m1 n1 o1 p1 q1 x l)
abbrev zOS:=fun{α:Type}{a b c d e f g h i j k L m n o p q r s t u v w X y z a1 b1 c1 d1 e1 f1 g1 h1 i1 j1 k1 l1 m1 n1 o1 p1 q1 r1 x:α}{l:List α}=>List.Mem.tail a (@zPj α b c d e f g h i j k L m n o p q r s t u v w X y z a1 b1 c1 d1 e1 f1 g1 h1 i1 j1 k1 l1 m1 n1 o1 p1 q1 r1 x l)
abbrev zPk:=fun{α:Type}{a b c d e f g h i j k L m n o p q r s t u v w X y z a1 b1 c1 d1 e1 f1 g1 h1 i1 j1 k1 l1 m1 n1 o1 p1 q1 r1 s1 x:α}{l:List α}=>List.Mem.tail a (@zOS α b c d e f g h i j k L m n o p q r s t u v w X y z a1 b1 c1 d1 e1 f1 g1 h1 i1 j1 k1 l1 m1 n1 o1 p1 q1 r1 s1 x l)
abbrev zPl:=fun{α:Type}{a b c d e f g h i j k L m n o p q r s t u v w X y z a1 b1 c1 d1 e1 f1 g1 h1 i1 j1 k1 l1 m1 n1 o1 p1 q1 r1 s1 t1 x:α}{l:List α}=>List.Mem.tail a (@zPk α b c d e f g h i j k L m n o p q r s t u v w X y z a1 b1 c1 d1 e1 f1 g1 h1 i1 j1 k1 l1 m1 n1 o1 p1 q1 r1 s1 t1 x l)
abbrev zPm:=fun{α:Type}{a b c d e f g h i j k L m n o p q r s t u v w X y z a1 b1 c1 d1 e1 f1 g1 h1 i1 j1 k1 l1 m1 n1 o1 p1 q1 r1 s1 t1 u1 x:α}{l:List α}=>List.Mem.tail a (@zPl α b c d e f g h i j k L m n o p q r s t u v w X y z a1 b1 c1 d1 e1 f1 g1 h1 i1 j1 k1 l1 m1 n1 o1 p1 q1 r1 s1 t1 u1 x l)
abbrev zPn:=fun{α:Type}{a b c d e f g h i j k L m n o p q r s t u v w X y z a1 b1 c1 d1 e1 f1 g1 h1 i1 j1 k1 l1 m1 n1 o1 p1 q1 r1 s1 t1 u1 v1 x:α}{l:List α}=>List.Mem.tail a (@zPm α b c d e f g h i j k L m n o p q r s t u v w X y z a1 b1 c1 d1 e1 f1 g1 h1 i1 j1 k1 l1 m1 n1 o1 p1 q1 r1 s1 t1 u1 v1 x l)
abbrev zN1:=fun{α:Type}{a b c d e f g h i j k L m n o p q r s t u v w X y z a1 b1 c1 d1 e1 f1 g1 h1 i1 j1 k1 l1 m1 n1 o1 p1 q1 r1 s1 t1 u1 v1 w1 x:α}{l:List α}=>List.Mem.tail a (@zPn α b c d e f g h i j k L m n o p q r s t u v w X y z a1 b1 c1 d1 e1 f1 g1 h1 i1 j1 k1 l1 m1 n1 o1 p1 q1 r1 s1 t1 u1 v1 w1 x l)
abbrev zPo:=fun{α:Type}{a b c d e f g h i j k L m n o p q r s t u v w X y z a1 b1 c1 d1 e1 f1 g1 h1 i1 j1 k1 l1 m1 n1 o1 p1 q1 r1 s1 t1 u1 v1 w1 x1 x:α}{l:List α}=>List.Mem.tail a (@zN1 α b c d e f g h i j k L m n o p q r s t u v w X y z a1 b1 c1 d1 e1 f1 g1 h1 i1 j1 k1 l1 m1 n1 o1 p1 q1 r1 s1 t1 u1 v1 w1 x1 x l)
abbrev zPp:=fun{α:Type}{a b c d e f g h i j k L m n o p q r s t u v w X y z a1 b1 c1 d1 e1 f1 g1 h1 i1 j1 k1 l1 m1 n1 o1 p1 q1 r1 s1 t1 u1 v1 w1 x1 y1 x:α}{l:List α}=>List.Mem.tail a (@zPo α b c d e f g h i j k L m n o p q r s t u v w X y z a1 b1 c1 d1 e1 f1 g1 h1 i1 j1 k1 l1 m1 n1 o1 p1 q1 r1 s1 t1 u1 v1 w1 x1 y1 x l)
abbrev zPq:=fun{α:Type}{a b c d e f g h i j k L m n o p q r s t u v w X y z a1 b1 c1 d1 e1 f1 g1 h1 i1 j1 k1 l1 m1 n1 o1 p1 q1 r1 s1 t1 u1 v1 w1 x1 y1 z1 x:α}{l:List α}=>List.Mem.tail a (@zPp α b c d e f g h i j k L m n o p q r s t u v w X y z a1 b1 c1 d1 e1 f1 g1 h1 i1 j1 k1 l1 m1 n1 o1 p1 q1 r1 s1 t1 u1 v1 w1 x1 y1 z1 x l)
abbrev zPr:=fun{α:Type}{a b c d e f g h i j k L m n o p q r s t u v w X y z a1 b1 c1 d1 e1 f1 g1 h1 i1 j1 k1 l1 m1 n1 o1 p1 q1 r1 s1 t1 u1 v1 w1 x1 y1 z1 a2 x:α}{l:List α}=>List.Mem.tail a (@zPq α b c d e f g h i j k L m n o p q r s t u v w X y z a1 b1 c1 d1 e1 f1 g1 h1 i1 j1 k1 l1 m1 n1 o1 p1 q1 r1 s1 t1 u1 v1 w1 x1 y1 z1 a2 x l)
abbrev zPs:=fun{α:Type}{a b c d e f g h i j k L m n o p q r s t u v w X y z a1 b1 c1 d1 e1 f1 g1 h1 i1 j1 k1 l1 m1 n1 o1 p1 q1 r1 s1 t1 u1 v1 w1 x1 y1 z1 a2 b2 x:α}{l:List α}=>List.Mem.tail a (@zPr α b c d e f g h i j k L m n o p q r s t u v w X y z a1 b1 c1 d1 e1 f1 g1 h1 i1 j1 k1 l1 m1 n1 o1 p1 q1 r1 s1 t1 u1 v1 w1 x1 y1 z1 a2 b2 x l)
abbrev zN2:=fun{α:Type}{a b c d e f g h i j k L m n o p q r s t u v w X y z a1 b1 c1 d1 e1 f1 g1 h1 i1 j1 k1 l1 m1 n1 o1 p1 q1 r1 s1 t1 u1 v1 w1 x1 y1 z1 a2 b2 c2 x:α}{l:List α}=>List.Mem.tail a (@zPs α b c d e f g h i j k L m n o p q r s t u v w X y z a1 b1 c1 d1 e1 f1 g1 h1 i1 j1 k1 l1 m1 n1 o1 p1 q1 r1 s1 t1 u1 v1 w1 x1 y1 z1 a2 b2 c2 x l)
abbrev zPt:=fun{α:Type}{a b c d e f g h i j k L m n o p q r s t u v w X y z a1 b1 c1 d1 e1 f1 g1 h1 i1 j1 k1 l1 m1 n1 o1 p1 q1 r1 s1 t1 u1 v1 w1 x1 y1 z1 a2 b2 c2 d2 x:α}{l:List α}=>List.Mem.tail a (@zN2 α b c d e f g h i j k L m n o p q r s t u v w X y z a1 b1 c1 d1 e1 f1 g1 h1 i1 j1 k1 l1 m1 n1 o1 p1 q1 r1 s1 t1 u1 v1 w1 x1 y1 z1 a2 b2 c2 d2 x l)
abbrev zPu:=fun{α:Type}{a b c d e f g h i j k L m n o p q r s t u v w X y z a1 b1 c1 d1 e1 f1 g1 h1 i1 j1 k1 l1 m1 n1 o1 p1 q1 r1 s1 t1 u1 v1 w1 x1 y1 z1 a2 b2 c2 d2 e2 x:α}{l:List α}=>List.Mem.tail a (@zPt α b c d e f g h i j k L m n o p q r s t u v w X y z a1 b1 c1 d1 e1 f1 g1 h1 i1 j1 k1 l1 m1 n1 o1 p1 q1 r1 s1 t1 u1 v1 w1 x1 y1 z1 a2 b2 c2 d2 e2 x l)
abbrev zPv:=fun{α:Type}{a b c d e f g h i j k L m n o p q r s t u v w X y z a1 b1 c1 d1 e1 f1 g1 h1 i1 j1 k1 l1 m1 n1 o1 p1 q1 r1 s1 t1 u1 v1 w1 x1 y1 z1 a2 b2 c2 d2 e2 f2 x:α}{l:List α}=>List.Mem.tail a (@zPu α b c d e f g h i j k L m n o p q r s t u v w X y z a1 b1 c1 d1 e1 f1 g1 h1 i1 j1 k1 l1 m1 n1 o1 p1 q1 r1 s1 t1 u1 v1 w1 x1 y1 z1 a2 b2 c2 d2 e2 f2 x l)
abbrev zPw:=fun{α:Type}{a b c d e f g h i j k L m n o p q r s t u v w X y z a1 b1 c1 d1 e1 f1 g1 h1 i1 j1 k1 l1 m1 n1 o1 p1 q1 r1 s1 t1 u1 v1 w1 x1 y1 z1 a2 b2 c2 d2 e2 f2 g2 x:α}{l:List α}=>List.Mem.tail a (@zPv α b c d e f g h i j k L m n o p q r s t u v w X y z a1 b1 c1 d1 e1 f1 g1 h1 i1 j1 k1 l1 m1 n1 o1 p1 q1 r1 s1 t1 u1 v1 w1 x1 y1 z1 a2 b2 c2 d2 e2 f2 g2 x l)
abbrev zPx:=fun{α:Type}{a b c d e f g h i j k L m n o p q r s t u v w X y z a1 b1 c1 d1 e1 f1 g1 h1 i1 j1 k1 l1 m1 n1 o1 p1 q1 r1 s1 t1 u1 v1 w1 x1 y1 z1 a2 b2 c2 d2 e2 f2 g2 h2 x:α}{l:List α}=>List.Mem.tail a (@zPw α b c d e f g h i j k L m n o p q r s t u v w X y z a1 b1 c1 d1 e1 f1 g1 h1 i1 j1 k1 l1 m1 n1 o1 p1 q1 r1 s1 t1 u1 v1 w1 x1 y1 z1 a2 b2 c2 d2 e2 f2 g2 h2 x l)
theorem zB8(a b c:Value)(W:World):(Instr.field 28 (.agg #[a,b,c]) 2).run Tryz.prog W= .ok c W:=by kernel_rfl
theorem zHo(v:Value)(R C r:Nat)(κ:Nat->Nat)(M:List (List Int))(w:World)(h:qL w v R C M)(hF:yG R C M)(hH:Hnf C R r κ (ent M)):
  Calls Tryz.prog 30 #[v] w fun e w'=>e= .returned (.int .i64 r)/\Below w.heap.size w w':=by
 obtain⟨A,rfl,h⟩:=h;obtain⟨ao,n,cap,rfl,e2,e3,e4,-⟩:=id h;obtain rfl:R=n:=by rw[<-e2,hF.1]
 have HX:=xgw e2;have HF:=xgv hF;have hle:=hH.le;have HLO:qM (∀k,k<r->0<=lead C (ent M) k):=⟨fun k hk=>by rw[hH.ech.lead hk];omega⟩;have HHI:qM (∀k,r<=k->k<R->lead C (ent M) k<0):=⟨fun k h1 h2=>by rw[zCE (hH.zero k h1 h2)];decide⟩;clear e2 hF hH;go_enter Tryz.func30,Tryz.ntmps30;go_upto_region 1 with(fail)
 refine zC ?_;intro W0 hW0;obtain⟨hB0,bx,hs0⟩:=zN hW0;clear hW0;go_wp2;go_loopw [3,4] (fun nv iv wr=>∃(i m:Nat),i<=R/\nv= .int .i64 m/\iv= .int .i64 i/\Below w.heap.size w wr/\Blk wr w.heap.size 28 #[.int .i64 R,.int .i64 C,.slice ao R cap]/\qM (m=min i r)) (fun _ iv _=>R-(intOf iv).toNat)
 case atStart=>exact⟨0,0,by omega,rfl,rfl,hB0,bx,⟨by omega⟩⟩
 case round=>
  clear bx hB0;obtain⟨i,m,hi,rfl,rfl,hb,bx,hm⟩:=hrel;obtain⟨c1,c2,c3,c4,c5,c6⟩:=bx.three;by_cases hlt:i<R
  ·obtain⟨b,ra,rn,rc,zs,rfl,hbl,hz,p1,hrv⟩:=(h.below hb).row (k:=i) (by rw[HX.out];exact hlt)
   obtain rfl:=HF.out.row_eq hz;have hmR:m<R:=by have:=hm.out;omega
   go_wp2_with fail
   refine(zEk _ (zQ C (ent M i)) wr hrv).mono ?_;rintro e w7 ⟨rfl,hb7⟩;have hb8:=nx hb hb7;have bx:=bx.below hb7;clear c1 c2 c3 c4 c5 c6 p1 hz hrv;obtain⟨L,hL⟩:∃L,zAN 0 (zQ C (ent M i))=L:=⟨_,rfl⟩;rw[hL];have HL:=xgw (show lead C (ent M) i=L from hL);clear hL;by_cases hir:i<r
   ·have h0:(L ≥ 0)=True:=eq_true (by rw[<-HL.out];exact HLO.out i hir)
    have h1:0<=L:=by rw[<-HL.out];exact HLO.out i hir
    have hm':qM (m+1=min (i+1) r):=⟨by have:=hm.out;omega⟩;clear hir;go_wp2;go_roundw
    case rel=>exact⟨i+1,m+1,by omega,by simp,by simp,hb8,bx,hm'⟩
    case measure=>simp[intOf];omega
   ·have h1:¬ 0<=L:=by rw[<-HL.out];have:=HHI.out i oM hlt;omega
    have hm':qM (m=min (i+1) r):=⟨by have:=hm.out;omega⟩;clear hir;go_wp2;go_roundw
    case rel=>exact⟨i+1,m,by omega,rfl,by simp,hb8,bx,hm'⟩
    case measure=>simp[intOf];omega
  ·obtain rfl:m=r:=by have:=hm.out;omega
   go_wp2;go_ret;exact⟨rfl,hb⟩
theorem zIe(v:Value)(R C r:Nat)(κ:Nat->Nat)(M:List (List Int))(w:World)(h:qL w v R C M)(hF:yG R C M)(hH:Hnf C R r κ (ent M)):
  Calls Tryz.prog 30 #[v] w fun e w'=>∃v,e= .returned v/\v= .int .i64 r/\Below w.heap.size w w':=
 (zHo v R C r κ M w h hF hH).mono fun _ _ ⟨h1,h2⟩=>⟨_,h1,rfl,h2⟩
theorem zJM(v:Value)(R C m:Nat)(M:List (List Int))(w:World)(h:qL w v R C M)(hF:yG R C M)(hm:m<=R):
  Calls Tryz.prog 39 #[v,.int .i64 m] w fun e w'=>∃v',e= .returned v'/\qL w' v' m C (M.take m)/\Below w.heap.size w w':=by
 obtain⟨A,rfl,h⟩:=h;obtain⟨ao,n,cap,rfl,e2,e3,e4,-⟩:=id h;obtain rfl:R=n:=by rw[<-e2,hF.1]
 have hmc:m<=cap:=by omega
 clear hF e2;go_enter Tryz.func39,Tryz.ntmps39;go_upto_region 1 with(fail)
 refine zC ?_;intro W0 hW0;obtain⟨hB0,bx,br,hs0⟩:=qK hW0;obtain⟨c1,c2,c3,c4,c5,c6⟩:=bx.three;have lbx:=bx.lt;clear hW0;refine zB 8 rfl (RV W0 _ [VN 0 5 m,VP 1 6 w.heap.size 1,VN 2 7 C,VP 3 8 w.heap.size 2,E 4 9 (.slice ao R cap),VN 5 10 m,E 6 11 (.slice ao m cap),E 7 12 (.agg #[.int .i64 m,.int .i64 C,.slice ao m cap])]) kR RV.start (RV.fin kR ?fin1) ?steps1
 case steps1=>
  refine⟨?_,?_,?_,?_,?_,?_,?_,?_,trivial⟩<;>(intro L T wS hL hd hcl hI K hK;try refine zA rfl ?_)
  ·exact xgs (hI.k 1 rfl kR)
  ·exact xgs (hI.k 2 rfl kR)
  ·have zt1:=hI.e mm1 (hd 1)
   have cc0:=hI.cell c2;exact xgu
  ·exact xgs (hI.k 2 rfl kR)
  ·have zt3:=hI.e mm3 (hd 3)
   have cc0:=hI.cell c3;exact xgu
  ·exact xgs (hI.k 1 rfl kR)
  ·exact xgt (hI.e mm4 (hd 4)) (hI.e mm5 (hd 5))
  ·have zt0:=hI.e mm0 (hd 0)
   exact xgt (hI.e mm2 (hd 2)) (hI.e mm6 (hd 6))
 intro w2 hbw2 T hT;simp only[Fin,E,EI,VP,VSl,VN,xgg,xgh,xgi,xgj]at hT;subst hT;simp only[xgl,xgk];have br:=br.below hbw2;have hB2:=nx hB0 hbw2;have hr2:=(h.take hm).below hB2;obtain⟨r1,r2,r3,r4,r5,r6⟩:=br.three;clear c1 c2 c3 c4 c5 c6;go_wp2;refine zX (r:=w.heap.size+1) rfl rfl rfl (br.put3 _ _ _) ⟨_,rfl,qL.keep3 ⟨_,rfl,hr2⟩ br _ _ _,zP (zP (zP hB2 oM 0 _) oM 1 _) oM 2 _⟩
theorem zLW{R C m:Nat}(h:m<=R)(F:Nat->Nat->Int):(genM R C F).take m=genM m C F:=by
 unfold genM;rw[<-List.map_take,List.take_range,Nat.min_eq_left h]
theorem zFV{M0:Nat}(hM1:1<=M0)(v:Value)(M:List (List Int))(R C:Nat)(w:World)(h:zBm w v R C M)(hF:yG R C M)(hR:R<=1000000)(hC:C<=1000000)(hA:leM M0 R C (ent M))(hB:gx (eE R R) M0<BD):
  Calls Tryz.prog 43 #[v] w fun e w'=>∃v r c H U V,e= .returned v/\jI R C r c (ent M) H U V/\leM (gx (eE R R) M0) R R U/\leM (gx (eE R R) M0) R R V/\zCY w' v R C (genM R C H) (genM R R U) (genM R R V)/\Below w.heap.size w w':=by
 refine(zHn hM1 v M R C w h hF hR hC hA hB).mono ?_;rintro ee w' ⟨v,c,r,κ,x,rfl,hko,hcr,hv,hb⟩;have hle:=hko.2.mono (zAV hM1 (zDO R hko.1.rn));exact⟨v,r,κ,_,_,_,rfl,hko.form hcr,hle.2.1,fun a ha b hb=>hle.2.2 b hb a ha,hv,hb⟩
theorem zHm{M0:Nat}(hM1:1<=M0)(v:Value)(M:List (List Int))(R C:Nat)(w:World)(h:zBm w v R C M)(hF:yG R C M)(hR:R<=1000000)(hC:C<=1000000)(hA:leM M0 R C (ent M))(hB:gx (eE R R) M0<BD):
  Calls Tryz.prog 18 #[v] w fun e w'=>∃v r c H U V,e= .returned v/\jI R C r c (ent M) H U V/\qL w' v r C (genM r C H)/\Below w.heap.size w w':=by
 have h0:=h;obtain⟨A,rfl,h⟩:=h;obtain⟨ao,n,cap,rfl,-,-,-,-⟩:=id h;have H0:=xgv h0;have HF:=xgv hF;have HA:=xgv hA;have HM:=xgv (And.intro hM1 hB);clear h0 hF hA hB hM1 h;go_enter Tryz.func18,Tryz.ntmps18;go_upto_region 1 with(fail)
 refine zC ?_;intro W0 hW0;obtain⟨hB0,bx,br,hs0⟩:=qK hW0;obtain⟨c1,c2,c3,c4,c5,c6⟩:=bx.three;clear hW0;go_wp2_with fail
 refine(zFV HM.out.1 _ M R C W0 (H0.out.below hB0) HF.out hR hC HA.out HM.out.2).mono ?_;rintro ee w2 ⟨fv,r,κ,H,U,V,rfl,hf,-,-,hv,hb2⟩;obtain⟨f1,f2,f3,f4,f5,f6,f7,f8,f9,rfl,hfh⟩:=hv.agg;have HL:=xgv hf;have hHn:Hnf C R r κ (ent (genM R C H)):=by
  obtain⟨q1,q2,q3,q4⟩:=hf.hnf;have e:∀a,a<R->∀b,b<C->ent (genM R C H) a b=H a b:=fun a ha b hb=>qG ha hb
  exact⟨q1,⟨q2.lt,fun k hk=>by rw[e k oM _ (q2.lt k hk)];exact q2.pos k hk,fun k hk t ht=>by rw[e k oM t (by have:=q2.lt k hk;omega)];exact q2.zero k hk t ht,q2.inc⟩,
   fun i j h1 h2 h3=>by rw[e i oM _ (q2.lt j h2),e j oM _ (q2.lt j h2)];exact q3 i j h1 h2 h3,fun a h1 h2 t h3=>by rw[e a h2 t h3];exact q4 a h1 h2 t h3⟩
 have HHN:=xgv hHn;have hrR:=hHn.le;have br:=br.below hb2;have hB2:=nx hB0 hb2;clear c1 c2 c3 c4 c5 c6 hv hf hHn;go_upto_region 2 with(fail)
 refine zC ?_;intro W3 hW3;obtain⟨hB3,T3,hs3⟩:=zN hW3;have HFH:=xgv (hfh.below hB3);have br:=br.below hB3;have hB3:=nx hB2 hB3;have lbr:=br.lt;clear hW3 hfh;obtain⟨q0,q1,q2,-⟩:=T3.nine;refine zB 6 rfl (RV W3 _ [VP 0 6 w2.heap.size 0,E 1 7 (.agg #[.int .i64 R,.int .i64 C,.slice f1 f2 f3]),VP 2 8 w2.heap.size 0,E 3 9 (.agg #[.int .i64 R,.int .i64 C,.slice f1 f2 f3]),VN 4 10 r,⟨5,11,fun w v=>qL w v (r) (C) ((genM R C H).take r)⟩]) kR RV.start (RV.fin kR ?fin2) ?steps2
 case steps2=>
  refine⟨?_,?_,?_,?_,?_,?_,trivial⟩<;>(intro L T wS hL hd hcl hI K hK;try refine zA rfl ?_)
  ·exact xgs (hI.k 3 rfl kR)
  ·have zt0:=hI.e mm0 (hd 0)
   have cc0:=hI.cell q0;have cc1:=hI.cell q1;have cc2:=hI.cell q2;exact xgu
  ·exact xgs (hI.k 3 rfl kR)
  ·have zt2:=hI.e mm2 (hd 2)
   have cc0:=hI.cell q0;have cc1:=hI.cell q1;have cc2:=hI.cell q2;exact xgu
  ·have zt3:=hI.e mm3 (hd 3)
   go_simp;refine(zIe _ R C r κ _ _ (HFH.out.below hI.bel) (zV _ _ _) HHN.out).mono ?_;rintro e wa ⟨v,rfl,hv,hba⟩;exact hK _ _ ((hI.world hba).y mm4 hv)
  ·have zt1:=hI.e mm1 (hd 1)
   have zt4:=hI.e mm4 (hd 4);go_simp;refine(zJM _ R C r _ _ (HFH.out.below hI.bel) (zV _ _ _) hrR).mono ?_;rintro e wa ⟨v,rfl,hv,hba⟩;exact hK _ _ ((hI.world hba).y mm5 hv)
 intro w4 hbw4 T hT;simp only[Fin,E,EI,VP,VSl,VN,xgg,xgh,xgi,xgj]at hT;obtain⟨va5,ha5,rfl⟩:=hT;simp only[xgl,xgk];have hm:qL w4 va5 r C (genM r C H):=by rw[<-zLW hrR];exact ha5
 obtain⟨t1,t2,t3,rfl⟩:=hm.agg;have HMM:=xgv hm;have br:=br.below hbw4;have hB4:=nx hB3 hbw4;obtain⟨r1,r2,r3,r4,r5,r6⟩:=br.three;clear q0 q1 q2 hm ha5;go_wp2;refine zX (r:=w.heap.size+1) rfl rfl rfl (br.put3 _ _ _) ⟨_,r,κ,H,_,_,rfl,HL.out,HMM.out.keep3 br _ _ _,zP (zP (zP hB4 oM 0 _) oM 1 _) oM 2 _⟩
theorem zGh{e M0 k:Nat}(hM:2*M0<=2^e)(hk:e*2^k<=32*zHE):gk k M0<BD:=by
 rw[zJr];have h2:=zKM k M0;have h3:(2*M0)^(2^k)<=(2^e)^(2^k):=Nat.pow_le_pow_left hM _;rw[<-Nat.pow_mul]at h3;have h4:=zCH hk;have h5:0<2^(e*2^k):=Nat.pow_pos oM;omega
theorem zCJ{R C:Nat}(F:Nat->Nat->Int):(genM R C F).take R=genM R C F:=List.take_of_length_le (by simp[genM])
theorem zCY.agg3{w:World}{f:Value}{R C:Nat}{H U V:List (List Int)}(h:zCY w f R C H U V):∃o1 n1 k1 o2 n2 k2 o3 n3 k3,f= .agg #[.int .i64 R,.int .i64 C,.slice o1 n1 k1,.int .i64 R,.int .i64 R,.slice o2 n2 k2,.int .i64 R,.int .i64 R,.slice o3 n3 k3]∧
  qL w (.agg #[.int .i64 R,.int .i64 C,.slice o1 n1 k1]) R C H/\qL w (.agg #[.int .i64 R,.int .i64 R,.slice o2 n2 k2]) R R U/\qL w (.agg #[.int .i64 R,.int .i64 R,.slice o3 n3 k3]) R R V:=by
 obtain⟨a,b,c,rfl,h1,h2,h3⟩:=h.ex;obtain⟨o1,n1,k1,rfl,-⟩:=id h1;obtain⟨o2,n2,k2,rfl,-⟩:=id h2;obtain⟨o3,n3,k3,rfl,-⟩:=id h3;exact⟨_,_,_,_,_,_,_,_,_,rfl,⟨_,rfl,h1⟩,⟨_,rfl,h2⟩,⟨_,rfl,h3⟩⟩
theorem zCw{R C r:Nat}(F:Nat->Nat->Int):(genM R C F).drop r=genM (R-r) C (zE5 r F):=by
 refine List.ext_getElem (by simp[genM]) fun i h1 h2=>?_
 simp[genM,zQ,zE5]
theorem zBm.agg{w:World}{v:Value}{R C:Int}{M:List (List Int)}(h:zBm w v R C M):∃o n k,v= .agg #[.int .i64 R,.int .i64 C,.slice o n k]:=by
 obtain⟨A,rfl,ao,n,cap,rfl,-⟩:=h;exact⟨_,_,_,rfl⟩
theorem zHU(R C:Int)(M:List (List Int)):qQ (fun w v=>zBm w v R C M):=fun _ _ _ e h=>h.below e
theorem zOn(v:Value)(R C r:Nat)(κ:Nat->Nat)(M:List (List Int))(w:World)(h:qL w v R C M)(hF:yG R C M)(hH:Hnf C R r κ (ent M)):
  Calls Tryz.prog 68 #[v] w fun e w'=>∃v,e= .returned v/\v= .int .i64 r/\Below w.heap.size w w':=
 (zKU v R C r κ M w h hF hH).mono fun _ _ h=>⟨_,h.1,rfl,h.2⟩
theorem Hnf.genM{R C r:Nat}{κ:Nat->Nat}{H:Nat->Nat->Int}(h:Hnf C R r κ H):Hnf C R r κ (ent (Go.Proofs.YtgnmdddaiefooaaGreat.genM R C H)):=by
 obtain⟨q1,q2,q3,q4⟩:=h;have e:∀a,a<R->∀b,b<C->ent (Go.Proofs.YtgnmdddaiefooaaGreat.genM R C H) a b=H a b:=fun a ha b hb=>qG ha hb
 exact⟨q1,⟨q2.lt,fun k hk=>by rw[e k oM _ (q2.lt k hk)];exact q2.pos k hk,fun k hk t ht=>by rw[e k oM t (by have:=q2.lt k hk;omega)];exact q2.zero k hk t ht,q2.inc⟩,
  fun i j h1 h2 h3=>by rw[e i oM _ (q2.lt j h2),e j oM _ (q2.lt j h2)];exact q3 i j h1 h2 h3,fun a h1 h2 t h3=>by rw[e a h2 t h3];exact q4 a h1 h2 t h3⟩
def zBI(R C:Nat)(A:Nat->Nat->Int)(m:Nat)(G:Nat->Nat->Int):Prop:=HB R m G (zE1 R C A)/\∃r c H U V,jI R C r c A H U V
theorem zBI.of{R C r r':Nat}{c c':Nat->Nat}{A H U V H' U' V':Nat->Nat->Int}{M:List (List Int)}(h:jI R C r c A H U V)(hM:M=genM (R-r) R (zE5 r U))(h':jI (R-r) R r' c' (ent M) H' U' V'):zBI R C A r' H':=by
 refine⟨h'.lat.hb.of fun x=>?_,r,c,H,U,V,h⟩;rw[hM,<-h.ker x];exact jK.congr (fun a ha b hb=>qG ha hb) x
theorem zBI.rows{R C m:Nat}{A G:Nat->Nat->Int}(h:zBI R C A m G):m<=R:=by
 obtain⟨hb,r,c,H,U,V,hf⟩:=h;have:=zBN hf hb;omega
def kb(h:Nat):Nat:=24*(8*(120*h^4))^4
theorem zM0{h:Nat}(h1:1<=h):1<=kb h:=Nat.mul_pos oM (Nat.pow_pos (Nat.mul_pos oM (Nat.mul_pos oM (Nat.pow_pos h1))))
theorem zNk(n:Nat):Hnf n n n (fun k=>k) idf:=
 ⟨xgf _,⟨fun k hk=>hk,fun k hk=>by rw[show idf k k=1 from if_pos rfl];decide,fun k hk t ht=>if_neg oM,fun k l hkl hl=>hkl⟩,fun i j hij hj _=>by rw[show idf i j=0 from if_neg oM,show idf j j=1 from if_pos rfl];omega,fun a h1 h2=>by omega⟩
theorem zBI.bound{R C m h:Nat}{A G:Nat->Nat->Int}(hl:zBI R C A m G)(hR:R<=5)(h1:1<=h)(hA:leM h R C A):leM (kb h) m R G:=by
 obtain⟨hb,r,c,H,U,V,hf⟩:=hl;have hmr:=zBN hf hb;by_cases hm:m<=4
 ·have h2:=zHR (N:=5) hf hb oM oM hR hm h1 hA
  rwa[show 5*(24*h^4)=120*h^4 by omega]at h2
 ·obtain rfl:r=0:=by omega
  have hz:∀a,a<R->∀b,b<C->A a b=0:=fun a ha b hb=>by
   rw[hf.back a ha b hb];exact yC fun t ht=>by rw[hf.hnf.zero t (Nat.zero_le _) ht b hb,Int.mul_zero]
  have hI:HB R R idf (zE1 R C A):=⟨⟨_,zNk R⟩,fun x=>⟨fun _=>⟨x,fun b hb=>by rw[qU hb (fun i _ hne=>by rw[show idf i b=0 from if_neg hne,Int.mul_zero]),show idf b b=1 from if_pos rfl,Int.mul_one]⟩,fun _ b hb=>yC fun a ha=>by rw[hz a ha b hb,Int.mul_zero]⟩⟩;obtain⟨e1,e2⟩:=hI.eq hb fun x=>Iff.rfl
  intro a ha b hb';rw[e2 a oM b hb'];refine Nat.le_trans ?_ (zM0 h1);unfold idf;split<;>decide
def zDy(R C:Nat)(A:Nat->Nat->Int)(w:World)(v:Value):Prop:=∃m G,zBI R C A m G/\qL w v m R (genM m R G)
theorem zEb(R C:Nat)(A:Nat->Nat->Int):qQ (zDy R C A):=fun _ _ _ e ⟨m,G,h1,h2⟩=>⟨m,G,h1,h2.below e⟩
theorem zOD(R C:Nat)(A:Nat->Nat->Int):∃q,zBC q R C A/\∀k,zBC k R C A->k<=q:=by
 have h0:zBC 0 R C A:=⟨fun a=>a,fun a=>a,fun a ha=>by omega,fun a ha=>by omega,show(1:Int)≠0 by decide⟩;have h:∀n,(∀k,zBC k R C A->k<=n)->∃q,zBC q R C A/\∀k,zBC k R C A->k<=q:=fun n=>by
  induction n with
  |zero=>exact fun h=>⟨0,h0,h⟩
  |succ n ih=>
   intro h;by_cases hm:zBC (n+1) R C A
   ·exact⟨n+1,hm,h⟩
   ·exact ih fun k hk=>by
     have:=h k hk;rcases Nat.lt_or_ge k (n+1)with h1|h1
     ·omega
     ·obtain rfl:k=n+1:=by omega
      exact absurd hk hm
 exact h R fun k hk=>hk.tr.tr.le
theorem zOz{q R C:Nat}{A:Nat->Nat->Int}(h:∀k,zBC k R C A->k<=q):RkB q R C ⟨A,idf,idf⟩:=fun l k ρ κ hl _ h1 _ h3=>by
 rw[zFz]at h3;have h4:zBC k k C (vw ρ (zA1 l A)):=h3.min1;obtain⟨σ,τ,e1,e2,e3⟩:=h4;exact h k (zBC.of_mul (F:=zA1 l A) (X:=zA1 l idf) (q:=R) (fun a ha b hb=>zDY hl A a ha b) ⟨fun a=>ρ (σ a),τ,fun a ha=>h1 _ (e1 a ha),e2,e3⟩)
theorem zNp{M0 q:Nat}(hM1:1<=M0)(v:Value)(M:List (List Int))(R C:Nat)(w:World)(h:qL w v R C M)(hF:yG R C M)(hR:R<=6)(hC:C<=1000000)(hA:leM M0 R C (ent M))
  (hq1:zBC q R C (ent M)) (hq2:∀k,zBC k R C (ent M)->k<=q) (hg:gk (esr q R+es (R-q)) M0<BD):
  Calls Tryz.prog 19 #[v] w fun e w'=>∃v,e= .returned v/\zDy R C (ent M) w' v/\Below w.heap.size w w':=by
 have h0:=h;obtain⟨A,rfl,h⟩:=h;obtain⟨ao,n,cap,rfl,e2,e3,e4,-⟩:=id h;obtain rfl:R=n:=by rw[<-e2,hF.1]
 have hdv:decide (qR R C M)=true:=decide_eq_true hF.valid;have H0:=xgv h0;have HF:=xgv hF;have HA:=xgv hA;have HG1:qM (gk (esr q R) M0<BD):=⟨Nat.lt_of_le_of_lt (zAM hM1 oM) hg⟩;have HG2:qM (gk (es (R-q)) (gk (esr q R) M0)<BD):=⟨by rw[<-zCR];exact hg⟩;have HRK:qM (RkB q R C ⟨ent M,idf,idf⟩):=⟨zOz hq2⟩;have HQ:qM (∀r κ H U V,jI R C r κ (ent M) H U V->r=q):=⟨fun r κ H U V hf=>Nat.le_antisymm (hq2 r hf.lat.min1) (hf.lat.rank hq1)⟩;clear h0 hF e2 h hA hg hq1 hq2;go_enter Tryz.func19,Tryz.ntmps19;go_upto_region 1 with(fail)
 refine zC ?_;intro W0 hW0;obtain⟨hB0,bx,br,hs0⟩:=qK hW0;obtain⟨c1,c2,c3,c4,c5,c6⟩:=bx.three;clear hW0;go_wp2_with fail
 refine(zAn _ R C M W0 (H0.out.below hB0)).mono ?_;rintro e w1 ⟨rfl,hb1⟩;rw[hdv];have bx:=bx.below hb1;have br:=br.below hb1;have hB:=nx hB0 hb1;clear c1 c2 c3 c4 c5 c6 hdv;obtain⟨c1,c2,c3,c4,c5,c6⟩:=bx.three;go_wp2_with fail
 refine(zGl hM1 _ M R C w1 (H0.out.below hB) HF.out oM hC HG1.out HA.out HRK.out).mono ?_;rintro e w2 ⟨fv,r,κ,H,U,V,rfl,hf,hU,-,hv,hb2⟩;obtain⟨f1,f2,f3,f4,f5,f6,f7,f8,f9,rfl,hfh,hfu,-⟩:=hv.agg3;have HFO:=xgv hf;have hrR:=hf.hnf.le;have HHN:qM (Hnf C R r κ (ent (genM R C H))):=⟨hf.hnf.genM⟩;obtain rfl:r=q:=HQ.out _ _ _ _ _ hf;have HGG:=HG2;clear HQ HRK;have HUL:qM (leM (gk (esr r R) M0) (R-r) R (ent (((genM R R U).take R).drop r))):=⟨by
  rw[zCJ,zCw];exact zBE fun a ha b hb=>hU (r+a) oM b hb⟩
 have HFI:qM (yG (R-r) R (((genM R R U).take R).drop r)):=⟨by rw[zCJ,zCw];exact zV _ _ _⟩;have HLP:qM (∀r' c' H' U' V',jI (R-r) R r' c' (ent (((genM R R U).take R).drop r)) H' U' V'->zBI R C (ent M) r' H'):=⟨fun r' c' H' U' V' h'=>zBI.of hf (by rw[zCJ,zCw]) h'⟩;have br:=br.below hb2;have bx:=bx.below hb2;have hB:=nx hB hb2;clear c1 c2 c3 c4 c5 c6 hf hU hv;go_upto_region 4 with(fail)
 refine zC ?_;intro W3 hW3;obtain⟨hB3,T3,hs3⟩:=zN hW3;have HFH:=xgv (hfh.below hB3);have HFU:=xgv (hfu.below hB3);have bx:=bx.below hB3;have br:=br.below hB3;have hB:=nx hB hB3;have lbr:=br.lt;clear hW3 hfh hfu;obtain⟨c1,c2,c3,c4,c5,c6⟩:=bx.three;obtain⟨q0,q1,q2,q3,q4,q5,q6,q7,q8⟩:=T3.nine;have hl1:=zHU ((R-r:Nat):Int) R (((genM R R U).take R).drop r);have hl2:=zEb R C (ent M);refine zB 9 rfl (RV W3 _ [VP 0 10 w2.heap.size 3,E 1 11 (.agg #[.int .i64 R,.int .i64 R,.slice f4 f5 f6]),VP 2 12 w2.heap.size 0,E 3 13 (.agg #[.int .i64 R,.int .i64 C,.slice f1 f2 f3]),VN 4 14 r,VP 5 15 w.heap.size 0,VN 6 16 R,⟨7,17,fun w' v=>zBm w' v ((R-r:Nat):Int) R (((genM R R U).take R).drop r)⟩,⟨8,18,zDy R C (ent M)⟩]) kR RV.start (RV.fin kR ?fin1) ?steps1
 case steps1=>
  refine⟨?_,?_,?_,?_,?_,?_,?_,?_,?_,trivial⟩<;>(intro L T wS hL hd hcl hI K hK;try refine zA rfl ?_)
  ·exact xgs (hI.k 3 rfl kR)
  ·have zt0:=hI.e mm0 (hd 0)
   have cc0:=hI.cell q3;have cc1:=hI.cell q4;have cc2:=hI.cell q5;exact xgu
  ·exact xgs (hI.k 3 rfl kR)
  ·have zt2:=hI.e mm2 (hd 2)
   have cc0:=hI.cell q0;have cc1:=hI.cell q1;have cc2:=hI.cell q2;exact xgu
  ·have zt3:=hI.e mm3 (hd 3)
   go_simp;refine(zOn _ R C r κ _ _ (HFH.out.below hI.bel) (zV _ _ _) HHN.out).mono ?_;rintro e wa ⟨v,rfl,hv,hba⟩;exact hK _ _ ((hI.world hba).y mm4 hv)
  ·exact xgs (hI.k 1 rfl kR)
  ·have zt5:=hI.e mm5 (hd 5)
   have cc0:=hI.cell c1;exact xgu
  ·have zt1:=hI.e mm1 (hd 1)
   have zt4:=hI.e mm4 (hd 4);have zt6:=hI.e mm6 (hd 6);go_simp;refine(zJ8 _ R R r R _ _ (HFU.out.below hI.bel) (zV _ _ _) hrR (xgf _) oM).mono ?_;rintro e wa ⟨v,rfl,hv,hba⟩;exact hK _ _ ((hI.world hba).y mm7 hv)
  ·obtain⟨v7,zt7,h7⟩:=hI.v mm7 (hd 7)
   go_simp;refine(zGk (zCy (esr r R) hM1) _ _ (R-r) R _ h7 HFI.out oM oM HGG.out HUL.out).mono ?_;rintro e wa ⟨v,r',c',H',U',V',rfl,hf',hm',hba⟩;have hv:zDy R C (ent M) wa v:=⟨r',H',HLP.out _ _ _ _ _ hf',hm'⟩;exact hK _ _ ((hI.world hba).y mm8 hv)
 intro w4 hbw4 T hT;simp only[Fin,E,EI,VP,VSl,VN,xgg,xgh,xgi,xgj]at hT;obtain⟨va7,ha7,va8,ha8,rfl⟩:=hT;simp only[xgl,xgk];obtain⟨m,G,hlp,hm⟩:=ha8;obtain⟨t1,t2,t3,rfl⟩:=hm.agg;have br:=br.below hbw4;have hB4:=nx hB hbw4;obtain⟨r1,r2,r3,r4,r5,r6⟩:=br.three;clear c1 c2 c3 c4 c5 c6 q0 q1 q2 q3 q4 q5 q6 q7 q8;have HMM:=xgv hm;have HLL:=xgv hlp;clear hm hlp;go_wp2;refine zX (r:=w.heap.size+1) rfl rfl rfl (br.put3 _ _ _) ⟨_,rfl,⟨m,G,HLL.out,HMM.out.keep3 br _ _ _⟩,zP (zP (zP hB4 oM 0 _) oM 1 _) oM 2 _⟩
theorem zNe{R q:Nat}(hR:R<=5)(hq:q<=R):esr q R+es (R-q)<=30:=by
 have h:∀R,R<6->∀q,q<R+1->esr q R+es (R-q)<=30:=by decide
 exact h R oM q oM
theorem zI2{h e:Nat}(h1:1<=h)(he:2*h<=2^e)(he2:e<=32000)(v:Value)(M:List (List Int))(R C:Nat)(w:World)(hm:qL w v R C M)(hF:yG R C M)(hR:R<=5)(hC:C<=1000000)(hA:leM h R C (ent M)):
  Calls Tryz.prog 19 #[v] w fun e w'=>∃v,e= .returned v/\zDy R C (ent M) w' v/\Below w.heap.size w w':=by
 obtain⟨q,h3,h4⟩:=zOD R C (ent M);refine zNp h1 v M R C w hm hF oM hC hA h3 h4 (Nat.lt_of_le_of_lt (zAM h1 (zNe hR h3.tr.tr.le)) (zGh (k:=30) he ?_));rw[jB];have:e*2^30<=32000*2^30:=Nat.mul_le_mul_right _ he2;omega
end Go.Proofs.YtgnmdddaiefooaaGreat
