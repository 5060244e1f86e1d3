/- smith: band.take. -/
import Derived.ScopeJumps
import Derived.WalkMore
import Derived.Test.YtnocgagoaldfnaaGreatD24
set_option linter.unusedVariables false
set_option linter.unusedSimpArgs false
set_option linter.unusedSectionVars false
namespace Go.Proofs.YtnocgagoaldfnaaGreat
open Go.RowKit
section
variable {P : Program} {a : Act} {w : World} {Q : Exit->Act->World->Prop}
theorem Exit.jump_ret {l : Nat} {J : Act->World->Prop} : Exit.jump l J Q .ret a w = Q .ret a w:=rfl
theorem wp_scope_label {c rest : Code} {l : Nat} (J : Act->World->Prop) (μ : Act->World->Nat) (hf : findLabel (c.seq ((Code.label l).seq rest)) l = some (Code.skip.seq rest))
  (first : c.wp P (fun e a w=>e = .normal/\J a w) a w)
  (pass : ∀a w,J a w->rest.wp P (Exit.jump l (fun a' w'=>J a' w'/\μ a' w' < μ a w) Q) a w) : (Code.scope (c.seq ((Code.label l).seq rest))).wp P Q a w:=by
 have key : ∀a w,J a w->rest.wp P (Exit.jump l J Q) a w:=fun a w hJ=>wp_mono (pass a w hJ) (by
  intro e a' w' h
  cases e <;> first | exact h | exact ⟨h.1,h.2.1⟩)
 refine wp_scope_jumps l J μ hf ?_ ?_
 ·refine wp_seq (wp_mono first ?_)
  rintro e a' w' ⟨rfl,hJ⟩
  exact wp_seq (wp_label (key _ _ hJ))
 ·intro a' w' hJ
  exact wp_seq (wp_skip (pass a' w' hJ))
theorem wp_scope_label0 {rest : Code} {l : Nat} (J : Act->World->Prop) (μ : Act->World->Nat) (first : J a w)
  (pass : ∀a w,J a w->rest.wp P (Exit.jump l (fun a' w'=>J a' w'/\μ a' w' < μ a w) Q) a w) : (Code.scope ((Code.label l).seq rest)).wp P Q a w:=by
 have key : ∀a w,J a w->rest.wp P (Exit.jump l J Q) a w:=fun a w hJ=>wp_mono (pass a w hJ) (by
  intro e a' w' h
  cases e <;> first | exact h | exact ⟨h.1,h.2.1⟩)
 refine wp_scope_jumps (rest:=Code.skip.seq rest) l J μ (by simp [findLabel]) ?_ ?_
 ·exact wp_seq (wp_label (key _ _ first))
 ·intro a' w' hJ
  exact wp_seq (wp_skip (pass a' w' hJ))
end
def DMV (a b : Int) : World->Value->Prop:=fun w v=>∃q r,v = .tuple #[q,r,.int .i64 0]/\IntV w q (a / b)/\IntV w r (a % b)
theorem lasts_dm (a b : Int) : Lasts (DMV a b):=by
 intro w w' v e h
 obtain ⟨q,r,h1,h2,h3⟩:=h
 exact ⟨q,r,h1,h2.ext e,h3.ext e⟩
theorem divmodT (v1 v2 : Value) (z1 z2 : Int) (w : World) (h1 : IntW w v1 z1) (h2 : IntW w v2 z2) (s1 : Sm z1) (s2 : Sm z2) (hz : z2 ≠ 0) :
  Calls Tryz.prog 109 #[v1,v2] w fun e w'=>∃v,e = .returned v/\DMV z1 z2 w' v/\Below w.heap.size w w':=by
 refine (divmod_any v1 v2 z1 z2 w h1 h2 s1 s2 hz).mono ?_
 rintro e w' ⟨v1,v2,rfl,h1,h2,h3⟩
 exact ⟨_,rfl,⟨v1,v2,rfl,h1,h2⟩,h3⟩
theorem okF_swap {B R C : Nat} {F : Nat->Nat->Int} {i j : Nat} (h : okF B R C F) (hi : i < R) (hj : j < R) : okF B R C (swpF F i j):=by
 intro a ha b hb
 refine h _ ?_ b hb
 unfold swp
 split
 ·exact hj
 ·split
  ·exact hi
  ·exact ha
theorem okF_neg {B R C : Nat} {F : Nat->Nat->Int} {i : Nat} (h : okF B R C F) : okF B R C (negF F i):=by
 intro a ha b hb
 unfold negF
 split
 ·rw [Int.natAbs_neg]; exact h a ha b hb
 ·exact h a ha b hb
theorem okB_swap {B n Cs Ct : Nat} {x : Bst} {i j : Nat} (h : okB B n Cs Ct x) (hi : i < n) (hj : j < n) : okB B n Cs Ct (x.swap i j):=⟨okF_swap h.1 hi hj,okF_swap h.2.1 hi hj,okF_swap h.2.2 hi hj⟩
theorem okB_neg {B n Cs Ct : Nat} {x : Bst} {i : Nat} (h : okB B n Cs Ct x) : okB B n Cs Ct (x.neg i):=⟨okF_neg h.1,okF_neg h.2.1,okF_neg h.2.2⟩
theorem okAdd.ok {B n Cs Ct : Nat} {x : Bst} {i j : Nat} {k : Int} (h : okAdd B n Cs Ct x i j k) : okB B n Cs Ct (x.add i j k):=h.2.2.2
theorem adv_stop {L : Nat->Int} {c : Int} {m k : Nat} (h : ¬ L k < c) : adv L c m k = k:=by
 cases m with
 | zero=>rfl
 | succ m=>unfold adv; rw [if_neg h]
theorem adv_step {L : Nat->Int} {c : Int} {rank k : Nat} (hk : k < rank) (h : L k < c) : adv L c (rank - k) k = adv L c (rank - (k + 1)) (k + 1):=by
 obtain ⟨m,hm⟩ : ∃m,rank - k = m + 1:=⟨rank - k - 1,by omega⟩
 have e : rank - (k + 1) = m:=by omega
 rw [hm,e]
 conv=>lhs; unfold adv
 rw [if_pos h]
theorem IntV.two {w : World} {x y : Value} {z : Int} (h : IntV w (.agg #[x,y]) z) : ∃s a l c,x = .bool s/\y = .slice a l c:=by
 obtain ⟨s,a,l,c,xs,e,-⟩:=id h
 injection e with e
 simp only [Array.mk.injEq,List.cons.injEq] at e
 exact ⟨s,a,l,c,e.1,e.2.1⟩
theorem cmpI_nneg {z : Int} (h : ¬ z < 0) : 0<=cmpI z 0:=cmpI_nonneg h
theorem swapZI {Z : Nat->Prop} {As At Ai : Value} {n Cs Ct : Nat} {x : Bst} {ii jj : Int} (i j : Nat) {w : World} (h : BandZ Z w As At Ai n Cs Ct x) (hi : i < n) (hj : j < n) (hn : n<=1000000) (hii : ii = i) (hjj : jj = j) :
  Calls Tryz.prog 135 #[.agg #[As,At,Ai],.int .i64 ii,.int .i64 jj] w fun e w'=>(∃u,e = .returned u)/\OnlyZ Z w w'/\BandZ Z w' As At Ai n Cs Ct (x.swap i j):=by
 subst hii
 subst hjj
 exact swapZ h hi hj hn
set_option maxHeartbeats 8000000 in
set_option maxRecDepth 20000 in
theorem take_any {Z : Nat->Prop} {B : Nat} (hB : BSm B) {As At Ai : Value} {n Cs Ct : Nat} {x : Bst} {m rank ff : Nat} {y : Bst} {bb : Bool} {w : World} (hZ : ∀b,Z b->b < w.heap.size) (h : BandZ Z w As At Ai n Cs Ct x) (hok : okB B n Cs Ct x)
  (hm : m < n) (hr : rank<=m) (hn : n<=1000000) (hCs : Cs<=1000000) (hCt : Ct<=1000000) (ht : takeGo B n Cs Ct m rank ff 0 x = some (y,bb)) :
  Calls Tryz.prog 118 #[.agg #[As,At,Ai],.int .i64 m,.int .i64 rank] w fun e w'=>e = .returned (.bool bb)/\OnlyZ Z w w'/\BandZ Z w' As At Ai n Cs Ct y/\okB B n Cs Ct y:=by
 obtain ⟨so,sc,uo,tc,io,ic,rfl,rfl,rfl,hsc,hsc2,hg⟩:=h.shape
 obtain ⟨g,rfl⟩:=hg oM
 have HO0:=HidS.mk (And.intro hok ht)
 have hrn : rank < n:=by omega
 clear hok ht hg
 go_enter Tryz.func118,Tryz.ntmps118
 go_wp2
 refine wp_world ?_
 intro W0 hW0
 obtain ⟨hB0,bx,hs0⟩:=world1 hW0
 have hz:=h.below hB0
 have hO:=OnlyZ.of Z hB0
 clear hW0 h
 obtain ⟨JF,hJF⟩ : ∃JF : Nat->Act->World->Prop,∀f a' wt,JF f a' wt ↔ ∃(k : Nat) (x' : Bst) (u8 u9 u10 u11 u13 u14 u15 u16 u17 u18 u19 u20 u21 u22 u23 u24 u25 u26 u27 u28 u29 u30 u31 u32 u33 u34 u35 u36 u37 u38 u39 u40 u41 u42 u43 u44 u45 u46 u47 u48 u49 u50 u51 u52 u53 u54 u55 u56 u57 u58 u59 u60 u61 u62 u63 u64 u65 u66 u67 u68 u69 u70 u71 u72 u73 u74 u75 u76 u77 u78 u79 u80 u81 u82 : Value),a' = { tmps:=#[.agg #[.slice (some ⟨g,0,none⟩) n sc,.slice uo n tc,.slice io n ic],.int .i64 m,.int .i64 rank,.pointer (some ⟨w.heap.size,0,none⟩),undef,undef,.bool false,.int .i64 k,u8,u9,u10,u11,undef,u13,u14,u15,u16,u17,u18,u19,u20,u21,u22,u23,u24,u25,u26,u27,u28,u29,u30,u31,u32,u33,u34,u35,u36,u37,u38,u39,u40,u41,u42,u43,u44,u45,u46,u47,u48,u49,u50,u51,u52,u53,u54,u55,u56,u57,u58,u59,u60,u61,u62,u63,u64,u65,u66,u67,u68,u69,u70,u71,u72,u73,u74,u75,u76,u77,u78,u79,u80,u81,u82,undef,undef,undef,undef,undef,undef,undef,undef,undef,undef,undef,undef,undef,undef,undef,undef,undef,undef,undef,undef,undef,undef,undef,undef,undef,undef,undef,undef],defers:=[] }/\k<=rank ∧
  OnlyZ Z w wt/\Blk wt w.heap.size 114 #[.slice (some ⟨g,0,none⟩) n sc,.slice uo n tc,.slice io n ic]/\BandZ Z wt (.slice (some ⟨g,0,none⟩) n sc) (.slice uo n tc) (.slice io n ic) n Cs Ct x'/\HidS (okB B n Cs Ct x'/\takeGo B n Cs Ct m rank f k x' = some (y,bb)):=⟨_,fun _ _ _=>Iff.rfl⟩
 have HJF:=HidS.mk hJF
 clear hJF
 refine wp_scope_label (fun a' wt=>∃f,JF f a' wt) (fun a' wt=>leastOf (fun f=>JF f a' wt)) rfl ?_ ?_
 ·go_wp2
  exact ⟨ff,(HJF.out _ _ _).2 ⟨0,x,_,_,_,_,_,_,_,_,_,_,_,_,_,_,_,_,_,_,_,_,_,_,_,_,_,_,_,_,_,_,_,_,_,_,_,_,_,_,_,_,_,_,_,_,_,_,_,_,_,_,_,_,_,_,_,_,_,_,_,_,_,_,_,_,_,_,_,_,_,_,_,_,_,_,rfl,Nat.zero_le _,hO,bx,hz,HO0⟩⟩
 ·intro a' wr hJ
  obtain ⟨f1,hJ⟩:=hJ
  replace hJ:=(leastOf_spec (P:=fun f=>JF f a' wr) hJ).1
  generalize leastOf (fun f=>JF f a' wr) = f0 at hJ ⊢
  rw [HJF.out] at hJ
  obtain ⟨k,x',u8,u9,u10,u11,u13,u14,u15,u16,u17,u18,u19,u20,u21,u22,u23,u24,u25,u26,u27,u28,u29,u30,u31,u32,u33,u34,u35,u36,u37,u38,u39,u40,u41,u42,u43,u44,u45,u46,u47,u48,u49,u50,u51,u52,u53,u54,u55,u56,u57,u58,u59,u60,u61,u62,u63,u64,u65,u66,u67,u68,u69,u70,u71,u72,u73,u74,u75,u76,u77,u78,u79,u80,u81,u82,rfl,hk,hO,bx,hz,hox⟩:=hJ
  obtain ⟨hok,ht⟩:=hox.out
  clear HO0 hox
  cases f0 with
  | zero=>cases ht
  | succ f=>
   unfold takeGo at ht
   obtain ⟨bm,o1,hrow⟩:=hz.row hm
   obtain ⟨c1,c2,c3,c4,c5,c6⟩:=bx.three
   have HOK:=HidS.mk hok
   have HT0:=HidS.mk ht
   clear hok ht
   go_wp2_with fail
   refine (leading_any _ (genV Cs (x'.s m)) _ (hrow.vec (genV_length _ _) (Nat.le_refl _) oM)).mono ?_
   rintro e w1 ⟨rfl,hb1⟩
   have ht:=HT0.out
   clear HT0
   have hz:=hz.below hb1
   have bx:=bx.below hb1
   have hO:=hO.trans (OnlyZ.of Z hb1)
   clear o1 hrow c1 c2 c3 c4 c5 c6
   by_cases hneg : lead Cs x'.s m < 0
   ·rw [if_pos hneg] at ht
    injection ht with ht
    injection ht with ht1 ht2
    subst ht1
    subst ht2
    have hL : leadGo 0 (genV Cs (x'.s m)) = -1:=by
     rcases lead_spec Cs x'.s m with ⟨h1,-⟩ | ⟨j,h1,-⟩
     ·exact h1
     ·omega
    rw [hL]
    have HOK':=HOK
    clear hneg hL
    go_wp2
    rw [Exit.jump_ret]
    go_ret
    exact ⟨rfl,hO,hz,HOK.out⟩
   ·rw [if_neg hneg] at ht
    obtain ⟨c,hLc,hcC,-,-⟩:=lead_nat hneg
    have hL : leadGo 0 (genV Cs (x'.s m)) = (c : Int):=hLc
    rw [hL]
    rw [hLc,Int.toNat_natCast] at ht
    have HT:=HidS.mk ht
    have HLC:=HidS.mk hLc
    clear ht hneg hL hLc
    go_wp2
    go_loopw [7] (fun kv wt=>∃k' : Nat,kv = .int .i64 k'/\k'<=rank/\Below w1.heap.size w1 wt/\HidS (adv (lead Cs x'.s) (c : Int) (rank - k) k = adv (lead Cs x'.s) (c : Int) (rank - k') k')) (fun kv _=>rank - (intOf kv).toNat)
    case atStart=>exact ⟨k,rfl,hk,Below.refl _ _,⟨rfl⟩⟩
    case round=>
     rename World=>wt
     obtain ⟨k',rfl,hk',hb2,hadv⟩:=hrel
     have hz:=hz.below hb2
     have bx:=bx.below hb2
     have hO:=hO.trans (OnlyZ.of Z hb2)
     by_cases hkr : k' < rank
     ·obtain ⟨bk,o2,hrowk⟩:=hz.row (i:=k') oM
      obtain ⟨c1,c2,c3,c4,c5,c6⟩:=bx.three
      go_wp2_with fail
      refine (leading_any _ (genV Cs (x'.s k')) _ (hrowk.vec (genV_length _ _) (Nat.le_refl _) oM)).mono ?_
      rintro e w3 ⟨rfl,hb3⟩
      have hz:=hz.below hb3
      have bx:=bx.below hb3
      have hO:=hO.trans (OnlyZ.of Z hb3)
      clear o2 hrowk c1 c2 c3 c4 c5 c6
      obtain ⟨L,hL⟩ : ∃L,leadGo 0 (genV Cs (x'.s k')) = L:=⟨_,rfl⟩
      have hLk : lead Cs x'.s k' = L:=hL
      rw [hL]
      by_cases hlt : L < (c : Int)
      ·go_wp2
       go_roundw
       case rel=>exact ⟨k' + 1,by simp,by omega,nx hb2 hb3,⟨hadv.out.trans (adv_step hkr (by rw [hLk]; exact hlt))⟩⟩
       case measure=>simp [intOf]; omega
      ·have ht:=HT.out
       rw [hadv.out,adv_stop (by rw [hLk]; exact hlt)] at ht
       clear HT
       obtain ⟨bk,o2,hrowk⟩:=hz.row (i:=k') oM
       obtain ⟨c1,c2,c3,c4,c5,c6⟩:=bx.three
       have HT:=HidS.mk ht
       clear ht
       go_wp2_with fail
       refine (leading_any _ (genV Cs (x'.s k')) _ (hrowk.vec (genV_length _ _) (Nat.le_refl _) oM)).mono ?_
       rintro e w4 ⟨rfl,hb4⟩
       have hz:=hz.below hb4
       have bx:=bx.below hb4
       have hO:=hO.trans (OnlyZ.of Z hb4)
       have ht:=HT.out
       have hok:=HOK.out
       clear o2 hrowk c1 c2 c3 c4 c5 c6 HT
       rw [hL]
       by_cases heq : L = (c : Int)
       ·subst heq
        rw [if_pos ⟨hkr,hLk⟩] at ht
        have hne0 : x'.s k' c ≠ 0:=by
         rcases lead_spec Cs x'.s k' with ⟨h1,-⟩ | ⟨j,h1,-,h3,-⟩
         ·omega
         ·obtain rfl : j = c:=by omega
          exact h3
        by_cases hadd : okAdd B n Cs Ct x' m k' (-(x'.s m c / x'.s k' c))
        ·rw [if_pos hadd] at ht
         have HT:=HidS.mk ht
         have HADD:=HidS.mk hadd
         have SX : HidS (Sm (x'.s m c)):=⟨hB.sm _ (hok.1 m hm c hcC)⟩
         have SY : HidS (Sm (x'.s k' c)):=⟨hB.sm _ (hok.1 k' oM c hcC)⟩
         have SQ : HidS (Sm (x'.s m c / x'.s k' c)):=⟨hB.sm _ (by have:=hadd.1; rwa [Int.natAbs_neg] at this)⟩
         clear ht hadd hok
         obtain ⟨bm,o1,hrow⟩:=hz.row hm
         obtain ⟨bk,o2,hrowk⟩:=hz.row (i:=k') oM
         obtain ⟨c1,c2,c3,c4,c5,c6⟩:=bx.three
         obtain ⟨xs,xa,xl,xc,v1,v2,-,-,hx⟩:=hrow.cell (genV_get hcC)
         obtain ⟨ys,ya,yl,yc,r1,r2,-,-,hy⟩:=hrowk.cell (genV_get hcC)
         have hlast:=lasts_dm (x'.s m c) (x'.s k' c)
         have l0:=bx.lt
         have l1:=hrow.lt
         have l2:=hrowk.lt
         have lg:=hz.glt hm
         have HNE:=HidS.mk hne0
         have hkn : k' < n:=by omega
         clear hne0 hadv
         go_upto_region 8 with (fail)
         refine wp_region_each rfl (RI w4 (w4.heap.size) _ 45
           [⟨0,50,fun _ v=>v = .pointer (some ⟨w.heap.size,0,none⟩)⟩,⟨1,51,fun _ v=>v = .slice (some ⟨g,0,none⟩) n sc⟩,⟨2,52,fun _ v=>v = .int .i64 m⟩,⟨3,53,fun _ v=>v = .pointer (some ⟨g,m,none⟩)⟩,⟨4,54,fun _ v=>v = .slice (some ⟨bm,0,none⟩) Cs Cs⟩,⟨5,55,fun _ v=>v = .int .i64 c⟩,⟨6,56,fun _ v=>v = .pointer (some ⟨bm,c * 2,none⟩)⟩,⟨7,57,fun _ v=>v = .agg #[.bool xs,.slice xa xl xc]⟩,⟨8,58,fun _ v=>v = .pointer (some ⟨w.heap.size,0,none⟩)⟩,⟨9,59,fun _ v=>v = .slice (some ⟨g,0,none⟩) n sc⟩,⟨10,60,fun _ v=>v = .int .i64 k'⟩,⟨11,61,fun _ v=>v = .pointer (some ⟨g,k',none⟩)⟩,⟨12,62,fun _ v=>v = .slice (some ⟨bk,0,none⟩) Cs Cs⟩,⟨13,63,fun _ v=>v = .int .i64 c⟩,⟨14,64,fun _ v=>v = .pointer (some ⟨bk,c * 2,none⟩)⟩,⟨15,65,fun _ v=>v = .agg #[.bool ys,.slice ya yl yc]⟩,⟨16,66,DMV (x'.s m c) (x'.s k' c)⟩,⟨17,49,DMV (x'.s m c) (x'.s k' c)⟩,⟨18,67,fun w v=>IntV w v (x'.s m c / x'.s k' c)⟩,⟨19,68,fun w v=>IntV w v (x'.s m c % x'.s k' c)⟩,⟨20,69,fun _ v=>v = .int .i64 0⟩,⟨25,11,fun _ v=>v = .int .i64 0⟩]
           [⟨21,9,23,fun w v=>IntV w v (x'.s m c / x'.s k' c)⟩,⟨22,10,24,fun w v=>IntV w v (x'.s m c % x'.s k' c)⟩] []) kR RI.start ?fin1 ?steps1
         case steps1=>
          refine ⟨?_,?_,?_,?_,?_,?_,?_,?_,?_,?_,?_,?_,?_,?_,?_,?_,?_,?_,?_,?_,?_,?_,?_,?_,?_,?_,trivial⟩ <;> (intro L T wS hL hd hcl hI K hK; try refine step_wanted rfl ?_)
          ·have zt : T[3]? = some (.pointer (some ⟨w.heap.size,0,none⟩)):=hI.keep 3 sI sI
           go_simp
           exact hK _ _ (hI.y mm0 rfl)
          ·obtain ⟨v0,zt0,rfl⟩:=hI.v mm0 (hd 0)
           have cc0:=hI.cell c1 oM nom
           go_simp
           exact hK _ _ (hI.y mm1 rfl)
          ·have zt : T[1]? = some (.int .i64 m):=hI.keep 1 sI sI
           go_simp
           exact hK _ _ (hI.y mm2 rfl)
          ·obtain ⟨v1,zt1,rfl⟩:=hI.v mm1 (hd 1)
           obtain ⟨v2,zt2,rfl⟩:=hI.v mm2 (hd 2)
           go_simp
           exact hK _ _ (hI.y mm3 rfl)
          ·obtain ⟨v3,zt3,rfl⟩:=hI.v mm3 (hd 3)
           have cc0:=hI.cell o1 oM nom
           go_simp
           exact hK _ _ (hI.y mm4 rfl)
          ·have zt : T[8]? = some (.int .i64 c):=hI.keep 8 sI sI
           go_simp
           exact hK _ _ (hI.y mm5 rfl)
          ·obtain ⟨v4,zt4,rfl⟩:=hI.v mm4 (hd 4)
           obtain ⟨v5,zt5,rfl⟩:=hI.v mm5 (hd 5)
           go_simp
           exact hK _ _ (hI.y mm6 rfl)
          ·obtain ⟨v6,zt6,rfl⟩:=hI.v mm6 (hd 6)
           have cc0:=hI.cell v1 oM nom
           have cc1:=hI.cell v2 oM nom
           go_simp
           exact hK _ _ (hI.y mm7 rfl)
          ·have zt : T[3]? = some (.pointer (some ⟨w.heap.size,0,none⟩)):=hI.keep 3 sI sI
           go_simp
           exact hK _ _ (hI.y mm8 rfl)
          ·obtain ⟨v8,zt8,rfl⟩:=hI.v mm8 (hd 8)
           have cc0:=hI.cell c1 oM nom
           go_simp
           exact hK _ _ (hI.y mm9 rfl)
          ·have zt : T[7]? = some (.int .i64 k'):=hI.keep 7 sI sI
           go_simp
           exact hK _ _ (hI.y mm10 rfl)
          ·obtain ⟨v9,zt9,rfl⟩:=hI.v mm9 (hd 9)
           obtain ⟨v10,zt10,rfl⟩:=hI.v mm10 (hd 10)
           go_simp
           exact hK _ _ (hI.y mm11 rfl)
          ·obtain ⟨v11,zt11,rfl⟩:=hI.v mm11 (hd 11)
           have cc0:=hI.cell o2 oM nom
           go_simp
           exact hK _ _ (hI.y mm12 rfl)
          ·have zt : T[8]? = some (.int .i64 c):=hI.keep 8 sI sI
           go_simp
           exact hK _ _ (hI.y mm13 rfl)
          ·obtain ⟨v12,zt12,rfl⟩:=hI.v mm12 (hd 12)
           obtain ⟨v13,zt13,rfl⟩:=hI.v mm13 (hd 13)
           go_simp
           exact hK _ _ (hI.y mm14 rfl)
          ·obtain ⟨v14,zt14,rfl⟩:=hI.v mm14 (hd 14)
           have cc0:=hI.cell r1 oM nom
           have cc1:=hI.cell r2 oM nom
           go_simp
           exact hK _ _ (hI.y mm15 rfl)
          ·obtain ⟨v7,zt7,rfl⟩:=hI.v mm7 (hd 7)
           obtain ⟨v15,zt15,rfl⟩:=hI.v mm15 (hd 15)
           go_simp
           refine (divmodT _ _ (x'.s m c) (x'.s k' c) _ (hx.ext hI.lext).weak (hy.ext hI.lext).weak SX.out SY.out HNE.out).mono ?_
           rintro e wa ⟨v,rfl,hv,hba⟩
           exact hK _ _ ((hI.world hba).y mm16 hv)
          ·obtain ⟨v16,zt16,h16⟩:=hI.v mm16 (hd 16)
           go_simp
           exact hK _ _ (hI.y mm17 h16)
          ·obtain ⟨v17,zt17,h17⟩:=hI.v mm17 (hd 17)
           obtain ⟨q,r,rfl,hq,hr⟩:=h17
           go_simp
           exact hK _ _ (hI.y mm18 hq)
          ·obtain ⟨v17,zt17,h17⟩:=hI.v mm17 (hd 17)
           obtain ⟨q,r,rfl,hq,hr⟩:=h17
           go_simp
           exact hK _ _ (hI.y mm19 hr)
          ·obtain ⟨v17,zt17,h17⟩:=hI.v mm17 (hd 17)
           obtain ⟨q,r,rfl,hq,hr⟩:=h17
           go_simp
           exact hK _ _ (hI.y mm20 rfl)
          ·go_simp
           exact hK _ _ (hI.alloc ⟨21,9,23,_⟩ mm0 rfl hL)
          ·go_simp
           exact hK _ _ (hI.alloc ⟨22,10,24,_⟩ mm1 rfl hL)
          ·obtain ⟨v,t1,hv⟩:=hI.v mm18 (hd 18)
           obtain ⟨b,x,y,t2,hb1,hb2,-⟩:=hI.box _ mm0 (hd 21)
           obtain ⟨vneg,vao,vlen,vcap,vls,rfl,hv'⟩:=id hv
           have HT:=Lib.hid t2
           unfold ptr at t2
           obtain ⟨k1,k2,k3,k4⟩:=hb2.two
           go_simp
           exact hK _ _ (hI.store ⟨21,9,23,_⟩ mm0 rfl (hd 21) HT.out hv)
          ·obtain ⟨v,t1,hv⟩:=hI.v mm19 (hd 19)
           obtain ⟨b,x,y,t2,hb1,hb2,-⟩:=hI.box _ mm1 (hd 22)
           obtain ⟨vneg,vao,vlen,vcap,vls,rfl,hv'⟩:=id hv
           have HT:=Lib.hid t2
           unfold ptr at t2
           obtain ⟨k1,k2,k3,k4⟩:=hb2.two
           go_simp
           exact hK _ _ (hI.store ⟨22,10,24,_⟩ mm1 rfl (hd 22) HT.out hv)
          ·obtain ⟨v20,zt20,rfl⟩:=hI.v mm20 (hd 20)
           go_simp
           exact hK _ _ (hI.y mm21 rfl)
         intro T w9 hI
         obtain ⟨va0,q0,rfl⟩:=hI.v mm0 rfl
         obtain ⟨va1,q1,rfl⟩:=hI.v mm1 rfl
         obtain ⟨va2,q2,rfl⟩:=hI.v mm2 rfl
         obtain ⟨va3,q3,rfl⟩:=hI.v mm3 rfl
         obtain ⟨va4,q4,rfl⟩:=hI.v mm4 rfl
         obtain ⟨va5,q5,rfl⟩:=hI.v mm5 rfl
         obtain ⟨va6,q6,rfl⟩:=hI.v mm6 rfl
         obtain ⟨va7,q7,rfl⟩:=hI.v mm7 rfl
         obtain ⟨va8,q8,rfl⟩:=hI.v mm8 rfl
         obtain ⟨va9,q9,rfl⟩:=hI.v mm9 rfl
         obtain ⟨va10,q10,rfl⟩:=hI.v mm10 rfl
         obtain ⟨va11,q11,rfl⟩:=hI.v mm11 rfl
         obtain ⟨va12,q12,rfl⟩:=hI.v mm12 rfl
         obtain ⟨va13,q13,rfl⟩:=hI.v mm13 rfl
         obtain ⟨va14,q14,rfl⟩:=hI.v mm14 rfl
         obtain ⟨va15,q15,rfl⟩:=hI.v mm15 rfl
         obtain ⟨va16,q16,ha16⟩:=hI.v mm16 rfl
         obtain ⟨va17,q17,ha17⟩:=hI.v mm17 rfl
         obtain ⟨va18,q18,ha18⟩:=hI.v mm18 rfl
         replace ha18 : IntV w9 va18 (x'.s m c / x'.s k' c):=ha18
         obtain ⟨va19,q19,ha19⟩:=hI.v mm19 rfl
         replace ha19 : IntV w9 va19 (x'.s m c % x'.s k' c):=ha19
         obtain ⟨va20,q20,rfl⟩:=hI.v mm20 rfl
         obtain ⟨va25,q25,rfl⟩:=hI.v mm21 rfl
         obtain ⟨ca21,xa21,ya21,r21,ga21,ka21,ia21⟩:=hI.box _ mm0 rfl
         replace ia21 : IntV w9 (.agg #[xa21,ya21]) (x'.s m c / x'.s k' c):=ia21 rfl
         obtain ⟨ca22,xa22,ya22,r22,ga22,ka22,ia22⟩:=hI.box _ mm1 rfl
         replace ia22 : IntV w9 (.agg #[xa22,ya22]) (x'.s m c % x'.s k' c):=ia22 rfl
         have na21_22:=hI.far _ mm0 _ mm1 sI rfl rfl ca21 ca22 r21 r22
         have hT:=tmps_set [(50,.pointer (some ⟨w.heap.size,0,none⟩)),(51,.slice (some ⟨g,0,none⟩) n sc),(52,.int .i64 m),(53,.pointer (some ⟨g,m,none⟩)),(54,.slice (some ⟨bm,0,none⟩) Cs Cs),(55,.int .i64 c),(56,.pointer (some ⟨bm,c * 2,none⟩)),(57,.agg #[.bool xs,.slice xa xl xc]),(58,.pointer (some ⟨w.heap.size,0,none⟩)),(59,.slice (some ⟨g,0,none⟩) n sc),(60,.int .i64 k'),(61,.pointer (some ⟨g,k',none⟩)),(62,.slice (some ⟨bk,0,none⟩) Cs Cs),(63,.int .i64 c),(64,.pointer (some ⟨bk,c * 2,none⟩)),(65,.agg #[.bool ys,.slice ya yl yc]),(66,va16),(49,va17),(67,va18),(68,va19),(69,.int .i64 0),(11,.int .i64 0),(9,ptr ca21),(10,ptr ca22)]
          (fun j hj=>hI.keep j (by simp only [List.forall_mem_cons] at hj ⊢; simp [hj]) (by simp only [List.forall_mem_cons] at hj ⊢; simp [hj]))
          (by simp only [List.forall_mem_cons]; simp [q0,q1,q2,q3,q4,q5,q6,q7,q8,q9,q10,q11,q12,q13,q14,q15,q16,q17,q18,q19,q20,q25,r21,r22]) hI.size
         have hlw9:=hI.lext
         have hbw9:=hI.bel (w4.heap.size) oM nom
         have holdw9:=hI.old
         clear hI
         simp only [List.foldl_cons,List.foldl_nil,List.setIfInBounds_toArray,List.set_cons_zero,List.set_cons_succ,ptr] at hT
         subst hT
         clear q0 q1 q2 q3 q4 q5 q6 q7 q8 q9 q10 q11 q12 q13 q14 q15 q16 q17 q18 q19 q20 q25 r21 r22
         obtain ⟨qs,qa,ql,qc,rfl,rfl⟩:=ia21.two
         obtain ⟨rs,ra,rl,rc,rfl,rfl⟩:=ia22.two
         have hz:=hz.below hbw9
         have bx:=bx.below hbw9
         have hO:=hO.trans (OnlyZ.of Z hbw9)
         have lq:=ka21.lt
         have lr:=ka22.lt
         have hsz4:=hbw9.size
         clear o1 o2 c1 c2 c3 c4 c5 c6 v1 v2 r1 r2
         obtain ⟨c1,c2,c3,c4,c5,c6⟩:=bx.three
         obtain ⟨d1,d2,d3,d4⟩:=ka21.two
         have l0:=bx.lt
         go_upto_region 9 with (fail)
         refine wp_region_headed 5 rfl (RI w9 (w9.heap.size) _ 45
           [⟨0,70,fun _ v=>v = .agg #[.slice (some ⟨g,0,none⟩) n sc,.slice uo n tc,.slice io n ic]⟩,⟨1,71,fun _ v=>v = .int .i64 m⟩,⟨2,72,fun _ v=>v = .int .i64 k'⟩,⟨3,73,fun _ v=>v = .agg #[.bool qs,.slice qa ql qc]⟩,⟨4,74,fun w v=>IntV w v (-(x'.s m c / x'.s k' c))⟩]
           [] []) kR RI.start ?fin2 ?steps2
         case steps2=>
          refine ⟨?_,?_,?_,?_,?_,trivial⟩ <;> (intro L T wS hL hd hcl hI K hK; try refine step_wanted rfl ?_)
          ·have zt : T[3]? = some (.pointer (some ⟨w.heap.size,0,none⟩)):=hI.keep 3 sI sI
           have cc0:=hI.cell c1 oM nom
           have cc1:=hI.cell c2 oM nom
           have cc2:=hI.cell c3 oM nom
           go_simp
           exact hK _ _ (hI.y mm0 rfl)
          ·have zt : T[1]? = some (.int .i64 m):=hI.keep 1 sI sI
           go_simp
           exact hK _ _ (hI.y mm1 rfl)
          ·have zt : T[7]? = some (.int .i64 k'):=hI.keep 7 sI sI
           go_simp
           exact hK _ _ (hI.y mm2 rfl)
          ·have zt : T[9]? = some (.pointer (some ⟨ca21,0,none⟩)):=hI.keep 9 sI sI
           have cc0:=hI.cell d1 oM nom
           have cc1:=hI.cell d2 oM nom
           go_simp
           exact hK _ _ (hI.y mm3 rfl)
          ·obtain ⟨v3,zt3,rfl⟩:=hI.v mm3 (hd 3)
           go_simp
           refine (neg_any _ (x'.s m c / x'.s k' c) _ (ia21.ext hI.lext).weak SQ.out).mono ?_
           rintro e wa ⟨v,rfl,hv,hba⟩
           exact hK _ _ ((hI.world hba).y mm4 hv)
         intro T w11 hI
         obtain ⟨vy0,q0,rfl⟩:=hI.v mm0 rfl
         obtain ⟨vy1,q1,rfl⟩:=hI.v mm1 rfl
         obtain ⟨vy2,q2,rfl⟩:=hI.v mm2 rfl
         obtain ⟨vy3,q3,rfl⟩:=hI.v mm3 rfl
         obtain ⟨vy4,q4,hy4⟩:=hI.v mm4 rfl
         replace hy4 : IntV w11 vy4 (-(x'.s m c / x'.s k' c)):=hy4
         have hT:=tmps_set [(70,.agg #[.slice (some ⟨g,0,none⟩) n sc,.slice uo n tc,.slice io n ic]),(71,.int .i64 m),(72,.int .i64 k'),(73,.agg #[.bool qs,.slice qa ql qc]),(74,vy4)]
          (fun j hj=>hI.keep j (by simp only [List.forall_mem_cons] at hj ⊢; simp [hj]) (by simp only [List.forall_mem_cons] at hj ⊢; simp [hj]))
          (by simp only [List.forall_mem_cons]; simp [q0,q1,q2,q3,q4]) hI.size
         have hlw11:=hI.lext
         have hbw11:=hI.bel (w9.heap.size) oM nom
         have holdw11:=hI.old
         clear hI
         simp only [List.foldl_cons,List.foldl_nil,List.setIfInBounds_toArray,List.set_cons_zero,List.set_cons_succ,ptr] at hT
         subst hT
         clear q0 q1 q2 q3 q4
         simp only [List.drop_succ_cons,List.drop_zero]
         have hz:=hz.below hbw11
         have bx:=bx.below hbw11
         have hO:=hO.trans (OnlyZ.of Z hbw11)
         have hsz11:=hbw11.size
         clear c1 c2 c3 c4 c5 c6 d1 d2 d3 d4
         go_wp2_with fail
         refine (addZ hB hz HOK.out hm hkn oM hy4 hn hCs hCt HADD.out).mono ?_
         rintro e w12 ⟨⟨uu12,rfl⟩,hO12,hz⟩
         have hok:=HADD.out.ok
         have hO:=hO.trans hO12
         have bx:=hO12.blk bx (fun hh=>by have:=hZ _ hh; omega)
         have k22:=hO12.blk (ka22.below hbw11) (fun hh=>by have:=hZ _ hh; omega)
         have ir:=(ia22.ext (lx hbw11)).ext hO12.lext
         obtain ⟨e1,e2,e3,e4⟩:=k22.two
         have HOK2:=HidS.mk hok
         clear hok
         go_wp2_with fail
         refine (sign_any _ (x'.s m c % x'.s k' c) _ ir.weak).mono ?_
         rintro e w13 ⟨rfl,hb13⟩
         have hz:=hz.below hb13
         have bx:=bx.below hb13
         have hO:=hO.trans (OnlyZ.of Z hb13)
         clear e1 e2 e3 e4
         by_cases hr0 : x'.s m c % x'.s k' c = 0
         ·rw [cmpI_zero hr0]
          rw [if_pos hr0] at HT
          clear hr0
          go_wp2
          go_step3
          refine ⟨rfl,⟨f,(HJF.out _ _ _).2 ⟨k',x'.add m k' (-(x'.s m c / x'.s k' c)),_,_,_,_,_,_,_,_,_,_,_,_,_,_,_,_,_,_,_,_,_,_,_,_,_,_,_,_,_,_,_,_,_,_,_,_,_,_,_,_,_,_,_,_,_,_,_,_,_,_,_,_,_,_,_,_,_,_,_,_,_,_,_,_,_,_,_,_,_,_,_,_,_,_,rfl,Nat.le_of_lt hkr,hO,bx,hz,⟨HOK2.out,HT.out⟩⟩⟩,leastOf_lt ((HJF.out _ _ _).2 ⟨k',x'.add m k' (-(x'.s m c / x'.s k' c)),_,_,_,_,_,_,_,_,_,_,_,_,_,_,_,_,_,_,_,_,_,_,_,_,_,_,_,_,_,_,_,_,_,_,_,_,_,_,_,_,_,_,_,_,_,_,_,_,_,_,_,_,_,_,_,_,_,_,_,_,_,_,_,_,_,_,_,_,_,_,_,_,_,_,rfl,Nat.le_of_lt hkr,hO,bx,hz,⟨HOK2.out,HT.out⟩⟩) (Nat.lt_succ_self f)⟩
         ·have hc:=cmpI_ne hr0
          obtain ⟨k0,hk0⟩ : ∃k0,cmpI (x'.s m c % x'.s k' c) 0 = k0:=⟨_,rfl⟩
          rw [hk0] at hc ⊢
          rw [if_neg hr0] at HT
          clear hk0 hr0
          obtain ⟨c1,c2,c3,c4,c5,c6⟩:=bx.three
          go_wp2_with fail
          refine (swapZ hz hm hkn hn).mono ?_
          rintro e w14 ⟨⟨uu14,rfl⟩,hO14,hz⟩
          have HOK2:=HidS.mk (okB_swap HOK2.out hm hkn)
          have hO:=hO.trans hO14
          have bx:=hO14.blk bx (fun hh=>by have:=hZ _ hh; omega)
          go_wp2
          go_step3
          refine ⟨rfl,⟨f,(HJF.out _ _ _).2 ⟨k',(x'.add m k' (-(x'.s m c / x'.s k' c))).swap m k',_,_,_,_,_,_,_,_,_,_,_,_,_,_,_,_,_,_,_,_,_,_,_,_,_,_,_,_,_,_,_,_,_,_,_,_,_,_,_,_,_,_,_,_,_,_,_,_,_,_,_,_,_,_,_,_,_,_,_,_,_,_,_,_,_,_,_,_,_,_,_,_,_,_,rfl,Nat.le_of_lt hkr,hO,bx,hz,⟨HOK2.out,HT.out⟩⟩⟩,leastOf_lt ((HJF.out _ _ _).2 ⟨k',(x'.add m k' (-(x'.s m c / x'.s k' c))).swap m k',_,_,_,_,_,_,_,_,_,_,_,_,_,_,_,_,_,_,_,_,_,_,_,_,_,_,_,_,_,_,_,_,_,_,_,_,_,_,_,_,_,_,_,_,_,_,_,_,_,_,_,_,_,_,_,_,_,_,_,_,_,_,_,_,_,_,_,_,_,_,_,_,_,_,rfl,Nat.le_of_lt hkr,hO,bx,hz,⟨HOK2.out,HT.out⟩⟩) (Nat.lt_succ_self f)⟩
        ·rw [if_neg hadd] at ht
         cases ht
       ·have hno : ¬ (k' < rank/\lead Cs x'.s k' = (c : Int)):=fun hh=>heq (hLk.symm.trans hh.2)
        rw [if_neg hno] at ht
        injection ht with ht
        injection ht with ht1 ht2
        subst ht2
        have HT:=HidS.mk ht1
        clear ht1 hno
        obtain ⟨c1,c2,c3,c4,c5,c6⟩:=bx.three
        obtain ⟨bm,o1,hrow⟩:=hz.row hm
        obtain ⟨zs,za,zl,zc,v1,v2,-,-,hv⟩:=hrow.cell (genV_get hcC)
        go_wp2_with fail
        refine (sign_any _ (x'.s m c) _ hv.weak).mono ?_
        rintro e w5 ⟨rfl,hb5⟩
        have hz:=hz.below hb5
        have bx:=bx.below hb5
        have hO:=hO.trans (OnlyZ.of Z hb5)
        clear v1 v2 o1 hrow hv c1 c2 c3 c4 c5 c6
        obtain ⟨x2,hx2⟩ : ∃x2 : Bst,x2 = (if x'.s m c < 0 then x'.neg m else x'):=⟨_,rfl⟩
        rw [<-hx2] at HT
        by_cases hneg : x'.s m c < 0
        ·rw [cmpI_lt hneg]
         rw [if_pos hneg] at hx2
         obtain ⟨c1,c2,c3,c4,c5,c6⟩:=bx.three
         go_wp2_with fail
         refine (negZ hB hz hok hm hn hCs hCt).mono ?_
         rintro e w6 ⟨⟨uu,rfl⟩,hO6,hz⟩
         have hok:=okB_neg (i:=m) hok
         rw [<-hx2] at hz hok
         have hO:=hO.trans hO6
         have bx:=hO6.blk bx (fun hh=>by have:=hZ _ hh; omega)
         clear c1 c2 c3 c4 c5 c6 hx2 hneg
         obtain ⟨c1,c2,c3,c4,c5,c6⟩:=bx.three
         go_wp2_with fail
         refine (swapZ hz hm hrn hn).mono ?_
         rintro e w7 ⟨⟨uu7,rfl⟩,hO7,hz⟩
         have hok:=okB_swap hok hm hrn
         have hO:=hO.trans hO7
         have bx:=hO7.blk bx (fun hh=>by have:=hZ _ hh; omega)
         have HOK:=HidS.mk hok
         clear c1 c2 c3 c4 c5 c6 hok
         go_wp2
         go_loopw [12] (fun iv wt=>∃(i : Nat) (xi : Bst),iv = .int .i64 i/\k'<=i/\i<=rank/\OnlyZ Z w wt/\Blk wt w.heap.size 114 #[.slice (some ⟨g,0,none⟩) n sc,.slice uo n tc,.slice io n ic]/\BandZ Z wt (.slice (some ⟨g,0,none⟩) n sc) (.slice uo n tc) (.slice io n ic) n Cs Ct xi/\HidS (okB B n Cs Ct xi/\rotB k' (i - k') xi = y)) (fun iv _=>(intOf iv).toNat)
         case atStart=>exact ⟨rank,_,rfl,hk',Nat.le_refl _,hO,bx,hz,⟨⟨HOK.out,HT.out⟩⟩⟩
         case round=>
          rename World=>wv
          obtain ⟨i,xi,rfl,hi1,hi2,hO,bx,hz,hx⟩:=hrel
          obtain ⟨c1,c2,c3,c4,c5,c6⟩:=bx.three
          by_cases hik : k' < i
          ·obtain ⟨p,rfl⟩ : ∃p,i = k' + p + 1:=⟨i - k' - 1,by omega⟩
           go_wp2_with fail
           refine (swapZI (k' + p + 1) (k' + p) hz oM oM hn oM oM).mono ?_
           rintro e w8 ⟨⟨uu8,rfl⟩,hO8,hz⟩
           have bx:=hO8.blk bx (fun hh=>by have:=hZ _ hh; omega)
           go_wp2
           go_roundw
           case rel=>
            refine ⟨k' + p,_,?_,by omega,by omega,hO.trans hO8,bx,hz,⟨⟨okB_swap hx.out.1 oM oM,?_⟩⟩⟩
            ·first | (simp; done) | (congr 1; omega)
            ·have h3:=hx.out.2
             rw [show k' + p + 1 - k' = p + 1 by omega] at h3
             rw [show k' + p - k' = p by omega]
             exact h3
           case measure=>simp [intOf]; omega
          ·obtain rfl : i = k':=by omega
           have h3:=hx.out.2
           rw [Nat.sub_self] at h3
           have HX3:=HidS.mk (show xi = y from h3)
           clear h3
           go_wp2
           rw [Exit.jump_ret]
           go_ret
           exact ⟨rfl,hO,by rw [<-HX3.out]; exact hz,by rw [<-HX3.out]; exact hx.out.1⟩
        ·rw [if_neg hneg] at hx2
         rw [<-hx2] at hz hok
         have hc:=cmpI_nneg hneg
         obtain ⟨k0,hk0⟩ : ∃k0,cmpI (x'.s m c) 0 = k0:=⟨_,rfl⟩
         rw [hk0] at hc ⊢
         clear hx2 hk0 hneg
         obtain ⟨c1,c2,c3,c4,c5,c6⟩:=bx.three
         go_wp2_with fail
         refine (swapZ hz hm hrn hn).mono ?_
         rintro e w7 ⟨⟨uu7,rfl⟩,hO7,hz⟩
         have hok:=okB_swap hok hm hrn
         have hO:=hO.trans hO7
         have bx:=hO7.blk bx (fun hh=>by have:=hZ _ hh; omega)
         have HOK:=HidS.mk hok
         clear c1 c2 c3 c4 c5 c6 hok
         go_wp2
         go_loopw [12] (fun iv wt=>∃(i : Nat) (xi : Bst),iv = .int .i64 i/\k'<=i/\i<=rank/\OnlyZ Z w wt/\Blk wt w.heap.size 114 #[.slice (some ⟨g,0,none⟩) n sc,.slice uo n tc,.slice io n ic]/\BandZ Z wt (.slice (some ⟨g,0,none⟩) n sc) (.slice uo n tc) (.slice io n ic) n Cs Ct xi/\HidS (okB B n Cs Ct xi/\rotB k' (i - k') xi = y)) (fun iv _=>(intOf iv).toNat)
         case atStart=>exact ⟨rank,_,rfl,hk',Nat.le_refl _,hO,bx,hz,⟨⟨HOK.out,HT.out⟩⟩⟩
         case round=>
          rename World=>wv
          obtain ⟨i,xi,rfl,hi1,hi2,hO,bx,hz,hx⟩:=hrel
          obtain ⟨c1,c2,c3,c4,c5,c6⟩:=bx.three
          by_cases hik : k' < i
          ·obtain ⟨p,rfl⟩ : ∃p,i = k' + p + 1:=⟨i - k' - 1,by omega⟩
           go_wp2_with fail
           refine (swapZI (k' + p + 1) (k' + p) hz oM oM hn oM oM).mono ?_
           rintro e w8 ⟨⟨uu8,rfl⟩,hO8,hz⟩
           have bx:=hO8.blk bx (fun hh=>by have:=hZ _ hh; omega)
           go_wp2
           go_roundw
           case rel=>
            refine ⟨k' + p,_,?_,by omega,by omega,hO.trans hO8,bx,hz,⟨⟨okB_swap hx.out.1 oM oM,?_⟩⟩⟩
            ·first | (simp; done) | (congr 1; omega)
            ·have h3:=hx.out.2
             rw [show k' + p + 1 - k' = p + 1 by omega] at h3
             rw [show k' + p - k' = p by omega]
             exact h3
           case measure=>simp [intOf]; omega
          ·obtain rfl : i = k':=by omega
           have h3:=hx.out.2
           rw [Nat.sub_self] at h3
           have HX3:=HidS.mk (show xi = y from h3)
           clear h3
           go_wp2
           rw [Exit.jump_ret]
           go_ret
           exact ⟨rfl,hO,by rw [<-HX3.out]; exact hz,by rw [<-HX3.out]; exact hx.out.1⟩
     ·have ht:=HT.out
      have hA : adv (lead Cs x'.s) (c : Int) (rank - k') k' = k':=by rw [show rank - k' = 0 by omega]; rfl
      rw [hadv.out,hA] at ht
      have hok:=HOK.out
      have hno : ¬ (k' < rank/\lead Cs x'.s k' = (c : Int)):=fun hh=>hkr hh.1
      clear HT hA
      go_upto_region 12 with (fail)
      clear hkr
      rw [if_neg hno] at ht
      injection ht with ht
      injection ht with ht1 ht2
      subst ht2
      have HT:=HidS.mk ht1
      clear ht1 hno
      obtain ⟨c1,c2,c3,c4,c5,c6⟩:=bx.three
      obtain ⟨bm,o1,hrow⟩:=hz.row hm
      obtain ⟨zs,za,zl,zc,v1,v2,-,-,hv⟩:=hrow.cell (genV_get hcC)
      go_wp2_with fail
      refine (sign_any _ (x'.s m c) _ hv.weak).mono ?_
      rintro e w5 ⟨rfl,hb5⟩
      have hz:=hz.below hb5
      have bx:=bx.below hb5
      have hO:=hO.trans (OnlyZ.of Z hb5)
      clear v1 v2 o1 hrow hv c1 c2 c3 c4 c5 c6
      obtain ⟨x2,hx2⟩ : ∃x2 : Bst,x2 = (if x'.s m c < 0 then x'.neg m else x'):=⟨_,rfl⟩
      rw [<-hx2] at HT
      by_cases hneg : x'.s m c < 0
      ·rw [cmpI_lt hneg]
       rw [if_pos hneg] at hx2
       obtain ⟨c1,c2,c3,c4,c5,c6⟩:=bx.three
       go_wp2_with fail
       refine (negZ hB hz hok hm hn hCs hCt).mono ?_
       rintro e w6 ⟨⟨uu,rfl⟩,hO6,hz⟩
       have hok:=okB_neg (i:=m) hok
       rw [<-hx2] at hz hok
       have hO:=hO.trans hO6
       have bx:=hO6.blk bx (fun hh=>by have:=hZ _ hh; omega)
       clear c1 c2 c3 c4 c5 c6 hx2 hneg
       obtain ⟨c1,c2,c3,c4,c5,c6⟩:=bx.three
       go_wp2_with fail
       refine (swapZ hz hm hrn hn).mono ?_
       rintro e w7 ⟨⟨uu7,rfl⟩,hO7,hz⟩
       have hok:=okB_swap hok hm hrn
       have hO:=hO.trans hO7
       have bx:=hO7.blk bx (fun hh=>by have:=hZ _ hh; omega)
       have HOK:=HidS.mk hok
       clear c1 c2 c3 c4 c5 c6 hok
       go_wp2
       go_loopw [12] (fun iv wt=>∃(i : Nat) (xi : Bst),iv = .int .i64 i/\k'<=i/\i<=rank/\OnlyZ Z w wt/\Blk wt w.heap.size 114 #[.slice (some ⟨g,0,none⟩) n sc,.slice uo n tc,.slice io n ic]/\BandZ Z wt (.slice (some ⟨g,0,none⟩) n sc) (.slice uo n tc) (.slice io n ic) n Cs Ct xi/\HidS (okB B n Cs Ct xi/\rotB k' (i - k') xi = y)) (fun iv _=>(intOf iv).toNat)
       case atStart=>exact ⟨rank,_,rfl,hk',Nat.le_refl _,hO,bx,hz,⟨⟨HOK.out,HT.out⟩⟩⟩
       case round=>
        rename World=>wv
        obtain ⟨i,xi,rfl,hi1,hi2,hO,bx,hz,hx⟩:=hrel
        obtain ⟨c1,c2,c3,c4,c5,c6⟩:=bx.three
        by_cases hik : k' < i
        ·obtain ⟨p,rfl⟩ : ∃p,i = k' + p + 1:=⟨i - k' - 1,by omega⟩
         go_wp2_with fail
         refine (swapZI (k' + p + 1) (k' + p) hz oM oM hn oM oM).mono ?_
         rintro e w8 ⟨⟨uu8,rfl⟩,hO8,hz⟩
         have bx:=hO8.blk bx (fun hh=>by have:=hZ _ hh; omega)
         go_wp2
         go_roundw
         case rel=>
          refine ⟨k' + p,_,?_,by omega,by omega,hO.trans hO8,bx,hz,⟨⟨okB_swap hx.out.1 oM oM,?_⟩⟩⟩
          ·first | (simp; done) | (congr 1; omega)
          ·have h3:=hx.out.2
           rw [show k' + p + 1 - k' = p + 1 by omega] at h3
           rw [show k' + p - k' = p by omega]
           exact h3
         case measure=>simp [intOf]; omega
        ·obtain rfl : i = k':=by omega
         have h3:=hx.out.2
         rw [Nat.sub_self] at h3
         have HX3:=HidS.mk (show xi = y from h3)
         clear h3
         go_wp2
         rw [Exit.jump_ret]
         go_ret
         exact ⟨rfl,hO,by rw [<-HX3.out]; exact hz,by rw [<-HX3.out]; exact hx.out.1⟩
      ·rw [if_neg hneg] at hx2
       rw [<-hx2] at hz hok
       have hc:=cmpI_nneg hneg
       obtain ⟨k0,hk0⟩ : ∃k0,cmpI (x'.s m c) 0 = k0:=⟨_,rfl⟩
       rw [hk0] at hc ⊢
       clear hx2 hk0 hneg
       obtain ⟨c1,c2,c3,c4,c5,c6⟩:=bx.three
       go_wp2_with fail
       refine (swapZ hz hm hrn hn).mono ?_
       rintro e w7 ⟨⟨uu7,rfl⟩,hO7,hz⟩
       have hok:=okB_swap hok hm hrn
       have hO:=hO.trans hO7
       have bx:=hO7.blk bx (fun hh=>by have:=hZ _ hh; omega)
       have HOK:=HidS.mk hok
       clear c1 c2 c3 c4 c5 c6 hok
       go_wp2
       go_loopw [12] (fun iv wt=>∃(i : Nat) (xi : Bst),iv = .int .i64 i/\k'<=i/\i<=rank/\OnlyZ Z w wt/\Blk wt w.heap.size 114 #[.slice (some ⟨g,0,none⟩) n sc,.slice uo n tc,.slice io n ic]/\BandZ Z wt (.slice (some ⟨g,0,none⟩) n sc) (.slice uo n tc) (.slice io n ic) n Cs Ct xi/\HidS (okB B n Cs Ct xi/\rotB k' (i - k') xi = y)) (fun iv _=>(intOf iv).toNat)
       case atStart=>exact ⟨rank,_,rfl,hk',Nat.le_refl _,hO,bx,hz,⟨⟨HOK.out,HT.out⟩⟩⟩
       case round=>
        rename World=>wv
        obtain ⟨i,xi,rfl,hi1,hi2,hO,bx,hz,hx⟩:=hrel
        obtain ⟨c1,c2,c3,c4,c5,c6⟩:=bx.three
        by_cases hik : k' < i
        ·obtain ⟨p,rfl⟩ : ∃p,i = k' + p + 1:=⟨i - k' - 1,by omega⟩
         go_wp2_with fail
         refine (swapZI (k' + p + 1) (k' + p) hz oM oM hn oM oM).mono ?_
         rintro e w8 ⟨⟨uu8,rfl⟩,hO8,hz⟩
         have bx:=hO8.blk bx (fun hh=>by have:=hZ _ hh; omega)
         go_wp2
         go_roundw
         case rel=>
          refine ⟨k' + p,_,?_,by omega,by omega,hO.trans hO8,bx,hz,⟨⟨okB_swap hx.out.1 oM oM,?_⟩⟩⟩
          ·first | (simp; done) | (congr 1; omega)
          ·have h3:=hx.out.2
           rw [show k' + p + 1 - k' = p + 1 by omega] at h3
           rw [show k' + p - k' = p by omega]
           exact h3
         case measure=>simp [intOf]; omega
        ·obtain rfl : i = k':=by omega
         have h3:=hx.out.2
         rw [Nat.sub_self] at h3
         have HX3:=HidS.mk (show xi = y from h3)
         clear h3
         go_wp2
         rw [Exit.jump_ret]
         go_ret
         exact ⟨rfl,hO,by rw [<-HX3.out]; exact hz,by rw [<-HX3.out]; exact hx.out.1⟩
end Go.Proofs.YtnocgagoaldfnaaGreat
