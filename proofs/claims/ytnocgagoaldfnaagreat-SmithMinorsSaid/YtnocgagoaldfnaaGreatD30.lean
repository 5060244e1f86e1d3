/- smith: band.reduce. smith: band.echelon. -/
import Derived.Test.YtnocgagoaldfnaaGreatD29
set_option linter.unusedVariables false
set_option linter.unusedSimpArgs false
set_option linter.unusedSectionVars false
namespace Go.Proofs.YtnocgagoaldfnaaGreat
open Go.RowKit
abbrev tN : TypeId:=3
theorem Tryz.infoN : (Tryz.prog.info? tN).map (fun i=>(i.zero,i.size,i.bytes)) = some (some (.int .i64 0),1,8):=by kernel_rfl
def colArr (n : Nat) (g : Nat->Int) : Array Value:=((List.range n).map fun i=>Value.int .i64 (g i)).toArray
theorem colArr_get {n : Nat} {g : Nat->Int} {i : Nat} (h : i < n) : (colArr n g)[i]? = some (.int .i64 (g i)):=by simp [colArr,h]
theorem colArr_set {n : Nat} {g : Nat->Int} {i : Nat} {z : Int} : (colArr n g).setIfInBounds i (.int .i64 z) = colArr n (fun t=>if t = i then z else g t):=by
 apply Array.ext
 ·simp [colArr]
 ·intro a h1 h2
  by_cases e : a = i
  ·subst e; simp [colArr]
  ·have : i ≠ a:=fun h=>e h.symm
   simp [colArr,this,e]
theorem madeN (n : Nat) : madeCells (Value.int .i64 0).cells (n * 1) = colArr n (fun _=>0):=by
 apply Array.ext
 ·simp [madeCells,colArr]
 ·intro i h1 h2
  simp [madeCells,colArr,Nat.mod_one,Value.cells]
theorem mkN (m : Int) (n : Nat) (hm : m = n) (h : n<=1099511627776) (W : World) :
  (Instr.makeSlice 103 (.int .i64 m) (.int .i64 m)).run Tryz.prog W = .ok (.slice (some ⟨W.heap.size,0,none⟩) n n) (W.alloc (.cells (colArr n (fun _=>0)) tN)):=by
 subst hm
 obtain ⟨i0,hi,hz0,hz1,hz2⟩:=info_parts Tryz.infoN
 have:=run_make_rowN (P:=Tryz.prog) 103 tN i0 _ Tryz.underlying103 hi hz0 .i64 .i64 n n (Nat.le_refl _) (by rw [hz2]; omega) oM W
 rw [this,hz1,madeN]
theorem colArr_congr {n : Nat} {f g : Nat->Int} (h : ∀t,t < n->f t = g t) : colArr n f = colArr n g:=by
 unfold colArr
 rw [List.map_congr_left fun t ht=>by rw [h t (List.mem_range.1 ht)]]
def uptoC (f : Nat->Int) (j : Nat) : Nat->Int:=fun t=>if t < j then f t else 0
theorem uptoC_step {n : Nat} {f : Nat->Int} {j : Nat} : colArr n (fun t=>if t = j then f j else uptoC f j t) = colArr n (uptoC f (j + 1)):=
 colArr_congr fun t _=>by
  unfold uptoC
  by_cases h : t = j
  ·subst h; rw [if_pos rfl,if_pos oM]
  ·rw [if_neg h]
   by_cases h2 : t < j
   ·rw [if_pos h2,if_pos oM]
   ·rw [if_neg h2,if_neg oM]
theorem RowsO.same {w w' : World} {base : Nat} {A : Value} {C : Nat} {bs : List Nat} {M : List (List Int)} (h : RowsO w base A C bs M) (hb : ∀b ∈ bs,w'.heap[b]? = w.heap[b]?) (ho : ∀g,A.ownBlock = some g->w'.heap[g]? = w.heap[g]?) (x : LExt w w') : RowsO w' base A C bs M:=by
 refine ⟨⟨h.own.1,?_⟩,h.len,fun k b r h1 h2=>by
  obtain ⟨e1,e2,e3⟩:=h.row k b r h1 h2
  exact ⟨e1,e2,e3.old (hb b (List.mem_of_getElem? h1)) x⟩,h.nodup,h.cb⟩
 rcases h.own.2 with h1 | ⟨g,cap,cur,e1,e2,e3⟩
 ·exact .inl h1
 ·exact .inr ⟨g,cap,cur,e1,e2,(ho g (by rw [e1]; rfl)).trans e3.1,e3.2⟩
theorem BandZ.same {Z : Nat->Prop} {w w' : World} {As At Ai : Value} {n Cs Ct : Nat} {x : Bst} (h : BandZ Z w As At Ai n Cs Ct x) (e : ∀k,Z k->w'.heap[k]? = w.heap[k]?) (hx : LExt w w') : BandZ Z w' As At Ai n Cs Ct x:=by
 obtain ⟨⟨bss,bst,bsi,⟨h1,h2,h3,h4,h5,h6,h7,h8,h9⟩,hz⟩,ho⟩:=h
 exact ⟨⟨bss,bst,bsi,⟨RowsO.same h1 (fun b hb=>e b (hz b (.inl hb))) (fun g hg=>e g (ho g (.inl hg))) hx,RowsO.same h2 (fun b hb=>e b (hz b (.inr (.inl hb)))) (fun g hg=>e g (ho g (.inr (.inl hg)))) hx,
  RowsO.same h3 (fun b hb=>e b (hz b (.inr (.inr hb)))) (fun g hg=>e g (ho g (.inr (.inr hg)))) hx,h4,h5,h6,h7,h8,h9⟩,hz⟩,ho⟩
theorem lead_lt {C : Nat} {F : Nat->Nat->Int} {i : Nat} (h : ¬ lead C F i < 0) : (lead C F i).toNat < C:=by
 obtain ⟨c,h1,h2,-⟩:=lead_nat h
 omega
set_option maxHeartbeats 8000000 in
set_option maxRecDepth 20000 in
theorem reduce_any {Z : Nat->Prop} {B : Nat} (hB : BSm B) {As At Ai : Value} {n Cs Ct : Nat} {x : Bst} {rank : Nat} {y : Bst} {w : World} (hZ : ∀b,Z b->b < w.heap.size) (h : BandZ Z w As At Ai n Cs Ct x) (hok : okB B n Cs Ct x)
  (hr : rank<=n) (hn : n<=1000000) (hCs : Cs<=1000000) (hCt : Ct<=1000000) (hy : reduceB B n Cs Ct rank x = some y) :
  Calls Tryz.prog 119 #[.agg #[As,At,Ai],.int .i64 rank] w fun e w'=>(∃u,e = .returned u)/\OnlyZ Z w w'/\BandZ Z w' As At Ai n Cs Ct y/\okB B n Cs Ct y:=by
 obtain ⟨so,sc,uo,tc,io,ic,rfl,rfl,rfl,hsc,hsc2,hg⟩:=h.shape
 have HX:=HidS.mk (And.intro hok hy)
 obtain ⟨cols,hcols⟩ : ∃cols : Nat->Int,cols = lead Cs x.s:=⟨_,rfl⟩
 have HC:=HidS.mk (fun t=>congrFun hcols t)
 have hmk:=fun W=>mkN (rank : Int) rank rfl oM W
 clear hok hy hcols
 go_enter Tryz.func119,Tryz.ntmps119
 go_upto_region 2 with (fail)
 refine wp_world ?_
 intro W0 hW0
 obtain ⟨hB0,bx,bc,hs0⟩:=world2 hW0
 have hz:=h.below hB0
 have hO:=OnlyZ.of Z hB0
 have hst : colArr rank (fun _=>0) = colArr rank (uptoC cols 0):=colArr_congr fun t _=>by unfold uptoC; rw [if_neg oM]
 rw [hst] at bc
 clear hW0 h hmk hst
 go_wp2
 go_loopw [16] (fun jv wt=>∃j : Nat,jv = .int .i64 j/\j<=rank/\OnlyZ Z w wt/\Blk wt w.heap.size 114 #[.slice so n sc,.slice uo n tc,.slice io n ic]/\Blk wt (w.heap.size + 1) tN (colArr rank (uptoC cols j))/\BandZ Z wt (.slice so n sc) (.slice uo n tc) (.slice io n ic) n Cs Ct x) (fun jv _=>rank - (intOf jv).toNat)
 case atStart=>exact ⟨0,rfl,by omega,hO,bx,bc,hz⟩
 case round=>
  rename World=>wr
  obtain ⟨j,rfl,hj,hO,bx,bc,hz⟩:=hrel
  by_cases hlt : j < rank
  ·obtain ⟨g,rfl⟩:=hg oM
   obtain ⟨bj,o1,hrow⟩:=hz.row (i:=j) oM
   obtain ⟨c1,c2,c3,c4,c5,c6⟩:=bx.three
   go_wp2_with fail
   refine (leading_any _ (genV Cs (x.s j)) _ (hrow.vec (genV_length _ _) (Nat.le_refl _) oM)).mono ?_
   rintro e w1 ⟨rfl,hb1⟩
   have hz:=hz.below hb1
   have bx:=bx.below hb1
   have bc:=bc.below hb1
   have hO:=hO.trans (OnlyZ.of Z hb1)
   have hL : leadGo 0 (genV Cs (x.s j)) = cols j:=(HC.out j).symm
   rw [hL]
   clear o1 hrow c1 c2 c3 c4 c5 c6 hL
   have k1:=(bc.cell j).trans (colArr_get hlt)
   have k2:=bc.frozen j
   have hbs:=bc.set_ j (.int .i64 (cols j))
   rw [colArr_set,uptoC_step] at hbs
   go_wp2
   go_roundw
   case rel=>
    have hx1 : LExt w1 (w1.setCell ⟨w.heap.size + 1,j,none⟩ (.int .i64 (cols j))):=bc.lext dE _ _
    have hO1 : OnlyZ Z w (w1.setCell ⟨w.heap.size + 1,j,none⟩ (.int .i64 (cols j))):=⟨bset hO.bel (Nat.zero_le _) _ _,hO.lext.trans hx1,fun b hb hn=>(setCell_old _ _ _ _ _ oM).trans (hO.old b hb hn)⟩
    exact ⟨j + 1,by simp,by omega,hO1,(setCell_old _ _ _ _ _ oM).trans bx,hbs,hz.same (fun k hk=>setCell_old _ _ _ _ _ (by have:=hZ _ hk; omega)) hx1⟩
   case measure=>simp [intOf]; omega
  ·obtain rfl : j = rank:=by omega
   have hcc : colArr j (uptoC cols j) = colArr j cols:=colArr_congr fun t ht=>by unfold uptoC; rw [if_pos ht]
   rw [hcc] at bc
   clear hcc
   go_wp2
   go_loopw [6] (fun iv wt=>∃(i : Nat) (z : Int) (xi : Bst),iv = .int .i64 z/\z = (i : Int) - 1/\i<=j/\OnlyZ Z w wt/\Blk wt w.heap.size 114 #[.slice so n sc,.slice uo n tc,.slice io n ic]/\Blk wt (w.heap.size + 1) tN (colArr j cols)/\BandZ Z wt (.slice so n sc) (.slice uo n tc) (.slice io n ic) n Cs Ct xi/\HidS (okB B n Cs Ct xi/\redI B n Cs Ct cols j i xi = some y)) (fun iv _=>(intOf iv + 1).toNat)
   case atStart=>
    refine ⟨j,_,x,rfl,rfl,Nat.le_refl _,hO,bx,bc,hz,⟨⟨HX.out.1,?_⟩⟩⟩
    have h3:=HX.out.2
    unfold reduceB at h3
    rw [show cols = lead Cs x.s from funext HC.out]
    exact h3
   case round=>
    rename World=>wr
    obtain ⟨i,z,xi,rfl,hzi,hi,hO,bx,bc,hz,hx⟩:=hrel
    cases i with
    | zero=>
     obtain rfl : z = -1:=by omega
     clear hzi
     have h3:=hx.out.2
     injection h3 with h3
     have H3:=HidS.mk h3
     clear h3
     go_wp2
     exact bodyPost_end (results_none rfl _ _ _) rfl ⟨⟨_,rfl⟩,hO,by rw [<-H3.out]; exact hz,by rw [<-H3.out]; exact hx.out.1⟩
    | succ i=>
     obtain rfl : z = (i : Int):=by omega
     clear hzi
     have h3:=hx.out.2
     unfold redI at h3
     rw [Option.bind_eq_some_iff] at h3
     obtain ⟨r,h4,h5⟩:=h3
     have HR:=HidS.mk h5
     have HJ:=HidS.mk (And.intro hx.out.1 h4)
     clear h4 h5 hx
     obtain ⟨g,rfl⟩:=hg oM
     go_wp2
     go_loopw [7] (fun tv wt=>∃(t : Nat) (xt : Bst),tv = .int .i64 t/\i + 1<=t/\t<=j/\OnlyZ Z w wt/\Blk wt w.heap.size 114 #[.slice (some ⟨g,0,none⟩) n sc,.slice uo n tc,.slice io n ic]/\Blk wt (w.heap.size + 1) tN (colArr j cols)/\BandZ Z wt (.slice (some ⟨g,0,none⟩) n sc) (.slice uo n tc) (.slice io n ic) n Cs Ct xt/\HidS (okB B n Cs Ct xt/\redJ B n Cs Ct cols i (j - t) t xt = some r)) (fun tv _=>j - (intOf tv).toNat)
     case atStart=>exact ⟨i + 1,xi,by simp,by omega,by omega,hO,bx,bc,hz,HJ⟩
     case round=>
      rename World=>wt
      obtain ⟨t,xt,rfl,hit,htj,hO,bx,bc,hz,hx⟩:=hrel
      by_cases hlt2 : t < j
      ·obtain ⟨m,hm⟩ : ∃m,j - t = m + 1:=⟨j - t - 1,by omega⟩
       have hm2 : j - (t + 1) = m:=by omega
       have h3:=hx.out.2
       have hok:=hx.out.1
       rw [hm] at h3
       unfold redJ at h3
       by_cases hc0 : cols t < 0
       ·rw [if_pos hc0] at h3
        cases h3
       ·rw [if_neg hc0] at h3
        have hcC : (cols t).toNat < Cs:=by
         have:=HC.out t
         rw [this] at hc0 ⊢
         exact lead_lt hc0
        obtain ⟨c,hc⟩ : ∃c : Nat,cols t = (c : Int):=⟨(cols t).toNat,by omega⟩
        rw [hc,Int.toNat_natCast] at h3 hcC
        have H3:=HidS.mk h3
        have HOK:=HidS.mk hok
        clear h3 hc0 hok hx
        obtain ⟨c1,c2,c3,c4,c5,c6⟩:=bx.three
        have k1:=(bc.cell t).trans (colArr_get hlt2)
        rw [hc] at k1
        obtain ⟨bi,o1,hrow⟩:=hz.row (i:=i) oM
        obtain ⟨xs,xa,xl,xc,v1,v2,-,-,hx⟩:=hrow.cell (genV_get hcC)
        have hin : i < n:=by omega
        go_wp2_with fail
        refine (sign_any _ (xt.s i c) _ hx.weak).mono ?_
        rintro e w1 ⟨rfl,hb1⟩
        have hz:=hz.below hb1
        have bx:=bx.below hb1
        have bc:=bc.below hb1
        have hO:=hO.trans (OnlyZ.of Z hb1)
        have h3:=H3.out
        clear c1 c2 c3 c4 c5 c6 k1 o1 hrow v1 v2 hx H3
        by_cases hs0 : xt.s i c = 0
        ·rw [if_pos hs0] at h3
         rw [cmpI_zero hs0]
         have H3:=HidS.mk h3
         clear h3 hs0
         go_wp2
         go_roundw
         case rel=>exact ⟨t + 1,xt,by simp,by omega,by omega,hO,bx,bc,hz,⟨⟨HOK.out,by rw [hm2]; exact H3.out⟩⟩⟩
         case measure=>simp [intOf]; omega
        ·rw [if_neg hs0] at h3
         by_cases hne0 : xt.s t c = 0
         ·rw [if_pos hne0] at h3
          cases h3
         ·rw [if_neg hne0] at h3
          have hcn:=cmpI_ne hs0
          obtain ⟨k0,hk0⟩ : ∃k0,cmpI (xt.s i c) 0 = k0:=⟨_,rfl⟩
          rw [hk0] at hcn ⊢
          have htn : t < n:=by omega
          have HNE:=HidS.mk hne0
          have H3:=HidS.mk h3
          have SX : HidS (Sm (xt.s i c)):=⟨hB.sm _ (HOK.out.1 i hin c hcC)⟩
          have SY : HidS (Sm (xt.s t c)):=⟨hB.sm _ (HOK.out.1 t htn c hcC)⟩
          clear h3 hne0 hs0 hk0
          obtain ⟨bi,o1,hrow⟩:=hz.row (i:=i) hin
          obtain ⟨bk,o2,hrowk⟩:=hz.row (i:=t) htn
          obtain ⟨c1,c2,c3,c4,c5,c6⟩:=bx.three
          obtain ⟨xs,xa,xl,xc,v1,v2,-,-,hx⟩:=hrow.cell (genV_get hcC)
          obtain ⟨ys,ya,yl,yc,r1,r2,-,-,hy⟩:=hrowk.cell (genV_get hcC)
          have hlast:=lasts_dm (xt.s i c) (xt.s t c)
          have l0:=bx.lt
          have l3:=bc.lt
          have l1:=hrow.lt
          have l2:=hrowk.lt
          have lg:=hz.glt hin
          go_upto_region 15 with (fail)
          refine wp_region_each rfl (RI w1 (w1.heap.size) _ 45
            [⟨0,57,fun _ v=>v = .pointer (some ⟨w.heap.size,0,none⟩)⟩,⟨1,58,fun _ v=>v = .slice (some ⟨g,0,none⟩) n sc⟩,⟨2,59,fun _ v=>v = .int .i64 i⟩,⟨3,60,fun _ v=>v = .pointer (some ⟨g,i,none⟩)⟩,⟨4,61,fun _ v=>v = .slice (some ⟨bi,0,none⟩) Cs Cs⟩,⟨5,62,fun _ v=>v = .int .i64 c⟩,⟨6,63,fun _ v=>v = .pointer (some ⟨bi,c * 2,none⟩)⟩,⟨7,64,fun _ v=>v = .agg #[.bool xs,.slice xa xl xc]⟩,⟨8,65,fun _ v=>v = .pointer (some ⟨w.heap.size,0,none⟩)⟩,⟨9,66,fun _ v=>v = .slice (some ⟨g,0,none⟩) n sc⟩,⟨10,67,fun _ v=>v = .int .i64 t⟩,⟨11,68,fun _ v=>v = .pointer (some ⟨g,t,none⟩)⟩,⟨12,69,fun _ v=>v = .slice (some ⟨bk,0,none⟩) Cs Cs⟩,⟨13,70,fun _ v=>v = .int .i64 c⟩,⟨14,71,fun _ v=>v = .pointer (some ⟨bk,c * 2,none⟩)⟩,⟨15,72,fun _ v=>v = .agg #[.bool ys,.slice ya yl yc]⟩,⟨16,73,DMV (xt.s i c) (xt.s t c)⟩,⟨17,56,DMV (xt.s i c) (xt.s t c)⟩,⟨18,74,fun w v=>IntV w v (xt.s i c / xt.s t c)⟩,⟨19,75,fun w v=>IntV w v (xt.s i c % xt.s t c)⟩,⟨20,76,fun _ v=>v = .int .i64 0⟩,⟨25,11,fun _ v=>v = .int .i64 0⟩]
            [⟨21,9,23,fun w v=>IntV w v (xt.s i c / xt.s t c)⟩,⟨22,10,24,fun w v=>IntV w v (xt.s i c % xt.s t c)⟩] []) kR RI.start ?fin1 ?steps1
          case steps1=>
           refine ⟨?_,?_,?_,?_,?_,?_,?_,?_,?_,?_,?_,?_,?_,?_,?_,?_,?_,?_,?_,?_,?_,?_,?_,?_,?_,?_,trivial⟩ <;> (intro L T wS hL hd hcl hI K hK; try refine step_wanted rfl ?_)
           ·have zt : T[2]? = some (.pointer (some ⟨w.heap.size,0,none⟩)):=hI.keep 2 sI sI
            go_simp
            exact hK _ _ (hI.y mm0 rfl)
           ·obtain ⟨v0,zt0,rfl⟩:=hI.v mm0 (hd 0)
            have cc0:=hI.cell c1 oM nom
            go_simp
            exact hK _ _ (hI.y mm1 rfl)
           ·have zt : T[6]? = some (.int .i64 i):=hI.keep 6 sI sI
            go_simp
            exact hK _ _ (hI.y mm2 rfl)
           ·obtain ⟨v1,zt1,rfl⟩:=hI.v mm1 (hd 1)
            obtain ⟨v2,zt2,rfl⟩:=hI.v mm2 (hd 2)
            go_simp
            exact hK _ _ (hI.y mm3 rfl)
           ·obtain ⟨v3,zt3,rfl⟩:=hI.v mm3 (hd 3)
            have cc0:=hI.cell o1 oM nom
            go_simp
            exact hK _ _ (hI.y mm4 rfl)
           ·have zt : T[8]? = some (.int .i64 c):=hI.keep 8 sI sI
            go_simp
            exact hK _ _ (hI.y mm5 rfl)
           ·obtain ⟨v4,zt4,rfl⟩:=hI.v mm4 (hd 4)
            obtain ⟨v5,zt5,rfl⟩:=hI.v mm5 (hd 5)
            go_simp
            exact hK _ _ (hI.y mm6 rfl)
           ·obtain ⟨v6,zt6,rfl⟩:=hI.v mm6 (hd 6)
            have cc0:=hI.cell v1 oM nom
            have cc1:=hI.cell v2 oM nom
            go_simp
            exact hK _ _ (hI.y mm7 rfl)
           ·have zt : T[2]? = some (.pointer (some ⟨w.heap.size,0,none⟩)):=hI.keep 2 sI sI
            go_simp
            exact hK _ _ (hI.y mm8 rfl)
           ·obtain ⟨v8,zt8,rfl⟩:=hI.v mm8 (hd 8)
            have cc0:=hI.cell c1 oM nom
            go_simp
            exact hK _ _ (hI.y mm9 rfl)
           ·have zt : T[7]? = some (.int .i64 t):=hI.keep 7 sI sI
            go_simp
            exact hK _ _ (hI.y mm10 rfl)
           ·obtain ⟨v9,zt9,rfl⟩:=hI.v mm9 (hd 9)
            obtain ⟨v10,zt10,rfl⟩:=hI.v mm10 (hd 10)
            go_simp
            exact hK _ _ (hI.y mm11 rfl)
           ·obtain ⟨v11,zt11,rfl⟩:=hI.v mm11 (hd 11)
            have cc0:=hI.cell o2 oM nom
            go_simp
            exact hK _ _ (hI.y mm12 rfl)
           ·have zt : T[8]? = some (.int .i64 c):=hI.keep 8 sI sI
            go_simp
            exact hK _ _ (hI.y mm13 rfl)
           ·obtain ⟨v12,zt12,rfl⟩:=hI.v mm12 (hd 12)
            obtain ⟨v13,zt13,rfl⟩:=hI.v mm13 (hd 13)
            go_simp
            exact hK _ _ (hI.y mm14 rfl)
           ·obtain ⟨v14,zt14,rfl⟩:=hI.v mm14 (hd 14)
            have cc0:=hI.cell r1 oM nom
            have cc1:=hI.cell r2 oM nom
            go_simp
            exact hK _ _ (hI.y mm15 rfl)
           ·obtain ⟨v7,zt7,rfl⟩:=hI.v mm7 (hd 7)
            obtain ⟨v15,zt15,rfl⟩:=hI.v mm15 (hd 15)
            go_simp
            refine (divmodT _ _ (xt.s i c) (xt.s t c) _ (hx.ext hI.lext).weak (hy.ext hI.lext).weak SX.out SY.out HNE.out).mono ?_
            rintro e wa ⟨v,rfl,hv,hba⟩
            exact hK _ _ ((hI.world hba).y mm16 hv)
           ·obtain ⟨v16,zt16,h16⟩:=hI.v mm16 (hd 16)
            go_simp
            exact hK _ _ (hI.y mm17 h16)
           ·obtain ⟨v17,zt17,h17⟩:=hI.v mm17 (hd 17)
            obtain ⟨q,r,rfl,hq,hr⟩:=h17
            go_simp
            exact hK _ _ (hI.y mm18 hq)
           ·obtain ⟨v17,zt17,h17⟩:=hI.v mm17 (hd 17)
            obtain ⟨q,r,rfl,hq,hr⟩:=h17
            go_simp
            exact hK _ _ (hI.y mm19 hr)
           ·obtain ⟨v17,zt17,h17⟩:=hI.v mm17 (hd 17)
            obtain ⟨q,r,rfl,hq,hr⟩:=h17
            go_simp
            exact hK _ _ (hI.y mm20 rfl)
           ·go_simp
            exact hK _ _ (hI.alloc ⟨21,9,23,_⟩ mm0 rfl hL)
           ·go_simp
            exact hK _ _ (hI.alloc ⟨22,10,24,_⟩ mm1 rfl hL)
           ·obtain ⟨v,t1,hv⟩:=hI.v mm18 (hd 18)
            obtain ⟨b,x,y,t2,hb1,hb2,-⟩:=hI.box _ mm0 (hd 21)
            obtain ⟨vneg,vao,vlen,vcap,vls,rfl,hv'⟩:=id hv
            have HT:=Lib.hid t2
            unfold ptr at t2
            obtain ⟨k1,k2,k3,k4⟩:=hb2.two
            go_simp
            exact hK _ _ (hI.store ⟨21,9,23,_⟩ mm0 rfl (hd 21) HT.out hv)
           ·obtain ⟨v,t1,hv⟩:=hI.v mm19 (hd 19)
            obtain ⟨b,x,y,t2,hb1,hb2,-⟩:=hI.box _ mm1 (hd 22)
            obtain ⟨vneg,vao,vlen,vcap,vls,rfl,hv'⟩:=id hv
            have HT:=Lib.hid t2
            unfold ptr at t2
            obtain ⟨k1,k2,k3,k4⟩:=hb2.two
            go_simp
            exact hK _ _ (hI.store ⟨22,10,24,_⟩ mm1 rfl (hd 22) HT.out hv)
           ·obtain ⟨v20,zt20,rfl⟩:=hI.v mm20 (hd 20)
            go_simp
            exact hK _ _ (hI.y mm21 rfl)
          intro T w9 hI
          obtain ⟨va0,q0,rfl⟩:=hI.v mm0 rfl
          obtain ⟨va1,q1,rfl⟩:=hI.v mm1 rfl
          obtain ⟨va2,q2,rfl⟩:=hI.v mm2 rfl
          obtain ⟨va3,q3,rfl⟩:=hI.v mm3 rfl
          obtain ⟨va4,q4,rfl⟩:=hI.v mm4 rfl
          obtain ⟨va5,q5,rfl⟩:=hI.v mm5 rfl
          obtain ⟨va6,q6,rfl⟩:=hI.v mm6 rfl
          obtain ⟨va7,q7,rfl⟩:=hI.v mm7 rfl
          obtain ⟨va8,q8,rfl⟩:=hI.v mm8 rfl
          obtain ⟨va9,q9,rfl⟩:=hI.v mm9 rfl
          obtain ⟨va10,q10,rfl⟩:=hI.v mm10 rfl
          obtain ⟨va11,q11,rfl⟩:=hI.v mm11 rfl
          obtain ⟨va12,q12,rfl⟩:=hI.v mm12 rfl
          obtain ⟨va13,q13,rfl⟩:=hI.v mm13 rfl
          obtain ⟨va14,q14,rfl⟩:=hI.v mm14 rfl
          obtain ⟨va15,q15,rfl⟩:=hI.v mm15 rfl
          obtain ⟨va16,q16,ha16⟩:=hI.v mm16 rfl
          obtain ⟨va17,q17,ha17⟩:=hI.v mm17 rfl
          obtain ⟨va18,q18,ha18⟩:=hI.v mm18 rfl
          replace ha18 : IntV w9 va18 (xt.s i c / xt.s t c):=ha18
          obtain ⟨va19,q19,ha19⟩:=hI.v mm19 rfl
          replace ha19 : IntV w9 va19 (xt.s i c % xt.s t c):=ha19
          obtain ⟨va20,q20,rfl⟩:=hI.v mm20 rfl
          obtain ⟨va25,q25,rfl⟩:=hI.v mm21 rfl
          obtain ⟨ca21,xa21,ya21,r21,ga21,ka21,ia21⟩:=hI.box _ mm0 rfl
          replace ia21 : IntV w9 (.agg #[xa21,ya21]) (xt.s i c / xt.s t c):=ia21 rfl
          obtain ⟨ca22,xa22,ya22,r22,ga22,ka22,ia22⟩:=hI.box _ mm1 rfl
          replace ia22 : IntV w9 (.agg #[xa22,ya22]) (xt.s i c % xt.s t c):=ia22 rfl
          have na21_22:=hI.far _ mm0 _ mm1 sI rfl rfl ca21 ca22 r21 r22
          have hT:=tmps_set [(57,.pointer (some ⟨w.heap.size,0,none⟩)),(58,.slice (some ⟨g,0,none⟩) n sc),(59,.int .i64 i),(60,.pointer (some ⟨g,i,none⟩)),(61,.slice (some ⟨bi,0,none⟩) Cs Cs),(62,.int .i64 c),(63,.pointer (some ⟨bi,c * 2,none⟩)),(64,.agg #[.bool xs,.slice xa xl xc]),(65,.pointer (some ⟨w.heap.size,0,none⟩)),(66,.slice (some ⟨g,0,none⟩) n sc),(67,.int .i64 t),(68,.pointer (some ⟨g,t,none⟩)),(69,.slice (some ⟨bk,0,none⟩) Cs Cs),(70,.int .i64 c),(71,.pointer (some ⟨bk,c * 2,none⟩)),(72,.agg #[.bool ys,.slice ya yl yc]),(73,va16),(56,va17),(74,va18),(75,va19),(76,.int .i64 0),(11,.int .i64 0),(9,ptr ca21),(10,ptr ca22)]
           (fun j hj=>hI.keep j (by simp only [List.forall_mem_cons] at hj ⊢; simp [hj]) (by simp only [List.forall_mem_cons] at hj ⊢; simp [hj]))
           (by simp only [List.forall_mem_cons]; simp [q0,q1,q2,q3,q4,q5,q6,q7,q8,q9,q10,q11,q12,q13,q14,q15,q16,q17,q18,q19,q20,q25,r21,r22]) hI.size
          have hlw9:=hI.lext
          have hbw9:=hI.bel (w1.heap.size) oM nom
          have holdw9:=hI.old
          clear hI
          simp only [List.foldl_cons,List.foldl_nil,List.setIfInBounds_toArray,List.set_cons_zero,List.set_cons_succ,ptr] at hT
          subst hT
          clear q0 q1 q2 q3 q4 q5 q6 q7 q8 q9 q10 q11 q12 q13 q14 q15 q16 q17 q18 q19 q20 q25 r21 r22
          obtain ⟨qs,qa,ql,qc,rfl,rfl⟩:=ia21.two
          have hz:=hz.below hbw9
          have bx:=bx.below hbw9
          have bc:=bc.below hbw9
          have hO:=hO.trans (OnlyZ.of Z hbw9)
          have lq:=ka21.lt
          have hsz9:=hbw9.size
          clear o1 o2 c1 c2 c3 c4 c5 c6 v1 v2 r1 r2
          obtain ⟨d1,d2,d3,d4⟩:=ka21.two
          go_wp2_with fail
          refine (sign_any _ (xt.s i c / xt.s t c) _ ia21.weak).mono ?_
          rintro e w10 ⟨rfl,hb10⟩
          have hz:=hz.below hb10
          have bx:=bx.below hb10
          have bc:=bc.below hb10
          have hO:=hO.trans (OnlyZ.of Z hb10)
          have kq:=ka21.below hb10
          have iq:=ia21.ext (lx hb10)
          have h3:=H3.out
          clear d1 d2 d3 d4 H3 ka21 ia21
          have hsz10:=hb10.size
          by_cases hq0 : xt.s i c / xt.s t c = 0
          ·rw [if_pos hq0] at h3
           rw [cmpI_zero hq0]
           have H3:=HidS.mk h3
           clear h3 hq0
           go_wp2
           go_roundw
           case rel=>exact ⟨t + 1,xt,by simp,by omega,by omega,hO,bx,bc,hz,⟨⟨HOK.out,by rw [hm2]; exact H3.out⟩⟩⟩
           case measure=>simp [intOf]; omega
          ·rw [if_neg hq0] at h3
           by_cases hadd : okAdd B n Cs Ct xt i t (-(xt.s i c / xt.s t c))
           ·rw [if_pos hadd] at h3
            have hcq:=cmpI_ne hq0
            obtain ⟨k1,hk1⟩ : ∃k1,cmpI (xt.s i c / xt.s t c) 0 = k1:=⟨_,rfl⟩
            rw [hk1] at hcq ⊢
            have H3:=HidS.mk h3
            have HADD:=HidS.mk hadd
            have SQ : HidS (Sm (xt.s i c / xt.s t c)):=⟨hB.sm _ (by have:=hadd.1; rwa [Int.natAbs_neg] at this)⟩
            clear h3 hadd hq0 hk1
            obtain ⟨c1,c2,c3,c4,c5,c6⟩:=bx.three
            obtain ⟨d1,d2,d3,d4⟩:=kq.two
            have lq:=kq.lt
            have l0:=bx.lt
            go_upto_region 17 with (fail)
            refine wp_region_headed 5 rfl (RI w10 (w10.heap.size) _ 45
              [⟨0,80,fun _ v=>v = .agg #[.slice (some ⟨g,0,none⟩) n sc,.slice uo n tc,.slice io n ic]⟩,⟨1,81,fun _ v=>v = .int .i64 i⟩,⟨2,82,fun _ v=>v = .int .i64 t⟩,⟨3,83,fun _ v=>v = .agg #[.bool qs,.slice qa ql qc]⟩,⟨4,84,fun w v=>IntV w v (-(xt.s i c / xt.s t c))⟩]
              [] []) kR RI.start ?fin2 ?steps2
            case steps2=>
             refine ⟨?_,?_,?_,?_,?_,trivial⟩ <;> (intro L T wS hL hd hcl hI K hK; try refine step_wanted rfl ?_)
             ·have zt : T[2]? = some (.pointer (some ⟨w.heap.size,0,none⟩)):=hI.keep 2 sI sI
              have cc0:=hI.cell c1 oM nom
              have cc1:=hI.cell c2 oM nom
              have cc2:=hI.cell c3 oM nom
              go_simp
              exact hK _ _ (hI.y mm0 rfl)
             ·have zt : T[6]? = some (.int .i64 i):=hI.keep 6 sI sI
              go_simp
              exact hK _ _ (hI.y mm1 rfl)
             ·have zt : T[7]? = some (.int .i64 t):=hI.keep 7 sI sI
              go_simp
              exact hK _ _ (hI.y mm2 rfl)
             ·have zt : T[9]? = some (.pointer (some ⟨ca21,0,none⟩)):=hI.keep 9 sI sI
              have cc0:=hI.cell d1 oM nom
              have cc1:=hI.cell d2 oM nom
              go_simp
              exact hK _ _ (hI.y mm3 rfl)
             ·obtain ⟨v3,zt3,rfl⟩:=hI.v mm3 (hd 3)
              go_simp
              refine (neg_any _ (xt.s i c / xt.s t c) _ (iq.ext hI.lext).weak SQ.out).mono ?_
              rintro e wa ⟨v,rfl,hv,hba⟩
              exact hK _ _ ((hI.world hba).y mm4 hv)
            intro T w11 hI
            obtain ⟨vy0,q0,rfl⟩:=hI.v mm0 rfl
            obtain ⟨vy1,q1,rfl⟩:=hI.v mm1 rfl
            obtain ⟨vy2,q2,rfl⟩:=hI.v mm2 rfl
            obtain ⟨vy3,q3,rfl⟩:=hI.v mm3 rfl
            obtain ⟨vy4,q4,hy4⟩:=hI.v mm4 rfl
            replace hy4 : IntV w11 vy4 (-(xt.s i c / xt.s t c)):=hy4
            have hT:=tmps_set [(80,.agg #[.slice (some ⟨g,0,none⟩) n sc,.slice uo n tc,.slice io n ic]),(81,.int .i64 i),(82,.int .i64 t),(83,.agg #[.bool qs,.slice qa ql qc]),(84,vy4)]
             (fun j hj=>hI.keep j (by simp only [List.forall_mem_cons] at hj ⊢; simp [hj]) (by simp only [List.forall_mem_cons] at hj ⊢; simp [hj]))
             (by simp only [List.forall_mem_cons]; simp [q0,q1,q2,q3,q4]) hI.size
            have hlw11:=hI.lext
            have hbw11:=hI.bel (w10.heap.size) oM nom
            have holdw11:=hI.old
            clear hI
            simp only [List.foldl_cons,List.foldl_nil,List.setIfInBounds_toArray,List.set_cons_zero,List.set_cons_succ,ptr] at hT
            subst hT
            clear q0 q1 q2 q3 q4
            simp only [List.drop_succ_cons,List.drop_zero]
            have hz:=hz.below hbw11
            have bx:=bx.below hbw11
            have bc:=bc.below hbw11
            have hO:=hO.trans (OnlyZ.of Z hbw11)
            have hsz11:=hbw11.size
            clear c1 c2 c3 c4 c5 c6 d1 d2 d3 d4
            go_wp2_with fail
            refine (addZ hB hz HOK.out hin htn oM hy4 hn hCs hCt HADD.out).mono ?_
            rintro e w12 ⟨⟨uu12,rfl⟩,hO12,hz⟩
            have hok:=HADD.out.ok
            have hO:=hO.trans hO12
            have bx:=hO12.blk bx (fun hh=>by have:=hZ _ hh; omega)
            have bc:=hO12.blk bc (fun hh=>by have:=hZ _ hh; omega)
            have HOK2:=HidS.mk hok
            clear hok
            go_wp2
            go_roundw
            case rel=>exact ⟨t + 1,_,by simp,by omega,by omega,hO,bx,bc,hz,⟨⟨HOK2.out,by rw [hm2]; exact H3.out⟩⟩⟩
            case measure=>simp [intOf]; omega
           ·rw [if_neg hadd] at h3
            cases h3
      ·obtain rfl : t = j:=by omega
       have h3:=hx.out.2
       rw [Nat.sub_self] at h3
       injection h3 with h3
       have H3:=HidS.mk h3
       clear h3
       go_wp2
       go_roundw
       case rel=>exact ⟨i,_,xt,rfl,by omega,by omega,hO,bx,bc,hz,⟨⟨hx.out.1,by rw [H3.out]; exact HR.out⟩⟩⟩
       case measure=>simp [intOf]
theorem reduceZI {Z : Nat->Prop} {B : Nat} (hB : BSm B) {As At Ai : Value} {n Cs Ct : Nat} {x : Bst} {rr : Int} (rank : Nat) {y : Bst} {w : World} (hZ : ∀b,Z b->b < w.heap.size) (h : BandZ Z w As At Ai n Cs Ct x) (hok : okB B n Cs Ct x)
  (hr : rank<=n) (hn : n<=1000000) (hCs : Cs<=1000000) (hCt : Ct<=1000000) (hy : reduceB B n Cs Ct rank x = some y) (hrr : rr = rank) :
  Calls Tryz.prog 119 #[.agg #[As,At,Ai],.int .i64 rr] w fun e w'=>(∃u,e = .returned u)/\OnlyZ Z w w'/\BandZ Z w' As At Ai n Cs Ct y/\okB B n Cs Ct y:=by
 subst hrr
 exact reduce_any hB hZ h hok hr hn hCs hCt hy
set_option maxHeartbeats 4000000 in
set_option maxRecDepth 20000 in
theorem echelon_any {Z : Nat->Prop} {B : Nat} (hB : BSm B) {As At Ai : Value} {n Cs Ct f : Nat} {x y : Bst} {w : World} (hZ : ∀b,Z b->b < w.heap.size) (h : BandZ Z w As At Ai n Cs Ct x) (hok : okB B n Cs Ct x)
  (hn : n<=1000000) (hCs : Cs<=1000000) (hCt : Ct<=1000000) (hy : echB B n Cs Ct f x = some y) :
  Calls Tryz.prog 92 #[.agg #[As,At,Ai]] w fun e w'=>(∃u,e = .returned u)/\OnlyZ Z w w'/\BandZ Z w' As At Ai n Cs Ct y/\okB B n Cs Ct y:=by
 obtain ⟨so,sc,uo,tc,io,ic,rfl,rfl,rfl,hsc,hsc2,hg⟩:=h.shape
 have HX:=HidS.mk (And.intro hok hy)
 clear hok hy
 go_enter Tryz.func92,Tryz.ntmps92
 go_upto_region 1 with (fail)
 refine wp_world ?_
 intro W0 hW0
 obtain ⟨hB0,bx,hs0⟩:=world1 hW0
 have hz:=h.below hB0
 have hO:=OnlyZ.of Z hB0
 obtain ⟨c1,c2,c3,c4,c5,c6⟩:=bx.three
 clear hW0 h
 go_wp2
 clear c1 c2 c3 c4 c5 c6
 go_loopw [2,7] (fun rv mv wt=>∃(rank m : Nat) (xi : Bst),rv = .int .i64 rank/\mv = .int .i64 m/\rank<=m/\m<=n/\OnlyZ Z w wt/\Blk wt w.heap.size 114 #[.slice so n sc,.slice uo n tc,.slice io n ic]/\BandZ Z wt (.slice so n sc) (.slice uo n tc) (.slice io n ic) n Cs Ct xi/\HidS (okB B n Cs Ct xi/\echGo B n Cs Ct f (n - m) m rank xi = some y)) (fun _ mv _=>n - (intOf mv).toNat)
 case atStart=>exact ⟨0,0,x,rfl,rfl,Nat.le_refl _,Nat.zero_le _,hO,bx,hz,⟨⟨HX.out.1,by rw [Nat.sub_zero]; exact HX.out.2⟩⟩⟩
 case round=>
  rename World=>wt
  obtain ⟨rank,m,xi,rfl,rfl,hrm,hmn,hO,bx,hz,hx⟩:=hrel
  obtain ⟨c1,c2,c3,c4,c5,c6⟩:=bx.three
  by_cases hlt : m < n
  ·obtain ⟨l,hl⟩ : ∃l,n - m = l + 1:=⟨n - m - 1,by omega⟩
   have hl2 : n - (m + 1) = l:=by omega
   have h3:=hx.out.2
   rw [hl] at h3
   unfold echGo at h3
   rw [Option.bind_eq_some_iff] at h3
   obtain ⟨⟨x1,bb⟩,h4,h5⟩:=h3
   rw [Option.bind_eq_some_iff] at h5
   obtain ⟨y1,h6,h7⟩:=h5
   have HT:=HidS.mk h4
   have HRED:=HidS.mk h6
   have HN:=HidS.mk h7
   have HOK:=HidS.mk hx.out.1
   clear h4 h6 h7 hx
   have hZt : ∀b,Z b->b < wt.heap.size:=fun b hb=>by have:=hZ b hb; have:=hO.bel.size; omega
   go_wp2_with fail
   refine (take_any hB hZt hz HOK.out hlt hrm hn hCs hCt HT.out).mono ?_
   rintro e w1 ⟨rfl,hO1,hz,hok⟩
   have HOK:=HidS.mk hok
   have hO:=hO.trans hO1
   have bx:=hO1.blk bx (fun hh=>by have:=hZ _ hh; omega)
   clear c1 c2 c3 c4 c5 c6 hok hZt HT
   obtain ⟨c1,c2,c3,c4,c5,c6⟩:=bx.three
   have hZt : ∀b,Z b->b < w1.heap.size:=fun b hb=>by have:=hZ b hb; have:=hO.bel.size; omega
   cases bb with
   | true=>
    rw [if_pos rfl] at HRED HN
    go_wp2_with fail
    refine (reduceZI hB (rank + 1) hZt hz HOK.out oM hn hCs hCt HRED.out sI).mono ?_
    rintro e w2 ⟨⟨uu,rfl⟩,hO2,hz,hok⟩
    have HOK:=HidS.mk hok
    have hO:=hO.trans hO2
    have bx:=hO2.blk bx (fun hh=>by have:=hZ _ hh; omega)
    clear c1 c2 c3 c4 c5 c6 hok
    go_wp2
    go_roundw
    case rel=>exact ⟨rank + 1,m + 1,y1,by simp,by simp,by omega,by omega,hO,bx,hz,⟨⟨HOK.out,by rw [hl2]; exact HN.out⟩⟩⟩
    case measure=>simp [intOf]; omega
   | false=>
    rw [if_neg dE] at HRED HN
    go_wp2_with fail
    refine (reduceZI hB rank hZt hz HOK.out oM hn hCs hCt HRED.out rfl).mono ?_
    rintro e w2 ⟨⟨uu,rfl⟩,hO2,hz,hok⟩
    have HOK:=HidS.mk hok
    have hO:=hO.trans hO2
    have bx:=hO2.blk bx (fun hh=>by have:=hZ _ hh; omega)
    clear c1 c2 c3 c4 c5 c6 hok
    go_wp2
    go_roundw
    case rel=>exact ⟨rank,m + 1,y1,by simp,by simp,by omega,by omega,hO,bx,hz,⟨⟨HOK.out,by rw [hl2]; exact HN.out⟩⟩⟩
    case measure=>simp [intOf]; omega
  ·obtain rfl : m = n:=by omega
   have h3:=hx.out.2
   rw [Nat.sub_self] at h3
   injection h3 with h3
   have H3:=HidS.mk h3
   clear h3
   go_wp2
   exact bodyPost_end (results_none rfl _ _ _) rfl ⟨⟨_,rfl⟩,hO,by rw [<-H3.out]; exact hz,by rw [<-H3.out]; exact hx.out.1⟩
end Go.Proofs.YtnocgagoaldfnaaGreat
