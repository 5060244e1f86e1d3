/- torsionref05: Mul, Product. torsionref05: Sized. torsionref13: Inverse. smith: leading, quotient. -/
import Derived.Test.YtnocgagoaldfnaaGreatD18
set_option linter.unusedVariables false
set_option linter.unusedSimpArgs false
set_option linter.unusedSectionVars false
namespace Go.Proofs.YtnocgagoaldfnaaGreat
open Go.RowKit
def sumTo (f : Nat->Int) : Nat->Int
 | 0=>0
 | k + 1=>sumTo f k + f k
def mulf (A B : List (List Int)) (m i j : Nat) : Int:=sumTo (fun t=>ent A i t * ent B t j) m
def MulSm (A B : List (List Int)) (R m C : Nat) : Prop:=
 ∀i,i < R->∀j,j < C->∀k,k < m->Sm (ent A i k)/\Sm (ent B k j)/\Sm (ent A i k * ent B k j)/\Sm (mulf A B k i j)
def upAt (f : Nat->Nat->Int) (i j : Nat) (x : Int) : Nat->Nat->Int:=fun a b=>if a = i/\b = j then x else upTo f i j a b
theorem upAt_start {R C : Nat} {f : Nat->Nat->Int} {i j : Nat} : genM R C (upTo f i j) = genM R C (upAt f i j 0):=
 genM_congr fun a _ b _=>by
  unfold upAt
  by_cases h : a = i/\b = j
  ·obtain ⟨rfl,rfl⟩:=h
   rw [if_pos ⟨rfl,rfl⟩]
   unfold upTo
   rw [if_neg oM]
  ·rw [if_neg h]
theorem upAt_set {R C : Nat} {f : Nat->Nat->Int} {i j : Nat} {x y : Int} (hi : i < R) (hj : j < C) : setM (genM R C (upAt f i j x)) i j y = genM R C (upAt f i j y):=by
 rw [setM_genM _ hi hj]
 exact genM_congr fun a _ b _=>by
  unfold upAt
  by_cases h : a = i/\b = j
  ·rw [if_pos h,if_pos h]
  ·rw [if_neg h,if_neg h,if_neg h]
theorem upAt_end {R C : Nat} {f : Nat->Nat->Int} {i j : Nat} : genM R C (upAt f i j (f i j)) = genM R C (upTo f i (j + 1)):=
 genM_congr fun a _ b _=>by
  unfold upAt
  by_cases h : a = i/\b = j
  ·obtain ⟨rfl,rfl⟩:=h
   rw [if_pos ⟨rfl,rfl⟩]
   unfold upTo
   rw [if_pos oM]
  ·rw [if_neg h]
   unfold upTo
   by_cases h2 : a < i ∨ (a = i/\b < j)
   ·rw [if_pos h2,if_pos oM]
   ·rw [if_neg h2,if_neg oM]
theorem upAt_here {f : Nat->Nat->Int} {i j : Nat} {x : Int} : upAt f i j x i j = x:=by unfold upAt; rw [if_pos ⟨rfl,rfl⟩]
theorem run_loadMat {W : World} {r : Nat} {v : Array Value} (hb : Blk W r 28 v) (h3 : v.size = 3) : (loadVar 28 ⟨r,0,none⟩).run Tryz.prog W = .ok (.agg v) W:=
 run_loadVar_row W r _ _ v _ _ hb Tryz.underlying28 rfl (by rw [Tryz.sizeM,h3])
theorem results_mt {fn : Func} {p u : Tmp} (h : fn.results = #[.cell p 28,.tmp u]) (tmps : Array Value) {W : World} {r : Nat} {v : Array Value}
  (hp : tmps.getD p undef = .pointer (some ⟨r,0,none⟩)) (hb : Blk W r 28 v) (h3 : v.size = 3) :
  (results fn tmps).run Tryz.prog W = .ok (.tuple #[.agg v,tmps.getD u undef]) W:=by
 have hp' : tmps[p]?.getD undef = .pointer (some ⟨r,0,none⟩):=by simpa using hp
 simp [results,h,hp',asAddr,run_loadMat hb h3]
set_option maxHeartbeats 8000000 in
set_option maxRecDepth 20000 in
theorem r5mul_any (v1 v2 : Value) (R m C : Nat) (M1 M2 : List (List Int)) (w : World) (h1 : MatV w v1 R m M1) (h2 : MatV w v2 m C M2) (hF1 : Fits R m M1) (hF2 : Fits m C M2) (hR : R<=1000000) (hm : m<=1000000) (hC : C<=1000000) (hS : MulSm M1 M2 R m C) :
  Calls Tryz.prog 99 #[v1,v2] w fun e w'=>∃v bs,e = .returned (.tuple #[v,.int .i64 0])/\MatO w' w.heap.size v R C bs (genM R C (mulf M1 M2 m))/\Below w.heap.size w w':=by
 obtain ⟨A1,rfl,h1⟩:=h1
 obtain ⟨A2,rfl,h2⟩:=h2
 obtain ⟨ao,n,cap,rfl,e2,e3,e4,-⟩:=id h1
 obtain ⟨bo,q,bcap,rfl,g2,g3,g4,-⟩:=id h2
 have HX:=Lib.hid e2
 have HY:=Lib.hid g2
 have HS:=HidS.mk hS
 have HF1:=HidS.mk hF1
 have HF2:=HidS.mk hF2
 obtain rfl : n = R:=by rw [<-e2,hF1.1]
 obtain rfl : q = m:=by rw [<-g2,hF2.1]
 clear e2 g2 hS hF1 hF2
 obtain ⟨f,hf⟩ : ∃f : Nat->Nat->Int,mulf M1 M2 q = f:=⟨_,rfl⟩
 rw [hf]
 have HFE : HidS (∀i j,f i j = mulf M1 M2 q i j):=⟨fun i j=>by rw [<-hf]⟩
 clear hf
 go_enter Tryz.func99,Tryz.ntmps99
 go_upto_region 1 with (fail)
 refine wp_world ?_
 intro W0 hW0
 obtain ⟨hB0,bx1,bx2,br,hs0⟩:=world3 hW0
 obtain ⟨c1,c2,c3,c4,c5,c6⟩:=bx1.three
 obtain ⟨d1,d2,d3,d4,d5,d6⟩:=bx2.three
 go_wp2_with fail
 refine (r5new_any n C W0 hR hC).mono ?_
 rintro e w2 ⟨u,bs,rfl,⟨hbl,A3,rfl,ho⟩,hb2⟩
 obtain ⟨oo,on,oc,rfl,-,-,-,-⟩:=id ho.rows
 have hlts:=ho.lts
 go_upto_region 4 with (fail)
 refine wp_world ?_
 intro W3 hW3
 obtain ⟨hB3,T5,hs3⟩:=world1 hW3
 have bx1:=(bx1.below hb2).below hB3
 have bx2:=(bx2.below hb2).below hB3
 have br:=(br.below hb2).below hB3
 have ho:=ho.below hB3
 rw [upTo_start n C f] at ho
 have hBt:=nx (nx hB0 hb2) hB3
 have q2:=hb2.size
 clear hW3 hW0 c1 c2 c3 c4 c5 c6 d1 d2 d3 d4 d5 d6
 go_wp2
 go_loopw [7] (fun iv wr=>∃i : Nat,i<=n/\iv = .int .i64 i/\Below w.heap.size w wr/\Blk wr w.heap.size 28 #[.int .i64 n,.int .i64 q,.slice ao n cap]/\Blk wr (w.heap.size + 1) 28 #[.int .i64 q,.int .i64 C,.slice bo q bcap] ∧
  Blk wr (w.heap.size + 1 + 1) 28 #[.int .i64 0,.int .i64 0,.slice none 0 0]/\Blk wr w2.heap.size 28 #[.int .i64 n,.int .i64 C,.slice oo on oc]/\RowsO wr W0.heap.size (.slice oo on oc) C bs (genM n C (upTo f i 0))) (fun iv _=>n - (intOf iv).toNat)
 case atStart=>exact ⟨0,by omega,rfl,hBt,bx1,bx2,br,T5,ho⟩
 case round=>
  obtain ⟨i,hi,rfl,hb,bx1,bx2,br,T5,ho⟩:=hrel
  obtain ⟨c1,c2,c3,c4,c5,c6⟩:=bx1.three
  by_cases hlt : i < n
  ·go_wp2
   clear c1 c2 c3 c4 c5 c6
   go_loopw [8] (fun jv wr=>∃j : Nat,j<=C/\jv = .int .i64 j/\Below w.heap.size w wr/\Blk wr w.heap.size 28 #[.int .i64 n,.int .i64 q,.slice ao n cap]/\Blk wr (w.heap.size + 1) 28 #[.int .i64 q,.int .i64 C,.slice bo q bcap] ∧
    Blk wr (w.heap.size + 1 + 1) 28 #[.int .i64 0,.int .i64 0,.slice none 0 0]/\Blk wr w2.heap.size 28 #[.int .i64 n,.int .i64 C,.slice oo on oc]/\RowsO wr W0.heap.size (.slice oo on oc) C bs (genM n C (upTo f i j))) (fun jv _=>C - (intOf jv).toNat)
   case atStart=>exact ⟨0,by omega,rfl,hb,bx1,bx2,br,T5,ho⟩
   case round=>
    obtain ⟨j,hj,rfl,hb,bx1,bx2,br,T5,ho⟩:=hrel
    obtain ⟨d1,d2,d3,d4,d5,d6⟩:=bx2.three
    by_cases hjc : j < C
    ·go_wp2
     clear d1 d2 d3 d4 d5 d6
     rw [upAt_start] at ho
     go_loopw [9] (fun kv wr=>∃k : Nat,k<=q/\kv = .int .i64 k/\Below w.heap.size w wr/\Blk wr w.heap.size 28 #[.int .i64 n,.int .i64 q,.slice ao n cap]/\Blk wr (w.heap.size + 1) 28 #[.int .i64 q,.int .i64 C,.slice bo q bcap] ∧
      Blk wr (w.heap.size + 1 + 1) 28 #[.int .i64 0,.int .i64 0,.slice none 0 0]/\Blk wr w2.heap.size 28 #[.int .i64 n,.int .i64 C,.slice oo on oc]/\RowsO wr W0.heap.size (.slice oo on oc) C bs (genM n C (upAt f i j (mulf M1 M2 k i j)))) (fun kv _=>q - (intOf kv).toNat)
     case atStart=>exact ⟨0,by omega,rfl,hb,bx1,bx2,br,T5,ho⟩
     case round=>
      obtain ⟨k,hk,rfl,hb,bx1,bx2,br,T5,ho⟩:=hrel
      obtain ⟨c1,c2,c3,c4,c5,c6⟩:=bx1.three
      by_cases hkq : k < q
      ·obtain ⟨d1,d2,d3,d4,d5,d6⟩:=bx2.three
       obtain ⟨b,ra,rn,rc,zs,rfl,hbl1,hz,p1,hv⟩:=(h1.below hb).row (k:=i) (by rw [HX.out]; exact hlt)
       have hzl:=HF1.out.2 zs (List.mem_of_getElem? hz)
       have hvl:=hv.len
       obtain ⟨b',z,s,a,l,c,rfl,hbl',hzk,q1,q2',hzv⟩:=hv.cell (k:=k) oM
       have hkrn : k < rn:=by omega
       obtain ⟨y,ya,yn,yc,ys,rfl,hyl1,hy,y1,hyv⟩:=(h2.below hb).row (k:=k) (by rw [HY.out]; exact hkq)
       have hyl:=HF2.out.2 ys (List.mem_of_getElem? hy)
       have hyvl:=hyv.len
       obtain ⟨y',x,xs,xa,xl,xc,rfl,hyl',hyk,x1,x2,hxv⟩:=hyv.cell (k:=j) oM
       have hjyn : j < yn:=by omega
       have he1:=Lib.hid (ent_of hz hzk)
       have he2:=Lib.hid (ent_of hy hyk)
       have HSM:=HidS.mk (HS.out i hlt j hjc k hkq)
       clear hz hzk hzl hy hyk hyl hvl hyvl
       obtain ⟨g,bo',rfl,hg,hbo,hbo2,o1,ho3⟩:=ho.at_ (i:=i) oM
       obtain ⟨us,ua,ul,uc,u1,u2,u3,u4,uv⟩:=ho.cellAt hbo hjc
       rw [ent_genM hlt hjc,upAt_here] at uv
       obtain ⟨f1,f2,f3,f4,f5,f6⟩:=T5.three
       have hio : i < on:=by omega
       have HO3:=Lib.hid ho3
       clear ho3
       have lt1:=bx1.lt
       have lt2:=bx2.lt
       have lt5:=T5.lt
       rw [<-he1.out] at hzv
       rw [<-he2.out] at hxv
       go_upto_region 13 with (fail)
       refine wp_region_headed 33 rfl (RI wr (wr.heap.size) _ 45
         [⟨0,39,fun _ v=>v = .pointer (some ⟨w2.heap.size,2,none⟩)⟩,⟨1,40,fun _ v=>v = .slice (some ⟨g,0,none⟩) on oc⟩,⟨2,41,fun _ v=>v = .int .i64 i⟩,⟨3,42,fun _ v=>v = .pointer (some ⟨g,i,none⟩)⟩,⟨4,43,fun _ v=>v = .slice (some ⟨bo',0,none⟩) C C⟩,⟨5,44,fun _ v=>v = .int .i64 j⟩,⟨6,45,fun _ v=>v = .pointer (some ⟨w2.heap.size,2,none⟩)⟩,⟨7,46,fun _ v=>v = .slice (some ⟨g,0,none⟩) on oc⟩,⟨8,47,fun _ v=>v = .int .i64 i⟩,⟨9,48,fun _ v=>v = .pointer (some ⟨g,i,none⟩)⟩,⟨10,49,fun _ v=>v = .slice (some ⟨bo',0,none⟩) C C⟩,⟨11,50,fun _ v=>v = .int .i64 j⟩,⟨12,51,fun _ v=>v = .pointer (some ⟨bo',j * 2,none⟩)⟩,⟨13,52,fun _ v=>v = .agg #[.bool us,.slice ua ul uc]⟩,⟨14,53,fun _ v=>v = .pointer (some ⟨w.heap.size,2,none⟩)⟩,⟨15,54,fun _ v=>v = .slice (some ⟨b,0,none⟩) n cap⟩,⟨16,55,fun _ v=>v = .int .i64 i⟩,⟨17,56,fun _ v=>v = .pointer (some ⟨b,i,none⟩)⟩,⟨18,57,fun _ v=>v = .slice (some ⟨b',0,none⟩) rn rc⟩,⟨19,58,fun _ v=>v = .int .i64 k⟩,⟨20,59,fun _ v=>v = .pointer (some ⟨b',k * 2,none⟩)⟩,⟨21,60,fun _ v=>v = .agg #[.bool s,.slice a l c]⟩,⟨22,61,fun _ v=>v = .pointer (some ⟨w.heap.size + 1,2,none⟩)⟩,⟨23,62,fun _ v=>v = .slice (some ⟨y,0,none⟩) q bcap⟩,⟨24,63,fun _ v=>v = .int .i64 k⟩,⟨25,64,fun _ v=>v = .pointer (some ⟨y,k,none⟩)⟩,⟨26,65,fun _ v=>v = .slice (some ⟨y',0,none⟩) yn yc⟩,⟨27,66,fun _ v=>v = .int .i64 j⟩,⟨28,67,fun _ v=>v = .pointer (some ⟨y',j * 2,none⟩)⟩,⟨29,68,fun _ v=>v = .agg #[.bool xs,.slice xa xl xc]⟩,⟨30,69,fun w v=>IntV w v (ent M1 i k * ent M2 k j)⟩,⟨31,70,fun w v=>IntV w v (mulf M1 M2 k i j + ent M1 i k * ent M2 k j)⟩,⟨32,71,fun _ v=>v = .pointer (some ⟨bo',j * 2,none⟩)⟩]
         [] []) kR RI.start ?fin1 ?steps1
       case steps1=>
        refine ⟨?_,?_,?_,?_,?_,?_,?_,?_,?_,?_,?_,?_,?_,?_,?_,?_,?_,?_,?_,?_,?_,?_,?_,?_,?_,?_,?_,?_,?_,?_,?_,?_,?_,trivial⟩ <;> (intro L T wS hL hd hcl hI K hK; try refine step_wanted rfl ?_)
        ·have zt : T[6]? = some (.pointer (some ⟨w2.heap.size,0,none⟩)):=hI.keep 6 sI sI
         go_simp
         exact hK _ _ (hI.y mm0 rfl)
        ·obtain ⟨v0,zt0,rfl⟩:=hI.v mm0 (hd 0)
         have cc0:=hI.cell f3 oM nom
         go_simp
         exact hK _ _ (hI.y mm1 rfl)
        ·have zt : T[7]? = some (.int .i64 i):=hI.keep 7 sI sI
         go_simp
         exact hK _ _ (hI.y mm2 rfl)
        ·obtain ⟨v1,zt1,rfl⟩:=hI.v mm1 (hd 1)
         obtain ⟨v2,zt2,rfl⟩:=hI.v mm2 (hd 2)
         go_simp
         exact hK _ _ (hI.y mm3 rfl)
        ·obtain ⟨v3,zt3,rfl⟩:=hI.v mm3 (hd 3)
         have cc0:=hI.cell o1 oM nom
         go_simp
         exact hK _ _ (hI.y mm4 rfl)
        ·have zt : T[8]? = some (.int .i64 j):=hI.keep 8 sI sI
         go_simp
         exact hK _ _ (hI.y mm5 rfl)
        ·have zt : T[6]? = some (.pointer (some ⟨w2.heap.size,0,none⟩)):=hI.keep 6 sI sI
         go_simp
         exact hK _ _ (hI.y mm6 rfl)
        ·obtain ⟨v6,zt6,rfl⟩:=hI.v mm6 (hd 6)
         have cc0:=hI.cell f3 oM nom
         go_simp
         exact hK _ _ (hI.y mm7 rfl)
        ·have zt : T[7]? = some (.int .i64 i):=hI.keep 7 sI sI
         go_simp
         exact hK _ _ (hI.y mm8 rfl)
        ·obtain ⟨v7,zt7,rfl⟩:=hI.v mm7 (hd 7)
         obtain ⟨v8,zt8,rfl⟩:=hI.v mm8 (hd 8)
         go_simp
         exact hK _ _ (hI.y mm9 rfl)
        ·obtain ⟨v9,zt9,rfl⟩:=hI.v mm9 (hd 9)
         have cc0:=hI.cell o1 oM nom
         go_simp
         exact hK _ _ (hI.y mm10 rfl)
        ·have zt : T[8]? = some (.int .i64 j):=hI.keep 8 sI sI
         go_simp
         exact hK _ _ (hI.y mm11 rfl)
        ·obtain ⟨v10,zt10,rfl⟩:=hI.v mm10 (hd 10)
         obtain ⟨v11,zt11,rfl⟩:=hI.v mm11 (hd 11)
         go_simp
         exact hK _ _ (hI.y mm12 rfl)
        ·obtain ⟨v12,zt12,rfl⟩:=hI.v mm12 (hd 12)
         have cc0:=hI.cell u1 oM nom
         have cc1:=hI.cell u2 oM nom
         go_simp
         exact hK _ _ (hI.y mm13 rfl)
        ·have zt : T[2]? = some (.pointer (some ⟨w.heap.size,0,none⟩)):=hI.keep 2 sI sI
         go_simp
         exact hK _ _ (hI.y mm14 rfl)
        ·obtain ⟨v14,zt14,rfl⟩:=hI.v mm14 (hd 14)
         have cc0:=hI.cell c3 oM nom
         go_simp
         exact hK _ _ (hI.y mm15 rfl)
        ·have zt : T[7]? = some (.int .i64 i):=hI.keep 7 sI sI
         go_simp
         exact hK _ _ (hI.y mm16 rfl)
        ·obtain ⟨v15,zt15,rfl⟩:=hI.v mm15 (hd 15)
         obtain ⟨v16,zt16,rfl⟩:=hI.v mm16 (hd 16)
         go_simp
         exact hK _ _ (hI.y mm17 rfl)
        ·obtain ⟨v17,zt17,rfl⟩:=hI.v mm17 (hd 17)
         have cc0:=hI.cell p1 oM nom
         go_simp
         exact hK _ _ (hI.y mm18 rfl)
        ·have zt : T[9]? = some (.int .i64 k):=hI.keep 9 sI sI
         go_simp
         exact hK _ _ (hI.y mm19 rfl)
        ·obtain ⟨v18,zt18,rfl⟩:=hI.v mm18 (hd 18)
         obtain ⟨v19,zt19,rfl⟩:=hI.v mm19 (hd 19)
         go_simp
         exact hK _ _ (hI.y mm20 rfl)
        ·obtain ⟨v20,zt20,rfl⟩:=hI.v mm20 (hd 20)
         have cc0:=hI.cell q1 oM nom
         have cc1:=hI.cell q2' oM nom
         go_simp
         exact hK _ _ (hI.y mm21 rfl)
        ·have zt : T[3]? = some (.pointer (some ⟨w.heap.size + 1,0,none⟩)):=hI.keep 3 sI sI
         go_simp
         exact hK _ _ (hI.y mm22 rfl)
        ·obtain ⟨v22,zt22,rfl⟩:=hI.v mm22 (hd 22)
         have cc0:=hI.cell d3 oM nom
         go_simp
         exact hK _ _ (hI.y mm23 rfl)
        ·have zt : T[9]? = some (.int .i64 k):=hI.keep 9 sI sI
         go_simp
         exact hK _ _ (hI.y mm24 rfl)
        ·obtain ⟨v23,zt23,rfl⟩:=hI.v mm23 (hd 23)
         obtain ⟨v24,zt24,rfl⟩:=hI.v mm24 (hd 24)
         go_simp
         exact hK _ _ (hI.y mm25 rfl)
        ·obtain ⟨v25,zt25,rfl⟩:=hI.v mm25 (hd 25)
         have cc0:=hI.cell y1 oM nom
         go_simp
         exact hK _ _ (hI.y mm26 rfl)
        ·have zt : T[8]? = some (.int .i64 j):=hI.keep 8 sI sI
         go_simp
         exact hK _ _ (hI.y mm27 rfl)
        ·obtain ⟨v26,zt26,rfl⟩:=hI.v mm26 (hd 26)
         obtain ⟨v27,zt27,rfl⟩:=hI.v mm27 (hd 27)
         go_simp
         exact hK _ _ (hI.y mm28 rfl)
        ·obtain ⟨v28,zt28,rfl⟩:=hI.v mm28 (hd 28)
         have cc0:=hI.cell x1 oM nom
         have cc1:=hI.cell x2 oM nom
         go_simp
         exact hK _ _ (hI.y mm29 rfl)
        ·obtain ⟨v21,zt21,rfl⟩:=hI.v mm21 (hd 21)
         obtain ⟨v29,zt29,rfl⟩:=hI.v mm29 (hd 29)
         go_simp
         refine (r1mul_any _ _ (ent M1 i k) (ent M2 k j) _ (hzv.ext hI.lext) (hxv.ext hI.lext) HSM.out.1 HSM.out.2.1).mono ?_
         rintro e wa ⟨v,rfl,hv,hba⟩
         exact hK _ _ ((hI.world hba).y mm30 hv)
        ·obtain ⟨v13,zt13,rfl⟩:=hI.v mm13 (hd 13)
         obtain ⟨v30,zt30,h30⟩:=hI.v mm30 (hd 30)
         go_simp
         refine (r1add_any _ _ (mulf M1 M2 k i j) (ent M1 i k * ent M2 k j) _ (uv.ext hI.lext) h30 HSM.out.2.2.2 HSM.out.2.2.1).mono ?_
         rintro e wa ⟨v,rfl,hv,hba⟩
         exact hK _ _ ((hI.world hba).y mm31 hv)
        ·obtain ⟨v4,zt4,rfl⟩:=hI.v mm4 (hd 4)
         obtain ⟨v5,zt5,rfl⟩:=hI.v mm5 (hd 5)
         go_simp
         exact hK _ _ (hI.y mm32 rfl)
       intro T w9 hI
       obtain ⟨va0,q0,rfl⟩:=hI.v mm0 rfl
       obtain ⟨va1,q1,rfl⟩:=hI.v mm1 rfl
       obtain ⟨va2,q2,rfl⟩:=hI.v mm2 rfl
       obtain ⟨va3,q3,rfl⟩:=hI.v mm3 rfl
       obtain ⟨va4,q4,rfl⟩:=hI.v mm4 rfl
       obtain ⟨va5,q5,rfl⟩:=hI.v mm5 rfl
       obtain ⟨va6,q6,rfl⟩:=hI.v mm6 rfl
       obtain ⟨va7,q7,rfl⟩:=hI.v mm7 rfl
       obtain ⟨va8,q8,rfl⟩:=hI.v mm8 rfl
       obtain ⟨va9,q9,rfl⟩:=hI.v mm9 rfl
       obtain ⟨va10,q10,rfl⟩:=hI.v mm10 rfl
       obtain ⟨va11,q11,rfl⟩:=hI.v mm11 rfl
       obtain ⟨va12,q12,rfl⟩:=hI.v mm12 rfl
       obtain ⟨va13,q13,rfl⟩:=hI.v mm13 rfl
       obtain ⟨va14,q14,rfl⟩:=hI.v mm14 rfl
       obtain ⟨va15,q15,rfl⟩:=hI.v mm15 rfl
       obtain ⟨va16,q16,rfl⟩:=hI.v mm16 rfl
       obtain ⟨va17,q17,rfl⟩:=hI.v mm17 rfl
       obtain ⟨va18,q18,rfl⟩:=hI.v mm18 rfl
       obtain ⟨va19,q19,rfl⟩:=hI.v mm19 rfl
       obtain ⟨va20,q20,rfl⟩:=hI.v mm20 rfl
       obtain ⟨va21,q21,rfl⟩:=hI.v mm21 rfl
       obtain ⟨va22,q22,rfl⟩:=hI.v mm22 rfl
       obtain ⟨va23,q23,rfl⟩:=hI.v mm23 rfl
       obtain ⟨va24,q24,rfl⟩:=hI.v mm24 rfl
       obtain ⟨va25,q25,rfl⟩:=hI.v mm25 rfl
       obtain ⟨va26,q26,rfl⟩:=hI.v mm26 rfl
       obtain ⟨va27,q27,rfl⟩:=hI.v mm27 rfl
       obtain ⟨va28,q28,rfl⟩:=hI.v mm28 rfl
       obtain ⟨va29,q29,rfl⟩:=hI.v mm29 rfl
       obtain ⟨va30,q30,ha30⟩:=hI.v mm30 rfl
       replace ha30 : IntV w9 va30 (ent M1 i k * ent M2 k j):=ha30
       obtain ⟨va31,q31,ha31⟩:=hI.v mm31 rfl
       replace ha31 : IntV w9 va31 (mulf M1 M2 k i j + ent M1 i k * ent M2 k j):=ha31
       obtain ⟨va32,q32,rfl⟩:=hI.v mm32 rfl
       have hT:=tmps_set [(39,.pointer (some ⟨w2.heap.size,2,none⟩)),(40,.slice (some ⟨g,0,none⟩) on oc),(41,.int .i64 i),(42,.pointer (some ⟨g,i,none⟩)),(43,.slice (some ⟨bo',0,none⟩) C C),(44,.int .i64 j),(45,.pointer (some ⟨w2.heap.size,2,none⟩)),(46,.slice (some ⟨g,0,none⟩) on oc),(47,.int .i64 i),(48,.pointer (some ⟨g,i,none⟩)),(49,.slice (some ⟨bo',0,none⟩) C C),(50,.int .i64 j),(51,.pointer (some ⟨bo',j * 2,none⟩)),(52,.agg #[.bool us,.slice ua ul uc]),(53,.pointer (some ⟨w.heap.size,2,none⟩)),(54,.slice (some ⟨b,0,none⟩) n cap),(55,.int .i64 i),(56,.pointer (some ⟨b,i,none⟩)),(57,.slice (some ⟨b',0,none⟩) rn rc),(58,.int .i64 k),(59,.pointer (some ⟨b',k * 2,none⟩)),(60,.agg #[.bool s,.slice a l c]),(61,.pointer (some ⟨w.heap.size + 1,2,none⟩)),(62,.slice (some ⟨y,0,none⟩) q bcap),(63,.int .i64 k),(64,.pointer (some ⟨y,k,none⟩)),(65,.slice (some ⟨y',0,none⟩) yn yc),(66,.int .i64 j),(67,.pointer (some ⟨y',j * 2,none⟩)),(68,.agg #[.bool xs,.slice xa xl xc]),(69,va30),(70,va31),(71,.pointer (some ⟨bo',j * 2,none⟩))]
        (fun j hj=>hI.keep j (by simp only [List.forall_mem_cons] at hj ⊢; simp [hj]) (by simp only [List.forall_mem_cons] at hj ⊢; simp [hj]))
        (by simp only [List.forall_mem_cons]; simp [q0,q1,q2,q3,q4,q5,q6,q7,q8,q9,q10,q11,q12,q13,q14,q15,q16,q17,q18,q19,q20,q21,q22,q23,q24,q25,q26,q27,q28,q29,q30,q31,q32]) hI.size
       have hlw9:=hI.lext
       have hbw9:=hI.bel (wr.heap.size) oM nom
       have holdw9:=hI.old
       clear hI
       simp only [List.foldl_cons,List.foldl_nil,List.setIfInBounds_toArray,List.set_cons_zero,List.set_cons_succ,ptr] at hT
       subst hT
       clear q0 q1 q2 q3 q4 q5 q6 q7 q8 q9 q10 q11 q12 q13 q14 q15 q16 q17 q18 q19 q20 q21 q22 q23 q24 q25 q26 q27 q28 q29 q30 q31 q32
       simp only [List.drop_succ_cons,List.drop_zero]
       obtain ⟨pn,pa,pl,pc,px,rfl,hpx⟩:=id ha31
       have HPX:=Lib.hid hpx
       clear hpx
       have ho9:=ho.below hbw9
       obtain ⟨sn,sa,sl,sc,z1,z2,z3,z4,-⟩:=ho9.cellAt hbo hjc
       have hbolt:=hlts i bo' hbo
       have hset:=ho9.set hbo hjc ha31
       go_wp2
       go_roundw
       case rel=>
        rw [upAt_set hlt hjc] at hset
        exact ⟨k + 1,by omega,by simp,bset (bset (nx hb hbw9) oM _ _) oM _ _,(set2_old _ _ _ _ _ _ _ oM).trans (bx1.below hbw9),(set2_old _ _ _ _ _ _ _ oM).trans (bx2.below hbw9),(set2_old _ _ _ _ _ _ _ oM).trans (br.below hbw9),(set2_old _ _ _ _ _ _ _ oM).trans (T5.below hbw9),hset.1⟩
       case measure=>simp [intOf]; omega
      ·obtain rfl : k = q:=by omega
       rw [<-HFE.out,upAt_end] at ho
       go_wp2
       go_roundw
       case rel=>exact ⟨j + 1,by omega,by simp,hb,bx1,bx2,br,T5,ho⟩
       case measure=>simp [intOf]; omega
    ·obtain rfl : j = C:=by omega
     rw [upTo_row] at ho
     go_wp2
     go_roundw
     case rel=>exact ⟨i + 1,by omega,by simp,hb,bx1,bx2,br,T5,ho⟩
     case measure=>simp [intOf]; omega
  ·obtain rfl : i = n:=by omega
   rw [upTo_end] at ho
   obtain ⟨f1,f2,f3,f4,f5,f6⟩:=T5.three
   obtain ⟨r1,r2,r3,r4,r5,r6⟩:=br.three
   have q1:=hB0.size
   go_wp2
   refine bodyPost_ret (results_mt rfl _ rfl (br.put3 _ _ _) rfl) rfl ⟨_,bs,rfl,⟨hbl,_,rfl,?_⟩,bset (bset (bset hb oM 0 _) oM 1 _) oM 2 _⟩
   exact (ho.keep (fun k hk=>set3_old _ _ k _ _ _ oM) (br.lext3 dE _ _ _)).mono q1
set_option maxHeartbeats 4000000 in
set_option maxRecDepth 20000 in
theorem r5product_any (v1 v2 : Value) (R m C : Nat) (M1 M2 : List (List Int)) (w : World) (h1 : MatV w v1 R m M1) (h2 : MatV w v2 m C M2) (hF1 : Fits R m M1) (hF2 : Fits m C M2) (hR : R<=1000000) (hm : m<=1000000) (hC : C<=1000000) (hS : MulSm M1 M2 R m C) :
  Calls Tryz.prog 66 #[v1,v2] w (RetMat w R C (genM R C (mulf M1 M2 m))):=by
 have h1':=h1
 have h2':=h2
 obtain ⟨A1,rfl,h1⟩:=h1
 obtain ⟨A2,rfl,h2⟩:=h2
 obtain ⟨ao,n,cap,rfl,-⟩:=id h1
 obtain ⟨bo,q,bcap,rfl,-⟩:=id h2
 have HS:=HidS.mk hS
 have HF1:=HidS.mk hF1
 have HF2:=HidS.mk hF2
 clear hS hF1 hF2
 go_enter Tryz.func66,Tryz.ntmps66
 go_upto_region 1 with (fail)
 refine wp_world ?_
 intro W0 hW0
 obtain ⟨hB0,bx1,bx2,br,hs0⟩:=world3 hW0
 obtain ⟨c1,c2,c3,c4,c5,c6⟩:=bx1.three
 obtain ⟨d1,d2,d3,d4,d5,d6⟩:=bx2.three
 go_wp2_with fail
 refine (r5mul_any _ _ R m C M1 M2 W0 (h1'.below hB0) (h2'.below hB0) HF1.out HF2.out hR hm hC HS.out).mono ?_
 rintro e w2 ⟨u,bs,rfl,⟨hbl,A3,rfl,ho⟩,hb2⟩
 obtain ⟨oo,on,oc,rfl,-,-,-,-⟩:=id ho.rows
 go_upto_region 2 with (fail)
 refine wp_world ?_
 intro W3 hW3
 obtain ⟨hB3,T5,hs3⟩:=world1 hW3
 have br:=(br.below hb2).below hB3
 have ho:=ho.below hB3
 have hBt:=nx (nx hB0 hb2) hB3
 have q2:=hB0.size
 clear hW3 hW0 c1 c2 c3 c4 c5 c6 d1 d2 d3 d4 d5 d6
 obtain ⟨f1,f2,f3,f4,f5,f6⟩:=T5.three
 obtain ⟨r1,r2,r3,r4,r5,r6⟩:=br.three
 go_wp2
 refine bodyPost_mat rfl rfl rfl (br.put3 _ _ _) ⟨_,bs,rfl,⟨hbl,_,rfl,?_⟩,bset (bset (bset hBt oM 0 _) oM 1 _) oM 2 _⟩
 exact (ho.keep (fun k hk=>set3_old _ _ k _ _ _ oM) (br.lext3 dE _ _ _)).mono q2
set_option maxHeartbeats 4000000 in
set_option maxRecDepth 20000 in
theorem sized_any (v : Value) (R C R' C' : Int) (M : List (List Int)) (w : World) (h : MatV w v R C M) :
  Calls Tryz.prog 64 #[v,.int .i64 R',.int .i64 C'] w fun e w'=>e = .returned (.bool (decide (R = R'/\C = C'/\ValidM R C M)))/\Below w.heap.size w w':=by
 have h0:=h
 obtain ⟨A,rfl,h⟩:=h
 obtain ⟨ao,n,cap,rfl,-⟩:=id h
 by_cases hR : R = R'
 ·by_cases hC : C = C'
  ·subst hR
   subst hC
   have hd : decide (R = R/\C = C/\ValidM R C M) = decide (ValidM R C M):=by simp
   rw [hd]
   clear hd
   obtain ⟨ans,ha⟩ : ∃ans,decide (ValidM R C M) = ans:=⟨_,rfl⟩
   rw [ha]
   go_enter Tryz.func64,Tryz.ntmps64
   go_upto_region 1 with (fail)
   refine wp_world ?_
   intro W0 hW0
   obtain ⟨hB0,bx1,hs0⟩:=world1 hW0
   obtain ⟨c1,c2,c3,c4,c5,c6⟩:=bx1.three
   go_wp2_with fail
   refine (r5valid_any _ R C M W0 (h0.below hB0)).mono ?_
   rintro e w1 ⟨rfl,hb1⟩
   rw [ha]
   go_wp2
   go_ret
   exact ⟨rfl,nx hB0 hb1⟩
  ·have hd : decide (R = R'/\C = C'/\ValidM R C M) = false:=decide_eq_false (fun hh=>hC hh.2.1)
   rw [hd]
   go_enter Tryz.func64,Tryz.ntmps64
   go_upto_region 1 with (fail)
   refine wp_world ?_
   intro W0 hW0
   obtain ⟨hB0,bx1,hs0⟩:=world1 hW0
   obtain ⟨c1,c2,c3,c4,c5,c6⟩:=bx1.three
   go_wp2
   go_ret
   exact ⟨rfl,hB0⟩
 ·have hd : decide (R = R'/\C = C'/\ValidM R C M) = false:=decide_eq_false (fun hh=>hR hh.1)
  rw [hd]
  go_enter Tryz.func64,Tryz.ntmps64
  go_upto_region 1 with (fail)
  refine wp_world ?_
  intro W0 hW0
  obtain ⟨hB0,bx1,hs0⟩:=world1 hW0
  obtain ⟨c1,c2,c3,c4,c5,c6⟩:=bx1.three
  go_wp2
  go_ret
  exact ⟨rfl,hB0⟩
theorem ValidM.fits {R C : Nat} {M : List (List Int)} (h : ValidM R C M) : Fits R C M:=by
 obtain ⟨-,-,h1,h2⟩:=h
 exact ⟨by omega,fun r hr=>by have:=h2 r hr; omega⟩
theorem sized_ans (v : Value) (R C R' C' : Int) (M : List (List Int)) (ans : Bool) (ha : decide (R = R'/\C = C'/\ValidM R C M) = ans) (w : World) (h : MatV w v R C M) :
  Calls Tryz.prog 64 #[v,.int .i64 R',.int .i64 C'] w fun e w'=>e = .returned (.bool ans)/\Below w.heap.size w w':=by
 subst ha
 exact sized_any v R C R' C' M w h
def InvM (n : Nat) (R1 C1 R2 C2 : Int) (M1 M2 : List (List Int)) : Bool:=
 decide (R1 = n/\C1 = n/\ValidM R1 C1 M1) && (decide (R2 = n/\C2 = n/\ValidM R2 C2 M2) && decide (genM n n (mulf M1 M2 n) = genM n n idf))
set_option maxHeartbeats 4000000 in
set_option maxRecDepth 20000 in
theorem inverse_any (v1 v2 : Value) (n : Nat) (R1 C1 R2 C2 : Int) (M1 M2 : List (List Int)) (w : World) (h1 : MatV w v1 R1 C1 M1) (h2 : MatV w v2 R2 C2 M2) (hn : n<=1000000) (hS : Fits n n M1->Fits n n M2->MulSm M1 M2 n n n) :
  Calls Tryz.prog 65 #[v1,v2,.int .i64 n] w fun e w'=>e = .returned (.bool (InvM n R1 C1 R2 C2 M1 M2))/\Below w.heap.size w w':=by
 have h1':=h1
 have h2':=h2
 obtain ⟨A1,rfl,h1⟩:=h1
 obtain ⟨A2,rfl,h2⟩:=h2
 obtain ⟨ao,n1,cap,rfl,-⟩:=id h1
 obtain ⟨bo,n2,bcap,rfl,-⟩:=id h2
 have HS:=HidS.mk hS
 clear hS
 have hc1:=sized_ans (.agg #[.int .i64 R1,.int .i64 C1,.slice ao n1 cap]) R1 C1 n n M1 _ rfl
 have hc2:=sized_ans (.agg #[.int .i64 R2,.int .i64 C2,.slice bo n2 bcap]) R2 C2 n n M2 _ rfl
 by_cases ha : R1 = n/\C1 = n/\ValidM R1 C1 M1
 ·have hda:=decide_eq_true ha
  rw [hda] at hc1
  by_cases hb : R2 = n/\C2 = n/\ValidM R2 C2 M2
  ·have hdb:=decide_eq_true hb
   rw [hdb] at hc2
   have hI : InvM n R1 C1 R2 C2 M1 M2 = decide (genM n n (mulf M1 M2 n) = genM n n idf):=by unfold InvM; rw [hda,hdb,Bool.true_and,Bool.true_and]
   rw [hI]
   obtain ⟨rfl,rfl,hv1⟩:=ha
   obtain ⟨rfl,rfl,hv2⟩:=hb
   have HF1:=HidS.mk hv1.fits
   have HF2:=HidS.mk hv2.fits
   clear hv1 hv2 hI
   have h1'' : MatV w (.agg #[.int .i64 n,.int .i64 n,.slice ao n1 cap]) n n M1:=h1'
   have h2'' : MatV w (.agg #[.int .i64 n,.int .i64 n,.slice bo n2 bcap]) n n M2:=h2'
   obtain ⟨ans,hans⟩ : ∃ans,decide (genM n n (mulf M1 M2 n) = genM n n idf) = ans:=⟨_,rfl⟩
   rw [hans]
   have HANS:=HidS.mk hans
   clear hda hdb hans
   go_enter Tryz.func65,Tryz.ntmps65
   go_upto_region 1 with (fail)
   refine wp_world ?_
   intro W0 hW0
   obtain ⟨hB0,bx1,bx2,hs0⟩:=world2 hW0
   obtain ⟨c1,c2,c3,c4,c5,c6⟩:=bx1.three
   go_wp2_with fail
   refine (hc1 W0 (h1'.below hB0)).mono ?_
   rintro e w1 ⟨rfl,hb1⟩
   have bx1:=bx1.below hb1
   have bx2:=bx2.below hb1
   have hBt:=nx hB0 hb1
   clear c1 c2 c3 c4 c5 c6
   obtain ⟨d1,d2,d3,d4,d5,d6⟩:=bx2.three
   go_wp2_with fail
   refine (hc2 w1 (h2'.below hBt)).mono ?_
   rintro e w2 ⟨rfl,hb2⟩
   have bx1:=bx1.below hb2
   have bx2:=bx2.below hb2
   have hBt:=nx hBt hb2
   clear d1 d2 d3 d4 d5 d6
   obtain ⟨c1,c2,c3,c4,c5,c6⟩:=bx1.three
   obtain ⟨d1,d2,d3,d4,d5,d6⟩:=bx2.three
   go_wp2_with fail
   refine (r5product_any _ _ n n n M1 M2 w2 (h1''.below hBt) (h2''.below hBt) HF1.out HF2.out hn hn hn (HS.out HF1.out HF2.out)).mono ?_
   rintro e w3 ⟨u,bs,rfl,hmo,hb3⟩
   have hBt:=nx hBt hb3
   have hm3:=hmo.mat.1
   clear hmo
   go_wp2_with fail
   refine (r5identity_any n w3 hn).mono ?_
   rintro e w4 ⟨u',bs',rfl,hmo',hb4⟩
   have hBt:=nx hBt hb4
   have hm4:=hmo'.mat.1
   have hm3:=hm3.below hb4
   clear hmo'
   go_wp2_with fail
   refine (same_any _ _ n n n n _ _ w4 hm3 hm4).mono ?_
   rintro e w5 ⟨rfl,hb5⟩
   have hd : decide ((n : Int) = n/\(n : Int) = n/\genM n n (mulf M1 M2 n) = genM n n idf) = ans:=by rw [<-HANS.out]; simp
   rw [hd]
   go_wp2
   go_ret
   exact ⟨rfl,nx hBt hb5⟩
  ·have hdb:=decide_eq_false hb
   rw [hdb] at hc2
   have hI : InvM n R1 C1 R2 C2 M1 M2 = false:=by unfold InvM; rw [hdb,Bool.false_and,Bool.and_false]
   rw [hI]
   clear ha hb hI hda hdb
   go_enter Tryz.func65,Tryz.ntmps65
   go_upto_region 1 with (fail)
   refine wp_world ?_
   intro W0 hW0
   obtain ⟨hB0,bx1,bx2,hs0⟩:=world2 hW0
   obtain ⟨c1,c2,c3,c4,c5,c6⟩:=bx1.three
   go_wp2_with fail
   refine (hc1 W0 (h1'.below hB0)).mono ?_
   rintro e w1 ⟨rfl,hb1⟩
   have bx2:=bx2.below hb1
   have hBt:=nx hB0 hb1
   obtain ⟨d1,d2,d3,d4,d5,d6⟩:=bx2.three
   go_wp2_with fail
   refine (hc2 w1 (h2'.below hBt)).mono ?_
   rintro e w2 ⟨rfl,hb2⟩
   go_wp2
   go_ret
   exact ⟨rfl,nx hBt hb2⟩
 ·have hda:=decide_eq_false ha
  rw [hda] at hc1
  have hI : InvM n R1 C1 R2 C2 M1 M2 = false:=by unfold InvM; rw [hda,Bool.false_and]
  rw [hI]
  clear ha hI hda
  go_enter Tryz.func65,Tryz.ntmps65
  go_upto_region 1 with (fail)
  refine wp_world ?_
  intro W0 hW0
  obtain ⟨hB0,bx1,bx2,hs0⟩:=world2 hW0
  obtain ⟨c1,c2,c3,c4,c5,c6⟩:=bx1.three
  go_wp2_with fail
  refine (hc1 W0 (h1'.below hB0)).mono ?_
  rintro e w1 ⟨rfl,hb1⟩
  go_wp2
  go_ret
  exact ⟨rfl,nx hB0 hb1⟩
def leadGo : Nat->List Int->Int
 | _,[]=>-1
 | k,z :: zs=>if z ≠ 0 then (k : Int) else leadGo (k + 1) zs
set_option maxHeartbeats 2000000 in
set_option maxRecDepth 20000 in
theorem leading_any (v : Value) (zs : List Int) (w : World) (h : VecV w v zs) :
  Calls Tryz.prog 133 #[v] w fun e w'=>e = .returned (.int .i64 (leadGo 0 zs))/\Below w.heap.size w w':=by
 obtain ⟨ao,n,cap,rfl,h2,h3,h4,h5⟩:=id h
 have HL:=Lib.hid h2
 clear h2 h5
 go_enter Tryz.func133,Tryz.ntmps133
 go_wp2
 go_loopw [7] (fun i wr=>∃k : Nat,k<=n/\i = .int .i64 k/\Below w.heap.size w wr/\Hid (leadGo 0 zs = leadGo k (zs.drop k))) (fun i _=>n - (intOf i).toNat)
 case atStart=>exact ⟨0,by omega,rfl,Below.refl _ _,by rw [List.drop_zero]; exact Lib.hid rfl⟩
 case round=>
  obtain ⟨k,hk,rfl,hb,hgo⟩:=hrel
  by_cases hlt : k < n
  ·obtain ⟨b,z,s,a,l,c,rfl,hbl,hz,c1,c2,hv⟩:=(h.below hb).cell (k:=k) (by rw [HL.out]; exact hlt)
   have HZ:=Lib.hid hz
   clear hz
   go_upto_region 4 with (fail)
   refine wp_world ?_
   intro W6 hW6
   obtain ⟨hB6,T6,hs6⟩:=world1 hW6
   obtain ⟨d1,d2,d3,d4⟩:=T6.two
   clear c1 c2 hW6
   go_wp2_with fail
   refine (sign_any _ z W6 (hv.ext (lx hB6)).weak).mono ?_
   rintro e w7 ⟨rfl,hb7⟩
   have hb9:=nx (nx hb hB6) hb7
   by_cases hz0 : z = 0
   ·rw [cmpI_zero hz0]
    go_wp2
    go_roundw
    case rel=>
     refine ⟨k + 1,by omega,by simp,hb9,Lib.hid ?_⟩
     rw [hgo.out,drop_cons HZ.out]
     conv=>lhs; unfold leadGo
     rw [if_neg (by simp [hz0])]
    case measure=>simp [intOf]; omega
   ·have hc:=cmpI_ne hz0
    obtain ⟨k0,hk0⟩ : ∃k0,cmpI z 0 = k0:=⟨_,rfl⟩
    rw [hk0] at hc ⊢
    go_wp2
    go_ret
    refine ⟨?_,hb9⟩
    rw [hgo.out,drop_cons HZ.out]
    conv=>rhs; unfold leadGo
    rw [if_pos hz0]
    rfl
  ·obtain rfl : k = n:=by omega
   go_wp2
   go_ret
   refine ⟨?_,hb⟩
   rw [hgo.out,List.drop_eq_nil_of_le (Nat.le_of_eq HL.out)]
   rfl
set_option maxHeartbeats 2000000 in
set_option maxRecDepth 20000 in
theorem quotient_any (v1 v2 : Value) (z1 z2 : Int) (w : World) (h1 : IntV w v1 z1) (h2 : IntV w v2 z2) (s1 : Sm z1) (s2 : Sm z2) (hz : z2 ≠ 0) :
  Calls Tryz.prog 121 #[v1,v2] w (RetInt w (z1 / z2)):=by
 obtain ⟨neg1,ao1,n1,cap1,xs,rfl,i1⟩:=id h1
 obtain ⟨neg2,ao2,n2,cap2,ys,rfl,i2⟩:=id h2
 have HS1:=HidS.mk s1
 have HS2:=HidS.mk s2
 clear s1 s2 i1 i2
 go_enter Tryz.func121,Tryz.ntmps121
 go_upto_region 1 with (fail)
 refine wp_world ?_
 intro W0 hW0
 obtain ⟨hB0,bx1,bx2,br,hs0⟩:=world3 hW0
 obtain ⟨c1,c2,c3,c4⟩:=bx1.two
 obtain ⟨d1,d2,d3,d4⟩:=bx2.two
 go_wp2_with fail
 refine (divmod_any _ _ z1 z2 W0 (h1.ext (lx hB0)).weak (h2.ext (lx hB0)).weak HS1.out HS2.out hz).mono ?_
 rintro e w2 ⟨q0,r0,rfl,hq,hr,hb2⟩
 obtain ⟨qn,qa,ql,qc,qx,rfl,hq'⟩:=id hq
 obtain ⟨rn,ra,rl,rc,rx,rfl,hr'⟩:=id hr
 have HQ':=Lib.hid hq'
 have HR':=Lib.hid hr'
 clear hq' hr' c1 c2 c3 c4 d1 d2 d3 d4
 go_upto_region 2 with (fail)
 refine wp_world ?_
 intro W3 hW3
 obtain ⟨hB3,T5,T6,hs3⟩:=world2 hW3
 have br:=(br.below hb2).below hB3
 obtain ⟨c1,c2,c3,c4⟩:=T5.two
 obtain ⟨d1,d2,d3,d4⟩:=br.two
 go_wp2
 refine bodyPost_int rfl rfl rfl (br.put2 _ _) ?_ (bset (bset (nx (nx hB0 hb2) hB3) oM 0 _) oM 1 _)
 exact (hq.ext (lx hB3)).ext (br.lext2 dE _ _)
end Go.Proofs.YtnocgagoaldfnaaGreat
