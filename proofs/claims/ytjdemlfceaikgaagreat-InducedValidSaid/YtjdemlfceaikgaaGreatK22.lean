/- torsionref26.Space: the spaces that the complexes begin with (printed by genSp.py). torsionref26.Grown: a complex with one more cell. torsionref26.Made: a complex. torsionref29.raised: the chain of the next dimension that belongs to a cell. torsionref29.lifted: the homotopy of a chain. torsionref29.Homotopic: a map that is homotopic to a multiple of the identity. Arguments of torsionlaw29's statements, opened. -/
import Derived.Test.YtjdemlfceaikgaaGreatK04
import Derived.Test.YtjdemlfceaikgaaGreatK13
import Derived.Test.YtjdemlfceaikgaaGreatK21
set_option linter.unusedVariables false
set_option linter.unusedSimpArgs false
set_option linter.unusedSectionVars false
namespace Go.Proofs.YtjdemlfceaikgaaGreat
open Go.RowKit
def CeG (f : Cel) (w : World) (v : Value) : Prop:=CelV w v f
theorem lastsB_ceg (f : Cel) : LastsB (CeG f):=fun _ _ _ b h=>CelV.below h b
def I64G (l : List Int) (w : World) (v : Value) : Prop:=I64V w v l
theorem lastsB_i64g (l : List Int) : LastsB (I64G l):=fun _ _ _ b h=>I64V.below h b
theorem I64V.newS (W : World) (ls : List Int) (hb : (ls.all fun z=>decide (-9223372036854775808<=z/\z<=9223372036854775807)) = true) (hl : ls.length<=1000) :
  I64V (W.alloc (.cells (ls.map (Value.int .i64)).toArray 2)) (.slice (some ⟨W.heap.size,0,none⟩) ls.length ls.length) ls:=by
 refine ⟨_,_,_,rfl,rfl,Nat.le_refl _,by omega,fun z hz=>of_decide_eq_true (List.all_eq_true.1 hb z hz),fun _=>⟨W.heap.size,_,rfl,heap_alloc_new W _,fun k z hk=>?_⟩⟩
 simp [hk]
theorem I64V.nilS (w : World) : I64V w (.slice none 0 0) []:=⟨none,0,0,rfl,rfl,Nat.le_refl _,by omega,by simp,fun h=>absurd rfl h⟩
theorem cellN (nr d : Int) (w : World) : Calls Tryz.prog 38 #[.int .i64 nr,.int .i64 d,.slice none 0 0] w fun e w'=>∃u,e = .returned u/\CelV w' u (nr,d,[])/\Below w.heap.size w w':=
 cell_any _ nr d [] [] w (I64V.nilS w) rfl (two_pow_lim (e:=1) dE dE) dE
theorem LsO.lits {α : Type} {e : El α} {w : World} {base g : Nat} {cs : Array Value} (hb : Blk w g e.T cs) (hg : base<=g) (LX : List (List Value × α)) (hc : cs.toList = (LX.map (·.1)).flatten) (hE : ∀p ∈ LX,e.E w p.1 p.2) (hm : LX.length<=1000) : LsO e w base (.slice (some ⟨g,0,none⟩) LX.length LX.length) (LX.map (·.2)):=by
 have:=LsO.lit (e:=e) (xs:=LX.map (·.2)) hb hg (LX.map (·.1)) hc sI (fun i vs x h1 h2=>by
  rw [List.getElem?_map] at h1 h2
  rcases hp : LX[i]? with _ | p
  ·rw [hp] at h1; cases h1
  ·rw [hp] at h1 h2
   cases h1
   cases h2
   exact hE p (List.mem_of_getElem? hp)) (by simp [maxLen]; omega)
 rwa [List.length_map] at this
theorem appCe {w : World} {ops : Array Oper} {rest : List Oper} {o : Oper} {a : Act} {Q : Exit->Act->World->Prop} (hgd : o.guard = none) (s x : Operand)
  (ho : o.op = .call { callee:=.builtin .append,args:=#[s,x],argTypes:=#[31,31] })
  (base : Nat) (v : Value) (xs : Cx) (hs : a.eval s = v) (hown : CpxO w base v xs) (yv : Value) (ys : Cx) (hx : a.eval x = yv) (hy : CpxV w yv ys) (hlen : xs.length + ys.length<=10000000) (hbase : base<=w.heap.size)
  (h : ∀v' w',CpxO w' base v' (xs ++ ys)->w.grownBy w' v.ownBlock->TE [tFc,tU] w w'->wpList Tryz.prog ops Q rest (a.put o.dst v') w') : wpList Tryz.prog ops Q (o :: rest) a w:=by
 obtain ⟨i0,hi,hz0,hz1,hz2⟩:=info_parts Tryz.infoCe
 exact wpList_appLs hgd cellE s x 31 ho Tryz.underlying31 hi hz0 hz1 hz2 rfl dE base v xs hs hown yv ys hx hy oM hbase fun v' w' h1 h2 h3=>h v' w' h1 h2 h3
theorem celE {w : World} {f : Cel} {o : Option Addr} {n c : Nat} (h : ChnV w (.slice o n c) f.2.2) : cellE.E w [.int .i64 f.1,.int .i64 f.2.1,.slice o n c] f:=⟨_,rfl,h⟩
set_option maxHeartbeats 16000000 in
set_option maxRecDepth 20000 in
theorem space_any (s : Nat) (w : World) (hs : s<=255) :
  Calls Tryz.prog 36 #[.int .u8 s] w fun e w'=>∃u,e = .returned u/\CpxV w' u (spaceC (s % 14))/\Below w.heap.size w w':=by
 obtain ⟨q,hq⟩ : ∃q,s % 14 = q:=⟨_,rfl⟩
 have hq14 : q < 14:=by omega
 have hmod : (s : Int).tmod 14 = (q : Int):=by rw [<-hq]; rfl
 rw [hq]
 clear hq
 go_enter Tryz.func36,Tryz.ntmps36
 go_wp2_with fail
 refine (cellN 1 0 w).mono ?_
 rintro e w1 ⟨_,rfl,⟨po,pn,pc,rfl,hP⟩,hb1⟩
 go_wp2_with fail
 refine (cellN 2 1 w1).mono ?_
 rintro e w2 ⟨_,rfl,⟨lo,ln,lc,rfl,hL⟩,hb2⟩
 have hP:=hP.below hb2
 go_upto_region 2 with (fail)
 refine wp_world ?_
 intro W0 hW0
 obtain ⟨hB0,TP,TL,hs0⟩:=world2 hW0
 have HP:=HidS.mk (hP.below hB0)
 have HL:=HidS.mk (hL.below hB0)
 have hBA:=nx (nx hb1 hb2) hB0
 obtain ⟨c1,c2,c3,c4,c5,c6⟩:=TP.three
 obtain ⟨d1,d2,d3,d4,d5,d6⟩:=TL.three
 clear hW0 hP hL
 have hla1:=lastsB_ceg (2,0,[])
 have hla2:=lastsB_ceg (3,0,[])
 have hla3:=lastsB_i64g [1,-1,2,1]
 have hla4:=lastsB_ceg (4,1,[(1,-1),(2,1)])
 have hla5:=lastsB_i64g [2,-1,3,1]
 have hla6:=lastsB_ceg (5,1,[(2,-1),(3,1)])
 have hla7:=lastsB_i64g [1,1,3,-1]
 have hla8:=lastsB_ceg (6,1,[(1,1),(3,-1)])
 go_upto_region 2 with (fail)
 refine wp_serH 9 [pcD 1 [] (CeG (2,0,[])),pcD 2 [] (CeG (3,0,[])),pcD 3 [] (I64G [1,-1,2,1]),pcD 4 [3] (CeG (4,1,[(1,-1),(2,1)])),pcD 5 [] (I64G [2,-1,3,1]),pcD 6 [5] (CeG (5,1,[(2,-1),(3,1)])),pcD 7 [] (I64G [1,1,3,-1]),pcD 8 [7] (CeG (6,1,[(1,1),(3,-1)]))] ?_
 refine sRd ?_
 refine sRc (fun wS hI Gk hG=>by go_simp; exact ck hG (cellN 2 0 wS)) (fun _ hv=>?_)
 obtain ⟨_,-,oa1,na1,ca1,rfl,-⟩:=hv
 refine sRc (fun wS hI Gk hG=>by go_simp; exact ck hG (cellN 3 0 wS)) (fun _ hv=>?_)
 obtain ⟨_,-,oa2,na2,ca2,rfl,-⟩:=hv
 refine sRc (fun wS hI Gk hG=>?_) (fun _ hv=>?_)
 ·go_simp
  exact ⟨hG _ _ (I64V.newS _ [1,-1,2,1] dE dE),(Below.refl _ _).alloc (Nat.le_refl _) _⟩
 obtain ⟨_,-,ia3,ja3,ka3,rfl,-⟩:=hv
 refine sRc (fun wS hI h3 Gk hG=>by go_simp; exact ck hG (cell_any _ 4 1 [(1,-1),(2,1)] [(1,-1),(2,1)] wS h3 dE (two_pow_lim (e:=10) dE dE) dE)) (fun _ hv=>?_)
 obtain ⟨_,-,oa4,na4,ca4,rfl,-⟩:=hv
 refine sRc (fun wS hI Gk hG=>?_) (fun _ hv=>?_)
 ·go_simp
  exact ⟨hG _ _ (I64V.newS _ [2,-1,3,1] dE dE),(Below.refl _ _).alloc (Nat.le_refl _) _⟩
 obtain ⟨_,-,ia5,ja5,ka5,rfl,-⟩:=hv
 refine sRc (fun wS hI h5 Gk hG=>by go_simp; exact ck hG (cell_any _ 5 1 [(2,-1),(3,1)] [(2,-1),(3,1)] wS h5 dE (two_pow_lim (e:=10) dE dE) dE)) (fun _ hv=>?_)
 obtain ⟨_,-,oa6,na6,ca6,rfl,-⟩:=hv
 refine sRc (fun wS hI Gk hG=>?_) (fun _ hv=>?_)
 ·go_simp
  exact ⟨hG _ _ (I64V.newS _ [1,1,3,-1] dE dE),(Below.refl _ _).alloc (Nat.le_refl _) _⟩
 obtain ⟨_,-,ia7,ja7,ka7,rfl,-⟩:=hv
 refine sRc (fun wS hI h7 Gk hG=>by go_simp; exact ck hG (cell_any _ 6 1 [(1,1),(3,-1)] [(1,1),(3,-1)] wS h7 dE (two_pow_lim (e:=10) dE dE) dE)) (fun _ hv=>?_)
 obtain ⟨_,-,oa8,na8,ca8,rfl,-⟩:=hv
 refine sRe ?_
 intro w3 hbw3 ga1 ga2 _ ga4 _ ga6 _ ga8
 obtain ⟨_,_,_,ee,ga1⟩:=(show CelV w3 _ (2,0,[]) from ga1)
 cases ee
 obtain ⟨_,_,_,ee,ga2⟩:=(show CelV w3 _ (3,0,[]) from ga2)
 cases ee
 obtain ⟨_,_,_,ee,ga4⟩:=(show CelV w3 _ (4,1,[(1,-1),(2,1)]) from ga4)
 cases ee
 obtain ⟨_,_,_,ee,ga6⟩:=(show CelV w3 _ (5,1,[(2,-1),(3,1)]) from ga6)
 cases ee
 obtain ⟨_,_,_,ee,ga8⟩:=(show CelV w3 _ (6,1,[(1,1),(3,-1)]) from ga8)
 cases ee
 have HP3:=HidS.mk (HP.out.below hbw3)
 have HL3:=HidS.mk (HL.out.below hbw3)
 have GA:=HidS.mk (And.intro ga1 (And.intro ga2 (And.intro ga4 (And.intro ga6 ga8))))
 clear ga1 ga2 ga4 ga6 ga8
 go_upto_region 3 with (fail)
 refine wp_world ?_
 intro W4 hW4
 have hb4 : Below w3.heap.size w3 W4:=by rw [hW4.out]; exact (Below.refl _ _).alloc (Nat.le_refl _) _
 obtain ⟨ga1,ga2,ga4,ga6,ga8⟩:=GA.out
 have H3 : CpxO W4 w3.heap.size (.slice (some ⟨w3.heap.size,0,none⟩) 6 6) threeC:=by
  rw [hW4.out]
  refine LsO.lits (Blk.new _ _ _) (Nat.le_refl _) [([.int .i64 1,.int .i64 0,.slice po pn pc],(1,0,[])),([.int .i64 2,.int .i64 0,.slice oa1 na1 ca1],(2,0,[])),([.int .i64 3,.int .i64 0,.slice oa2 na2 ca2],(3,0,[])),([.int .i64 4,.int .i64 1,.slice oa4 na4 ca4],(4,1,[(1,-1),(2,1)])),([.int .i64 5,.int .i64 1,.slice oa6 na6 ca6],(5,1,[(2,-1),(3,1)])),([.int .i64 6,.int .i64 1,.slice oa8 na8 ca8],(6,1,[(1,1),(3,-1)]))] rfl (List.forall_mem_cons.2 ⟨celE (f:=(1,0,[])) ?_,List.forall_mem_cons.2 ⟨celE (f:=(2,0,[])) ?_,List.forall_mem_cons.2 ⟨celE (f:=(3,0,[])) ?_,List.forall_mem_cons.2 ⟨celE (f:=(4,1,[(1,-1),(2,1)])) ?_,List.forall_mem_cons.2 ⟨celE (f:=(5,1,[(2,-1),(3,1)])) ?_,List.forall_mem_cons.2 ⟨celE (f:=(6,1,[(1,1),(3,-1)])) ?_,fun _ h=>by cases h⟩⟩⟩⟩⟩⟩) sI
  ·exact LsV.below HP3.out ((Below.refl _ _).alloc (Nat.le_refl _) _)
  ·exact LsV.below ga1 ((Below.refl _ _).alloc (Nat.le_refl _) _)
  ·exact LsV.below ga2 ((Below.refl _ _).alloc (Nat.le_refl _) _)
  ·exact LsV.below ga4 ((Below.refl _ _).alloc (Nat.le_refl _) _)
  ·exact LsV.below ga6 ((Below.refl _ _).alloc (Nat.le_refl _) _)
  ·exact LsV.below ga8 ((Below.refl _ _).alloc (Nat.le_refl _) _)
 have TP:=(TP.below hbw3).below hb4
 have TL:=(TL.below hbw3).below hb4
 have HP:=HidS.mk (HP3.out.below hb4)
 have HL:=HidS.mk (HL3.out.below hb4)
 have HTH:=HidS.mk H3
 have hsz4:=hb4.size
 have hB4:=nx (nx hBA hbw3) hb4
 obtain ⟨c1,c2,c3,c4,c5,c6⟩:=TP.three
 obtain ⟨d1,d2,d3,d4,d5,d6⟩:=TL.three
 clear hW4 H3 ga1 ga2 ga4 ga6 ga8 GA HP3 HL3
 rcases (by omega : q = 0 ∨ q = 1 ∨ q = 2 ∨ q = 3 ∨ q = 4 ∨ q = 5 ∨ q = 6 ∨ q = 7 ∨ q = 8 ∨ q = 9 ∨ q = 10 ∨ q = 11 ∨ q = 12 ∨ q = 13) with rfl | rfl | rfl | rfl | rfl | rfl | rfl | rfl | rfl | rfl | rfl | rfl | rfl | rfl
 ·have hm : (s : Int).tmod 14 = 0:=hmod
  clear hmod hq14
  go_wp2
  go_ret
  exact ⟨_,rfl,LsV.nil _ _ _ _ (Nat.zero_le _),hB4⟩
 ·have hm : (s : Int).tmod 14 = 1:=hmod
  clear hmod hq14
  go_wp2
  go_ret
  refine ⟨_,rfl,(LsO.lits (base:=0) (Blk.new _ _ _) (Nat.zero_le _) [([.int .i64 1,.int .i64 0,.slice po pn pc],(1,0,[]))] rfl (List.forall_mem_cons.2 ⟨celE (f:=(1,0,[])) ?_,fun _ h=>by cases h⟩) sI).vs,?_⟩
  ·exact LsV.below HP.out ((Below.refl _ _).alloc (Nat.le_refl _) _)
  ·exact (hB4).alloc (hB4).size _
 ·have hm : (s : Int).tmod 14 = 2:=hmod
  clear hmod hq14
  have hlb1:=lastsB_ceg (7,0,[])
  go_upto_region 7 with (fail)
  refine wp_serH 2 [pcD 1 [] (CeG (7,0,[]))] ?_
  refine sRd ?_
  refine sRc (fun wS hI Gk hG=>by go_simp; exact ck hG (cellN 7 0 wS)) (fun _ hv=>?_)
  obtain ⟨_,-,ob1,nb1,cb1,rfl,-⟩:=hv
  refine sRe ?_
  intro w5 hbw5 gb1
  obtain ⟨_,_,_,ee,gb1⟩:=(show CelV w5 _ (7,0,[]) from gb1)
  cases ee
  have HP:=HidS.mk (HP.out.below hbw5)
  have HL:=HidS.mk (HL.out.below hbw5)
  have hB5:=nx hB4 hbw5
  have G1:=HidS.mk gb1
  clear gb1
  go_wp2
  go_ret
  refine ⟨_,rfl,(LsO.lits (base:=0) (Blk.new _ _ _) (Nat.zero_le _) [([.int .i64 1,.int .i64 0,.slice po pn pc],(1,0,[])),([.int .i64 7,.int .i64 0,.slice ob1 nb1 cb1],(7,0,[]))] rfl (List.forall_mem_cons.2 ⟨celE (f:=(1,0,[])) ?_,List.forall_mem_cons.2 ⟨celE (f:=(7,0,[])) ?_,fun _ h=>by cases h⟩⟩) sI).vs,?_⟩
  ·exact LsV.below HP.out ((Below.refl _ _).alloc (Nat.le_refl _) _)
  ·exact LsV.below G1.out ((Below.refl _ _).alloc (Nat.le_refl _) _)
  ·exact (hB5).alloc (hB5).size _
 ·have hm : (s : Int).tmod 14 = 3:=hmod
  clear hmod hq14
  have hlb1:=lastsB_ceg (2,0,[])
  have hlb2:=lastsB_i64g [1,-1,2,1]
  have hlb3:=lastsB_ceg (3,1,[(1,-1),(2,1)])
  go_upto_region 9 with (fail)
  refine wp_serH 4 [pcD 1 [] (CeG (2,0,[])),pcD 2 [] (I64G [1,-1,2,1]),pcD 3 [2] (CeG (3,1,[(1,-1),(2,1)]))] ?_
  refine sRd ?_
  refine sRc (fun wS hI Gk hG=>by go_simp; exact ck hG (cellN 2 0 wS)) (fun _ hv=>?_)
  obtain ⟨_,-,ob1,nb1,cb1,rfl,-⟩:=hv
  refine sRc (fun wS hI Gk hG=>?_) (fun _ hv=>?_)
  ·go_simp
   exact ⟨hG _ _ (I64V.newS _ [1,-1,2,1] dE dE),(Below.refl _ _).alloc (Nat.le_refl _) _⟩
  obtain ⟨_,-,ib2,jb2,kb2,rfl,-⟩:=hv
  refine sRc (fun wS hI h2 Gk hG=>by go_simp; exact ck hG (cell_any _ 3 1 [(1,-1),(2,1)] [(1,-1),(2,1)] wS h2 dE (two_pow_lim (e:=10) dE dE) dE)) (fun _ hv=>?_)
  obtain ⟨_,-,ob3,nb3,cb3,rfl,-⟩:=hv
  refine sRe ?_
  intro w5 hbw5 gb1 _ gb3
  obtain ⟨_,_,_,ee,gb1⟩:=(show CelV w5 _ (2,0,[]) from gb1)
  cases ee
  obtain ⟨_,_,_,ee,gb3⟩:=(show CelV w5 _ (3,1,[(1,-1),(2,1)]) from gb3)
  cases ee
  have HP:=HidS.mk (HP.out.below hbw5)
  have HL:=HidS.mk (HL.out.below hbw5)
  have hB5:=nx hB4 hbw5
  have G1:=HidS.mk gb1
  have G3:=HidS.mk gb3
  clear gb1 gb3
  go_wp2
  go_ret
  refine ⟨_,rfl,(LsO.lits (base:=0) (Blk.new _ _ _) (Nat.zero_le _) [([.int .i64 1,.int .i64 0,.slice po pn pc],(1,0,[])),([.int .i64 2,.int .i64 0,.slice ob1 nb1 cb1],(2,0,[])),([.int .i64 3,.int .i64 1,.slice ob3 nb3 cb3],(3,1,[(1,-1),(2,1)]))] rfl (List.forall_mem_cons.2 ⟨celE (f:=(1,0,[])) ?_,List.forall_mem_cons.2 ⟨celE (f:=(2,0,[])) ?_,List.forall_mem_cons.2 ⟨celE (f:=(3,1,[(1,-1),(2,1)])) ?_,fun _ h=>by cases h⟩⟩⟩) sI).vs,?_⟩
  ·exact LsV.below HP.out ((Below.refl _ _).alloc (Nat.le_refl _) _)
  ·exact LsV.below G1.out ((Below.refl _ _).alloc (Nat.le_refl _) _)
  ·exact LsV.below G3.out ((Below.refl _ _).alloc (Nat.le_refl _) _)
  ·exact (hB5).alloc (hB5).size _
 ·have hm : (s : Int).tmod 14 = 4:=hmod
  clear hmod hq14
  go_wp2
  go_ret
  refine ⟨_,rfl,(LsO.lits (base:=0) (Blk.new _ _ _) (Nat.zero_le _) [([.int .i64 1,.int .i64 0,.slice po pn pc],(1,0,[])),([.int .i64 2,.int .i64 1,.slice lo ln lc],(2,1,[]))] rfl (List.forall_mem_cons.2 ⟨celE (f:=(1,0,[])) ?_,List.forall_mem_cons.2 ⟨celE (f:=(2,1,[])) ?_,fun _ h=>by cases h⟩⟩) sI).vs,?_⟩
  ·exact LsV.below HP.out ((Below.refl _ _).alloc (Nat.le_refl _) _)
  ·exact LsV.below HL.out ((Below.refl _ _).alloc (Nat.le_refl _) _)
  ·exact (hB4).alloc (hB4).size _
 ·have hm : (s : Int).tmod 14 = 5:=hmod
  clear hmod hq14
  go_wp2
  go_ret
  exact ⟨_,rfl,HTH.out.vs,hB4⟩
 ·have hm : (s : Int).tmod 14 = 6:=hmod
  clear hmod hq14
  have hal:=(Below.refl W4.heap.size W4).alloc (Nat.le_refl _) (.cells #[.int .i64 4,.int .i64 1,.int .i64 5,.int .i64 1,.int .i64 6,.int .i64 1] 2)
  have HI:=HidS.mk (I64V.newS W4 [4,1,5,1,6,1] dE dE)
  go_wp2_with fail
  refine (cell_any _ 9 2 [(4,1),(5,1),(6,1)] [(4,1),(5,1),(6,1)] _ HI.out dE (two_pow_lim (e:=10) dE dE) dE).mono ?_
  rintro e w5 ⟨_,rfl,⟨o9,n9,c9,rfl,h9⟩,hb5⟩
  have hal5:=(Below.refl w5.heap.size w5).alloc (Nat.le_refl _) (.cells #[.int .i64 9,.int .i64 2,.slice o9 n9 c9] tCe)
  have hB5 : Below w.heap.size w w5:=(hB4.alloc hB4.size _).trans (hb5.mono (by have:=hB4.size; simp; omega))
  have HO5:=HidS.mk ((((HTH.out.below hal).below hb5)).below hal5)
  have H9:=HidS.mk (LsO.lits (e:=cellE) (base:=0) (Blk.new w5 tCe #[.int .i64 9,.int .i64 2,.slice o9 n9 c9]) (Nat.zero_le _) [([.int .i64 9,.int .i64 2,.slice o9 n9 c9],(9,2,[(4,1),(5,1),(6,1)]))] rfl (List.forall_mem_cons.2 ⟨celE (f:=(9,2,[(4,1),(5,1),(6,1)])) (LsV.below h9 hal5),fun _ h=>by cases h⟩) sI).vs
  have hsz5:=hb5.size
  clear h9 hb5
  go_wp2_with (at_builtin; go_loud (refine appCe rfl _ _ rfl w3.heap.size _ threeC rfl HO5.out _ [(9,2,[(4,1),(5,1),(6,1)])] rfl H9.out dE (by simp at hsz5 ⊢; omega) ?_; intro v8 w8 hown8 hgr8 hte8))
  go_ret
  refine ⟨_,rfl,hown8.vs,(hB5.alloc hB5.size _).grown hgr8 (by have:=hB5.size; simp; omega) (fun g hg=>by have:=HO5.out.own g hg; have:=(nx hBA hbw3).size; omega)⟩
 ·have hm : (s : Int).tmod 14 = 7:=hmod
  clear hmod hq14
  have hlb1:=lastsB_ceg (2,2,[])
  go_upto_region 17 with (fail)
  refine wp_serH 2 [pcD 1 [] (CeG (2,2,[]))] ?_
  refine sRd ?_
  refine sRc (fun wS hI Gk hG=>by go_simp; exact ck hG (cellN 2 2 wS)) (fun _ hv=>?_)
  obtain ⟨_,-,ob1,nb1,cb1,rfl,-⟩:=hv
  refine sRe ?_
  intro w5 hbw5 gb1
  obtain ⟨_,_,_,ee,gb1⟩:=(show CelV w5 _ (2,2,[]) from gb1)
  cases ee
  have HP:=HidS.mk (HP.out.below hbw5)
  have HL:=HidS.mk (HL.out.below hbw5)
  have hB5:=nx hB4 hbw5
  have G1:=HidS.mk gb1
  clear gb1
  go_wp2
  go_ret
  refine ⟨_,rfl,(LsO.lits (base:=0) (Blk.new _ _ _) (Nat.zero_le _) [([.int .i64 1,.int .i64 0,.slice po pn pc],(1,0,[])),([.int .i64 2,.int .i64 2,.slice ob1 nb1 cb1],(2,2,[]))] rfl (List.forall_mem_cons.2 ⟨celE (f:=(1,0,[])) ?_,List.forall_mem_cons.2 ⟨celE (f:=(2,2,[])) ?_,fun _ h=>by cases h⟩⟩) sI).vs,?_⟩
  ·exact LsV.below HP.out ((Below.refl _ _).alloc (Nat.le_refl _) _)
  ·exact LsV.below G1.out ((Below.refl _ _).alloc (Nat.le_refl _) _)
  ·exact (hB5).alloc (hB5).size _
 ·have hm : (s : Int).tmod 14 = 8:=hmod
  clear hmod hq14
  have hlb1:=lastsB_ceg (3,1,[])
  have hlb2:=lastsB_ceg (4,2,[])
  go_upto_region 19 with (fail)
  refine wp_serH 4 [pcD 2 [] (CeG (3,1,[])),pcD 3 [] (CeG (4,2,[]))] ?_
  refine sRd ?_
  refine sRc (fun wS hI Gk hG=>by go_simp; exact ck hG (cellN 3 1 wS)) (fun _ hv=>?_)
  obtain ⟨_,-,ob2,nb2,cb2,rfl,-⟩:=hv
  refine sRc (fun wS hI Gk hG=>by go_simp; exact ck hG (cellN 4 2 wS)) (fun _ hv=>?_)
  obtain ⟨_,-,ob3,nb3,cb3,rfl,-⟩:=hv
  refine sRe ?_
  intro w5 hbw5 gb2 gb3
  obtain ⟨_,_,_,ee,gb2⟩:=(show CelV w5 _ (3,1,[]) from gb2)
  cases ee
  obtain ⟨_,_,_,ee,gb3⟩:=(show CelV w5 _ (4,2,[]) from gb3)
  cases ee
  have HP:=HidS.mk (HP.out.below hbw5)
  have HL:=HidS.mk (HL.out.below hbw5)
  have hB5:=nx hB4 hbw5
  have G2:=HidS.mk gb2
  have G3:=HidS.mk gb3
  clear gb2 gb3
  go_wp2
  go_ret
  refine ⟨_,rfl,(LsO.lits (base:=0) (Blk.new _ _ _) (Nat.zero_le _) [([.int .i64 1,.int .i64 0,.slice po pn pc],(1,0,[])),([.int .i64 2,.int .i64 1,.slice lo ln lc],(2,1,[])),([.int .i64 3,.int .i64 1,.slice ob2 nb2 cb2],(3,1,[])),([.int .i64 4,.int .i64 2,.slice ob3 nb3 cb3],(4,2,[]))] rfl (List.forall_mem_cons.2 ⟨celE (f:=(1,0,[])) ?_,List.forall_mem_cons.2 ⟨celE (f:=(2,1,[])) ?_,List.forall_mem_cons.2 ⟨celE (f:=(3,1,[])) ?_,List.forall_mem_cons.2 ⟨celE (f:=(4,2,[])) ?_,fun _ h=>by cases h⟩⟩⟩⟩) sI).vs,?_⟩
  ·exact LsV.below HP.out ((Below.refl _ _).alloc (Nat.le_refl _) _)
  ·exact LsV.below HL.out ((Below.refl _ _).alloc (Nat.le_refl _) _)
  ·exact LsV.below G2.out ((Below.refl _ _).alloc (Nat.le_refl _) _)
  ·exact LsV.below G3.out ((Below.refl _ _).alloc (Nat.le_refl _) _)
  ·exact (hB5).alloc (hB5).size _
 ·have hm : (s : Int).tmod 14 = 9:=hmod
  clear hmod hq14
  have hlb1:=lastsB_i64g [2,2]
  have hlb2:=lastsB_ceg (3,2,[(2,2)])
  go_upto_region 21 with (fail)
  refine wp_serH 4 [pcD 2 [] (I64G [2,2]),pcD 3 [2] (CeG (3,2,[(2,2)]))] ?_
  refine sRd ?_
  refine sRc (fun wS hI Gk hG=>?_) (fun _ hv=>?_)
  ·go_simp
   exact ⟨hG _ _ (I64V.newS _ [2,2] dE dE),(Below.refl _ _).alloc (Nat.le_refl _) _⟩
  obtain ⟨_,-,ib2,jb2,kb2,rfl,-⟩:=hv
  refine sRc (fun wS hI h2 Gk hG=>by go_simp; exact ck hG (cell_any _ 3 2 [(2,2)] [(2,2)] wS h2 dE (two_pow_lim (e:=10) dE dE) dE)) (fun _ hv=>?_)
  obtain ⟨_,-,ob3,nb3,cb3,rfl,-⟩:=hv
  refine sRe ?_
  intro w5 hbw5 _ gb3
  obtain ⟨_,_,_,ee,gb3⟩:=(show CelV w5 _ (3,2,[(2,2)]) from gb3)
  cases ee
  have HP:=HidS.mk (HP.out.below hbw5)
  have HL:=HidS.mk (HL.out.below hbw5)
  have hB5:=nx hB4 hbw5
  have G3:=HidS.mk gb3
  clear gb3
  go_wp2
  go_ret
  refine ⟨_,rfl,(LsO.lits (base:=0) (Blk.new _ _ _) (Nat.zero_le _) [([.int .i64 1,.int .i64 0,.slice po pn pc],(1,0,[])),([.int .i64 2,.int .i64 1,.slice lo ln lc],(2,1,[])),([.int .i64 3,.int .i64 2,.slice ob3 nb3 cb3],(3,2,[(2,2)]))] rfl (List.forall_mem_cons.2 ⟨celE (f:=(1,0,[])) ?_,List.forall_mem_cons.2 ⟨celE (f:=(2,1,[])) ?_,List.forall_mem_cons.2 ⟨celE (f:=(3,2,[(2,2)])) ?_,fun _ h=>by cases h⟩⟩⟩) sI).vs,?_⟩
  ·exact LsV.below HP.out ((Below.refl _ _).alloc (Nat.le_refl _) _)
  ·exact LsV.below HL.out ((Below.refl _ _).alloc (Nat.le_refl _) _)
  ·exact LsV.below G3.out ((Below.refl _ _).alloc (Nat.le_refl _) _)
  ·exact (hB5).alloc (hB5).size _
 ·have hm : (s : Int).tmod 14 = 10:=hmod
  clear hmod hq14
  have hlb1:=lastsB_ceg (3,1,[])
  have hlb2:=lastsB_i64g [2,2]
  have hlb3:=lastsB_ceg (4,2,[(2,2)])
  go_upto_region 23 with (fail)
  refine wp_serH 5 [pcD 2 [] (CeG (3,1,[])),pcD 3 [] (I64G [2,2]),pcD 4 [3] (CeG (4,2,[(2,2)]))] ?_
  refine sRd ?_
  refine sRc (fun wS hI Gk hG=>by go_simp; exact ck hG (cellN 3 1 wS)) (fun _ hv=>?_)
  obtain ⟨_,-,ob2,nb2,cb2,rfl,-⟩:=hv
  refine sRc (fun wS hI Gk hG=>?_) (fun _ hv=>?_)
  ·go_simp
   exact ⟨hG _ _ (I64V.newS _ [2,2] dE dE),(Below.refl _ _).alloc (Nat.le_refl _) _⟩
  obtain ⟨_,-,ib3,jb3,kb3,rfl,-⟩:=hv
  refine sRc (fun wS hI h3 Gk hG=>by go_simp; exact ck hG (cell_any _ 4 2 [(2,2)] [(2,2)] wS h3 dE (two_pow_lim (e:=10) dE dE) dE)) (fun _ hv=>?_)
  obtain ⟨_,-,ob4,nb4,cb4,rfl,-⟩:=hv
  refine sRe ?_
  intro w5 hbw5 gb2 _ gb4
  obtain ⟨_,_,_,ee,gb2⟩:=(show CelV w5 _ (3,1,[]) from gb2)
  cases ee
  obtain ⟨_,_,_,ee,gb4⟩:=(show CelV w5 _ (4,2,[(2,2)]) from gb4)
  cases ee
  have HP:=HidS.mk (HP.out.below hbw5)
  have HL:=HidS.mk (HL.out.below hbw5)
  have hB5:=nx hB4 hbw5
  have G2:=HidS.mk gb2
  have G4:=HidS.mk gb4
  clear gb2 gb4
  go_wp2
  go_ret
  refine ⟨_,rfl,(LsO.lits (base:=0) (Blk.new _ _ _) (Nat.zero_le _) [([.int .i64 1,.int .i64 0,.slice po pn pc],(1,0,[])),([.int .i64 2,.int .i64 1,.slice lo ln lc],(2,1,[])),([.int .i64 3,.int .i64 1,.slice ob2 nb2 cb2],(3,1,[])),([.int .i64 4,.int .i64 2,.slice ob4 nb4 cb4],(4,2,[(2,2)]))] rfl (List.forall_mem_cons.2 ⟨celE (f:=(1,0,[])) ?_,List.forall_mem_cons.2 ⟨celE (f:=(2,1,[])) ?_,List.forall_mem_cons.2 ⟨celE (f:=(3,1,[])) ?_,List.forall_mem_cons.2 ⟨celE (f:=(4,2,[(2,2)])) ?_,fun _ h=>by cases h⟩⟩⟩⟩) sI).vs,?_⟩
  ·exact LsV.below HP.out ((Below.refl _ _).alloc (Nat.le_refl _) _)
  ·exact LsV.below HL.out ((Below.refl _ _).alloc (Nat.le_refl _) _)
  ·exact LsV.below G2.out ((Below.refl _ _).alloc (Nat.le_refl _) _)
  ·exact LsV.below G4.out ((Below.refl _ _).alloc (Nat.le_refl _) _)
  ·exact (hB5).alloc (hB5).size _
 ·have hm : (s : Int).tmod 14 = 11:=hmod
  clear hmod hq14
  have hlb1:=lastsB_i64g [2,3]
  have hlb2:=lastsB_ceg (3,2,[(2,3)])
  have hlb3:=lastsB_ceg (4,3,[])
  go_upto_region 25 with (fail)
  refine wp_serH 5 [pcD 2 [] (I64G [2,3]),pcD 3 [2] (CeG (3,2,[(2,3)])),pcD 4 [] (CeG (4,3,[]))] ?_
  refine sRd ?_
  refine sRc (fun wS hI Gk hG=>?_) (fun _ hv=>?_)
  ·go_simp
   exact ⟨hG _ _ (I64V.newS _ [2,3] dE dE),(Below.refl _ _).alloc (Nat.le_refl _) _⟩
  obtain ⟨_,-,ib2,jb2,kb2,rfl,-⟩:=hv
  refine sRc (fun wS hI h2 Gk hG=>by go_simp; exact ck hG (cell_any _ 3 2 [(2,3)] [(2,3)] wS h2 dE (two_pow_lim (e:=10) dE dE) dE)) (fun _ hv=>?_)
  obtain ⟨_,-,ob3,nb3,cb3,rfl,-⟩:=hv
  refine sRc (fun wS hI Gk hG=>by go_simp; exact ck hG (cellN 4 3 wS)) (fun _ hv=>?_)
  obtain ⟨_,-,ob4,nb4,cb4,rfl,-⟩:=hv
  refine sRe ?_
  intro w5 hbw5 _ gb3 gb4
  obtain ⟨_,_,_,ee,gb3⟩:=(show CelV w5 _ (3,2,[(2,3)]) from gb3)
  cases ee
  obtain ⟨_,_,_,ee,gb4⟩:=(show CelV w5 _ (4,3,[]) from gb4)
  cases ee
  have HP:=HidS.mk (HP.out.below hbw5)
  have HL:=HidS.mk (HL.out.below hbw5)
  have hB5:=nx hB4 hbw5
  have G3:=HidS.mk gb3
  have G4:=HidS.mk gb4
  clear gb3 gb4
  go_wp2
  go_ret
  refine ⟨_,rfl,(LsO.lits (base:=0) (Blk.new _ _ _) (Nat.zero_le _) [([.int .i64 1,.int .i64 0,.slice po pn pc],(1,0,[])),([.int .i64 2,.int .i64 1,.slice lo ln lc],(2,1,[])),([.int .i64 3,.int .i64 2,.slice ob3 nb3 cb3],(3,2,[(2,3)])),([.int .i64 4,.int .i64 3,.slice ob4 nb4 cb4],(4,3,[]))] rfl (List.forall_mem_cons.2 ⟨celE (f:=(1,0,[])) ?_,List.forall_mem_cons.2 ⟨celE (f:=(2,1,[])) ?_,List.forall_mem_cons.2 ⟨celE (f:=(3,2,[(2,3)])) ?_,List.forall_mem_cons.2 ⟨celE (f:=(4,3,[])) ?_,fun _ h=>by cases h⟩⟩⟩⟩) sI).vs,?_⟩
  ·exact LsV.below HP.out ((Below.refl _ _).alloc (Nat.le_refl _) _)
  ·exact LsV.below HL.out ((Below.refl _ _).alloc (Nat.le_refl _) _)
  ·exact LsV.below G3.out ((Below.refl _ _).alloc (Nat.le_refl _) _)
  ·exact LsV.below G4.out ((Below.refl _ _).alloc (Nat.le_refl _) _)
  ·exact (hB5).alloc (hB5).size _
 ·have hm : (s : Int).tmod 14 = 12:=hmod
  clear hmod hq14
  have hlb1:=lastsB_i64g [2,4]
  have hlb2:=lastsB_ceg (3,2,[(2,4)])
  have hlb3:=lastsB_i64g [2,6]
  have hlb4:=lastsB_ceg (4,2,[(2,6)])
  go_upto_region 27 with (fail)
  refine wp_serH 6 [pcD 2 [] (I64G [2,4]),pcD 3 [2] (CeG (3,2,[(2,4)])),pcD 4 [] (I64G [2,6]),pcD 5 [4] (CeG (4,2,[(2,6)]))] ?_
  refine sRd ?_
  refine sRc (fun wS hI Gk hG=>?_) (fun _ hv=>?_)
  ·go_simp
   exact ⟨hG _ _ (I64V.newS _ [2,4] dE dE),(Below.refl _ _).alloc (Nat.le_refl _) _⟩
  obtain ⟨_,-,ib2,jb2,kb2,rfl,-⟩:=hv
  refine sRc (fun wS hI h2 Gk hG=>by go_simp; exact ck hG (cell_any _ 3 2 [(2,4)] [(2,4)] wS h2 dE (two_pow_lim (e:=10) dE dE) dE)) (fun _ hv=>?_)
  obtain ⟨_,-,ob3,nb3,cb3,rfl,-⟩:=hv
  refine sRc (fun wS hI Gk hG=>?_) (fun _ hv=>?_)
  ·go_simp
   exact ⟨hG _ _ (I64V.newS _ [2,6] dE dE),(Below.refl _ _).alloc (Nat.le_refl _) _⟩
  obtain ⟨_,-,ib4,jb4,kb4,rfl,-⟩:=hv
  refine sRc (fun wS hI h4 Gk hG=>by go_simp; exact ck hG (cell_any _ 4 2 [(2,6)] [(2,6)] wS h4 dE (two_pow_lim (e:=10) dE dE) dE)) (fun _ hv=>?_)
  obtain ⟨_,-,ob5,nb5,cb5,rfl,-⟩:=hv
  refine sRe ?_
  intro w5 hbw5 _ gb3 _ gb5
  obtain ⟨_,_,_,ee,gb3⟩:=(show CelV w5 _ (3,2,[(2,4)]) from gb3)
  cases ee
  obtain ⟨_,_,_,ee,gb5⟩:=(show CelV w5 _ (4,2,[(2,6)]) from gb5)
  cases ee
  have HP:=HidS.mk (HP.out.below hbw5)
  have HL:=HidS.mk (HL.out.below hbw5)
  have hB5:=nx hB4 hbw5
  have G3:=HidS.mk gb3
  have G5:=HidS.mk gb5
  clear gb3 gb5
  go_wp2
  go_ret
  refine ⟨_,rfl,(LsO.lits (base:=0) (Blk.new _ _ _) (Nat.zero_le _) [([.int .i64 1,.int .i64 0,.slice po pn pc],(1,0,[])),([.int .i64 2,.int .i64 1,.slice lo ln lc],(2,1,[])),([.int .i64 3,.int .i64 2,.slice ob3 nb3 cb3],(3,2,[(2,4)])),([.int .i64 4,.int .i64 2,.slice ob5 nb5 cb5],(4,2,[(2,6)]))] rfl (List.forall_mem_cons.2 ⟨celE (f:=(1,0,[])) ?_,List.forall_mem_cons.2 ⟨celE (f:=(2,1,[])) ?_,List.forall_mem_cons.2 ⟨celE (f:=(3,2,[(2,4)])) ?_,List.forall_mem_cons.2 ⟨celE (f:=(4,2,[(2,6)])) ?_,fun _ h=>by cases h⟩⟩⟩⟩) sI).vs,?_⟩
  ·exact LsV.below HP.out ((Below.refl _ _).alloc (Nat.le_refl _) _)
  ·exact LsV.below HL.out ((Below.refl _ _).alloc (Nat.le_refl _) _)
  ·exact LsV.below G3.out ((Below.refl _ _).alloc (Nat.le_refl _) _)
  ·exact LsV.below G5.out ((Below.refl _ _).alloc (Nat.le_refl _) _)
  ·exact (hB5).alloc (hB5).size _
 ·have hm : (s : Int).tmod 14 = 13:=hmod
  clear hmod hq14
  have hlb1:=lastsB_ceg (3,0,[])
  have hlb2:=lastsB_ceg (5,1,[])
  have hlb3:=lastsB_i64g [5,2]
  have hlb4:=lastsB_ceg (6,2,[(5,2)])
  go_upto_region 29 with (fail)
  refine wp_serH 6 [pcD 2 [] (CeG (3,0,[])),pcD 3 [] (CeG (5,1,[])),pcD 4 [] (I64G [5,2]),pcD 5 [4] (CeG (6,2,[(5,2)]))] ?_
  refine sRd ?_
  refine sRc (fun wS hI Gk hG=>by go_simp; exact ck hG (cellN 3 0 wS)) (fun _ hv=>?_)
  obtain ⟨_,-,ob2,nb2,cb2,rfl,-⟩:=hv
  refine sRc (fun wS hI Gk hG=>by go_simp; exact ck hG (cellN 5 1 wS)) (fun _ hv=>?_)
  obtain ⟨_,-,ob3,nb3,cb3,rfl,-⟩:=hv
  refine sRc (fun wS hI Gk hG=>?_) (fun _ hv=>?_)
  ·go_simp
   exact ⟨hG _ _ (I64V.newS _ [5,2] dE dE),(Below.refl _ _).alloc (Nat.le_refl _) _⟩
  obtain ⟨_,-,ib4,jb4,kb4,rfl,-⟩:=hv
  refine sRc (fun wS hI h4 Gk hG=>by go_simp; exact ck hG (cell_any _ 6 2 [(5,2)] [(5,2)] wS h4 dE (two_pow_lim (e:=10) dE dE) dE)) (fun _ hv=>?_)
  obtain ⟨_,-,ob5,nb5,cb5,rfl,-⟩:=hv
  refine sRe ?_
  intro w5 hbw5 gb2 gb3 _ gb5
  obtain ⟨_,_,_,ee,gb2⟩:=(show CelV w5 _ (3,0,[]) from gb2)
  cases ee
  obtain ⟨_,_,_,ee,gb3⟩:=(show CelV w5 _ (5,1,[]) from gb3)
  cases ee
  obtain ⟨_,_,_,ee,gb5⟩:=(show CelV w5 _ (6,2,[(5,2)]) from gb5)
  cases ee
  have HP:=HidS.mk (HP.out.below hbw5)
  have HL:=HidS.mk (HL.out.below hbw5)
  have hB5:=nx hB4 hbw5
  have G2:=HidS.mk gb2
  have G3:=HidS.mk gb3
  have G5:=HidS.mk gb5
  clear gb2 gb3 gb5
  go_wp2
  go_ret
  refine ⟨_,rfl,(LsO.lits (base:=0) (Blk.new _ _ _) (Nat.zero_le _) [([.int .i64 1,.int .i64 0,.slice po pn pc],(1,0,[])),([.int .i64 2,.int .i64 1,.slice lo ln lc],(2,1,[])),([.int .i64 3,.int .i64 0,.slice ob2 nb2 cb2],(3,0,[])),([.int .i64 5,.int .i64 1,.slice ob3 nb3 cb3],(5,1,[])),([.int .i64 6,.int .i64 2,.slice ob5 nb5 cb5],(6,2,[(5,2)]))] rfl (List.forall_mem_cons.2 ⟨celE (f:=(1,0,[])) ?_,List.forall_mem_cons.2 ⟨celE (f:=(2,1,[])) ?_,List.forall_mem_cons.2 ⟨celE (f:=(3,0,[])) ?_,List.forall_mem_cons.2 ⟨celE (f:=(5,1,[])) ?_,List.forall_mem_cons.2 ⟨celE (f:=(6,2,[(5,2)])) ?_,fun _ h=>by cases h⟩⟩⟩⟩⟩) sI).vs,?_⟩
  ·exact LsV.below HP.out ((Below.refl _ _).alloc (Nat.le_refl _) _)
  ·exact LsV.below HL.out ((Below.refl _ _).alloc (Nat.le_refl _) _)
  ·exact LsV.below G2.out ((Below.refl _ _).alloc (Nat.le_refl _) _)
  ·exact LsV.below G3.out ((Below.refl _ _).alloc (Nat.le_refl _) _)
  ·exact LsV.below G5.out ((Below.refl _ _).alloc (Nat.le_refl _) _)
  ·exact (hB5).alloc (hB5).size _
abbrev tQd : TypeId:=148
theorem Blk.quad {w : World} {g : Nat} {t : TypeId} {a : Nat->Int} (h : Blk w g t #[.int .i8 (a 0),.int .i8 (a 1),.int .i8 (a 2),.int .i8 (a 3)]) {i : Nat} (hi : i < 4) : w.cell? ⟨g,i,none⟩ = some (.int .i8 (a i)):=by
 refine (h.cell i).trans ?_
 rcases (by omega : i = 0 ∨ i = 1 ∨ i = 2 ∨ i = 3) with rfl | rfl | rfl | rfl <;> rfl
structure Q4 where
 a : Nat->Int
 lo : ∀i,-128<=a i
 hi : ∀i,a i<=127
def Q4.cells (x : Q4) : List Value:=[.int .i8 (x.a 0),.int .i8 (x.a 1),.int .i8 (x.a 2),.int .i8 (x.a 3)]
theorem cycP_at {c : Cx} {k : Int} {B i : Nat} {L : List Ch} {x : Ch} (h : CycP c k B L) (hx : L[i]? = some x) : ValC x/\HomD c k x/\bdC c x = []/\nrm x<=B:=h.2 x (List.mem_of_getElem? hx)
theorem cbn_bits (k : Int) (hk : k<=2) (hk0 : 0<=k) : 9 * cbn k<=2 ^ eb (k + 1).toNat:=by
 have h1:=kbn_two (eb k.toNat)
 unfold cbn
 rw [show (k + 1).toNat = k.toNat + 1 by omega]
 show 9 * (7 * kbn (2 ^ eb k.toNat))<=2 ^ (49 * eb k.toNat + 171)
 omega
theorem cbn_sm {n : Nat} (k : Int) (hk : k<=3) (h : n<=126 * kbn (2 ^ eb k.toNat)) : SmN n:=by
 have h1:=kbn_two (eb k.toNat)
 have h2 : eb k.toNat<=1000000:=by
  rcases (by omega : k.toNat = 0 ∨ k.toNat = 1 ∨ k.toNat = 2 ∨ k.toNat = 3) with e | e | e | e <;> rw [e] <;> decide
 have h3 : 2 ^ (49 * eb k.toNat + 171) < 2 ^ (49 * eb k.toNat + 172):=Nat.pow_lt_pow_right oM oM
 have h4 : 2 ^ (49 * eb k.toNat + 173) = 2 * 2 ^ (49 * eb k.toNat + 172):=by rw [Nat.pow_succ 2 (49 * eb k.toNat + 172)]; omega
 exact two_pow_lim (e:=49 * eb k.toNat + 173) oM (by unfold LIM; omega)
theorem grow_snoc (l : List (Ch × Int)) (p : Ch × Int) : growB (l ++ [p]) = plusC (growB l) p.1 p.2:=by
 unfold growB
 rw [List.foldl_append]
 rfl
def GrS (c : Cx) (k : Int) (b : Ch) (i : Nat) : Prop:=∃l : List (Ch × Int),l.length = i/\b = growB l/\∀p ∈ l,ValC p.1/\HomD c k p.1/\bdC c p.1 = []/\nrm p.1<=cbn k/\p.2.natAbs<=3
theorem GrS.ok {c : Cx} {k : Int} {b : Ch} {i : Nat} (h : GrS c k b i) (hi : i<=3) : ValC b/\HomD c k b/\bdC c b = []/\nrm b<=9 * cbn k:=by
 obtain ⟨l,h1,rfl,h2⟩:=h
 exact growB_ok h2 oM
theorem GrS.step {c : Cx} {k n : Int} {b x : Ch} {i : Nat} (h : GrS c k b i) (hx : ValC x/\HomD c k x/\bdC c x = []/\nrm x<=cbn k) (hn : n.natAbs<=3) : GrS c k (plusC b x n) (i + 1):=by
 obtain ⟨l,h1,rfl,h2⟩:=h
 refine ⟨l ++ [(x,n)],by rw [List.length_append,h1]; rfl,(grow_snoc l (x,n)).symm,fun p hp=>?_⟩
 rcases List.mem_append.1 hp with hp | hp
 ·exact h2 p hp
 ·rw [List.mem_singleton.1 hp]
  exact ⟨hx.1,hx.2.1,hx.2.2.1,hx.2.2.2,hn⟩
set_option maxHeartbeats 16000000 in
set_option maxRecDepth 20000 in
theorem grown_any {t : Nat} (v : Value) (c : Cx) (x : Q4) (w : World) (h : CpxV w v c) (hI : CxI t c) (ht : t<=3) :
  Calls Tryz.prog 83 #[v,.agg x.cells.toArray] w fun e w'=>∃u c',e = .returned u/\CpxV w' u c'/\CxI (t + 1) c'/\Below w.heap.size w w':=by
 obtain ⟨ao,ac,rfl,-,hc1⟩:=id h.shape
 obtain ⟨n,hxn⟩ : ∃n,c.length = n:=⟨_,rfl⟩
 rw [hxn] at h ⊢
 have hn11 : n<=10:=by have:=hI.len; omega
 obtain ⟨a,a0,a1⟩:=x
 obtain ⟨u,hu⟩ : ∃u : Nat,a 0 % 256 = (u : Int):=⟨(a 0 % 256).toNat,by have:=Int.emod_nonneg (a 0) (show (256 : Int) ≠ 0 by decide); omega⟩
 have hu8 : u<=255:=by omega
 have hw8 : IntKind.u8.wrap (a 0) = (u : Int):=by rw [<-hu]; rfl
 obtain ⟨d,hd⟩ : ∃d : Nat,u % 4 = d:=⟨_,rfl⟩
 have hd4 : d < 4:=by omega
 have hmod : (u : Int).tmod 4 = (d : Int):=by rw [<-hd]; rfl
 have H:=HidS.mk h
 have HI:=HidS.mk hI
 have HXN:=HidS.mk hxn
 have HA0:=HidS.mk a0
 have HA1:=HidS.mk a1
 simp only [Q4.cells]
 clear h hI hxn a0 a1 hd hu
 go_enter Tryz.func83,Tryz.ntmps83
 go_upto_region 1 with (fail)
 refine wp_world ?_
 intro W0 hW0
 obtain ⟨hB0,T4,hs0⟩:=world1 hW0
 have H:=HidS.mk (H.out.below hB0)
 have HT:=HidS.mk T4
 have c1:=T4.quad (i:=0) oM
 clear hW0
 have hal:=(Below.refl W0.heap.size W0).alloc (Nat.le_refl _) (.cells #[] tFc)
 have HCY:=HidS.mk (cyclesI _ c ((d : Int) - 1) _ (H.out.below hal) HI.out oM oM)
 have hOB : HidS (ChnV (W0.alloc (.cells #[] tFc)) (.slice (some ⟨W0.heap.size,0,none⟩) 0 0) []):=⟨LsV.nil _ _ _ _ (Nat.zero_le _)⟩
 go_wp2_with fail
 refine HCY.out.mono ?_
 rintro e w2 ⟨ul,L,rfl,hL,hP,hneg,hb2⟩
 have hB2:=nx hal hb2
 obtain ⟨lo,lc,rfl,hl1,hl2⟩:=id hL.shape
 obtain ⟨m,hm⟩ : ∃m,L.length = m:=⟨_,rfl⟩
 rw [hm] at hL hl1 ⊢
 have hm7 : m<=7:=by rw [<-hm]; exact hP.1
 have HL:=HidS.mk hL
 have HP:=HidS.mk hP
 have HM:=HidS.mk hm
 have HNEG : HidS (d = 0->m = 0):=⟨fun h=>by rw [<-hm,hneg oM]; rfl⟩
 have hST : HidS (∃b,ChnV w2 (.slice (some ⟨W0.heap.size,0,none⟩) 0 0) b/\GrS c ((d : Int) - 1) b 0):=⟨[],hOB.out.below hb2,[],rfl,rfl,fun p hp=>by cases hp⟩
 have hsz2:=hB2.size
 clear hL hP hm hneg hal HCY hOB c1 hb2 hl1 hl2
 go_wp2
 go_loopw [6,9] (fun u iv wr=>∃i : Nat,i<=m/\i<=3/\iv = .int .i64 i/\HidS (∃b,ChnV wr u b/\GrS c ((d : Int) - 1) b i)/\Below w2.heap.size w2 wr) (fun _ iv _=>3 - (intOf iv).toNat)
 case atStart=>exact ⟨0,by omega,by omega,rfl,hST,Below.refl _ _⟩
 case round=>
  clear hST
  obtain ⟨i,him,hi3,rfl,hS,hB⟩:=hrel
  obtain ⟨b,hb,hg⟩:=hS.out
  obtain ⟨bo,bc,rfl,-,-⟩:=id hb.shape
  have hT:=(HT.out.below hB2).below hB
  obtain ⟨q,hq⟩ : ∃q,b.length = q:=⟨_,rfl⟩
  rw [hq] at hb ⊢
  have HBV:=HidS.mk hb
  have HG:=HidS.mk hg
  have hq10 : q<=10:=by rw [<-hq]; have:=(hg.ok hi3).2.1.length HI.out.val (hg.ok hi3).1; rw [HXN.out] at this; omega
  have HQ:=HidS.mk hq
  clear hb hg hS hq
  by_cases hlt : i < m/\i < 3
  ·obtain ⟨hlm,hl3⟩:=hlt
   obtain ⟨x,hx⟩:=lt_get HM.out hlm
   obtain ⟨b1,xo,xc,rfl,hb1,f1,hxv⟩:=(HL.out.below hB).chn hx
   have hxp:=cycP_at HP.out hx
   have hx10 : x.length<=10:=by have:=hxp.2.1.length HI.out.val hxp.1; rw [HXN.out] at this; omega
   obtain ⟨qx,hqx⟩ : ∃q,x.length = q:=⟨_,rfl⟩
   rw [hqx] at f1 hxv hx10
   have HXP:=HidS.mk hxp
   have HXV:=HidS.mk hxv
   have HQX:=HidS.mk hqx
   obtain ⟨q5,hq5⟩ : ∃q : Nat,i + 1 = q:=⟨_,rfl⟩
   have hq54 : q5 < 4:=by omega
   have g5:=hT.quad hq54
   have hqI : (i : Int) + 1 = (q5 : Int):=by omega
   have hq54I : (q5 : Int) < 4:=by omega
   have hw2 : IntKind.i64.wrap (q5 : Int) = (q5 : Int):=IntWalk.i64_in _ oM
   have r1:=HA0.out q5
   have r2:=HA1.out q5
   obtain ⟨z,hz⟩ : ∃z,a q5 = z:=⟨_,rfl⟩
   rw [hz] at g5 r1 r2
   obtain ⟨nn,hnn⟩ : ∃nn,z.tmod 4 = nn:=⟨_,rfl⟩
   have hn3 : -3<=nn/\nn<=3:=by
    rw [<-hnn]
    rcases Int.lt_or_le z 0 with hz0 | hz0
    ·have h1 : z.tmod 4 = -((-z) % 4):=by rw [<-Int.neg_neg z,Int.neg_tmod,Int.tmod_eq_emod_of_nonneg oM,Int.neg_neg]
     omega
    ·rw [Int.tmod_eq_emod_of_nonneg hz0]; omega
   have hw8n : IntKind.i8.wrap nn = nn:=IntWalk.i8_in _ oM
   have hw64n : IntKind.i64.wrap nn = nn:=IntWalk.i64_in _ oM
   have HSS : HidS (SmN (nrm b + nn.natAbs * nrm x)/\SmN nn.natAbs/\SmN (nrm x)/\GrS c ((d : Int) - 1) (plusC b x nn) (i + 1)):=⟨by
    have h1:=(HG.out.ok oM).2.2.2
    have h2:=hxp.2.2.2
    have h3 : nn.natAbs * nrm x<=3 * cbn ((d : Int) - 1):=Nat.mul_le_mul oM h2
    refine ⟨cbn_sm ((d : Int) - 1) oM (by unfold cbn at *; omega),two_pow_lim (e:=10) (by have : 2 ^ 10 = 1024:=rfl; omega) dE,cbn_sm ((d : Int) - 1) oM (by unfold cbn at *; omega),HG.out.step hxp oM⟩⟩
   have hl1:=lasts_int nn
   have hl2:=lastsB_ls faceE (plusC b x nn)
   clear hx hxv hxp hqx hq5 hz hT
   go_upto_region 6 with (fail)
   refine wp_serH 13 [pcD 6 [] (fun _ v=>v = .int .i64 q5),pcD 11 [] (fun w v=>IntV w v nn),pcD 12 [11] (fun w v=>ChnV w v (plusC b x nn))] ?_
   refine sRd ?_
   refine sRc (fun wS hI Gk hG=>by go_simp; exact ⟨hG _ _ rfl,Below.refl _ _⟩) (fun va7 hv7=>?_)
   obtain ⟨_,-,hv7⟩:=hv7
   obtain rfl : va7 = .int .i64 q5:=hv7
   refine sRd ?_
   refine sRc (fun wS hI Gk hG=>by go_simp; exact ck hG (r1of_any nn wS oM oM)) (fun _ hv=>?_)
   obtain ⟨_,-,s5,a5,l5,k5,_,rfl,-⟩:=hv
   refine sRc (fun wS hI h11 Gk hG=>by go_simp; exact ck hG (cadd_any _ _ _ b x nn wS (HBV.out.below hI.bel) (HXV.out.below hI.bel) h11 HSS.out.1 HSS.out.2.1 HSS.out.2.2.1 (by rw [HQ.out,HQX.out]; omega))) (fun v12 _=>?_)
   refine sRe ?_
   intro w5 hb5 _ _ h12
   have hB5:=nx hB hb5
   have HS5 : HidS (∃b,ChnV w5 v12 b/\GrS c ((d : Int) - 1) b (i + 1)):=⟨_,h12,HSS.out.2.2.2⟩
   clear h12
   go_wp2
   go_roundw
   case rel=>exact ⟨i + 1,by omega,by omega,by simp <;> omega,HS5,hB5⟩
   case measure=>simp [intOf]; omega
  ·have hcond : i < m->¬ i < 3:=fun h1 h2=>hlt ⟨h1,h2⟩
   have HG3:=HidS.mk (HG.out.ok hi3)
   have HOUT : HidS (∀idn : Int,(∀f ∈ c,f.1 < idn)->0<=idn/\idn<=11 + 2 * t->CxI (t + 1) (c ++ [(idn,(d : Int),b)])):=⟨fun idn h1 h2=>by
    refine HI.out.grow (f:=(idn,(d : Int),b)) ⟨by show (0 : Int)<=d; omega,by show (d : Int)<=3; omega⟩ (by show 0<=idn/\idn<=11 + 2 * t; exact h2) h1 HG3.out.1 HG3.out.2.1 HG3.out.2.2.1 ?_
    show nrm b<=2 ^ eb (d : Int).toNat
    by_cases h0 : d = 0
    ·obtain ⟨l,g1,g2,g3⟩:=HG.out
     have hm0:=HNEG.out h0
     have hl0 : l = []:=List.eq_nil_of_length_eq_zero oM
     rw [g2,hl0]
     exact Nat.zero_le _
    ·have h4:=cbn_bits ((d : Int) - 1) oM oM
     rw [Int.sub_add_cancel] at h4
     exact Nat.le_trans HG3.out.2.2.2 h4⟩
   clear hT
   by_cases hlm : i < m
   ·have hl3:=hcond hlm
    clear hlt hcond
    by_cases hn0 : n = 0
    ·subst hn0
     have HCX:=HidS.mk ((H.out.below hB2).below hB)
     have HIN : HidS ((∀f ∈ c,f.1 < 1)/\(0 : Int)<=1/\(1 : Int)<=11 + 2 * t):=⟨⟨fun g hg=>(by rw [List.eq_nil_of_length_eq_zero HXN.out] at hg; cases hg),by decide,by omega⟩⟩
     have hal:=(Below.refl wr.heap.size wr).alloc (Nat.le_refl _) (.cells #[] tCe)
     have HO0:=HidS.mk (LsO.made cellE wr (Nat.le_refl _))
     have HC0:=HidS.mk (HCX.out.below hal)
     have HBV0:=HidS.mk (HBV.out.below hal)
     have hszw:=(hB).size
     have hB6:=(hB).alloc (hB).size (.cells #[] tCe)
     go_upto_region 9 with (fail)
     go_upto_region 10 with (at_builtin; go_loud (refine appCe rfl _ _ rfl wr.heap.size _ [] rfl HO0.out _ c rfl HC0.out (by have:=HXN.out; show 0 + c.length<=_; omega) sI ?_; intro v8 w8 hown8 hgr8 hte8; obtain ⟨o8,m8,q8,rfl⟩ : ∃o m q,v8 = .slice o m q:=(LsO.shape hown8).elim fun o h=>h.elim fun q h=>⟨o,_,q,h⟩))
     have hB8 : Below w2.heap.size w2 w8:=hB6.grown hgr8 (by have:=hB6.size; omega) (fun g hg=>by have:=HO0.out.own g hg; omega)
     have HBV8:=HidS.mk (LsV.te HBV0.out hte8)
     have hal8:=(Below.refl w8.heap.size w8).alloc (Nat.le_refl _) (.cells #[.int .i64 1,.int .i64 d,.slice bo q bc] tCe)
     have HO8:=HidS.mk (LsO.below hown8 hal8)
     have HN8:=HidS.mk (LsO.lits (e:=cellE) (base:=0) (Blk.new w8 tCe #[.int .i64 1,.int .i64 d,.slice bo q bc]) (Nat.zero_le _) [([.int .i64 1,.int .i64 d,.slice bo q bc],(1,(d : Int),b))] rfl (List.forall_mem_cons.2 ⟨celE (f:=(1,(d : Int),b)) (LsV.below HBV8.out hal8),fun _ h=>by cases h⟩) sI).vs
     have hsz8:=hgr8.size
     simp only [World.size_alloc] at hsz8
     clear hown8 hte8 hgr8
     go_wp2_with (at_builtin; go_loud (refine appCe rfl _ _ rfl wr.heap.size _ ([] ++ c) rfl HO8.out _ [(1,(d : Int),b)] rfl HN8.out (by have:=HXN.out; rw [List.nil_append]; show c.length + 1<=_; omega) (by simp; omega) ?_; intro v9 w9 hown9 hgr9 hte9))
     have hB9 : Below w2.heap.size w2 w9:=(hB8.alloc hB8.size _).grown hgr9 (by have:=hB8.size; simp; omega) (fun g hg=>by have:=HO8.out.own g hg; omega)
     go_ret
     exact ⟨_,c ++ [(1,(d : Int),b)],rfl,LsO.vs hown9,HOUT.out _ HIN.out.1 HIN.out.2,hB0.trans ((nx hB2 hB9).mono oM)⟩
    ·obtain ⟨p,hp⟩ : ∃p,n = p + 1:=⟨n - 1,by omega⟩
     have hpn : p < n:=by omega
     obtain ⟨f,hf⟩:=lt_get HXN.out hpn
     obtain ⟨b',o2,q2,rfl,hbb,f1,f2,f3,hv⟩:=((H.out.below hB2).below hB).cel hf
     have hid:=HI.out.ids f (List.mem_of_getElem? hf)
     obtain ⟨idl,hidl⟩ : ∃z,f.1 = z:=⟨_,rfl⟩
     rw [hidl] at f1 hid
     obtain ⟨hh,hhh⟩ : ∃z,(u : Int).tdiv 128 = z:=⟨_,rfl⟩
     have hh2 : 0<=hh/\hh<=1:=by rw [<-hhh,Int.tdiv_eq_ediv_of_nonneg oM]; omega
     have hw8h : IntKind.u8.wrap hh = hh:=IntWalk.u8_in _ oM
     have hpI : (n : Int) - 1 = (p : Int):=by omega
     have hwp : IntKind.i64.wrap (p : Int) = (p : Int):=IntWalk.i64_in _ oM
     have hwi : IntKind.i64.wrap (idl + 1) = idl + 1:=IntWalk.i64_in _ oM
     have hwh : IntKind.i64.wrap hh = hh:=IntWalk.i64_in _ oM
     have hwz : IntKind.i64.wrap (idl + 1 + hh) = idl + 1 + hh:=IntWalk.i64_in _ oM
     have hnI : (n : Int) > 0:=by omega
     have g5:=((HT.out.below hB2).below hB).quad (i:=0) oM
     have HF:=HidS.mk hf
     have HIDL:=HidS.mk hidl
     have HID:=HidS.mk hid
     clear hv hf hidl hp
     go_upto_region 8 with (fail)
     refine wp_serH 14 [pcD 3 [] (fun _ v=>v = .int .i64 p),pcD 13 [] (fun _ v=>v = .int .i64 (idl + 1 + hh))] ?_
     refine sRd ?_
     refine sRc (fun wS hI Gk hG=>by go_simp; exact ⟨hG _ _ rfl,Below.refl _ _⟩) (fun va3 hv3=>?_)
     obtain ⟨_,-,hv3⟩:=hv3
     obtain rfl : va3 = .int .i64 p:=hv3
     refine sRd ?_
     refine sRc (fun wS hI Gk hG=>by go_simp; exact ⟨hG _ _ rfl,Below.refl _ _⟩) (fun va3 hv3=>?_)
     obtain ⟨_,-,hv3⟩:=hv3
     obtain rfl : va3 = .int .i64 (idl + 1 + hh):=hv3
     refine sRe ?_
     intro w5 hb5 _ _
     have hB5:=nx hB hb5
     have HBV:=HidS.mk (HBV.out.below hb5)
     have HCX:=HidS.mk ((H.out.below hB2).below hB5)
     have HIN : HidS ((∀f ∈ c,f.1 < idl + 1 + hh)/\0<=idl + 1 + hh/\idl + 1 + hh<=11 + 2 * t):=⟨⟨fun g hg=>by
      have h1 : g.1<=idl:=by
       obtain ⟨j,hj,rfl⟩:=List.getElem_of_mem hg
       have hf:=HF.out
       obtain ⟨hp1,hp2⟩:=List.getElem?_eq_some_iff.1 hf
       rw [<-HIDL.out,<-hp2]
       rcases Nat.lt_or_ge j p with h | h
       ·exact Int.le_of_lt (List.pairwise_iff_getElem.1 HI.out.val.srt j p oM hp1 h)
       ·obtain rfl : j = p:=by have:=HXN.out; omega
        exact Int.le_refl _
      omega,by have:=HID.out; omega,by have:=HID.out; omega⟩⟩
     clear f1 f2 f3 g5 hpI hwp hwi hwh hwz hw8h hhh
     have hal:=(Below.refl w5.heap.size w5).alloc (Nat.le_refl _) (.cells #[] tCe)
     have HO0:=HidS.mk (LsO.made cellE w5 (Nat.le_refl _))
     have HC0:=HidS.mk (HCX.out.below hal)
     have HBV0:=HidS.mk (HBV.out.below hal)
     have hszw:=(hB5).size
     have hB6:=(hB5).alloc (hB5).size (.cells #[] tCe)
     go_upto_region 9 with (fail)
     go_upto_region 10 with (at_builtin; go_loud (refine appCe rfl _ _ rfl w5.heap.size _ [] rfl HO0.out _ c rfl HC0.out (by have:=HXN.out; show 0 + c.length<=_; omega) sI ?_; intro v8 w8 hown8 hgr8 hte8; obtain ⟨o8,m8,q8,rfl⟩ : ∃o m q,v8 = .slice o m q:=(LsO.shape hown8).elim fun o h=>h.elim fun q h=>⟨o,_,q,h⟩))
     have hB8 : Below w2.heap.size w2 w8:=hB6.grown hgr8 (by have:=hB6.size; omega) (fun g hg=>by have:=HO0.out.own g hg; omega)
     have HBV8:=HidS.mk (LsV.te HBV0.out hte8)
     have hal8:=(Below.refl w8.heap.size w8).alloc (Nat.le_refl _) (.cells #[.int .i64 (idl + 1 + hh),.int .i64 d,.slice bo q bc] tCe)
     have HO8:=HidS.mk (LsO.below hown8 hal8)
     have HN8:=HidS.mk (LsO.lits (e:=cellE) (base:=0) (Blk.new w8 tCe #[.int .i64 (idl + 1 + hh),.int .i64 d,.slice bo q bc]) (Nat.zero_le _) [([.int .i64 (idl + 1 + hh),.int .i64 d,.slice bo q bc],((idl + 1 + hh),(d : Int),b))] rfl (List.forall_mem_cons.2 ⟨celE (f:=((idl + 1 + hh),(d : Int),b)) (LsV.below HBV8.out hal8),fun _ h=>by cases h⟩) sI).vs
     have hsz8:=hgr8.size
     simp only [World.size_alloc] at hsz8
     clear hown8 hte8 hgr8
     go_wp2_with (at_builtin; go_loud (refine appCe rfl _ _ rfl w5.heap.size _ ([] ++ c) rfl HO8.out _ [((idl + 1 + hh),(d : Int),b)] rfl HN8.out (by have:=HXN.out; rw [List.nil_append]; show c.length + 1<=_; omega) (by simp; omega) ?_; intro v9 w9 hown9 hgr9 hte9))
     have hB9 : Below w2.heap.size w2 w9:=(hB8.alloc hB8.size _).grown hgr9 (by have:=hB8.size; simp; omega) (fun g hg=>by have:=HO8.out.own g hg; omega)
     go_ret
     exact ⟨_,c ++ [((idl + 1 + hh),(d : Int),b)],rfl,LsO.vs hown9,HOUT.out _ HIN.out.1 HIN.out.2,hB0.trans ((nx hB2 hB9).mono oM)⟩
   ·clear hlt hcond
    by_cases hn0 : n = 0
    ·subst hn0
     have HCX:=HidS.mk ((H.out.below hB2).below hB)
     have HIN : HidS ((∀f ∈ c,f.1 < 1)/\(0 : Int)<=1/\(1 : Int)<=11 + 2 * t):=⟨⟨fun g hg=>(by rw [List.eq_nil_of_length_eq_zero HXN.out] at hg; cases hg),by decide,by omega⟩⟩
     have hal:=(Below.refl wr.heap.size wr).alloc (Nat.le_refl _) (.cells #[] tCe)
     have HO0:=HidS.mk (LsO.made cellE wr (Nat.le_refl _))
     have HC0:=HidS.mk (HCX.out.below hal)
     have HBV0:=HidS.mk (HBV.out.below hal)
     have hszw:=(hB).size
     have hB6:=(hB).alloc (hB).size (.cells #[] tCe)
     go_upto_region 9 with (fail)
     go_upto_region 10 with (at_builtin; go_loud (refine appCe rfl _ _ rfl wr.heap.size _ [] rfl HO0.out _ c rfl HC0.out (by have:=HXN.out; show 0 + c.length<=_; omega) sI ?_; intro v8 w8 hown8 hgr8 hte8; obtain ⟨o8,m8,q8,rfl⟩ : ∃o m q,v8 = .slice o m q:=(LsO.shape hown8).elim fun o h=>h.elim fun q h=>⟨o,_,q,h⟩))
     have hB8 : Below w2.heap.size w2 w8:=hB6.grown hgr8 (by have:=hB6.size; omega) (fun g hg=>by have:=HO0.out.own g hg; omega)
     have HBV8:=HidS.mk (LsV.te HBV0.out hte8)
     have hal8:=(Below.refl w8.heap.size w8).alloc (Nat.le_refl _) (.cells #[.int .i64 1,.int .i64 d,.slice bo q bc] tCe)
     have HO8:=HidS.mk (LsO.below hown8 hal8)
     have HN8:=HidS.mk (LsO.lits (e:=cellE) (base:=0) (Blk.new w8 tCe #[.int .i64 1,.int .i64 d,.slice bo q bc]) (Nat.zero_le _) [([.int .i64 1,.int .i64 d,.slice bo q bc],(1,(d : Int),b))] rfl (List.forall_mem_cons.2 ⟨celE (f:=(1,(d : Int),b)) (LsV.below HBV8.out hal8),fun _ h=>by cases h⟩) sI).vs
     have hsz8:=hgr8.size
     simp only [World.size_alloc] at hsz8
     clear hown8 hte8 hgr8
     go_wp2_with (at_builtin; go_loud (refine appCe rfl _ _ rfl wr.heap.size _ ([] ++ c) rfl HO8.out _ [(1,(d : Int),b)] rfl HN8.out (by have:=HXN.out; rw [List.nil_append]; show c.length + 1<=_; omega) (by simp; omega) ?_; intro v9 w9 hown9 hgr9 hte9))
     have hB9 : Below w2.heap.size w2 w9:=(hB8.alloc hB8.size _).grown hgr9 (by have:=hB8.size; simp; omega) (fun g hg=>by have:=HO8.out.own g hg; omega)
     go_ret
     exact ⟨_,c ++ [(1,(d : Int),b)],rfl,LsO.vs hown9,HOUT.out _ HIN.out.1 HIN.out.2,hB0.trans ((nx hB2 hB9).mono oM)⟩
    ·obtain ⟨p,hp⟩ : ∃p,n = p + 1:=⟨n - 1,by omega⟩
     have hpn : p < n:=by omega
     obtain ⟨f,hf⟩:=lt_get HXN.out hpn
     obtain ⟨b',o2,q2,rfl,hbb,f1,f2,f3,hv⟩:=((H.out.below hB2).below hB).cel hf
     have hid:=HI.out.ids f (List.mem_of_getElem? hf)
     obtain ⟨idl,hidl⟩ : ∃z,f.1 = z:=⟨_,rfl⟩
     rw [hidl] at f1 hid
     obtain ⟨hh,hhh⟩ : ∃z,(u : Int).tdiv 128 = z:=⟨_,rfl⟩
     have hh2 : 0<=hh/\hh<=1:=by rw [<-hhh,Int.tdiv_eq_ediv_of_nonneg oM]; omega
     have hw8h : IntKind.u8.wrap hh = hh:=IntWalk.u8_in _ oM
     have hpI : (n : Int) - 1 = (p : Int):=by omega
     have hwp : IntKind.i64.wrap (p : Int) = (p : Int):=IntWalk.i64_in _ oM
     have hwi : IntKind.i64.wrap (idl + 1) = idl + 1:=IntWalk.i64_in _ oM
     have hwh : IntKind.i64.wrap hh = hh:=IntWalk.i64_in _ oM
     have hwz : IntKind.i64.wrap (idl + 1 + hh) = idl + 1 + hh:=IntWalk.i64_in _ oM
     have hnI : (n : Int) > 0:=by omega
     have g5:=((HT.out.below hB2).below hB).quad (i:=0) oM
     have HF:=HidS.mk hf
     have HIDL:=HidS.mk hidl
     have HID:=HidS.mk hid
     clear hv hf hidl hp
     go_upto_region 8 with (fail)
     refine wp_serH 14 [pcD 3 [] (fun _ v=>v = .int .i64 p),pcD 13 [] (fun _ v=>v = .int .i64 (idl + 1 + hh))] ?_
     refine sRd ?_
     refine sRc (fun wS hI Gk hG=>by go_simp; exact ⟨hG _ _ rfl,Below.refl _ _⟩) (fun va3 hv3=>?_)
     obtain ⟨_,-,hv3⟩:=hv3
     obtain rfl : va3 = .int .i64 p:=hv3
     refine sRd ?_
     refine sRc (fun wS hI Gk hG=>by go_simp; exact ⟨hG _ _ rfl,Below.refl _ _⟩) (fun va3 hv3=>?_)
     obtain ⟨_,-,hv3⟩:=hv3
     obtain rfl : va3 = .int .i64 (idl + 1 + hh):=hv3
     refine sRe ?_
     intro w5 hb5 _ _
     have hB5:=nx hB hb5
     have HBV:=HidS.mk (HBV.out.below hb5)
     have HCX:=HidS.mk ((H.out.below hB2).below hB5)
     have HIN : HidS ((∀f ∈ c,f.1 < idl + 1 + hh)/\0<=idl + 1 + hh/\idl + 1 + hh<=11 + 2 * t):=⟨⟨fun g hg=>by
      have h1 : g.1<=idl:=by
       obtain ⟨j,hj,rfl⟩:=List.getElem_of_mem hg
       have hf:=HF.out
       obtain ⟨hp1,hp2⟩:=List.getElem?_eq_some_iff.1 hf
       rw [<-HIDL.out,<-hp2]
       rcases Nat.lt_or_ge j p with h | h
       ·exact Int.le_of_lt (List.pairwise_iff_getElem.1 HI.out.val.srt j p oM hp1 h)
       ·obtain rfl : j = p:=by have:=HXN.out; omega
        exact Int.le_refl _
      omega,by have:=HID.out; omega,by have:=HID.out; omega⟩⟩
     clear f1 f2 f3 g5 hpI hwp hwi hwh hwz hw8h hhh
     have hal:=(Below.refl w5.heap.size w5).alloc (Nat.le_refl _) (.cells #[] tCe)
     have HO0:=HidS.mk (LsO.made cellE w5 (Nat.le_refl _))
     have HC0:=HidS.mk (HCX.out.below hal)
     have HBV0:=HidS.mk (HBV.out.below hal)
     have hszw:=(hB5).size
     have hB6:=(hB5).alloc (hB5).size (.cells #[] tCe)
     go_upto_region 9 with (fail)
     go_upto_region 10 with (at_builtin; go_loud (refine appCe rfl _ _ rfl w5.heap.size _ [] rfl HO0.out _ c rfl HC0.out (by have:=HXN.out; show 0 + c.length<=_; omega) sI ?_; intro v8 w8 hown8 hgr8 hte8; obtain ⟨o8,m8,q8,rfl⟩ : ∃o m q,v8 = .slice o m q:=(LsO.shape hown8).elim fun o h=>h.elim fun q h=>⟨o,_,q,h⟩))
     have hB8 : Below w2.heap.size w2 w8:=hB6.grown hgr8 (by have:=hB6.size; omega) (fun g hg=>by have:=HO0.out.own g hg; omega)
     have HBV8:=HidS.mk (LsV.te HBV0.out hte8)
     have hal8:=(Below.refl w8.heap.size w8).alloc (Nat.le_refl _) (.cells #[.int .i64 (idl + 1 + hh),.int .i64 d,.slice bo q bc] tCe)
     have HO8:=HidS.mk (LsO.below hown8 hal8)
     have HN8:=HidS.mk (LsO.lits (e:=cellE) (base:=0) (Blk.new w8 tCe #[.int .i64 (idl + 1 + hh),.int .i64 d,.slice bo q bc]) (Nat.zero_le _) [([.int .i64 (idl + 1 + hh),.int .i64 d,.slice bo q bc],((idl + 1 + hh),(d : Int),b))] rfl (List.forall_mem_cons.2 ⟨celE (f:=((idl + 1 + hh),(d : Int),b)) (LsV.below HBV8.out hal8),fun _ h=>by cases h⟩) sI).vs
     have hsz8:=hgr8.size
     simp only [World.size_alloc] at hsz8
     clear hown8 hte8 hgr8
     go_wp2_with (at_builtin; go_loud (refine appCe rfl _ _ rfl w5.heap.size _ ([] ++ c) rfl HO8.out _ [((idl + 1 + hh),(d : Int),b)] rfl HN8.out (by have:=HXN.out; rw [List.nil_append]; show c.length + 1<=_; omega) (by simp; omega) ?_; intro v9 w9 hown9 hgr9 hte9))
     have hB9 : Below w2.heap.size w2 w9:=(hB8.alloc hB8.size _).grown hgr9 (by have:=hB8.size; simp; omega) (fun g hg=>by have:=HO8.out.own g hg; omega)
     go_ret
     exact ⟨_,c ++ [((idl + 1 + hh),(d : Int),b)],rfl,LsO.vs hown9,HOUT.out _ HIN.out.1 HIN.out.2,hB0.trans ((nx hB2 hB9).mono oM)⟩
def QdV (w : World) (v : Value) (xs : List Q4) : Prop:=
 ∃ao n cap,v = .slice ao n cap/\xs.length = n/\n<=cap/\cap<=9223372036854775807 ∧
  (xs ≠ []->∃b off,ao = some ⟨b,off,none⟩/\b < w.heap.size/\∀(k : Nat) (x : Q4),xs[k]? = some x->∀j,j < 4->w.cell? ⟨b,off + k * 4 + j,none⟩ = some (.int .i8 (x.a j)))
theorem QdV.below {w w' : World} {v : Value} {xs : List Q4} (h : QdV w v xs) (hb : Below w.heap.size w w') : QdV w' v xs:=by
 obtain ⟨ao,n,cap,h1,h2,h3,h4,h6⟩:=h
 refine ⟨ao,n,cap,h1,h2,h3,h4,fun hne=>?_⟩
 obtain ⟨b,off,e,hlt,hc⟩:=h6 hne
 exact ⟨b,off,e,Nat.lt_of_lt_of_le hlt hb.size,fun k z hz j hj=>(hb.cell (p:=⟨b,off + k * 4 + j,none⟩) hlt).trans (hc k z hz j hj)⟩
theorem QdV.quad {w : World} {ao : Option Addr} {n cap i : Nat} {x : List Q4} {f : Q4} (h : QdV w (.slice ao n cap) x) (hi : x[i]? = some f) : ∃b off,ao = some ⟨b,off,none⟩/\b < w.heap.size/\w.cell? ⟨b,off + i * 4,none⟩ = some (.int .i8 (f.a 0))/\w.cell? ⟨b,off + i * 4 + 1,none⟩ = some (.int .i8 (f.a 1))/\w.cell? ⟨b,off + i * 4 + 2,none⟩ = some (.int .i8 (f.a 2))/\w.cell? ⟨b,off + i * 4 + 3,none⟩ = some (.int .i8 (f.a 3)):=by
 obtain ⟨ao',n',cap',h1,h2,h3,h4,h5⟩:=h
 injection h1 with e1 e2 e3
 subst e1
 obtain ⟨b,off,e,hb,hc⟩:=h5 (by rintro rfl; simp at hi)
 exact ⟨b,off,e,hb,hc i f hi 0 oM,hc i f hi 1 oM,hc i f hi 2 oM,hc i f hi 3 oM⟩
set_option maxHeartbeats 8000000 in
set_option maxRecDepth 20000 in
theorem cmade_any (s : Nat) (v : Value) (L : List Q4) (w : World) (hs : s<=255) (h : QdV w v L) :
  Calls Tryz.prog 40 #[.agg #[.int .u8 s,v]] w fun e w'=>∃u c,e = .returned u/\CpxV w' u c/\CxI 4 c/\Below w.heap.size w w':=by
 obtain ⟨ao,n,ac,rfl,hxn,hl1,hl2,-⟩:=id h
 have hn9 : n<=9223372036854775807:=by omega
 have H:=HidS.mk h
 have HXN:=HidS.mk hxn
 clear h hxn
 go_enter Tryz.func40,Tryz.ntmps40
 go_upto_region 1 with (fail)
 refine wp_world ?_
 intro W0 hW0
 obtain ⟨hB0,T2,hs0⟩:=world1 hW0
 have H:=HidS.mk (H.out.below hB0)
 have HT:=HidS.mk T2
 obtain ⟨c1,c2,c3,c4⟩:=T2.two
 clear hW0 T2
 go_wp2_with fail
 refine (space_any s W0 hs).mono ?_
 rintro e w2 ⟨u2,rfl,hu2,hb2⟩
 have hST : HidS (∃c,CpxV w2 u2 c/\CxI 0 c):=⟨_,hu2,space_ok (Nat.mod_lt _ dE)⟩
 clear hu2 c1 c2 c3 c4
 go_wp2
 go_loopw [3,4] (fun u iv wr=>∃i : Nat,i<=4/\i<=n/\iv = .int .i64 i/\HidS (∃c,CpxV wr u c/\CxI i c)/\Below W0.heap.size W0 wr) (fun _ iv _=>4 - (intOf iv).toNat)
 case atStart=>exact ⟨0,by omega,by omega,rfl,hST,hb2⟩
 case round=>
  clear hST hb2
  obtain ⟨i,hi4,hin,rfl,hS,hB⟩:=hrel
  obtain ⟨c,hc,hI⟩:=hS.out
  obtain ⟨uo,uc,rfl,-,-⟩:=id hc.shape
  obtain ⟨q,hq⟩ : ∃q,c.length = q:=⟨_,rfl⟩
  rw [hq] at hc ⊢
  have HC:=HidS.mk hc
  have HI:=HidS.mk hI
  have T2:=HT.out.below hB
  obtain ⟨c1,c2,c3,c4⟩:=T2.two
  clear hc hI hS hq
  by_cases hlt : i < n/\i < 4
  ·obtain ⟨h1,h2⟩:=hlt
   obtain ⟨x,hx⟩:=lt_get HXN.out h1
   obtain ⟨b1,off,rfl,hb1,f0,f1,f2,f3⟩:=(H.out.below hB).quad hx
   have HGR:=HidS.mk (grown_any _ c x wr HC.out HI.out oM)
   simp only [Q4.cells] at HGR
   clear hx
   go_wp2_with fail
   refine HGR.out.mono ?_
   rintro e w5 ⟨u5,c5,rfl,h5,hI5,hb5⟩
   have hB5:=nx hB hb5
   have hS5 : HidS (∃c,CpxV w5 u5 c/\CxI (i + 1) c):=⟨c5,h5,hI5⟩
   clear h5 hI5
   go_wp2
   go_roundw
   case rel=>exact ⟨i + 1,by omega,by omega,by simp,hS5,hB5⟩
   case measure=>simp [intOf]; omega
  ·have hI4 : CxI 4 c:=HI.out.mono hi4
   by_cases h1 : i < n
   ·have h2 : ¬ i < 4:=fun h2=>hlt ⟨h1,h2⟩
    clear hlt
    go_wp2
    go_ret
    exact ⟨_,c,rfl,HC.out,hI4,nx hB0 hB⟩
   ·clear hlt
    go_wp2
    go_ret
    exact ⟨_,c,rfl,HC.out,hI4,nx hB0 hB⟩
def raisF (l : List Int) (i j : Nat) : Int:=(l.getD ((i + 3 * j) % l.length) 0).tmod 3
def raisC (c : Cx) (l : List Int) (i : Nat) : Ch:=raiC (cellsC c ((c.getD i (0,0,[])).2.1 + 1)) (raisF l i) (if l = [] then 0 else (cellsC c ((c.getD i (0,0,[])).2.1 + 1)).length)
theorem raisF_le (l : List Int) (i j : Nat) : (raisF l i j).natAbs<=2:=by
 unfold raisF
 exact tmod3
theorem rai_len (ids : List Int) (F : Nat->Int) : ∀n,(raiC ids F n).length<=n
 | 0=>by simp [raiC]
 | n + 1=>by
  have h1:=rai_len ids F n
  have h2:=addC_len (a:=raiC ids F n) (b:=[(ids.getD n 0,1)]) (k:=F n)
  show (plusC _ _ _).length<=_
  simp only [List.length_cons,List.length_nil] at h2
  omega
theorem raisC_nrm (c : Cx) (l : List Int) (i : Nat) : nrm (raisC c l i)<=2 * c.length/\(raisC c l i).length<=c.length:=by
 have h0:=cells_len (c:=c) (k:=(c.getD i (0,0,[])).2.1 + 1)
 have h1:=fun n=>nrm_rai (ids:=cellsC c ((c.getD i (0,0,[])).2.1 + 1)) (h:=2) (raisF_le l i) n
 have h2:=fun n=>rai_len (cellsC c ((c.getD i (0,0,[])).2.1 + 1)) (raisF l i) n
 unfold raisC
 split
 ·exact ⟨by simp [raiC,nrm],by simp [raiC]⟩
 ·exact ⟨Nat.le_trans (h1 _) oM,Nat.le_trans (h2 _) h0⟩
theorem raisC_hom {c : Cx} (hv : ValX c) (l : List Int) {i : Nat} {f : Cel} (hf : c[i]? = some f) : HomD c (f.2.1 + 1) (raisC c l i):=by
 unfold raisC
 rw [getD_of hf]
 refine HomD.rai (fun j hj=>?_) _ (by split <;> omega)
 obtain ⟨q,h1,h2,h3⟩:=cellsC_mem.1 hj
 exact ⟨q,by rw [<-h2]; exact findC_srt hv.srt h1,h3⟩
set_option maxHeartbeats 8000000 in
set_option maxRecDepth 20000 in
theorem raised_any (v lv : Value) (c : Cx) (l : List Int) (i : Nat) (w : World) (h : CpxV w v c) (hl : I8V w lv l) (hi : i < c.length) (hn : c.length<=11) (hdm : ∀f ∈ c,0<=f.2.1/\f.2.1<=3) :
  Calls Tryz.prog 109 #[v,.int .i64 i,lv] w fun e w'=>∃u,e = .returned u/\ChnV w' u (raisC c l i)/\Below w.heap.size w w':=by
 obtain ⟨ao,ac,rfl,-,hc1⟩:=id h.shape
 obtain ⟨lo,ln,lc,rfl,hln,hll,hlc,-,-⟩:=id hl
 obtain ⟨n,hxn⟩ : ∃n,c.length = n:=⟨_,rfl⟩
 rw [hxn] at h hi hn ⊢
 obtain ⟨f,hf⟩:=lt_get hxn hi
 obtain ⟨d,hd⟩ : ∃d,f.2.1 = d:=⟨_,rfl⟩
 obtain ⟨I,hI⟩ : ∃I,cellsC c (d + 1) = I:=⟨_,rfl⟩
 obtain ⟨R,hR⟩ : ∃R,I.length = R:=⟨_,rfl⟩
 have hRn : R<=n:=by rw [<-hR,<-hI,<-hxn]; exact cells_len
 have HRS : HidS (raisC c l i = raiC I (raisF l i) (if l = [] then 0 else R)):=⟨by unfold raisC; rw [getD_of hf]; show raiC (cellsC c (f.2.1 + 1)) _ (if l = [] then 0 else (cellsC c (f.2.1 + 1)).length) = _; rw [hd,hI,hR]⟩
 obtain ⟨b',o2,q2,rfl,hbb,f1,f2,f3,hv⟩:=h.cel hf
 rw [hd] at f2
 have hd3 : 0<=d/\d<=3:=by rw [<-hd]; exact hdm f (List.mem_of_getElem? hf)
 obtain ⟨hd3a,hd3b⟩:=hd3
 have hwd : IntKind.i64.wrap (d + 1) = d + 1:=IntWalk.i64_in _ oM
 have H:=HidS.mk h
 have HL:=HidS.mk hl
 have HLN:=HidS.mk hln
 have HXN:=HidS.mk hxn
 have HI:=HidS.mk hI
 have HR:=HidS.mk hR
 clear h hl hxn hI hR hf hd hv hdm
 go_enter Tryz.func109,Tryz.ntmps109
 go_upto_region 2 with (fail)
 refine wp_world ?_
 intro W0 hW0
 obtain ⟨hB0,-,T3,hs0⟩:=world2 hW0
 have HO0 : HidS (ChnV W0 (.slice (some ⟨w.heap.size,0,none⟩) 0 0) (raiC I (raisF l i) 0)):=⟨LsV.nil _ _ _ _ (Nat.zero_le _)⟩
 have HC0:=HidS.mk (H.out.below hB0)
 obtain ⟨c1,c2,c3,c4,c5,c6⟩:=T3.three
 clear hW0 T3 f1 f2 f3
 go_wp2_with fail
 refine (ccells_any _ c (d + 1) W0 HC0.out (by rw [HXN.out]; omega)).mono ?_
 rintro e w2 ⟨u1,rfl,hI1,hb2⟩
 rw [HI.out] at hI1
 obtain ⟨io,ic,rfl,-,-⟩:=hI1.vs.shape
 rw [HR.out] at hI1 ⊢
 have HI1:=HidS.mk hI1.vs
 have HO0:=HidS.mk (HO0.out.below hb2)
 have HL2:=HidS.mk ((HL.out.below hB0).below hb2)
 clear hI1 c1 c2 c3 c4 c5 c6
 go_wp2
 go_loopw [8,10,11] (fun u jv _ wr=>∃j : Nat,j<=R/\jv = .int .i64 j/\HidS (ChnV wr u (raiC I (raisF l i) j)/\(ln = 0->j = 0))/\Below w2.heap.size w2 wr) (fun _ jv _ _=>R - (intOf jv).toNat)
 case atStart=>exact ⟨0,by omega,rfl,⟨HO0.out,fun _=>rfl⟩,Below.refl _ _⟩
 case round=>
  clear HO0
  obtain ⟨j,hj,rfl,hO,hB⟩:=hrel
  obtain ⟨uo,uc,rfl,-,-⟩:=id hO.out.1.shape
  obtain ⟨q,hq⟩ : ∃q,(raiC I (raisF l i) j).length = q:=⟨_,rfl⟩
  have hqj : q<=j:=by rw [<-hq]; exact rai_len _ _ _
  rw [hq] at hO ⊢
  have HQ:=HidS.mk hq
  clear hq
  by_cases hlt : j < R
  ·by_cases hl0 : ln = 0
   ·have HE : HidS (ChnV wr (.slice uo q uc) (raisC c l i)):=⟨by
     have h1:=hO.out.2 hl0
     have h2 : l = []:=List.eq_nil_of_length_eq_zero (by rw [HLN.out]; exact hl0)
     rw [HRS.out,if_pos h2,<-h1]
     exact hO.out.1⟩
    subst hl0
    clear hO
    go_wp2
    go_ret
    exact ⟨_,rfl,HE.out,hB0.trans ((nx hb2 hB).mono oM)⟩
   ·obtain ⟨a,ha⟩:=lt_get HR.out hlt
    obtain ⟨b1,rfl,hb1,g1⟩:=(HI1.out.below hB).int ha
    obtain ⟨j3,hj3⟩ : ∃q : Nat,3 * j = q:=⟨_,rfl⟩
    obtain ⟨s5,hs5⟩ : ∃q : Nat,i + j3 = q:=⟨_,rfl⟩
    obtain ⟨r,hr⟩ : ∃q : Nat,s5 % ln = q:=⟨_,rfl⟩
    have hrl : r < ln:=by rw [<-hr]; exact Nat.mod_lt _ oM
    obtain ⟨bl,off,z,hlo,hbl,hz,g2,z1,z2⟩:=(HL2.out.below hB).cell (k:=r) (by rw [HLN.out]; exact hrl)
    subst hlo
    have hI3 : (3 : Int) * (j : Int) = (j3 : Int):=by omega
    have hIs : (i : Int) + (j3 : Int) = (s5 : Int):=by omega
    have hw3 : IntKind.i64.wrap (j3 : Int) = (j3 : Int):=IntWalk.i64_in _ oM
    have hws : IntKind.i64.wrap (s5 : Int) = (s5 : Int):=IntWalk.i64_in _ oM
    have hrem : (s5 : Int).tmod (ln : Int) = (r : Int):=by rw [<-hr]; rfl
    have hwr : IntKind.i64.wrap (r : Int) = (r : Int):=IntWalk.i64_in _ oM
    have hln0 : ¬ (ln : Int) = 0:=by omega
    have hgt : (ln : Int) > 0:=by omega
    obtain ⟨nn,hnn⟩ : ∃nn,z.tmod 3 = nn:=⟨_,rfl⟩
    have hn2 : nn.natAbs<=2:=by rw [<-hnn]; exact tmod3
    have HF : HidS (raisF l i j = nn):=⟨by
     unfold raisF
     rw [HLN.out,hj3,hs5,hr,getD_of hz,hnn]⟩
    have hw8n : IntKind.i8.wrap nn = nn:=IntWalk.i8_in _ oM
    have hw64n : IntKind.i64.wrap nn = nn:=IntWalk.i64_in _ oM
    have HA:=HidS.mk ha
    have HNR : HidS (nrm (raiC I (raisF l i) j)<=j * 2):=⟨nrm_rai (fun j=>raisF_le l i j) j⟩
    have hnext : HidS (raiC I (raisF l i) (j + 1) = plusC (raiC I (raisF l i) j) [(a,1)] nn):=⟨by
     show plusC (raiC I (raisF l i) j) [(I.getD j 0,1)] (raisF l i j) = _
     rw [getD_of ha,HF.out]⟩
    have hl1:=lasts_int 1
    have hl2:=lasts_int nn
    have hl3:=lastsB_ls faceE [(a,1)]
    have hl4:=lastsB_ls faceE (plusC (raiC I (raisF l i) j) [(a,1)] nn)
    clear ha hz hj3 hs5 hr
    go_upto_region 7 with (fail)
    refine wp_serH 13 [pcI 5 1,pcD 7 [5] (fun w v=>ChnV w v [(a,1)]),pcI 11 nn,pcD 12 [7,11] (fun w v=>ChnV w v (plusC (raiC I (raisF l i) j) [(a,1)] nn))] ?_
    refine sRd ?_
    refine sRc (fun wS hI Gk hG=>by go_simp; exact ck hG (r1of_any 1 wS dE dE)) (fun _ hv=>?_)
    obtain ⟨_,-,s6,a6,l6,k6,_,rfl,-⟩:=hv
    refine sRd ?_
    refine sRc (fun wS hI h5 Gk hG=>?_) (fun v7 _=>?_)
    ·have hal:=(Below.refl wS.heap.size wS).alloc (Nat.le_refl _) (.cells #[.int .i64 a,.bool s6,.slice a6 l6 k6] tFc)
     go_simp
     exact hG _ _ (ChnV.one (Blk.new _ _ _) (IntV.ext h5 (lx hal)))
    refine sRd ?_
    refine sRc (fun wS hI Gk hG=>by go_simp; exact ck hG (r1of_any nn wS oM oM)) (fun _ hv=>?_)
    obtain ⟨_,-,s7,a7,l7,k7,_,rfl,-⟩:=hv
    refine sRc (fun wS hI h7 h11 Gk hG=>by go_simp; exact ck hG (cadd_any _ _ _ _ [(a,1)] nn wS (hO.out.1.below hI.bel) h7 h11 (two_pow_lim (e:=10) (by have:=HNR.out; have h9 : 2 ^ 10 = 1024:=rfl; rw [show nrm [(a,(1 : Int))] = 1 from rfl,Nat.mul_one]; omega) dE) (two_pow_lim (e:=10) (by have h9 : 2 ^ 10 = 1024:=rfl; omega) dE) (two_pow_lim (e:=10) (show 1 < 2 ^ 10 by decide) dE) (by rw [HQ.out]; simp only [List.length_cons,List.length_nil]; omega))) (fun v12 _=>?_)
    refine sRe ?_
    intro w5 hb5 _ _ _ h12
    have hB5:=nx hB hb5
    have HO5 : HidS (ChnV w5 v12 (raiC I (raisF l i) (j + 1))/\(ln = 0->j + 1 = 0)):=⟨by rw [hnext.out]; exact h12,fun h=>absurd h hl0⟩
    clear h12 g1 g2
    go_wp2
    go_roundw
    case rel=>exact ⟨j + 1,by omega,by simp <;> omega,HO5,hB5⟩
    case measure=>simp [intOf]; omega
  ·obtain rfl : R = j:=by omega
   have HE : HidS (ChnV wr (.slice uo q uc) (raisC c l i)):=⟨by
    rw [HRS.out]
    split
    ·rename_i h2
     rw [<-hO.out.2 (by rw [<-HLN.out,h2]; rfl)]
     exact hO.out.1
    ·exact hO.out.1⟩
   clear hO
   go_wp2
   go_ret
   exact ⟨_,rfl,HE.out,hB0.trans ((nx hb2 hB).mono oM)⟩
theorem len_lifJ {r : Ch} {i : Int} : ∀{x out : Ch},(lifJ x i r out).length<=out.length + x.length * r.length:=by
 intro x
 induction x with
 | nil=>intro out; simp [lifJ]
 | cons p x ih=>
  intro out
  show (lifJ x i r (if p.1 = i then plusC out r p.2 else out)).length<=_
  simp only [List.length_cons]
  rw [Nat.add_mul]
  split
  ·have h1:=ih (out:=plusC out r p.2)
   have h2:=addC_len (a:=out) (b:=r) (k:=p.2)
   omega
  ·have h1:=ih (out:=out)
   omega
theorem len_lif {c : Cx} {x : Ch} {H : Nat->Ch} {m : Nat} (hH : ∀t,(H t).length<=m) : ∀n,(lifN c x H n).length<=n * (x.length * m)
 | 0=>by simp [lifN]
 | n + 1=>by
  have h1:=len_lif (c:=c) (x:=x) hH n
  have h2:=len_lifJ (x:=x) (i:=idN c n) (r:=H n) (out:=lifN c x H n)
  have h3 : x.length * (H n).length<=x.length * m:=Nat.mul_le_mul_left _ (hH n)
  show (lifJ _ _ _ _).length<=_
  rw [Nat.add_mul]
  omega
theorem lifJ_sn {x r out : Ch} {i : Int} {j : Nat} {f : Int × Int} (h : x[j]? = some f) : lifJ (x.take (j + 1)) i r out = if f.1 = i then plusC (lifJ (x.take j) i r out) r f.2 else lifJ (x.take j) i r out:=by
 unfold lifJ
 rw [take_sn h,List.foldl_append]
 rfl
theorem lif_mid {c : Cx} {x : Ch} {l : List Int} {i j : Nat} (hc : c.length<=11) (hi : i < 11) : nrm (lifJ (x.take j) (idN c i) (raisC c l i) (lifN c x (raisC c l) i))<=242 * nrm x/\(lifJ (x.take j) (idN c i) (raisC c l i) (lifN c x (raisC c l) i)).length<=121 * x.length:=by
 have h1:=nrm_lif (c:=c) (x:=x) (H:=raisC c l) (h:=22) (fun t=>by have:=(raisC_nrm c l t).1; omega) i
 have h2:=nrm_lifJ (x:=x.take j) (i:=idN c i) (r:=raisC c l i) (out:=lifN c x (raisC c l) i)
 have h3 : nrm (x.take j) * nrm (raisC c l i)<=nrm x * 22:=Nat.mul_le_mul nrm_take (by have:=(raisC_nrm c l i).1; omega)
 have h4:=len_lif (c:=c) (x:=x) (H:=raisC c l) (m:=11) (fun t=>by have:=(raisC_nrm c l t).2; omega) i
 have h5:=len_lifJ (x:=x.take j) (i:=idN c i) (r:=raisC c l i) (out:=lifN c x (raisC c l) i)
 have h6 : (x.take j).length * (raisC c l i).length<=x.length * 11:=Nat.mul_le_mul (by rw [List.length_take]; omega) (by have:=(raisC_nrm c l i).2; omega)
 have h7 : i * (nrm x * 22)<=10 * (nrm x * 22):=Nat.mul_le_mul_right _ oM
 have h8 : i * (x.length * 11)<=10 * (x.length * 11):=Nat.mul_le_mul_right _ oM
 constructor <;> omega
set_option maxHeartbeats 8000000 in
set_option maxRecDepth 20000 in
theorem lifted_any (v u lv : Value) (c : Cx) (x : Ch) (l : List Int) (w : World) (h : CpxV w v c) (hx : ChnV w u x) (hl : I8V w lv l) (hn : c.length<=11) (hdm : ∀f ∈ c,0<=f.2.1/\f.2.1<=3) (hS : SmN (264 * nrm x)) (hxl : x.length<=1000) :
  Calls Tryz.prog 82 #[v,u,lv] w fun e w'=>∃r,e = .returned r/\ChnV w' r (lifC c x (raisC c l))/\Below w.heap.size w w':=by
 obtain ⟨ao,ac,rfl,-,hc1⟩:=id h.shape
 obtain ⟨bo,bc,rfl,-,hc2⟩:=id hx.shape
 obtain ⟨lo,ln,lc,rfl,-⟩:=id hl
 obtain ⟨n,hcn⟩ : ∃n,c.length = n:=⟨_,rfl⟩
 obtain ⟨m,hxm⟩ : ∃n,x.length = n:=⟨_,rfl⟩
 have HMID : HidS (∀i j,i < 11->nrm (lifJ (x.take j) (idN c i) (raisC c l i) (lifN c x (raisC c l) i))<=242 * nrm x/\(lifJ (x.take j) (idN c i) (raisC c l i) (lifN c x (raisC c l) i)).length<=121 * m):=⟨fun i j hi=>by rw [<-hxm]; exact lif_mid hn hi⟩
 have HRA : HidS (∀i w,i < n->CpxV w (.slice ao n ac) c->I8V w (.slice lo ln lc) l->Calls Tryz.prog 109 #[.slice ao n ac,.int .i64 i,.slice lo ln lc] w fun e w'=>∃u,e = .returned u/\ChnV w' u (raisC c l i)/\Below w.heap.size w w'):=⟨fun i w hi h1 h2=>raised_any _ _ c l i w h1 h2 oM hn hdm⟩
 have HRN : HidS (∀i,nrm (raisC c l i)<=22/\(raisC c l i).length<=11):=⟨fun i=>by have:=raisC_nrm c l i; omega⟩
 rw [hcn] at h hn ⊢
 rw [hxm] at hx hxl ⊢
 have H:=HidS.mk h
 have HX:=HidS.mk hx
 have HL:=HidS.mk hl
 have HCN:=HidS.mk hcn
 have HXM:=HidS.mk hxm
 have HLC : HidS (lifC c x (raisC c l) = lifN c x (raisC c l) n):=⟨by unfold lifC; rw [hcn]⟩
 clear h hx hl hcn hxm hdm
 go_enter Tryz.func82,Tryz.ntmps82
 have hO : HidS (ChnV (w.alloc (.cells #[] tFc)) (.slice (some ⟨w.heap.size,0,none⟩) 0 0) (lifN c x (raisC c l) 0)):=⟨LsV.nil _ _ _ _ (Nat.zero_le _)⟩
 have hal:=(Below.refl w.heap.size w).alloc (Nat.le_refl _) (.cells #[] tFc)
 go_wp2
 go_loopw [7,8,9] (fun u iv _ wr=>∃i : Nat,i<=n/\iv = .int .i64 i/\HidS (ChnV wr u (lifN c x (raisC c l) i))/\Below w.heap.size w wr) (fun _ iv _ _=>n - (intOf iv).toNat)
 case atStart=>exact ⟨0,by omega,rfl,hO,hal⟩
 case round=>
  clear hO hal
  obtain ⟨i,hi,rfl,hO,hB⟩:=hrel
  obtain ⟨uo,uc,rfl,-,-⟩:=id hO.out.shape
  obtain ⟨q,hq⟩ : ∃q,(lifN c x (raisC c l) i).length = q:=⟨_,rfl⟩
  rw [hq] at hO ⊢
  clear hq
  by_cases hlt : i < n
  ·obtain ⟨g,hg⟩:=lt_get HCN.out hlt
   have HG:=HidS.mk hg
   have HID : HidS (idN c i = g.1):=⟨by unfold idN; rw [getD_of hg]⟩
   have hO0 : HidS (ChnV wr (.slice uo q uc) (lifJ (x.take 0) (idN c i) (raisC c l i) (lifN c x (raisC c l) i))):=⟨hO.out⟩
   clear hg hO
   go_wp2
   go_loopw [7,9] (fun u jv wr=>∃j : Nat,j<=m/\jv = .int .i64 j/\HidS (ChnV wr u (lifJ (x.take j) (idN c i) (raisC c l i) (lifN c x (raisC c l) i)))/\Below w.heap.size w wr) (fun _ jv _=>m - (intOf jv).toNat)
   case atStart=>exact ⟨0,by omega,rfl,hO0,hB⟩
   case round=>
    clear hO0 hB
    obtain ⟨j,hj,rfl,hO,hB⟩:=hrel
    obtain ⟨uo,uc,rfl,-,-⟩:=id hO.out.shape
    have hMID:=HMID.out i j oM
    obtain ⟨q,hq⟩ : ∃q,(lifJ (x.take j) (idN c i) (raisC c l i) (lifN c x (raisC c l) i)).length = q:=⟨_,rfl⟩
    rw [hq] at hO hMID ⊢
    have HMI:=HidS.mk hMID
    have HQ:=HidS.mk hq
    clear hq hMID
    by_cases hjt : j < m
    ·obtain ⟨f,hf⟩:=lt_get HXM.out hjt
     obtain ⟨b1,s1,a1,l1,k1,rfl,hb1,f1,f2,f3,hv1⟩:=(HX.out.below hB).face hf
     obtain ⟨b2,o2,q2,rfl,hb2,g1,g2,g3,hv2⟩:=(H.out.below hB).cel HG.out
     have HF:=HidS.mk hf
     clear hf hv1 hv2
     go_upto_region 8 with (fail)
     refine wp_ser [] ?_
     refine sRd ?_
     refine sRf ?_
     intro w5 hb5
     have hB5:=nx hB hb5
     have hO5:=HidS.mk (hO.out.below hb5)
     clear f1 f2 f3 g1 g2 g3 hO
     by_cases he : f.1 = g.1
     ·obtain ⟨b',s1,a1,l1,k1,eb,hb1',f1,f2,f3,hv1⟩:=(HX.out.below hB5).face HF.out
      cases eb
      have HV:=HidS.mk hv1
      have HST : HidS (lifJ (x.take (j + 1)) (idN c i) (raisC c l i) (lifN c x (raisC c l) i) = plusC (lifJ (x.take j) (idN c i) (raisC c l i) (lifN c x (raisC c l) i)) (raisC c l i) f.2):=⟨by rw [lifJ_sn HF.out,HID.out,if_pos he]⟩
      have HSS : HidS (SmN (nrm (lifJ (x.take j) (idN c i) (raisC c l i) (lifN c x (raisC c l) i)) + f.2.natAbs * nrm (raisC c l i))/\SmN f.2.natAbs/\SmN (nrm (raisC c l i))):=⟨by
       have h1:=HMI.out.1
       have h2:=nrm_le (List.mem_of_getElem? HF.out)
       have h3 : f.2.natAbs * nrm (raisC c l i)<=nrm x * 22:=Nat.mul_le_mul h2 (HRN.out i).1
       exact ⟨hS.le oM,hS.le oM,two_pow_lim (e:=10) (by have:=(HRN.out i).1; have h9 : 2 ^ 10 = 1024:=rfl; omega) dE⟩⟩
      have hl1:=lastsB_ls faceE (raisC c l i)
      have hl2:=lastsB_ls faceE (plusC (lifJ (x.take j) (idN c i) (raisC c l i) (lifN c x (raisC c l) i)) (raisC c l i) f.2)
      have H5:=HidS.mk (H.out.below hB5)
      have HL5:=HidS.mk (HL.out.below hB5)
      clear hv1
      go_upto_region 9 with (fail)
      refine wp_serH 11 [pcD 4 [] (fun w v=>ChnV w v (raisC c l i)),pcD 10 [4] (fun w v=>ChnV w v (plusC (lifJ (x.take j) (idN c i) (raisC c l i) (lifN c x (raisC c l) i)) (raisC c l i) f.2))] ?_
      refine sRd ?_
      refine sRc (fun wS hI Gk hG=>by go_simp; exact ck hG (HRA.out i wS hlt (H5.out.below hI.bel) (HL5.out.below hI.bel))) (fun v4 _=>?_)
      refine sRd ?_
      refine sRc (fun wS hI h4 Gk hG=>by go_simp; exact ck hG (cadd_any _ _ _ _ _ f.2 wS (hO5.out.below hI.bel) h4 (HV.out.ext hI.lext) HSS.out.1 HSS.out.2.1 HSS.out.2.2 (by rw [HQ.out]; have:=HMI.out.2; have:=(HRN.out i).2; omega))) (fun v10 _=>?_)
      refine sRe ?_
      intro w6 hb6 _ h10
      have hB6:=nx hB5 hb6
      have HO6 : HidS (ChnV w6 v10 (lifJ (x.take (j + 1)) (idN c i) (raisC c l i) (lifN c x (raisC c l) i))):=⟨by rw [HST.out]; exact h10⟩
      clear h10
      go_wp2
      go_roundw
      case rel=>exact ⟨j + 1,by omega,by simp,HO6,hB6⟩
      case measure=>simp [intOf]; omega
     ·have hne : (f.1 == g.1) = false:=by simpa using he
      have HO6 : HidS (ChnV w5 (.slice uo q uc) (lifJ (x.take (j + 1)) (idN c i) (raisC c l i) (lifN c x (raisC c l) i))):=⟨by rw [lifJ_sn HF.out,HID.out,if_neg he,<-HID.out]; exact hO5.out⟩
      go_wp2
      go_roundw
      case rel=>exact ⟨j + 1,by omega,by simp,HO6,hB5⟩
      case measure=>simp [intOf]; omega
    ·obtain rfl : m = j:=by omega
     have HO6 : HidS (ChnV wr (.slice uo q uc) (lifN c x (raisC c l) (i + 1))):=⟨by
      have:=hO.out
      rw [take_all HXM.out] at this
      exact this⟩
     clear hO
     go_wp2
     go_roundw
     case rel=>exact ⟨i + 1,by omega,by simp,HO6,hB⟩
     case measure=>simp [intOf]; omega
  ·obtain rfl : n = i:=by omega
   have HE : HidS (ChnV wr (.slice uo q uc) (lifC c x (raisC c l))):=⟨by rw [HLC.out]; exact hO.out⟩
   clear hO
   go_wp2
   go_ret
   exact ⟨_,rfl,HE.out,hB⟩
def eB : Nat:=419200
def eT : Nat:=419121
theorem nrm_len {B : Nat} : ∀{x : Ch},(∀p ∈ x,p.2.natAbs<=B)->nrm x<=x.length * B:=by
 intro x
 induction x with
 | nil=>intro _; simp [nrm]
 | cons f x ih=>
  intro h
  have h1:=ih fun p hp=>h p (List.mem_cons_of_mem _ hp)
  have h2:=h f List.mem_cons_self
  simp only [nrm,List.length_cons]
  rw [Nat.add_mul]
  omega
theorem CxI.bof {t : Nat} {c : Cx} (h : CxI t c) (ht : t<=4) (i : Int) : nrm (bOf c i)<=2 ^ eB/\(bOf c i).length<=11:=by
 unfold bOf
 rcases hf : findC c i with _ | f
 ·exact ⟨Nat.zero_le _,Nat.zero_le _⟩
 ·have h1:=(findC_mem hf).1
  have h2:=h.lens f h1
  have h3:=nrm_len (h.bnd f h1)
  have h4:=h.dim f h1
  have h5 : eb f.2.1.toNat<=eT:=by
   rcases (by omega : f.2.1.toNat = 0 ∨ f.2.1.toNat = 1 ∨ f.2.1.toNat = 2 ∨ f.2.1.toNat = 3) with e | e | e | e <;> rw [e] <;> decide
  have h6 : 2 ^ eb f.2.1.toNat<=2 ^ eT:=Nat.pow_le_pow_right oM h5
  have h7 : f.2.2.length * 2 ^ eb f.2.1.toNat<=2 ^ 4 * 2 ^ eT:=Nat.mul_le_mul oM h6
  have h8 : 2 ^ 4 * 2 ^ eT<=2 ^ eB:=by rw [<-Nat.pow_add]; exact Nat.pow_le_pow_right oM dE
  show nrm f.2.2<=2 ^ eB/\f.2.2.length<=11
  exact ⟨Nat.le_trans h3 (Nat.le_trans h7 h8),by omega⟩
theorem nrmA_le {F : Int->Ch} {B : Nat} (h : ∀i,nrm (F i)<=B) : ∀{x : Ch},nrmA F x<=nrm x * B:=by
 intro x
 induction x with
 | nil=>simp [nrmA]
 | cons f x ih=>
  simp only [nrmA,nrm]
  rw [Nat.add_mul]
  have:=Nat.mul_le_mul_left f.2.natAbs (h f.1)
  omega
theorem lenA_le {F : Int->Ch} {B : Nat} (h : ∀i,(F i).length<=B) : ∀{x : Ch},lenA F x<=x.length * B:=by
 intro x
 induction x with
 | nil=>simp [lenA]
 | cons f x ih=>
  simp only [lenA,List.length_cons]
  rw [Nat.add_mul]
  have:=h f.1
  omega
theorem two_pow_le {n e : Nat} (h : n<=2 ^ e) (he : e + 1<=32 * LIM) : SmN n:=two_pow_lim (e:=e + 1) (Nat.lt_of_le_of_lt h (Nat.pow_lt_pow_right oM oM)) he
theorem CxI.act {t e : Nat} {c : Cx} {x : Ch} (h : CxI t c) (ht : t<=4) (hx : nrm x<=2 ^ e) (he : e<=10000000) (hl : x.length<=10000) : ActOk (bOf c) x:=by
 have hb:=h.bof ht
 refine ⟨?_,fun f hf=>⟨two_pow_le (Nat.le_trans (nrm_le hf) hx) (by unfold LIM; omega),two_pow_le (hb f.1).1 dE⟩,?_⟩
 ·refine two_pow_le (e:=e + eB) (Nat.le_trans (nrmA_le fun i=>(hb i).1) ?_) (by unfold LIM eB; omega)
  rw [Nat.pow_add]
  exact Nat.mul_le_mul_right _ hx
 ·have:=lenA_le (F:=bOf c) (x:=x) fun i=>(hb i).2
  omega
theorem bd_nrm {t e : Nat} {c : Cx} {x : Ch} (h : CxI t c) (ht : t<=4) (hx : nrm x<=2 ^ e) : nrm (bdC c x)<=2 ^ (e + eB)/\(bdC c x).length<=x.length * 11:=by
 have hb:=h.bof ht
 have h1:=nrm_act (F:=bOf c) (x:=x) (a:=[])
 have h2:=len_act (F:=bOf c) (x:=x) (a:=[])
 have h3:=nrmA_le (F:=bOf c) (x:=x) fun i=>(hb i).1
 have h4:=lenA_le (F:=bOf c) (x:=x) fun i=>(hb i).2
 have h5:=Nat.mul_le_mul_right (2 ^ eB) hx
 rw [<-Nat.pow_add] at h5
 simp only [nrm,List.length_nil] at h1 h2
 unfold bdC
 constructor <;> omega
theorem dimGo_hom {c : Cx} {d : Int} : ∀{x : Ch} (first : Bool) (d' : Int),HomD c d x->(first = false->d' = d)->(dimGo c x first d' false).2 = 0/\(x ≠ []->(dimGo c x first d' false).1 = d):=by
 intro x
 induction x with
 | nil=>intro first d' _ _; exact ⟨rfl,fun h=>absurd rfl h⟩
 | cons f x ih=>
  intro first d' h hd
  obtain ⟨q,h1,h2⟩:=h f List.mem_cons_self
  unfold dimGo
  rw [h1]
  have h3 : (false || (!first && (q.2.1 != d'))) = false:=by
   cases first
   ·simp [h2,hd rfl]
   ·rfl
  show (dimGo c x false q.2.1 (false || (!first && (q.2.1 != d')))).2 = 0/\(f :: x ≠ []->(dimGo c x false q.2.1 (false || (!first && (q.2.1 != d')))).1 = d)
  rw [h3]
  obtain ⟨i1,i2⟩:=ih false q.2.1 (fun p hp=>h p (List.mem_cons_of_mem _ hp)) fun _=>h2
  refine ⟨i1,fun _=>?_⟩
  by_cases hx : x = []
  ·rw [hx]; exact h2
  ·exact i2 hx
theorem dimC_hom {c : Cx} {d : Int} {x : Ch} (h : HomD c d x) : (dimC c x).2 = 0/\(x ≠ []->(dimC c x).1 = d):=dimGo_hom true (-1) h fun e=>by cases e
theorem edC_hom {c : Cx} {d : Int} {x : Ch} (h : HomD c d x) : edC c x = bdC c x:=by unfold edC; rw [if_pos (dimC_hom h).1]
theorem rais_homH {c : Cx} (hv : ValX c) (l : List Int) : HomH c (hidC c (raisC c l)):=fun f hf=>by
 obtain ⟨i,hi,rfl⟩:=List.getElem_of_mem hf
 have e : idN c i = (c[i]).1:=by unfold idN; rw [getD_of (List.getElem?_eq_getElem hi)]
 rw [<-e,hidC_at hv hi]
 exact raisC_hom hv l (List.getElem?_eq_getElem hi)
theorem lif_hom {c : Cx} (hv : ValX c) (l : List Int) {x : Ch} {d : Int} (hx : HomD c d x) : HomD c (d + 1) (lifC c x (raisC c l)):=by
 have : ∀n,n<=c.length->HomD c (d + 1) (lifN c x (raisC c l) n):=fun n=>by
  induction n with
  | zero=>intro _; exact HomD.nil _ _
  | succ n ih=>
   intro hn
   by_cases hne : ∀p ∈ x,p.1 ≠ idN c n
   ·show HomD c (d + 1) (lifJ x (idN c n) (raisC c l n) (lifN c x (raisC c l) n))
    rw [lifJ_none hne]
    exact ih oM
   ·refine HomD.lifJ ?_ (ih oM)
    obtain ⟨p,hp⟩:=Classical.not_forall.1 hne
    obtain ⟨hp1,hp2⟩:=Classical.not_imp.1 hp
    have hp2:=Classical.not_not.1 hp2
    obtain ⟨q,h1,h2⟩:=hx p hp1
    have hc : c[n]? = some c[n]:=List.getElem?_eq_getElem oM
    have h3:=raisC_hom hv l hc
    have e : idN c n = (c[n]).1:=by unfold idN; rw [getD_of hc]
    rw [hp2,e,findC_srt hv.srt (List.mem_of_getElem? hc)] at h1
    injection h1 with h1
    rw [h1,h2] at h3
    exact h3
 exact this _ (Nat.le_refl _)
theorem lif_size {c : Cx} {x : Ch} {l : List Int} (hc : c.length<=11) : nrm (lifC c x (raisC c l))<=242 * nrm x/\(lifC c x (raisC c l)).length<=121 * x.length:=by
 have h1:=nrm_lif (c:=c) (x:=x) (H:=raisC c l) (h:=22) (fun t=>by have:=(raisC_nrm c l t).1; omega) c.length
 have h4:=len_lif (c:=c) (x:=x) (H:=raisC c l) (m:=11) (fun t=>by have:=(raisC_nrm c l t).2; omega) c.length
 have h7 : c.length * (nrm x * 22)<=11 * (nrm x * 22):=Nat.mul_le_mul_right _ hc
 have h8 : c.length * (x.length * 11)<=11 * (x.length * 11):=Nat.mul_le_mul_right _ hc
 unfold lifC
 constructor <;> omega
structure HomS (c : Cx) (n : Int) (l : List Int) (f : Cel) (y1 y2 y3 z1 e1 z2 : Ch) : Prop where
 h1 : y1 = plusC [] [(f.1,1)] n
 hz1 : z1 = lifC c [(f.1,1)] (raisC c l)
 he1 : edC c z1 = e1
 h2 : y2 = plusC y1 e1 1
 hz2 : z2 = lifC c f.2.2 (raisC c l)
 h3 : y3 = plusC y2 z2 1
 a1 : ActOk (bOf c) z1
 s1 : SmN (264 * nrm f.2.2)/\f.2.2.length<=1000
 s2 : SmN (nrm y1 + (1 : Int).natAbs * nrm e1)/\SmN (nrm e1)/\y1.length + e1.length<=1000000
 s3 : SmN (nrm y2 + (1 : Int).natAbs * nrm z2)/\SmN (nrm z2)/\y2.length + z2.length<=1000000
 s4 : nrm y3<=2 ^ (eB + 20)/\y3.length<=10000
theorem homS_ex {t : Nat} {c : Cx} (h : CxI t c) (ht : t<=4) {n : Int} (hn : n.natAbs<=3) (l : List Int) {i : Nat} {f : Cel} (hf : c[i]? = some f) : ∃y1 y2 z1 e1 z2,HomS c n l f y1 y2 (homI c n (raisC c l) i) z1 e1 z2:=by
 have hc : c.length<=11:=by have:=h.len; omega
 have hfc:=List.mem_of_getElem? hf
 have hone : HomD c f.2.1 [(f.1,1)]:=fun q hq=>by
  rw [List.mem_singleton.1 hq]
  exact ⟨f,findC_srt h.val.srt hfc,rfl⟩
 have hz:=lif_hom h.val l hone
 obtain ⟨g1,g2⟩:=lif_size (c:=c) (x:=[(f.1,1)]) (l:=l) hc
 have hbf:=h.bof ht f.1
 rw [bOf_at h.val hfc] at hbf
 obtain ⟨g3,g4⟩:=lif_size (c:=c) (x:=f.2.2) (l:=l) hc
 have e0 : nrm [(f.1,(1 : Int))] = 1:=rfl
 have e9 : [(f.1,(1 : Int))].length = 1:=rfl
 rw [e0] at g1
 rw [e9] at g2
 have g5 : nrm (lifC c [(f.1,1)] (raisC c l))<=2 ^ 8:=by have : 2 ^ 8 = 256:=rfl; omega
 obtain ⟨g6,g7⟩:=bd_nrm h ht g5
 have g8:=nrm_add (a:=[]) (b:=[(f.1,1)]) (k:=n)
 have g9:=addC_len (a:=[]) (b:=[(f.1,1)]) (k:=n)
 rw [e0] at g8
 rw [e9] at g9
 simp only [nrm,List.length_nil] at g8 g9
 have g10:=nrm_add (a:=plusC [] [(f.1,1)] n) (b:=bdC c (lifC c [(f.1,1)] (raisC c l))) (k:=1)
 have g11:=addC_len (a:=plusC [] [(f.1,1)] n) (b:=bdC c (lifC c [(f.1,1)] (raisC c l))) (k:=1)
 have g12:=nrm_add (a:=plusC (plusC [] [(f.1,1)] n) (bdC c (lifC c [(f.1,1)] (raisC c l))) 1) (b:=lifC c f.2.2 (raisC c l)) (k:=1)
 have g13:=addC_len (a:=plusC (plusC [] [(f.1,1)] n) (bdC c (lifC c [(f.1,1)] (raisC c l))) 1) (b:=lifC c f.2.2 (raisC c l)) (k:=1)
 rw [show (1 : Int).natAbs = 1 from rfl,Nat.one_mul] at g10 g12
 have p1 : 2 ^ (8 + eB) = 256 * 2 ^ eB:=by rw [Nat.pow_add]
 have p2 : 2 ^ (eB + 20) = 1048576 * 2 ^ eB:=by rw [Nat.pow_add,Nat.mul_comm]
 have p3 : 1<=2 ^ eB:=Nat.pow_pos dE
 have sm : ∀{m : Nat},m<=2 ^ (eB + 20)->SmN m:=fun hm=>two_pow_le hm dE
 refine ⟨plusC [] [(f.1,1)] n,plusC (plusC [] [(f.1,1)] n) (bdC c (lifC c [(f.1,1)] (raisC c l))) 1,lifC c [(f.1,1)] (raisC c l),bdC c (lifC c [(f.1,1)] (raisC c l)),lifC c f.2.2 (raisC c l),rfl,rfl,edC_hom hz,rfl,rfl,?_,h.act ht g5 dE oM,⟨sm oM,by omega⟩,⟨sm (by rw [show (1 : Int).natAbs = 1 from rfl,Nat.one_mul]; omega),sm oM,by omega⟩,⟨sm (by rw [show (1 : Int).natAbs = 1 from rfl,Nat.one_mul]; omega),sm oM,by omega⟩,?_⟩
 ·unfold homI
  rw [getD_of hf]
  unfold idN
  rw [getD_of hf]
 ·unfold homI
  rw [getD_of hf]
  unfold idN
  rw [getD_of hf]
  constructor <;> omega
end Go.Proofs.YtjdemlfceaikgaaGreat

namespace Go.Proofs.YtjdemlfceaikgaaGreat
open Go.ChangeShapes Go.WideShapes Go.ChangeAt Go.RowKit
theorem mkQ4 (p q r s : Int) (hp : -128<=p/\p<=127) (hq : -128<=q/\q<=127) (hr : -128<=r/\r<=127) (hs : -128<=s/\s<=127) : ∃x : Q4,x.a 0 = p/\x.a 1 = q/\x.a 2 = r/\x.a 3 = s:=
 ⟨⟨fun i=>if i = 0 then p else if i = 1 then q else if i = 2 then r else s,fun i=>by (repeat' split) <;> omega,fun i=>by (repeat' split) <;> omega⟩,rfl,rfl,rfl,rfl⟩
set_option maxRecDepth 100000 in
theorem open_q4 {H : Type} {enc : TypeId × Value->H} {w : World} {f : Nat} {cs : List Value} {y : DataW H × List MemPlace} (hf : DataW.trod enc Tryz.prog w 0 (fun _=>true) true f 148 cs = some y) :
  ∃x : Q4,cs = [.int .i8 (x.a 0),.int .i8 (x.a 1),.int .i8 (x.a 2),.int .i8 (x.a 3)]:=by
 obtain ⟨xs,m,-,-,h1,h2,h3⟩:=DataW.trod_array Tryz.underlying148 hf
 have c4 : Tryz.prog.cellsOf 148 = 4:=by kernel_rfl
 have c1 : Tryz.prog.cellsOf 25 = 1:=by kernel_rfl
 rw [c4] at h1
 have e0:=h3 0 oM
 have e1:=h3 1 oM
 have e2:=h3 2 oM
 have e3:=h3 3 oM
 rw [c1] at e0 e1 e2 e3
 rw [List.getElem?_eq_getElem oM] at e0 e1 e2 e3
 obtain ⟨a,ha,-,wa⟩:=DataW.trod_int Tryz.underlying25 e0
 obtain ⟨b,hb,-,wb⟩:=DataW.trod_int Tryz.underlying25 e1
 obtain ⟨c,hc,-,wc⟩:=DataW.trod_int Tryz.underlying25 e2
 obtain ⟨d,hd,-,wd⟩:=DataW.trod_int Tryz.underlying25 e3
 match cs,h1 with
 | [k0,k1,k2,k3],_=>
  simp at ha hb hc hd
  subst ha
  subst hb
  subst hc
  subst hd
  obtain ⟨x,rfl,rfl,rfl,rfl⟩:=mkQ4 a b c d (bounds_i8 wa) (bounds_i8 wb) (bounds_i8 wc) (bounds_i8 wd)
  exact ⟨x,rfl⟩
theorem Q4.exists_zero : ∃_ : Q4,True:=⟨⟨fun _=>0,fun _=>by omega,fun _=>by omega⟩,trivial⟩
set_option maxRecDepth 100000 in
theorem open_qd {H : Type} {enc : TypeId × Value->H} {w : World} {fl : Nat} {ks : List Value} {y : DataW H × List MemPlace} (hf : DataW.trod enc Tryz.prog w 0 (fun _=>true) true fl 22 ks = some y) (hlt : ∀x ∈ y.2,x.block < w.heap.size) :
  ∃ao n cap xs,ks = [.slice ao n cap]/\QdV w (.slice ao n cap) xs:=by
 have c4 : Tryz.prog.cellsOf 148 = 4:=by kernel_rfl
 obtain ⟨d,ps⟩:=y
 rcases DataW.trod_slice Tryz.underlying22 hf with ⟨e1,-⟩ | ⟨a,len,cap,elems,rest,n,-,e1,e2,-,hl,hm,hlen,hel,-,-⟩
 ·exact ⟨none,0,0,[],e1,none,0,0,rfl,rfl,Nat.le_refl _,by omega,fun h=>absurd rfl h⟩
 ·unfold maxLen at hm
  rw [c4] at hel e2
  have each : ∀i,i < len->∃x : Q4,∀j,j < 4->w.cell? ((a.add (i * 4)).add j) = some (.int .i8 (x.a j)):=by
   intro i hi
   have h1:=hel i hi
   rw [List.getElem?_eq_getElem oM,Option.bind_eq_some_iff] at h1
   obtain ⟨cs,hcs,hy⟩:=h1
   obtain ⟨x,rfl⟩:=open_q4 hy
   unfold World.cells? at hcs
   rw [if_pos (Nat.zero_le _)] at hcs
   refine ⟨x,fun j hj=>?_⟩
   rcases (by omega : j = 0 ∨ j = 1 ∨ j = 2 ∨ j = 3) with rfl | rfl | rfl | rfl
   ·simpa using mapM_some_get hcs 0 0 sI
   ·simpa using mapM_some_get hcs 1 1 sI
   ·simpa using mapM_some_get hcs 2 2 sI
   ·simpa using mapM_some_get hcs 3 3 sI
  obtain ⟨f,hf'⟩ : ∃f : Nat->Q4,∀i,i < len->∀j,j < 4->w.cell? ((a.add (i * 4)).add j) = some (.int .i8 ((f i).a j)):=by
   refine ⟨fun i=>if h : i < len then (each i h).choose else Q4.exists_zero.choose,fun i hi=>?_⟩
   simp only [dif_pos hi]
   exact (each i hi).choose_spec
  refine ⟨some a,len,cap,(List.range len).map f,e1,some a,len,cap,rfl,by simp,hl,by omega,fun hne=>?_⟩
  have hpos : 0 < len:=by
   rcases Nat.eq_zero_or_pos len with h0 | h0
   ·rw [h0] at hne; exact absurd rfl hne
   ·exact h0
  obtain ⟨b,off,spot⟩:=a
  have hspot : spot = none:=by simpa [Addr.add] using World.cell?_spot (hf' 0 hpos 0 oM)
  subst hspot
  refine ⟨b,off,rfl,?_,fun k s hk j hj=>?_⟩
  ·refine hlt (.cell b off) ?_
   simp only [Prod.mk.injEq] at e2
   rw [e2.2]
   exact List.mem_append_left _ (MemPlace.mem_row.2 ⟨0,by omega,rfl⟩)
  ·obtain ⟨h1,h2⟩:=List.getElem?_eq_some_iff.1 hk
   simp at h1 h2
   subst h2
   have g1:=hf' k h1 j hj
   rw [Go.WideShapes.add_plain,Go.WideShapes.add_plain] at g1
   exact g1
set_option maxRecDepth 100000 in
theorem open_raw26c {H : Type} {enc : TypeId × Value->H} {w : World} {f : Nat} {cl : List Value} {d : DataW H} {ps : List MemPlace}
  (hf : DataW.trod enc Tryz.prog w 0 (fun _=>true) true f 24 cl = some (d,ps)) (hlt : ∀x ∈ ps,x.block < w.heap.size) : ∃(a : Nat) (sv : Value) (ls : List Q4),cl = [.int .u8 a,sv]/\a<=255/\QdV w sv ls:=by
 obtain ⟨xs,m,h0,h1,h2,h3,h4⟩:=DataW.trod_struct Tryz.underlying24 hf
 have c24 : Tryz.prog.cellsOf 24 = 2:=by kernel_rfl
 have c22 : Tryz.prog.cellsOf 22 = 1:=by kernel_rfl
 have g0 : DataW.trod enc Tryz.prog w 0 (fun _=>true) true m 5 (List.take (Tryz.prog.cellsOf 5) (List.drop 0 cl)) = xs[0]?:=h4 0 _ rfl
 have g1 : DataW.trod enc Tryz.prog w 0 (fun _=>true) true m 22 (List.take (Tryz.prog.cellsOf 22) (List.drop 1 cl)) = xs[1]?:=h4 1 _ rfl
 rw [c24] at h2
 rw [cells5] at g0
 rw [c22] at g1
 match xs,h3 with
 | [y0,y1],_=>
  match cl,h2 with
  | [k0,k1],_=>
   simp at g0 g1
   obtain ⟨a,ha,-,wa⟩:=DataW.trod_int Tryz.underlying5 g0
   simp only [Prod.mk.injEq] at h1
   obtain ⟨ao,n,cap,ls,hk,hI⟩:=open_qd g1 (fun x hx=>hlt x (by rw [h1.2]; simp [hx]))
   simp at ha hk
   subst ha
   subst hk
   have wa:=bounds_u8 wa
   exact ⟨a.toNat,_,ls,by rw [Int.toNat_of_nonneg wa.1],by omega,hI⟩
set_option maxRecDepth 100000 in
theorem open_raw29 {H : Type} {enc : TypeId × Value->H} {w : World} {b0 : Nat} {r : Reach} {v : Value} {d : DataW H} {ps : List MemPlace} (hval : Value.okWide Tryz.prog w r b0 28 v)
  (h : DataW.Trod enc Tryz.prog w 0 (fun _=>true) true 28 v d ps) (hlt : ∀x ∈ ps,x.block < w.heap.size) : ∃(s A : Nat) (N : Int) (sv lv : Value) (L : List Q4) (l : List Int),v = .agg #[.int .u8 s,sv,.int .u8 A,.int .i8 N,lv]/\s<=255/\A<=255/\(-128<=N/\N<=127)/\QdV w sv L/\I8V w lv l:=by
 simp only [Value.okWide,Tryz.underlying28] at hval
 obtain ⟨cs,rfl,hsz,-⟩:=hval
 obtain ⟨fuel,hf⟩:=h
 obtain ⟨xs,m,h0,h1,h2,h3,h4⟩:=DataW.trod_struct Tryz.underlying28 hf
 have c0 : Tryz.prog.cellsOf 28 = 5:=by kernel_rfl
 have c24 : Tryz.prog.cellsOf 24 = 2:=by kernel_rfl
 have c41 : Tryz.prog.cellsOf 25 = 1:=by kernel_rfl
 have c22 : Tryz.prog.cellsOf 26 = 1:=by kernel_rfl
 have g0 : DataW.trod enc Tryz.prog w 0 (fun _=>true) true m 24 (List.take (Tryz.prog.cellsOf 24) (List.drop 0 (Value.agg cs).cells.toList)) = xs[0]?:=h4 0 _ rfl
 have g1 : DataW.trod enc Tryz.prog w 0 (fun _=>true) true m 5 (List.take (Tryz.prog.cellsOf 5) (List.drop 2 (Value.agg cs).cells.toList)) = xs[1]?:=h4 1 _ rfl
 have g2 : DataW.trod enc Tryz.prog w 0 (fun _=>true) true m 25 (List.take (Tryz.prog.cellsOf 25) (List.drop 3 (Value.agg cs).cells.toList)) = xs[2]?:=h4 2 _ rfl
 have g3 : DataW.trod enc Tryz.prog w 0 (fun _=>true) true m 26 (List.take (Tryz.prog.cellsOf 26) (List.drop 4 (Value.agg cs).cells.toList)) = xs[3]?:=h4 3 _ rfl
 rw [c0] at h2
 rw [c24] at g0
 rw [cells5] at g1
 rw [c41] at g2
 rw [c22] at g3
 simp only [Value.cells] at g0 g1 g2 g3 h2
 obtain ⟨cl⟩:=cs
 match xs,h3 with
 | [(y0,p0),y1,y2,y3],_=>
  match cl,h2 with
  | [k0,k1,k2,k3,k4],_=>
   simp at g0 g1 g2 g3
   obtain ⟨b,hb,-,wb⟩:=DataW.trod_int Tryz.underlying5 g1
   obtain ⟨c,hc,-,wc⟩:=DataW.trod_int Tryz.underlying25 g2
   simp only [Prod.mk.injEq] at h1
   obtain ⟨s,sv,L,e1,q1,I1⟩:=open_raw26c g0 (fun x hx=>hlt x (by rw [h1.2]; simp [hx]))
   obtain ⟨ao,n,cap,ls,hk,hI⟩:=open_i8 g3 (fun x hx=>hlt x (by rw [h1.2]; simp [hx]))
   simp at hb hc hk e1
   obtain ⟨rfl,rfl⟩:=e1
   subst hb
   subst hc
   subst hk
   have wb:=bounds_u8 wb
   exact ⟨s,b.toNat,c,_,_,L,ls,by rw [Int.toNat_of_nonneg wb.1],q1,by omega,bounds_i8 wc,I1,hI⟩
end Go.Proofs.YtjdemlfceaikgaaGreat
