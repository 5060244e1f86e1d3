/- smith.Is. Matrices that a call itself made. torsionref05.New. Matrices given by their elements; writing an element. torsionref05.Scale. torsionref05: Copied, Identity. -/
import Derived.Test.YtnocgagoaldfnaaGreatD17
set_option linter.unusedVariables false
set_option linter.unusedSimpArgs false
set_option linter.unusedSectionVars false
namespace Go.Proofs.YtnocgagoaldfnaaGreat
open Go.RowKit
def chainGo : Int->List Int->Bool
 | _,[]=>true
 | last,d :: ds=>decide (0<=d) && decide (last ∣ d) && chainGo d ds
theorem chainGo_neg {last d : Int} {ds : List Int} (h : d < 0) : chainGo last (d :: ds) = false:=by
 unfold chainGo
 rw [decide_eq_false (show ¬ 0<=d by omega)]
 simp
theorem chainGo_div {last d : Int} {ds : List Int} (h : ¬ last ∣ d) : chainGo last (d :: ds) = false:=by
 unfold chainGo
 rw [decide_eq_false h]
 simp
theorem chainGo_step {last d : Int} {ds : List Int} (h0 : 0<=d) (h : last ∣ d) : chainGo last (d :: ds) = chainGo d ds:=by
 conv=>lhs; unfold chainGo
 rw [decide_eq_true h,decide_eq_true h0]
 simp
def IsM2 (R C : Int) (M : List (List Int)) : Bool:=decide (ValidM R C M) && (diagGo 0 M && chainGo 1 (diagL M (min R.toNat C.toNat)))
set_option maxHeartbeats 4000000 in
set_option maxRecDepth 20000 in
theorem sis_any (v : Value) (R C : Int) (M : List (List Int)) (w : World) (h : MatV w v R C M) (hS : ∀r ∈ M,∀z ∈ r,Smd z) (hR : R<=1000000) (hC : C<=1000000) :
  Calls Tryz.prog 26 #[v] w fun e w'=>e = .returned (.bool (IsM2 R C M))/\Below w.heap.size w w':=by
 have h0:=h
 obtain ⟨A,rfl,h⟩:=h
 obtain ⟨ao,n,cap,rfl,e2,e3,e4,-⟩:=id h
 have HX:=Lib.hid e2
 have HS:=HidS.mk hS
 clear e2 hS
 by_cases hv : ValidM R C M
 ·have hd : IsM2 R C M = (diagGo 0 M && chainGo 1 (diagL M (min R.toNat C.toNat))):=by unfold IsM2; rw [decide_eq_true hv,Bool.true_and]
  rw [hd]
  clear hd
  have hdv:=decide_eq_true hv
  by_cases hdg : diagGo 0 M = true
  ·rw [hdg,Bool.true_and]
   obtain ⟨v1,v2,v3,v4⟩:=hv
   obtain ⟨R',rfl⟩:=Int.eq_ofNat_of_zero_le v1
   obtain ⟨C',rfl⟩:=Int.eq_ofNat_of_zero_le v2
   have hF : Fits R' C' M:=⟨by omega,fun r hr=>by have:=v4 r hr; omega⟩
   rw [Int.toNat_natCast,Int.toNat_natCast]
   obtain ⟨D,hD⟩ : ∃D,diagL M (min R' C') = D:=⟨_,rfl⟩
   rw [hD]
   have hDS : HidS (∀z ∈ D,Smd z):=⟨by
    intro z hz
    rw [<-hD] at hz
    unfold diagL at hz
    obtain ⟨k,hk,rfl⟩:=List.mem_map.1 hz
    have hk':=List.mem_range.1 hk
    have hkM : k < M.length:=by have:=hF.1; omega
    have e1 : M[k]? = some M[k]:=List.getElem?_eq_getElem hkM
    have hr:=hF.2 _ (List.mem_of_getElem? e1)
    have e2 : M[k][k]? = some M[k][k]:=List.getElem?_eq_getElem oM
    rw [getD_of e1,getD_of e2]
    exact HS.out _ (List.mem_of_getElem? e1) _ (List.mem_of_getElem? e2)⟩
   have HF:=HidS.mk hF
   clear v1 v2 v3 v4 hF
   generalize hRC : (R' : Int) = R at *
   generalize hCC : (C' : Int) = C at *
   go_enter Tryz.func26,Tryz.ntmps26
   go_upto_region 1 with (fail)
   refine wp_world ?_
   intro W0 hW0
   obtain ⟨hB0,bx1,hs0⟩:=world1 hW0
   obtain ⟨c1,c2,c3,c4,c5,c6⟩:=bx1.three
   go_wp2_with fail
   refine (mvalid_any _ R C M W0 (h0.below hB0)).mono ?_
   rintro e w1 ⟨rfl,hb1⟩
   rw [hdv]
   clear c1 c2 c3 c4 c5 c6
   have bx1:=bx1.below hb1
   obtain ⟨c1,c2,c3,c4,c5,c6⟩:=bx1.three
   go_wp2_with fail
   refine (diagonal_any _ R C M w1 (h0.below (nx hB0 hb1))).mono ?_
   rintro e w2 ⟨rfl,hb2⟩
   rw [hdg]
   have bx1:=bx1.below hb2
   clear c1 c2 c3 c4 c5 c6
   go_wp2_with fail
   refine (of_any 1 w2 oM oM).mono ?_
   rintro e w3 ⟨u,rfl,hu,hb3⟩
   obtain ⟨un,ua,ul,uc,ux,rfl,hu'⟩:=id hu
   have HU:=Lib.hid hu'
   clear hu'
   go_upto_region 4 with (fail)
   refine wp_world ?_
   intro W4 hW4
   obtain ⟨hB4,T3,hs4⟩:=world1 hW4
   have bx1:=(bx1.below hb3).below hB4
   have z3:=BoxI.mk T3 (hu.ext (lx hB4))
   have hBt:=nx (nx (nx (nx hB0 hb1) hb2) hb3) hB4
   obtain ⟨c1,c2,c3,c4,c5,c6⟩:=bx1.three
   clear hu hW4 hW0
   go_wp2_with fail
   refine (elements_any _ R' C' M W4 (by rw [hRC,hCC]; exact h0.below hBt) HF.out oM oM).mono ?_
   rintro e w5 ⟨u,rfl,hvec,hb5⟩
   rw [hD] at hvec
   have z3:=z3.below hb5
   have hBt:=nx hBt hb5
   obtain ⟨eo,en,ecap,rfl,g2,g3,g4,-⟩:=id hvec.vec
   have HEN:=Lib.hid g2
   clear g2 c1 c2 c3 c4 c5 c6 hdg hdv
   have q3 : w.heap.size<=w3.heap.size:=by have h1:=hb1.size; have h2:=hb2.size; have h3:=hb3.size; omega
   go_wp2
   go_loopw [18] (fun iv wr=>∃(i : Nat) (last : Int),i<=en/\iv = .int .i64 i/\Below w.heap.size w wr/\VecO wr W4.heap.size (.slice eo en ecap) D/\BoxI wr w3.heap.size last/\HidS (Smd last)/\Hid (chainGo 1 D = chainGo last (D.drop i))) (fun iv _=>en - (intOf iv).toNat)
   case atStart=>exact ⟨0,1,by omega,rfl,hBt,hvec,z3,⟨Smd.one dE⟩,Lib.hid (by rw [List.drop_zero])⟩
   case round=>
    obtain ⟨i,last,hi,rfl,hb,hvec,z3,hsl,hgo⟩:=hrel
    by_cases hlt : i < en
    ·obtain ⟨b',d,s,a,l,c,rfl,hbl',hzk,q1,q2,hdv⟩:=hvec.vec.cell (k:=i) (by rw [HEN.out]; exact hlt)
     have HZ:=Lib.hid hzk
     have SD : HidS (Smd d):=⟨hDS.out _ (List.mem_of_getElem? hzk)⟩
     clear hzk
     have l6:=z3.lt
     go_upto_region 7 with (fail)
     refine wp_world ?_
     intro W6 hW6
     obtain ⟨hB6,T6,hs6⟩:=world1 hW6
     have z3:=z3.below hB6
     have hdv:=hdv.ext (lx hB6)
     have hb:=nx hb hB6
     have hvec:=hvec.below hB6
     clear hW6 q1 q2
     obtain ⟨d1,d2,d3,d4⟩:=T6.two
     go_wp2_with fail
     refine (sign_any _ d W6 hdv.weak).mono ?_
     rintro e w7 ⟨rfl,hb7⟩
     have z3:=z3.below hb7
     have hdv:=hdv.ext (lx hb7)
     have hb:=nx hb hb7
     have hvec:=hvec.below hb7
     have T6:=T6.below hb7
     clear d1 d2 d3 d4
     obtain ⟨d1,d2,d3,d4⟩:=T6.two
     by_cases hd0 : d < 0
     ·have hc : cmpI d 0 = -1:=by unfold cmpI; rw [if_pos hd0]
      rw [hc]
      go_wp2
      go_ret
      refine ⟨?_,hb⟩
      rw [hgo.out,drop_cons HZ.out,chainGo_neg hd0]
      rfl
     ·have hc : ¬ cmpI d 0 < 0:=by unfold cmpI; rw [if_neg hd0]; split <;> omega
      obtain ⟨k1,hk1⟩ : ∃k1,cmpI d 0 = k1:=⟨_,rfl⟩
      rw [hk1] at hc ⊢
      clear hk1
      obtain ⟨ln,la,ll,lc,k3,i3⟩:=z3
      obtain ⟨f1,f2,f3,f4⟩:=k3.two
      go_wp2_with fail
      refine (divides_any _ _ last d w7 i3 hdv hsl.out SD.out).mono ?_
      rintro e w8 ⟨rfl,hb8⟩
      have k3:=k3.below hb8
      have hdv:=hdv.ext (lx hb8)
      have hb:=nx hb hb8
      have hvec:=hvec.below hb8
      have T6:=T6.below hb8
      clear d1 d2 d3 d4 f1 f2 f3 f4
      obtain ⟨d1,d2,d3,d4⟩:=T6.two
      obtain ⟨f1,f2,f3,f4⟩:=k3.two
      by_cases hdv2 : last ∣ d
      ·rw [decide_eq_true hdv2]
       go_wp2
       go_roundw
       case rel=>
        refine ⟨i + 1,d,by omega,by simp,bset (bset hb oM 0 _) oM 1 _,?_,BoxI.put k3 hdv,SD,Lib.hid ?_⟩
        ·exact hvec.set2 hs4 k3 dE _ _
        ·rw [hgo.out,drop_cons HZ.out,chainGo_step oM hdv2]
       case measure=>simp [intOf]; omega
      ·rw [decide_eq_false hdv2]
       go_wp2
       go_ret
       refine ⟨?_,hb⟩
       rw [hgo.out,drop_cons HZ.out,chainGo_div hdv2]
       rfl
    ·obtain rfl : i = en:=by omega
     go_wp2
     go_ret
     refine ⟨?_,hb⟩
     rw [hgo.out,List.drop_eq_nil_of_le (Nat.le_of_eq HEN.out)]
     rfl
  ·have hdf : diagGo 0 M = false:=by simpa using hdg
   rw [hdf,Bool.false_and]
   clear hdg hv
   go_enter Tryz.func26,Tryz.ntmps26
   go_upto_region 1 with (fail)
   refine wp_world ?_
   intro W0 hW0
   obtain ⟨hB0,bx1,hs0⟩:=world1 hW0
   obtain ⟨c1,c2,c3,c4,c5,c6⟩:=bx1.three
   go_wp2_with fail
   refine (mvalid_any _ R C M W0 (h0.below hB0)).mono ?_
   rintro e w1 ⟨rfl,hb1⟩
   rw [hdv]
   clear c1 c2 c3 c4 c5 c6
   have bx1:=bx1.below hb1
   obtain ⟨c1,c2,c3,c4,c5,c6⟩:=bx1.three
   go_wp2_with fail
   refine (diagonal_any _ R C M w1 (h0.below (nx hB0 hb1))).mono ?_
   rintro e w2 ⟨rfl,hb2⟩
   rw [hdf]
   go_wp2
   go_ret
   exact ⟨rfl,nx (nx hB0 hb1) hb2⟩
 ·have hd : IsM2 R C M = false:=by unfold IsM2; rw [decide_eq_false hv,Bool.false_and]
  rw [hd]
  have hdv:=decide_eq_false hv
  clear hd hv
  go_enter Tryz.func26,Tryz.ntmps26
  go_upto_region 1 with (fail)
  refine wp_world ?_
  intro W0 hW0
  obtain ⟨hB0,bx1,hs0⟩:=world1 hW0
  obtain ⟨c1,c2,c3,c4,c5,c6⟩:=bx1.three
  go_wp2_with fail
  refine (mvalid_any _ R C M W0 (h0.below hB0)).mono ?_
  rintro e w1 ⟨rfl,hb1⟩
  rw [hdv]
  clear c1 c2 c3 c4 c5 c6
  have bx1:=bx1.below hb1
  obtain ⟨c1,c2,c3,c4,c5,c6⟩:=bx1.three
  go_wp2
  go_ret
  exact ⟨rfl,nx hB0 hb1⟩
abbrev tR : TypeId:=35
theorem Tryz.infoR : (Tryz.prog.info? tR).map (fun i=>(i.zero,i.size,i.bytes)) = some (some (.slice none 0 0),1,24):=by kernel_rfl
def zeroCells (n : Nat) : Array Value:=madeCells (Value.agg #[.bool false,.slice none 0 0]).cells (n * 2)
theorem mkI (m : Int) (n : Nat) (hm : m = n) (h : n<=1099511627776) (W : World) :
  (Instr.makeSlice 35 (.int .i64 m) (.int .i64 m)).run Tryz.prog W = .ok (.slice (some ⟨W.heap.size,0,none⟩) n n) (W.alloc (.cells (zeroCells n) tI)):=by
 subst hm
 obtain ⟨i0,hi,hz0,hz1,hz2⟩:=info_parts Tryz.infoI
 have:=run_make_rowN (P:=Tryz.prog) 35 tI i0 _ Tryz.underlying35 hi hz0 .i64 .i64 n n (Nat.le_refl _) (by rw [hz2]; omega) oM W
 rw [this,hz1]
 rfl
theorem row_zero (w : World) (n : Nat) : RowAt (w.alloc (.cells (zeroCells n) tI)) w.heap.size (List.replicate n 0):=by
 refine ⟨zeroCells n,heap_alloc_new w _,fun k z hk=>?_⟩
 have hk':=(List.getElem?_eq_some_iff.1 hk)
 obtain ⟨h1,h2⟩:=hk'
 rw [List.length_replicate] at h1
 rw [List.getElem_replicate] at h2
 subst h2
 refine ⟨false,none,0,0,?_,?_,intV_zero _⟩
 ·unfold zeroCells madeCells
  rw [Array.getElem?_eq_getElem (by simp; omega)]
  simp [Value.cells]
 ·unfold zeroCells madeCells
  rw [Array.getElem?_eq_getElem (by simp; omega)]
  have : (k * 2 + 1) % 2 = 1:=by omega
  simp [Value.cells,this]
def rowPtrs (C : Nat) (bs : List Nat) : List Value:=bs.map fun b=>.slice (some ⟨b,0,none⟩) C C
structure RowsO (w : World) (base : Nat) (A : Value) (C : Nat) (bs : List Nat) (M : List (List Int)) : Prop where
 own : w.ownsRow base tR 1 A bs.length (rowPtrs C bs)
 len : M.length = bs.length
 row : ∀(k : Nat) (b : Nat) (r : List Int),bs[k]? = some b->M[k]? = some r->base<=b/\r.length = C/\RowAt w b r
 nodup : bs.Nodup
 cb : C<=1099511627776
theorem RowsO.below {w w' : World} {base : Nat} {A : Value} {C : Nat} {bs : List Nat} {M : List (List Int)} (h : RowsO w base A C bs M) (hb : Below w.heap.size w w') : RowsO w' base A C bs M:=
 ⟨h.own.kept (row:=none) ⟨hb.os,hb.tape,hb.output,hb.size,fun k hk _=>hb.block k hk⟩ (by cases hv : A.ownBlock <;> simp),h.len,fun k b r h1 h2=>by
  obtain ⟨e1,e2,e3⟩:=h.row k b r h1 h2
  exact ⟨e1,e2,e3.below hb⟩,h.nodup,h.cb⟩
theorem RowsO.keep {w w' : World} {base : Nat} {A : Value} {C : Nat} {bs : List Nat} {M : List (List Int)} (h : RowsO w base A C bs M) (e : ∀k,base<=k->w'.heap[k]? = w.heap[k]?) (x : LExt w w') : RowsO w' base A C bs M:=by
 refine ⟨⟨h.own.1,?_⟩,h.len,fun k b r h1 h2=>by
  obtain ⟨e1,e2,e3⟩:=h.row k b r h1 h2
  exact ⟨e1,e2,e3.old (e _ e1) x⟩,h.nodup,h.cb⟩
 rcases h.own.2 with h1 | ⟨g,cap,cur,e1,e2,e3⟩
 ·exact .inl h1
 ·exact .inr ⟨g,cap,cur,e1,e2,(e _ e2).trans e3.1,e3.2⟩
theorem Blk.put3 {w : World} {r : Nat} {T : TypeId} {c0 c1 c2 : Value} (h : Blk w r T #[c0,c1,c2]) (x y z : Value) : Blk (((w.setCell ⟨r,0,none⟩ x).setCell ⟨r,1,none⟩ y).setCell ⟨r,2,none⟩ z) r T #[x,y,z]:=by
 simpa using ((h.set_ 0 x).set_ 1 y).set_ 2 z
theorem Blk.lext3 {w : World} {r : Nat} {T : TypeId} {cs : Array Value} (h : Blk w r T cs) (hne : T ≠ tU) (x y z : Value) : LExt w (((w.setCell ⟨r,0,none⟩ x).setCell ⟨r,1,none⟩ y).setCell ⟨r,2,none⟩ z):=
 ((h.lext hne 0 _).trans ((h.set_ 0 _).lext hne 1 _)).trans (((h.set_ 0 _).set_ 1 _).lext hne 2 _)
theorem set3_old (w : World) (b k : Nat) (x y z : Value) (h : k ≠ b) : (((w.setCell ⟨b,0,none⟩ x).setCell ⟨b,1,none⟩ y).setCell ⟨b,2,none⟩ z).heap[k]? = w.heap[k]?:=
 (setCell_old _ b 2 k z h).trans (set2_old w b 0 1 k x y h)
theorem RowsO.mono {w : World} {base base' : Nat} {A : Value} {C : Nat} {bs : List Nat} {M : List (List Int)} (h : RowsO w base A C bs M) (hb : base'<=base) : RowsO w base' A C bs M:=by
 refine ⟨⟨h.own.1,?_⟩,h.len,fun k b r h1 h2=>by
  obtain ⟨e1,e2,e3⟩:=h.row k b r h1 h2
  exact ⟨by omega,e2,e3⟩,h.nodup,h.cb⟩
 rcases h.own.2 with h1 | ⟨g,cap,cur,e1,e2,e3⟩
 ·exact .inl h1
 ·exact .inr ⟨g,cap,cur,e1,Nat.le_trans hb e2,e3⟩
theorem RowsO.fits {w : World} {base : Nat} {A : Value} {C : Nat} {bs : List Nat} {M : List (List Int)} (h : RowsO w base A C bs M) : Fits bs.length C M:=by
 refine ⟨h.len,fun r hr=>?_⟩
 obtain ⟨k,hk,e⟩:=List.getElem_of_mem hr
 have hk' : k < bs.length:=by have:=h.len; omega
 exact (h.row k bs[k] r (List.getElem?_eq_getElem hk') (by rw [List.getElem?_eq_getElem hk,e])).2.1
theorem RowsO.rows {w : World} {base : Nat} {A : Value} {C : Nat} {bs : List Nat} {M : List (List Int)} (h : RowsO w base A C bs M) : RowsV w A M:=by
 rcases h.own.2 with ⟨rfl,h0⟩ | ⟨g,cap,cur,rfl,e2,e3,e4,e5,e6,e7⟩
 ·have : M = []:=List.eq_nil_of_length_eq_zero (by rw [h.len]; exact h0)
  subst this
  exact RowsV.nil w
 ·refine ⟨some ⟨g,0,none⟩,bs.length,cap,rfl,h.len,e4,e5,fun _=>⟨g,cur,rfl,e3,fun k zs hk=>?_⟩⟩
  have hkM:=(List.getElem?_eq_some_iff.1 hk).1
  have hkb : k < bs.length:=by have:=h.len; omega
  obtain ⟨f1,f2,f3⟩:=h.row k bs[k] zs (List.getElem?_eq_getElem hkb) hk
  refine ⟨.slice (some ⟨bs[k],0,none⟩) C C,?_,some ⟨bs[k],0,none⟩,C,C,rfl,f2,Nat.le_refl _,by have:=h.cb; omega,fun _=>⟨_,rfl,f3⟩⟩
  have : (rowPtrs C bs)[k]? = some (.slice (some ⟨bs[k],0,none⟩) C C):=by simp [rowPtrs,hkb]
  rw [<-e7,List.getElem?_take_of_lt oM] at this
  simpa using this
def MatO (w : World) (base : Nat) (v : Value) (R C : Nat) (bs : List Nat) (M : List (List Int)) : Prop:=bs.length = R/\∃A,v = .agg #[.int .i64 R,.int .i64 C,A]/\RowsO w base A C bs M
theorem MatO.mat {w : World} {base : Nat} {v : Value} {R C : Nat} {bs : List Nat} {M : List (List Int)} (h : MatO w base v R C bs M) : MatV w v R C M/\Fits R C M:=by
 obtain ⟨rfl,A,rfl,h⟩:=h
 exact ⟨⟨A,rfl,h.rows⟩,h.fits⟩
theorem MatO.below {w w' : World} {base : Nat} {v : Value} {R C : Nat} {bs : List Nat} {M : List (List Int)} (h : MatO w base v R C bs M) (hb : Below w.heap.size w w') : MatO w' base v R C bs M:=by
 obtain ⟨h0,A,h1,h2⟩:=h
 exact ⟨h0,A,h1,h2.below hb⟩
theorem Fits.valid {R C : Nat} {M : List (List Int)} (h : Fits R C M) : ValidM R C M:=⟨by omega,by omega,by rw [h.1],fun r hr=>by rw [h.2 r hr]⟩
def RetMat (w : World) (R C : Nat) (M : List (List Int)) (e : Ending) (w' : World) : Prop:=∃v bs,e = .returned v/\MatO w' w.heap.size v R C bs M/\Below w.heap.size w w'
theorem Tryz.sizeM : (Tryz.prog.info? 28).map (·.size) = some 3:=by kernel_rfl
theorem bodyPost_mat {fn : Func} {a : Act} {W : World} {Q : Ending->World->Prop} {r : Nat} {x y z : Value} {p : Tmp} (h : fn.results = #[.cell p 28]) (hd : a.defers = [])
  (hp : a.tmps.getD p undef = .pointer (some ⟨r,0,none⟩)) (hb : Blk W r 28 #[x,y,z]) (hQ : Q (.returned (.agg #[x,y,z])) W) : bodyPost Tryz.prog fn Q .ret a W:=
 bodyPost_ret (results_cell_row h _ W r _ _ _ _ hp hb Tryz.underlying28 rfl (by rw [Tryz.sizeM]; rfl)) hd hQ
theorem own_ne {w : World} {base : Nat} {v : Value} {n : Nat} {xs : List Value} {b : Nat} {r : List Int} (h : w.ownsRow base tR 1 v n xs) (hr : RowAt w b r) : some b ≠ v.ownBlock:=by
 intro e
 rcases h.2 with ⟨rfl,-⟩ | ⟨g,cap,cur,rfl,-,hh,-⟩
 ·cases e
 ·simp only [Value.ownBlock,Option.some.injEq] at e
  subst e
  obtain ⟨cs,h1,-⟩:=hr
  rw [hh] at h1
  injection h1 with h1
  injection h1 with _ ht
  exact absurd ht dE
theorem appR {w : World} {ops : Array Oper} {rest : List Oper} {o : Oper} {a : Act} {Q : Exit->Act->World->Prop} (hgd : o.guard = none) (s x : Operand)
  (ho : o.op = .call { callee:=.builtin .append,args:=#[s,x],argTypes:=#[26,26] })
  (base : Nat) (v : Value) (C : Nat) (bs : List Nat) (M : List (List Int)) (hs : a.eval s = v) (hown : RowsO w base v C bs M) (b c nb : Nat) (r : List Int) (hx : a.eval x = .slice (some ⟨b,0,none⟩) 1 c)
  (hb : Blk w b tR #[.slice (some ⟨nb,0,none⟩) C C]) (hr : RowAt w nb r) (hrl : r.length = C) (hnb : base<=nb) (hfr : ∀g ∈ bs,g ≠ nb)
  (hlen : bs.length + 1<=1099511627776) (hbase : base<=w.heap.size)
  (h : ∀v' w',RowsO w' base v' C (bs ++ [nb]) (M ++ [r])->w.grownBy w' v.ownBlock->LExt w w'->wpList Tryz.prog ops Q rest (a.put o.dst v') w') : wpList Tryz.prog ops Q (o :: rest) a w:=by
 obtain ⟨i0,hi,hz0,hz1,hz2⟩:=info_parts Tryz.infoR
 have c0:=hb.cell 0
 refine wpList_append_own w hgd s x 26 ho base tR i0 _ 1 24 Tryz.underlying26 hi hz0 hz1 hz2 rfl oM v bs.length _ hs hown.own ⟨b,0,none⟩ 1 c [.slice (some ⟨nb,0,none⟩) C C] hx rfl ?_ ?_ (by simp [maxLen]; omega) oM hbase ?_
 ·intro j u hj
  rw [Addr.add_lit]
  match j with
  | 0=>simp at hj; subst hj; exact c0
  | j + 1=>simp at hj
 ·intro u hu
  simp at hu
  subst hu
  rfl
 ·intro v' w' k1 k2 _
  have hx:=lext_grown hown.own dE k2
  have hkeep : ∀g q,RowAt w g q->RowAt w' g q:=fun g q hq=>hq.old (k2.block g hq.lt (own_ne hown.own hq)) hx
  refine h v' w' ⟨?_,by simp [hown.len],?_,?_,hown.cb⟩ k2 hx
  ·have : rowPtrs C (bs ++ [nb]) = rowPtrs C bs ++ [.slice (some ⟨nb,0,none⟩) C C]:=by simp [rowPtrs]
   rw [this]
   simpa using k1
  ·intro k g q hg hq
   rcases Nat.lt_or_ge k bs.length with hlt | hge
   ·rw [List.getElem?_append_left hlt] at hg
    rw [List.getElem?_append_left (by rw [hown.len]; exact hlt)] at hq
    obtain ⟨f1,f2,f3⟩:=hown.row k g q hg hq
    exact ⟨f1,f2,hkeep _ _ f3⟩
   ·rw [List.getElem?_append_right hge] at hg
    rw [List.getElem?_append_right (by rw [hown.len]; exact hge),hown.len] at hq
    have hk0 : k - bs.length = 0:=by
     have:=(List.getElem?_eq_some_iff.1 hg).1
     simp at this
     omega
    rw [hk0] at hg hq
    simp at hg hq
    subst hg
    subst hq
    exact ⟨hnb,hrl,hkeep _ _ hr⟩
  ·rw [List.nodup_append]
   refine ⟨hown.nodup,by simp,fun x hx y hy=>?_⟩
   simp at hy
   subst hy
   exact hfr x hx
def zerosM (R C : Nat) : List (List Int):=List.replicate R (List.replicate C 0)
set_option maxHeartbeats 2000000 in
set_option maxRecDepth 20000 in
theorem r5new_any (R C : Nat) (w : World) (hR : R<=1000000) (hC : C<=1000000) :
  Calls Tryz.prog 22 #[.int .i64 R,.int .i64 C] w (RetMat w R C (zerosM R C)):=by
 have hmk:=fun W=>mkI (C : Int) C rfl oM W
 go_enter Tryz.func22,Tryz.ntmps22
 go_upto_block 0 with (fail)
 refine wp_world ?_
 intro W0 hW0
 obtain ⟨hB0,br,bA,hs0⟩:=world2 hW0
 go_wp2
 go_loopw [5,6] (fun A iv wr=>∃(k : Nat) (bs : List Nat),k<=R/\iv = .int .i64 k/\RowsO wr (w.heap.size + 1) A C bs (zerosM k C)/\Below w.heap.size w wr/\Blk wr w.heap.size 28 #[.int .i64 0,.int .i64 0,.slice none 0 0]) (fun _ iv _=>R - (intOf iv).toNat)
 case atStart=>
  refine ⟨0,[],by omega,rfl,⟨⟨by simp [rowPtrs],.inr ⟨w.heap.size + 1,0,#[],rfl,Nat.le_refl _,bA,Nat.le_refl _,by simp [maxLen],rfl,rfl⟩⟩,rfl,fun k b r h=>by simp at h,by simp,by omega⟩,hB0,br⟩
 case round=>
  obtain ⟨k,bs,hk,rfl,ho,hb,br⟩:=hrel
  have hbl : bs.length = k:=by rw [<-ho.len]; simp [zerosM]
  by_cases hlt : k < R
  ·have hmk:=hmk wr
   have hb2 : Below wr.heap.size wr ((wr.alloc (.cells (zeroCells C) tI)).alloc (.cells #[.slice (some ⟨wr.heap.size,0,none⟩) C C] tR)):=((Below.refl _ _).alloc (Nat.le_refl _) _).alloc sI _
   have hblk : Blk ((wr.alloc (.cells (zeroCells C) tI)).alloc (.cells #[.slice (some ⟨wr.heap.size,0,none⟩) C C] tR)) (wr.heap.size + 1) tR #[.slice (some ⟨wr.heap.size,0,none⟩) C C]:=by
    simpa using Blk.new (wr.alloc (.cells (zeroCells C) tI)) tR #[.slice (some ⟨wr.heap.size,0,none⟩) C C]
   have hrow:=(row_zero wr C).below ((Below.refl (wr.alloc (.cells (zeroCells C) tI)).heap.size _).alloc (Nat.le_refl _) (.cells #[.slice (some ⟨wr.heap.size,0,none⟩) C C] tR))
   have hfr : ∀g ∈ bs,g ≠ wr.heap.size:=by
    intro g hg
    obtain ⟨j,hj,e⟩:=List.getElem_of_mem hg
    have:=(ho.row j g _ (by rw [List.getElem?_eq_getElem hj,e]) (List.getElem?_eq_getElem (by rw [ho.len]; exact hj))).2.2.lt
    omega
   have hsz:=hb.size
   have hbr:=br.lt
   have ho2:=ho.below hb2
   have hxx:=lx hb2
   go_wp2_with (at_builtin; refine appR rfl _ _ rfl (w.heap.size + 1) u5 C bs (zerosM k C) rfl ho2 (wr.heap.size + 1) 1 wr.heap.size (List.replicate C 0) rfl hblk hrow sI oM hfr oM (by simp; omega) ?_; intro v' w' hown hgr hxg)
   have hown' : ∀g,u5.ownBlock = some g->w.heap.size + 1<=g:=by
    intro g hg
    rcases ho.own.2 with ⟨rfl,-⟩ | ⟨g',cap,cur,rfl,h1,-⟩
    ·cases hg
    ·simp only [Value.ownBlock,Option.some.injEq] at hg
     omega
   have hB9 : Below w.heap.size w w':=(nx hb hb2).grown hgr (by simp; omega) (fun g hg=>by have:=hown' g hg; omega)
   have br9:=(hgr.block _ (by simp; omega) (fun hh=>by have:=hown' _ hh.symm; omega)).trans (br.below hb2)
   go_roundw
   case rel=>
    refine ⟨k + 1,bs ++ [wr.heap.size],by omega,by simp,?_,hB9,br9⟩
    have : zerosM (k + 1) C = zerosM k C ++ [List.replicate C 0]:=by unfold zerosM; rw [List.replicate_succ']
    rw [this]
    exact hown
   case measure=>simp [intOf]; omega
  ·obtain rfl : k = R:=by omega
   obtain ⟨c1,c2,c3,c4,c5,c6⟩:=br.three
   obtain ⟨ao,an,ac,rfl,a1,a2,a3,-⟩:=id ho.rows
   have hsz:=hb.size
   go_wp2
   refine bodyPost_mat rfl rfl rfl (br.put3 _ _ _) ⟨_,bs,rfl,⟨hbl,_,rfl,?_⟩,bset (bset (bset hb (Nat.le_refl _) 0 _) (Nat.le_refl _) 1 _) (Nat.le_refl _) 2 _⟩
   exact (ho.keep (fun k hk=>set3_old _ _ k _ _ _ oM) (br.lext3 dE _ _ _)).mono (Nat.le_succ _)
def genM (R C : Nat) (f : Nat->Nat->Int) : List (List Int):=(List.range R).map fun i=>(List.range C).map (f i)
def ent (M : List (List Int)) (i j : Nat) : Int:=(M.getD i []).getD j 0
theorem genM_congr {R C : Nat} {f g : Nat->Nat->Int} (h : ∀i,i < R->∀j,j < C->f i j = g i j) : genM R C f = genM R C g:=by
 unfold genM
 refine List.map_congr_left fun i hi=>List.map_congr_left fun j hj=>h i (List.mem_range.1 hi) j (List.mem_range.1 hj)
theorem genM_row (R C : Nat) (f : Nat->Nat->Int) {i : Nat} (hi : i < R) : (genM R C f)[i]? = some ((List.range C).map (f i)):=by
 simp [genM,hi]
theorem ent_genM {R C : Nat} {f : Nat->Nat->Int} {i j : Nat} (hi : i < R) (hj : j < C) : ent (genM R C f) i j = f i j:=by
 unfold ent
 rw [getD_of (genM_row R C f hi)]
 simp [List.getD_eq_getElem?_getD,hj]
theorem genM_fits (R C : Nat) (f : Nat->Nat->Int) : Fits R C (genM R C f):=by
 refine ⟨by simp [genM],fun r hr=>?_⟩
 unfold genM at hr
 obtain ⟨i,-,rfl⟩:=List.mem_map.1 hr
 simp
theorem ent_of {M : List (List Int)} {i j : Nat} {r : List Int} {z : Int} (h1 : M[i]? = some r) (h2 : r[j]? = some z) : ent M i j = z:=by
 unfold ent
 rw [getD_of h1,getD_of h2]
theorem fits_genM {R C : Nat} {M : List (List Int)} (h : Fits R C M) : M = genM R C (ent M):=by
 apply List.ext_getElem
 ·rw [h.1]; simp [genM]
 ·intro i h1 h2
  have hi : i < R:=by rw [<-h.1]; exact h1
  have e1 : M[i]? = some M[i]:=List.getElem?_eq_getElem h1
  have hl:=h.2 _ (List.mem_of_getElem? e1)
  apply List.ext_getElem
  ·rw [hl]; simp [genM]
  ·intro j h3 h4
   have:=ent_of e1 (List.getElem?_eq_getElem h3)
   simp [genM,this]
theorem zeros_genM (R C : Nat) : zerosM R C = genM R C (fun _ _=>0):=by
 unfold zerosM genM
 apply List.ext_getElem
 ·simp
 ·intro i h1 h2
  apply List.ext_getElem
  ·simp
  ·intro j h3 h4
   simp
def setM (M : List (List Int)) (i j : Nat) (z : Int) : List (List Int):=M.set i ((M.getD i []).set j z)
theorem setM_genM {R C : Nat} {f : Nat->Nat->Int} {i j : Nat} (z : Int) (hi : i < R) (hj : j < C) : setM (genM R C f) i j z = genM R C (fun i' j'=>if i' = i/\j' = j then z else f i' j'):=by
 unfold setM
 rw [getD_of (genM_row R C f hi)]
 apply List.ext_getElem
 ·simp [genM]
 ·intro a h1 h2
  have ha : a < R:=by simpa [genM] using h2
  by_cases e : a = i
  ·subst e
   rw [List.getElem_set_self]
   apply List.ext_getElem
   ·simp [genM]
   ·intro b h3 h4
    by_cases e2 : b = j
    ·subst e2; simp [genM]
    ·have e3 : j ≠ b:=fun h=>e2 h.symm
     simp [genM,e2,e3]
  ·have e3 : i ≠ a:=fun h=>e h.symm
   rw [List.getElem_set_ne e3]
   simp [genM,e]
theorem RowsO.set {w : World} {base : Nat} {A : Value} {C : Nat} {bs : List Nat} {M : List (List Int)} (h : RowsO w base A C bs M) {i j b : Nat} (hb : bs[i]? = some b) (hj : j < C)
  {s : Bool} {a : Option Addr} {l c : Nat} {z : Int} (hv : IntV w (.agg #[.bool s,.slice a l c]) z) :
  RowsO ((w.setCell ⟨b,j * 2,none⟩ (.bool s)).setCell ⟨b,j * 2 + 1,none⟩ (.slice a l c)) base A C bs (setM M i j z)/\LExt w ((w.setCell ⟨b,j * 2,none⟩ (.bool s)).setCell ⟨b,j * 2 + 1,none⟩ (.slice a l c))/\base<=b:=by
 have hib:=(List.getElem?_eq_some_iff.1 hb).1
 have hiM : i < M.length:=by rw [h.len]; exact hib
 obtain ⟨r1,r2,r3⟩:=h.row i b M[i] hb (List.getElem?_eq_getElem hiM)
 obtain ⟨s1,s2⟩:=r3.set (k:=j) (by rw [r2]; exact hj) hv
 refine ⟨⟨⟨h.own.1,?_⟩,by simp [setM,h.len],?_,h.nodup,h.cb⟩,s2,r1⟩
 ·rcases h.own.2 with h1 | ⟨g,cap,cur,e1,e2,e3,e4⟩
  ·exact .inl h1
  ·refine .inr ⟨g,cap,cur,e1,e2,?_,e4⟩
   have hne : g ≠ b:=by
    have:=own_ne h.own r3
    rw [e1] at this
    simp only [Value.ownBlock] at this
    intro hh
    exact this (by rw [hh])
   exact (set2_old w b _ _ g _ _ hne).trans e3
 ·intro k b' r hk hr
  by_cases e : k = i
  ·subst e
   rw [hb] at hk
   injection hk with hk
   subst hk
   unfold setM at hr
   rw [List.getElem?_set_self hiM] at hr
   injection hr with hr
   subst hr
   rw [getD_of (List.getElem?_eq_getElem hiM)]
   exact ⟨r1,by rw [List.length_set]; exact r2,s1⟩
  ·unfold setM at hr
   rw [List.getElem?_set_ne (Ne.symm e)] at hr
   obtain ⟨f1,f2,f3⟩:=h.row k b' r hk hr
   have hkb:=(List.getElem?_eq_some_iff.1 hk).1
   have hne : b' ≠ b:=by
    intro hh
    subst hh
    have h1:=(List.getElem?_eq_some_iff.1 hk).2
    have h2:=(List.getElem?_eq_some_iff.1 hb).2
    exact e ((List.getElem_inj h.nodup).1 (h1.trans h2.symm))
   exact ⟨f1,f2,f3.old (set2_old w b _ _ b' _ _ hne) s2⟩
theorem RowsO.at_ {w : World} {base : Nat} {ao : Option Addr} {n cap C : Nat} {bs : List Nat} {M : List (List Int)} (h : RowsO w base (.slice ao n cap) C bs M) {i : Nat} (hi : i < bs.length) :
  ∃g b,ao = some ⟨g,0,none⟩/\g < w.heap.size/\bs[i]? = some b/\b < w.heap.size/\w.cell? ⟨g,i,none⟩ = some (.slice (some ⟨b,0,none⟩) C C)/\n = bs.length:=by
 rcases h.own.2 with ⟨e,h0⟩ | ⟨g,cap',cur,e,e2,e3,e4,e5,e6,e7⟩
 ·omega
 ·injection e with e8 e9 e10
  subst e8
  have hM : i < M.length:=by rw [h.len]; exact hi
  have hr:=h.row i bs[i] M[i] (List.getElem?_eq_getElem hi) (List.getElem?_eq_getElem hM)
  refine ⟨g,bs[i],rfl,(Array.getElem?_eq_some_iff.1 e3).1,List.getElem?_eq_getElem hi,hr.2.2.lt,?_,e9⟩
  rw [cell_of_row w g i cur _ _ e3]
  have : (rowPtrs C bs)[i]? = some (.slice (some ⟨bs[i],0,none⟩) C C):=by simp [rowPtrs,hi]
  rw [<-e7,List.getElem?_take_of_lt oM] at this
  simpa using this
theorem RowsO.cellAt {w : World} {base : Nat} {A : Value} {C : Nat} {bs : List Nat} {M : List (List Int)} (h : RowsO w base A C bs M) {i j b : Nat} (hb : bs[i]? = some b) (hj : j < C) :
  ∃s a l c,w.cell? ⟨b,j * 2,none⟩ = some (.bool s)/\w.cell? ⟨b,j * 2 + 1,none⟩ = some (.slice a l c)/\w.frozen? ⟨b,j * 2,none⟩ = false/\w.frozen? ⟨b,j * 2 + 1,none⟩ = false/\IntV w (.agg #[.bool s,.slice a l c]) (ent M i j):=by
 have hib:=(List.getElem?_eq_some_iff.1 hb).1
 have hiM : i < M.length:=by rw [h.len]; exact hib
 obtain ⟨r1,r2,r3⟩:=h.row i b M[i] hb (List.getElem?_eq_getElem hiM)
 have hjr : j < M[i].length:=by rw [r2]; exact hj
 have:=r3.cell (List.getElem?_eq_getElem hjr)
 rwa [ent_of (List.getElem?_eq_getElem hiM) (List.getElem?_eq_getElem hjr)]
def upTo (f : Nat->Nat->Int) (i j : Nat) : Nat->Nat->Int:=fun a b=>if a < i ∨ (a = i/\b < j) then f a b else 0
theorem upTo_start (R C : Nat) (f : Nat->Nat->Int) : zerosM R C = genM R C (upTo f 0 0):=by
 rw [zeros_genM]
 exact genM_congr fun i _ j _=>by unfold upTo; rw [if_neg oM]
theorem upTo_row {R C : Nat} {f : Nat->Nat->Int} {i : Nat} : genM R C (upTo f i C) = genM R C (upTo f (i + 1) 0):=
 genM_congr fun a _ b hb=>by
  unfold upTo
  by_cases h : a < i ∨ (a = i/\b < C)
  ·rw [if_pos h,if_pos oM]
  ·rw [if_neg h,if_neg oM]
theorem upTo_end {R C : Nat} {f : Nat->Nat->Int} : genM R C (upTo f R 0) = genM R C f:=
 genM_congr fun a ha b _=>by unfold upTo; rw [if_pos oM]
theorem upTo_step {R C : Nat} {f : Nat->Nat->Int} {i j : Nat} (hi : i < R) (hj : j < C) : setM (genM R C (upTo f i j)) i j (f i j) = genM R C (upTo f i (j + 1)):=by
 rw [setM_genM _ hi hj]
 exact genM_congr fun a _ b _=>by
  unfold upTo
  by_cases h : a = i/\b = j
  ·obtain ⟨rfl,rfl⟩:=h
   rw [if_pos ⟨rfl,rfl⟩,if_pos oM]
  ·rw [if_neg h]
   by_cases h2 : a < i ∨ (a = i/\b < j)
   ·rw [if_pos h2,if_pos oM]
   ·rw [if_neg h2,if_neg oM]
theorem RowsO.lts {w : World} {base : Nat} {A : Value} {C : Nat} {bs : List Nat} {M : List (List Int)} (h : RowsO w base A C bs M) : ∀(i b : Nat),bs[i]? = some b->b < w.heap.size:=by
 intro i b hb
 have hib:=(List.getElem?_eq_some_iff.1 hb).1
 have hiM : i < M.length:=by rw [h.len]; exact hib
 exact (h.row i b M[i] hb (List.getElem?_eq_getElem hiM)).2.2.lt
def idf (i j : Nat) : Int:=if i = j then 1 else 0
def idUp (k : Nat) (i j : Nat) : Int:=if i = j/\i < k then 1 else 0
set_option maxHeartbeats 4000000 in
set_option maxRecDepth 20000 in
theorem r5identity_any (n : Nat) (w : World) (hn : n<=1000000) : Calls Tryz.prog 52 #[.int .i64 n] w (RetMat w n n (genM n n idf)):=by
 go_enter Tryz.func52,Tryz.ntmps52
 go_upto_region 1 with (fail)
 refine wp_world ?_
 intro W0 hW0
 obtain ⟨hB0,br,hs0⟩:=world1 hW0
 go_wp2_with fail
 refine (r5new_any n n W0 hn hn).mono ?_
 rintro e w2 ⟨u,bs,rfl,⟨hbl,A2,rfl,ho⟩,hb2⟩
 obtain ⟨oo,on,oc,rfl,-,-,-,-⟩:=id ho.rows
 have hlts:=ho.lts
 go_upto_region 2 with (fail)
 refine wp_world ?_
 intro W3 hW3
 obtain ⟨hB3,T5,hs3⟩:=world1 hW3
 have br:=(br.below hb2).below hB3
 have ho:=ho.below hB3
 have hz0 : zerosM n n = genM n n (idUp 0):=by rw [zeros_genM]; exact genM_congr fun i _ j _=>by unfold idUp; rw [if_neg oM]
 rw [hz0] at ho
 have hBt:=nx (nx hB0 hb2) hB3
 have q1:=hB0.size
 have q2:=hb2.size
 clear hW3 hW0 hz0
 go_wp2
 go_loopw [4] (fun iv wr=>∃i : Nat,i<=n/\iv = .int .i64 i/\Below w.heap.size w wr/\Blk wr w.heap.size 28 #[.int .i64 0,.int .i64 0,.slice none 0 0]/\Blk wr w2.heap.size 28 #[.int .i64 n,.int .i64 n,.slice oo on oc]/\RowsO wr W0.heap.size (.slice oo on oc) n bs (genM n n (idUp i))) (fun iv _=>n - (intOf iv).toNat)
 case atStart=>exact ⟨0,by omega,rfl,hBt,br,T5,ho⟩
 case round=>
  obtain ⟨i,hi,rfl,hb,br,T5,ho⟩:=hrel
  obtain ⟨f1,f2,f3,f4,f5,f6⟩:=T5.three
  by_cases hlt : i < n
  ·obtain ⟨g,bo,rfl,hg,hbo,hbo2,o1,ho3⟩:=ho.at_ (i:=i) oM
   have hio : i < on:=by omega
   have HO3:=Lib.hid ho3
   clear ho3
   have lt5:=T5.lt
   go_upto_region 5 with (fail)
   refine wp_region_headed 8 rfl (RI wr (wr.heap.size) _ 45
     [⟨0,13,fun _ v=>v = .pointer (some ⟨w2.heap.size,2,none⟩)⟩,⟨1,14,fun _ v=>v = .slice (some ⟨g,0,none⟩) on oc⟩,⟨2,15,fun _ v=>v = .int .i64 i⟩,⟨3,16,fun _ v=>v = .pointer (some ⟨g,i,none⟩)⟩,⟨4,17,fun _ v=>v = .slice (some ⟨bo,0,none⟩) n n⟩,⟨5,18,fun _ v=>v = .int .i64 i⟩,⟨6,19,fun w v=>IntV w v (1)⟩,⟨7,20,fun _ v=>v = .pointer (some ⟨bo,i * 2,none⟩)⟩]
     [] []) kR RI.start ?fin2 ?steps2
   case steps2=>
    refine ⟨?_,?_,?_,?_,?_,?_,?_,?_,trivial⟩ <;> (intro L T wS hL hd hcl hI K hK; try refine step_wanted rfl ?_)
    ·have zt : T[3]? = some (.pointer (some ⟨w2.heap.size,0,none⟩)):=hI.keep 3 sI sI
     go_simp
     exact hK _ _ (hI.y mm0 rfl)
    ·obtain ⟨v0,zt0,rfl⟩:=hI.v mm0 (hd 0)
     have cc0:=hI.cell f3 oM nom
     go_simp
     exact hK _ _ (hI.y mm1 rfl)
    ·have zt : T[4]? = some (.int .i64 i):=hI.keep 4 sI sI
     go_simp
     exact hK _ _ (hI.y mm2 rfl)
    ·obtain ⟨v1,zt1,rfl⟩:=hI.v mm1 (hd 1)
     obtain ⟨v2,zt2,rfl⟩:=hI.v mm2 (hd 2)
     go_simp
     exact hK _ _ (hI.y mm3 rfl)
    ·obtain ⟨v3,zt3,rfl⟩:=hI.v mm3 (hd 3)
     have cc0:=hI.cell o1 oM nom
     go_simp
     exact hK _ _ (hI.y mm4 rfl)
    ·have zt : T[4]? = some (.int .i64 i):=hI.keep 4 sI sI
     go_simp
     exact hK _ _ (hI.y mm5 rfl)
    ·go_simp
     refine (r1of_any 1 _ oM oM).mono ?_
     rintro e wa ⟨v,rfl,hv,hba⟩
     exact hK _ _ ((hI.world hba).y mm6 hv)
    ·obtain ⟨v4,zt4,rfl⟩:=hI.v mm4 (hd 4)
     obtain ⟨v5,zt5,rfl⟩:=hI.v mm5 (hd 5)
     go_simp
     exact hK _ _ (hI.y mm7 rfl)
   intro T w9 hI
   obtain ⟨va0,q0,rfl⟩:=hI.v mm0 rfl
   obtain ⟨va1,q1,rfl⟩:=hI.v mm1 rfl
   obtain ⟨va2,q2,rfl⟩:=hI.v mm2 rfl
   obtain ⟨va3,q3,rfl⟩:=hI.v mm3 rfl
   obtain ⟨va4,q4,rfl⟩:=hI.v mm4 rfl
   obtain ⟨va5,q5,rfl⟩:=hI.v mm5 rfl
   obtain ⟨va6,q6,ha6⟩:=hI.v mm6 rfl
   replace ha6 : IntV w9 va6 (1):=ha6
   obtain ⟨va7,q7,rfl⟩:=hI.v mm7 rfl
   have hT:=tmps_set [(13,.pointer (some ⟨w2.heap.size,2,none⟩)),(14,.slice (some ⟨g,0,none⟩) on oc),(15,.int .i64 i),(16,.pointer (some ⟨g,i,none⟩)),(17,.slice (some ⟨bo,0,none⟩) n n),(18,.int .i64 i),(19,va6),(20,.pointer (some ⟨bo,i * 2,none⟩))]
    (fun j hj=>hI.keep j (by simp only [List.forall_mem_cons] at hj ⊢; simp [hj]) (by simp only [List.forall_mem_cons] at hj ⊢; simp [hj]))
    (by simp only [List.forall_mem_cons]; simp [q0,q1,q2,q3,q4,q5,q6,q7]) hI.size
   have hlw9:=hI.lext
   have hbw9:=hI.bel (wr.heap.size) oM nom
   have holdw9:=hI.old
   clear hI
   simp only [List.foldl_cons,List.foldl_nil,List.setIfInBounds_toArray,List.set_cons_zero,List.set_cons_succ,ptr] at hT
   subst hT
   clear q0 q1 q2 q3 q4 q5 q6 q7
   simp only [List.drop_succ_cons,List.drop_zero]
   obtain ⟨pn,pa,pl,pc,px,rfl,hpx⟩:=id ha6
   have HPX:=Lib.hid hpx
   clear hpx
   have ho9:=ho.below hbw9
   obtain ⟨sn,sa,sl,sc,z1,z2,z3,z4,-⟩:=ho9.cellAt hbo hlt
   have hbolt:=hlts i bo hbo
   have hset:=ho9.set hbo hlt ha6
   go_wp2
   go_roundw
   case rel=>
    have hq : setM (genM n n (idUp i)) i i 1 = genM n n (idUp (i + 1)):=by
     rw [setM_genM _ hlt hlt]
     exact genM_congr fun a _ b _=>by
      unfold idUp
      by_cases h : a = i/\b = i
      ·rw [if_pos h,if_pos oM]
      ·rw [if_neg h]
       by_cases h2 : a = b/\a < i
       ·rw [if_pos h2,if_pos oM]
       ·rw [if_neg h2,if_neg oM]
    rw [hq] at hset
    exact ⟨i + 1,by omega,by simp,bset (bset (nx hb hbw9) oM _ _) oM _ _,(set2_old _ _ _ _ _ _ _ oM).trans (br.below hbw9),(set2_old _ _ _ _ _ _ _ oM).trans (T5.below hbw9),hset.1⟩
   case measure=>simp [intOf]; omega
  ·obtain rfl : i = n:=by omega
   have hq : genM i i (idUp i) = genM i i idf:=genM_congr fun a ha b _=>by
    unfold idUp idf
    by_cases h : a = b
    ·rw [if_pos ⟨h,ha⟩,if_pos h]
    ·rw [if_neg (fun h2=>h h2.1),if_neg h]
   rw [hq] at ho
   obtain ⟨r1,r2,r3,r4,r5,r6⟩:=br.three
   go_wp2
   refine bodyPost_mat rfl rfl rfl (br.put3 _ _ _) ⟨_,bs,rfl,⟨hbl,_,rfl,?_⟩,bset (bset (bset hb oM 0 _) oM 1 _) oM 2 _⟩
   exact (ho.keep (fun k hk=>set3_old _ _ k _ _ _ oM) (br.lext3 dE _ _ _)).mono q1
end Go.Proofs.YtnocgagoaldfnaaGreat
