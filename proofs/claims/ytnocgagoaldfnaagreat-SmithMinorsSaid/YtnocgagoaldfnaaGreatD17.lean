/- torsionref13.Is. matrix.Valid; smith.diagonal. smith.diagonal. append on rows of integers; smith.elements. smith.elements. -/
import Derived.Test.YtnocgagoaldfnaaGreatD16
set_option linter.unusedVariables false
set_option linter.unusedSimpArgs false
set_option linter.unusedSectionVars false
namespace Go.Proofs.YtnocgagoaldfnaaGreat
open Go.RowKit
def OffZero (i C : Nat) (r : List Int) : Prop:=∀k,k < C->k ≠ i->r.getD k 0 = 0
instance (i C : Nat) (r : List Int) : Decidable (OffZero i C r):=inferInstanceAs (Decidable (∀k,k < C->_))
def isGo (C : Nat) : Nat->Int->List (List Int)->Bool
 | _,_,[]=>true
 | i,last,r :: rs=>decide (OffZero i C r) && (if i < C then decide (0<=r.getD i 0) && decide (last ∣ r.getD i 0) && isGo C (i + 1) (r.getD i 0) rs else isGo C (i + 1) last rs)
def IsM (R C : Int) (M : List (List Int)) : Bool:=decide (ValidM R C M) && isGo C.toNat 0 1 M
theorem drop_cons {α : Type} {l : List α} {k : Nat} {x : α} (h : l[k]? = some x) : l.drop k = x :: l.drop (k + 1):=by
 obtain ⟨h1,h2⟩:=List.getElem?_eq_some_iff.1 h
 rw [List.drop_eq_getElem_cons h1,h2]
theorem getD_of {α : Type} {l : List α} {k : Nat} {x d : α} (h : l[k]? = some x) : l.getD k d = x:=by simp [List.getD_eq_getElem?_getD,h]
theorem isGo_off {C i : Nat} {last : Int} {r : List Int} {rs : List (List Int)} (h : ¬ OffZero i C r) : isGo C i last (r :: rs) = false:=by
 unfold isGo
 rw [decide_eq_false h,Bool.false_and]
theorem isGo_neg {C i : Nat} {last d : Int} {r : List Int} {rs : List (List Int)} (hi : i < C) (hd : r.getD i 0 = d) (h : d < 0) : isGo C i last (r :: rs) = false:=by
 unfold isGo
 rw [if_pos hi,hd,decide_eq_false (show ¬ 0<=d by omega)]
 simp
theorem isGo_div {C i : Nat} {last d : Int} {r : List Int} {rs : List (List Int)} (hi : i < C) (hd : r.getD i 0 = d) (h : ¬ last ∣ d) : isGo C i last (r :: rs) = false:=by
 unfold isGo
 rw [if_pos hi,hd,decide_eq_false h]
 simp
theorem isGo_step {C i : Nat} {last d : Int} {r : List Int} {rs : List (List Int)} (ho : OffZero i C r) (hi : i < C) (hd : r.getD i 0 = d) (h0 : 0<=d) (h : last ∣ d) : isGo C i last (r :: rs) = isGo C (i + 1) d rs:=by
 conv=>lhs; unfold isGo
 rw [if_pos hi,hd,decide_eq_true h,decide_eq_true h0,decide_eq_true ho]
 simp
theorem isGo_past {C i : Nat} {last : Int} {r : List Int} {rs : List (List Int)} (ho : OffZero i C r) (hi : ¬ i < C) : isGo C i last (r :: rs) = isGo C (i + 1) last rs:=by
 conv=>lhs; unfold isGo
 rw [if_neg hi,decide_eq_true ho]
 simp
theorem Smd.one {z : Int} (h : z.natAbs<=1) : Smd z:=⟨Nat.lt_of_le_of_lt h (by
 have h1:=B32_pow_lt 0 DLIM (by rw [DLIM_eq]; omega)
 rw [Nat.pow_zero] at h1
 exact h1)⟩
set_option maxHeartbeats 4000000 in
set_option maxRecDepth 20000 in
theorem r13is_any (v : Value) (R C : Int) (M : List (List Int)) (w : World) (h : MatV w v R C M) (hS : ∀r ∈ M,∀z ∈ r,Smd z) :
  Calls Tryz.prog 27 #[v] w fun e w'=>e = .returned (.bool (IsM R C M))/\Below w.heap.size w w':=by
 have h0:=h
 obtain ⟨A,rfl,h⟩:=h
 obtain ⟨ao,n,cap,rfl,e2,e3,e4,-⟩:=id h
 have HX:=Lib.hid e2
 have HS:=HidS.mk hS
 clear e2 hS
 by_cases hv : ValidM R C M
 ·have hd : IsM R C M = isGo C.toNat 0 1 M:=by unfold IsM; rw [decide_eq_true hv,Bool.true_and]
  rw [hd]
  clear hd
  have hdv:=decide_eq_true hv
  obtain ⟨v1,v2,v3,v4⟩:=hv
  obtain ⟨C',rfl⟩:=Int.eq_ofNat_of_zero_le v2
  obtain rfl : R = (n : Int):=by rw [<-v3,HX.out]
  rw [Int.toNat_natCast]
  have HV:=Lib.hid v4
  clear v1 v2 v3 v4
  go_enter Tryz.func27,Tryz.ntmps27
  go_upto_region 1 with (fail)
  refine wp_world ?_
  intro W0 hW0
  obtain ⟨hB0,bx1,hs0⟩:=world1 hW0
  obtain ⟨c1,c2,c3,c4,c5,c6⟩:=bx1.three
  go_wp2_with fail
  refine (r5valid_any _ (n : Int) (C' : Int) M W0 (h0.below hB0)).mono ?_
  rintro e w1 ⟨rfl,hb1⟩
  rw [hdv]
  clear c1 c2 c3 c4 c5 c6
  have bx1:=bx1.below hb1
  go_wp2_with fail
  refine (r1of_any 1 w1 oM oM).mono ?_
  rintro e w2 ⟨u,rfl,hu,hb2⟩
  obtain ⟨un,ua,ul,uc,ux,rfl,hu'⟩:=id hu
  have HU:=Lib.hid hu'
  clear hu'
  have bx1:=bx1.below hb2
  go_upto_block 0 with (fail)
  refine wp_world ?_
  intro W3 hW3
  obtain ⟨hB3,T3,hs3⟩:=world1 hW3
  have bx1:=bx1.below hB3
  have z3:=BoxI.mk T3 (hu.ext (lx hB3))
  have hBt:=nx (nx (nx hB0 hb1) hb2) hB3
  have q3 : w.heap.size < w2.heap.size:=by have h1:=hb1.size; have h2:=hb2.size; omega
  clear hu hW3 hW0 hb1 hb2 hB3 hdv T3
  go_wp2
  go_loopw [4] (fun iv wr=>∃(i : Nat) (last : Int),i<=n/\iv = .int .i64 i/\Below w.heap.size w wr/\Blk wr w.heap.size 28 #[.int .i64 n,.int .i64 C',.slice ao n cap]/\BoxI wr w2.heap.size last/\HidS (Smd last) ∧
   Hid (isGo C' 0 1 M = isGo C' i last (M.drop i))) (fun iv _=>n - (intOf iv).toNat)
  case atStart=>exact ⟨0,1,by omega,rfl,hBt,bx1,z3,⟨Smd.one dE⟩,Lib.hid (by rw [List.drop_zero])⟩
  case round=>
   obtain ⟨i,last,hi,rfl,hb,bx1,z3,hsl,hgo⟩:=hrel
   obtain ⟨c1,c2,c3,c4,c5,c6⟩:=bx1.three
   by_cases hlt : i < n
   ·go_wp2
    obtain ⟨zs,hz⟩ : ∃zs,M[i]? = some zs:=⟨_,List.getElem?_eq_getElem (by rw [HX.out]; exact hlt)⟩
    have hzl : zs.length = C':=by have:=HV.out zs (List.mem_of_getElem? hz); omega
    have HZ:=Lib.hid hz
    have HZL:=Lib.hid hzl
    clear hz hzl c1 c2 c3 c4 c5 c6
    have hC : C'<=9223372036854775807:=by
     obtain ⟨b,ra,rn,rc,zs',-,-,hz',-,hrv⟩:=(h.below hb).row (k:=i) (by rw [HX.out]; exact hlt)
     obtain rfl : zs' = zs:=Option.some.inj (hz'.symm.trans HZ.out)
     have:=hrv.len
     have:=HZL.out
     omega
    go_loopw [5] (fun jv wr'=>∃k : Nat,k<=C'/\jv = .int .i64 k/\Below w.heap.size w wr'/\Blk wr' w.heap.size 28 #[.int .i64 n,.int .i64 C',.slice ao n cap]/\BoxI wr' w2.heap.size last ∧
     Hid (∀k',k' < k->k' ≠ i->zs.getD k' 0 = 0)) (fun jv _=>C' - (intOf jv).toNat)
    case atStart=>exact ⟨0,by omega,rfl,hb,bx1,z3,Lib.hid (fun k' h=>absurd h oM)⟩
    case round=>
     obtain ⟨k,hk,rfl,hb,bx1,z3,hoff⟩:=hrel
     obtain ⟨c1,c2,c3,c4,c5,c6⟩:=bx1.three
     by_cases hkc : k < C'
     ·by_cases hki : k = i
      ·subst hki
       go_wp2
       go_roundw
       case rel=>
        refine ⟨k + 1,by omega,by simp,hb,bx1,z3,Lib.hid (fun k' h1 h2=>hoff.out k' oM h2)⟩
       case measure=>simp [intOf]; omega
      ·have hki' : ¬ (i : Int) = (k : Int):=by omega
       have hbn : ((i : Int) != (k : Int)) = true:=by simpa using hki'
       obtain ⟨b,ra,rn,rc,zs',rfl,hbl,hz',p1,hrv⟩:=(h.below hb).row (k:=i) (by rw [HX.out]; exact hlt)
       obtain rfl : zs' = zs:=Option.some.inj (hz'.symm.trans HZ.out)
       have hrn:=hrv.len.1
       obtain rfl : rn = C':=by rw [<-hrn,HZL.out]
       obtain ⟨b',z,s,a,l,c,rfl,hbl',hzk,q1,q2,hzv⟩:=hrv.cell (k:=k) (by rw [HZL.out]; exact hkc)
       have HZK:=Lib.hid hzk
       clear hz' hrn hzk
       go_wp2_with fail
       refine (r1sign_any _ z wr hzv).mono ?_
       rintro e w5 ⟨rfl,hb5⟩
       have bx1:=bx1.below hb5
       have z3:=z3.below hb5
       have hb':=nx hb hb5
       by_cases hz0 : z = 0
       ·rw [cmpI_zero hz0]
        go_wp2
        go_roundw
        case rel=>
         refine ⟨k + 1,by omega,by simp,hb',bx1,z3,Lib.hid (fun k' h1 h2=>?_)⟩
         rcases Nat.lt_or_ge k' k with h3 | h3
         ·exact hoff.out k' h3 h2
         ·obtain rfl : k' = k:=by omega
          rw [getD_of HZK.out,hz0]
        case measure=>simp [intOf]; omega
       ·have hc:=cmpI_ne hz0
        obtain ⟨k0,hk0⟩ : ∃k0,cmpI z 0 = k0:=⟨_,rfl⟩
        rw [hk0] at hc ⊢
        have hkb : (k0 == 0) = false:=by simpa using hc
        have hkb2 : (k0 != 0) = true:=by simpa using hc
        go_wp2
        go_ret
        refine ⟨?_,hb'⟩
        rw [hgo.out,drop_cons HZ.out,isGo_off (fun ho=>hz0 (by rw [<-getD_of HZK.out]; exact ho k hkc oM))]
        rfl
     ·obtain rfl : k = C':=by omega
      have ho : Hid (OffZero i k zs):=hoff.out
      by_cases hic : i < k
      ·obtain ⟨b,ra,rn,rc,zs',rfl,hbl,hz',p1,hrv⟩:=(h.below hb).row (k:=i) (by rw [HX.out]; exact hlt)
       obtain rfl : zs' = zs:=Option.some.inj (hz'.symm.trans HZ.out)
       have hrn:=hrv.len.1
       obtain rfl : rn = k:=by rw [<-hrn,HZL.out]
       obtain ⟨b',d,s,a,l,c,rfl,hbl',hzk,q1,q2,hdv⟩:=hrv.cell (k:=i) (by rw [HZL.out]; exact hic)
       have hgd:=Lib.hid (getD_of (d:=0) hzk)
       have SD : HidS (Smd d):=⟨HS.out _ (List.mem_of_getElem? HZ.out) _ (List.mem_of_getElem? hzk)⟩
       clear hz' hrn hzk
       have l6:=z3.lt
       go_upto_region 14 with (fail)
       refine wp_world ?_
       intro W6 hW6
       obtain ⟨hB6,T6,hs6⟩:=world1 hW6
       have bx1:=bx1.below hB6
       have z3:=z3.below hB6
       have hdv:=hdv.ext (lx hB6)
       have hb:=nx hb hB6
       clear c1 c2 c3 c4 c5 c6 hW6 q1 q2
       obtain ⟨d1,d2,d3,d4⟩:=T6.two
       go_wp2_with fail
       refine (r1sign_any _ d W6 hdv).mono ?_
       rintro e w7 ⟨rfl,hb7⟩
       have bx1:=bx1.below hb7
       have z3:=z3.below hb7
       have hdv:=hdv.ext (lx hb7)
       have hb:=nx hb hb7
       have T6:=T6.below hb7
       clear d1 d2 d3 d4
       obtain ⟨d1,d2,d3,d4⟩:=T6.two
       by_cases hd0 : d < 0
       ·have hc : cmpI d 0 = -1:=by unfold cmpI; rw [if_pos hd0]
        rw [hc]
        go_wp2
        go_ret
        refine ⟨?_,hb⟩
        rw [hgo.out,drop_cons HZ.out,isGo_neg hic hgd.out hd0]
        rfl
       ·have hc : ¬ cmpI d 0 < 0:=by unfold cmpI; rw [if_neg hd0]; split <;> omega
        obtain ⟨k1,hk1⟩ : ∃k1,cmpI d 0 = k1:=⟨_,rfl⟩
        rw [hk1] at hc ⊢
        clear hk1
        obtain ⟨ln,la,ll,lc,k3,i3⟩:=z3
        obtain ⟨f1,f2,f3,f4⟩:=k3.two
        go_wp2_with fail
        refine (r13divides_any _ _ last d w7 i3 hdv hsl.out SD.out).mono ?_
        rintro e w8 ⟨rfl,hb8⟩
        have bx1:=bx1.below hb8
        have k3:=k3.below hb8
        have hdv:=hdv.ext (lx hb8)
        have hb:=nx hb hb8
        have T6:=T6.below hb8
        clear d1 d2 d3 d4 f1 f2 f3 f4
        obtain ⟨d1,d2,d3,d4⟩:=T6.two
        obtain ⟨f1,f2,f3,f4⟩:=k3.two
        by_cases hdv2 : last ∣ d
        ·rw [decide_eq_true hdv2]
         go_wp2
         go_roundw
         case rel=>
          refine ⟨i + 1,d,by omega,by simp,bset (bset hb oM 0 _) oM 1 _,(bx1.far oM _ _).far oM _ _,BoxI.put k3 hdv,SD,Lib.hid ?_⟩
          rw [hgo.out,drop_cons HZ.out,isGo_step ho.out hic hgd.out oM hdv2]
         case measure=>simp [intOf]; omega
        ·rw [decide_eq_false hdv2]
         go_wp2
         go_ret
         refine ⟨?_,hb⟩
         rw [hgo.out,drop_cons HZ.out,isGo_div hic hgd.out hdv2]
         rfl
      ·go_wp2
       go_roundw
       case rel=>
        refine ⟨i + 1,last,by omega,by simp,hb,bx1,z3,hsl,Lib.hid ?_⟩
        rw [hgo.out,drop_cons HZ.out,isGo_past ho.out hic]
       case measure=>simp [intOf]; omega
   ·obtain rfl : i = n:=by omega
    go_wp2
    go_ret
    refine ⟨?_,hb⟩
    rw [hgo.out,List.drop_eq_nil_of_le (Nat.le_of_eq HX.out)]
    rfl
 ·have hd : IsM R C M = false:=by unfold IsM; rw [decide_eq_false hv,Bool.false_and]
  rw [hd]
  have hdv:=decide_eq_false hv
  clear hd hv
  go_enter Tryz.func27,Tryz.ntmps27
  go_upto_region 1 with (fail)
  refine wp_world ?_
  intro W0 hW0
  obtain ⟨hB0,bx1,hs0⟩:=world1 hW0
  obtain ⟨c1,c2,c3,c4,c5,c6⟩:=bx1.three
  go_wp2_with fail
  refine (r5valid_any _ R C M W0 (h0.below hB0)).mono ?_
  rintro e w1 ⟨rfl,hb1⟩
  rw [hdv]
  go_wp2
  go_ret
  exact ⟨rfl,nx hB0 hb1⟩
set_option maxHeartbeats 2000000 in
set_option maxRecDepth 20000 in
theorem mvalid_any (v : Value) (R C : Int) (M : List (List Int)) (w : World) (h : MatV w v R C M) :
  Calls Tryz.prog 46 #[v] w fun e w'=>e = .returned (.bool (decide (ValidM R C M)))/\Below w.heap.size w w':=by
 obtain ⟨A,rfl,h⟩:=h
 obtain ⟨ao,n,cap,rfl,e2,e3,e4,-⟩:=id h
 have HX:=Lib.hid e2
 clear e2
 by_cases hall : 0<=R/\0<=C/\(n : Int) = R
 ·obtain ⟨h0,h1,rfl⟩:=hall
  have hd : decide (ValidM n C M) = decide (∀r ∈ M,(r.length : Int) = C):=decide_eq_decide.2 ⟨fun h=>h.2.2.2,fun h=>⟨h0,h1,by rw [HX.out],h⟩⟩
  rw [hd]
  clear hd
  go_enter Tryz.func46,Tryz.ntmps46
  go_upto_region 1 with (fail)
  refine wp_world ?_
  intro W0 hW0
  obtain ⟨hB0,bx1,hs0⟩:=world1 hW0
  obtain ⟨c1,c2,c3,c4,c5,c6⟩:=bx1.three
  go_wp2
  clear c1 c2 c3 c4 c5 c6
  go_loopw [26] (fun i wr=>∃k : Nat,k<=n/\i = .int .i64 k/\Below w.heap.size w wr/\Blk wr w.heap.size 28 #[.int .i64 n,.int .i64 C,.slice ao n cap]/\Hid (∀r ∈ M.take k,(r.length : Int) = C)) (fun i _=>n - (intOf i).toNat)
  case atStart=>exact ⟨0,by omega,rfl,hB0,bx1,by rw [List.take_zero]; exact Lib.hid (fun r hr=>by cases hr)⟩
  case round=>
   obtain ⟨k,hk,rfl,hb,bx1,hall⟩:=hrel
   obtain ⟨c1,c2,c3,c4,c5,c6⟩:=bx1.three
   by_cases hlt : k < n
   ·obtain ⟨b,ra,rn,rc,zs,rfl,hbl,hz,p1,hv⟩:=(h.below hb).row (k:=k) (by rw [HX.out]; exact hlt)
    have HZ:=Lib.hid hz
    have hvl:=hv.len
    have HL:=Lib.hid hvl.1
    obtain ⟨-,hl2,hl3⟩:=hvl
    clear hz
    by_cases hrc : (rn : Int) = C
    ·go_wp2
     clear c1 c2 c3 c4 c5 c6
     go_loopw [37] (fun j wr'=>∃m : Nat,m<=rn/\j = .int .i64 m/\Below wr.heap.size wr wr') (fun j _=>rn - (intOf j).toNat)
     case atStart=>exact ⟨0,by omega,rfl,Below.refl _ _⟩
     case round=>
      rename World=>wr'
      obtain ⟨m,hm,rfl,hb'⟩:=hrel
      by_cases hmr : m < rn
      ·obtain ⟨b',z,s,a,l,c,rfl,hbl',hzk,q1,q2,hzv⟩:=(hv.below hb').cell (k:=m) (by rw [HL.out]; exact hmr)
       clear hzk
       go_upto_region 11 with (fail)
       refine wp_world ?_
       intro W6 hW6
       obtain ⟨hB6,T6,hs6⟩:=world1 hW6
       obtain ⟨d1,d2,d3,d4⟩:=T6.two
       clear q1 q2 hW6
       go_wp2_with fail
       refine (valid_any _ z W6 (hzv.ext (lx hB6))).mono ?_
       rintro e w7 ⟨rfl,hb7⟩
       go_wp2
       go_roundw
       case rel=>exact ⟨m + 1,by omega,by simp,nx (nx hb' hB6) hb7⟩
       case measure=>simp [intOf]; omega
      ·obtain rfl : m = rn:=by omega
       have bx1:=bx1.below hb'
       go_wp2
       go_roundw
       case rel=>
        refine ⟨k + 1,by omega,by simp,nx hb hb',bx1,Lib.hid ?_⟩
        rw [List.take_add_one,HZ.out]
        intro r hr
        rcases List.mem_append.1 hr with hr | hr
        ·exact hall.out r hr
        ·simp at hr
         rw [hr,HL.out,hrc]
       case measure=>simp [intOf]; omega
    ·go_wp2
     go_ret
     refine ⟨?_,hb⟩
     have hbad : ¬ ∀r ∈ M,(r.length : Int) = C:=fun hh=>hrc (by rw [<-HL.out]; exact hh zs (List.mem_of_getElem? HZ.out))
     rw [decide_eq_false hbad]
     rfl
   ·obtain rfl : k = n:=by omega
    go_wp2
    go_ret
    refine ⟨?_,hb⟩
    have:=hall.out
    rw [<-HX.out,List.take_length] at this
    rw [decide_eq_true this]
    rfl
 ·have hne : ¬ ValidM R C M:=by
   rintro ⟨a,b,c,-⟩
   exact hall ⟨a,b,by rw [<-HX.out]; exact c⟩
  rw [decide_eq_false hne]
  clear hne
  by_cases hR : 0<=R
  ·have hR' : ¬ R < 0:=by omega
   by_cases hC : 0<=C
   ·have hn : ¬ (n : Int) = R:=fun h=>hall ⟨hR,hC,h⟩
    have hC' : ¬ C < 0:=by omega
    clear hall
    go_enter Tryz.func46,Tryz.ntmps46
    go_upto_region 1 with (fail)
    refine wp_world ?_
    intro W0 hW0
    obtain ⟨hB0,bx1,hs0⟩:=world1 hW0
    obtain ⟨c1,c2,c3,c4,c5,c6⟩:=bx1.three
    go_wp2
    go_ret
    exact ⟨rfl,hB0⟩
   ·have hC' : C < 0:=by omega
    clear hall
    go_enter Tryz.func46,Tryz.ntmps46
    go_upto_region 1 with (fail)
    refine wp_world ?_
    intro W0 hW0
    obtain ⟨hB0,bx1,hs0⟩:=world1 hW0
    obtain ⟨c1,c2,c3,c4,c5,c6⟩:=bx1.three
    go_wp2
    go_ret
    exact ⟨rfl,hB0⟩
  ·have hR' : R < 0:=by omega
   clear hall
   go_enter Tryz.func46,Tryz.ntmps46
   go_upto_region 1 with (fail)
   refine wp_world ?_
   intro W0 hW0
   obtain ⟨hB0,bx1,hs0⟩:=world1 hW0
   obtain ⟨c1,c2,c3,c4,c5,c6⟩:=bx1.three
   go_wp2
   go_ret
   exact ⟨rfl,hB0⟩
def diagGo : Nat->List (List Int)->Bool
 | _,[]=>true
 | i,r :: rs=>decide (OffZero i r.length r) && diagGo (i + 1) rs
theorem diagGo_off {i : Nat} {r : List Int} {rs : List (List Int)} (h : ¬ OffZero i r.length r) : diagGo i (r :: rs) = false:=by
 unfold diagGo
 rw [decide_eq_false h,Bool.false_and]
theorem diagGo_step {i : Nat} {r : List Int} {rs : List (List Int)} (h : OffZero i r.length r) : diagGo i (r :: rs) = diagGo (i + 1) rs:=by
 conv=>lhs; unfold diagGo
 rw [decide_eq_true h,Bool.true_and]
set_option maxHeartbeats 2000000 in
set_option maxRecDepth 20000 in
theorem diagonal_any (v : Value) (R C : Int) (M : List (List Int)) (w : World) (h : MatV w v R C M) :
  Calls Tryz.prog 75 #[v] w fun e w'=>e = .returned (.bool (diagGo 0 M))/\Below w.heap.size w w':=by
 obtain ⟨A,rfl,h⟩:=h
 obtain ⟨ao,n,cap,rfl,e2,e3,e4,-⟩:=id h
 have HX:=Lib.hid e2
 clear e2
 go_enter Tryz.func75,Tryz.ntmps75
 go_upto_region 1 with (fail)
 refine wp_world ?_
 intro W0 hW0
 obtain ⟨hB0,bx1,hs0⟩:=world1 hW0
 obtain ⟨c1,c2,c3,c4,c5,c6⟩:=bx1.three
 go_wp2
 clear c1 c2 c3 c4 c5 c6
 go_loopw [10] (fun i wr=>∃k : Nat,k<=n/\i = .int .i64 k/\Below w.heap.size w wr/\Hid (diagGo 0 M = diagGo k (M.drop k))) (fun i _=>n - (intOf i).toNat)
 case atStart=>exact ⟨0,by omega,rfl,hB0,by rw [List.drop_zero]; exact Lib.hid rfl⟩
 case round=>
  obtain ⟨k,hk,rfl,hb,hgo⟩:=hrel
  by_cases hlt : k < n
  ·obtain ⟨b,ra,rn,rc,zs,rfl,hbl,hz,p1,hv⟩:=(h.below hb).row (k:=k) (by rw [HX.out]; exact hlt)
   have HZ:=Lib.hid hz
   have hvl:=hv.len
   have HL:=Lib.hid hvl.1
   obtain ⟨-,hl2,hl3⟩:=hvl
   clear hz
   go_wp2
   go_loopw [17] (fun j wr'=>∃m : Nat,m<=rn/\j = .int .i64 m/\Below wr.heap.size wr wr'/\Hid (∀k',k' < m->k' ≠ k->zs.getD k' 0 = 0)) (fun j _=>rn - (intOf j).toNat)
   case atStart=>exact ⟨0,by omega,rfl,Below.refl _ _,Lib.hid (fun k' h=>absurd h oM)⟩
   case round=>
    obtain ⟨m,hm,rfl,hb',hoff⟩:=hrel
    by_cases hmr : m < rn
    ·obtain ⟨b',z,s,a,l,c,rfl,hbl',hzk,q1,q2,hzv⟩:=(hv.below hb').cell (k:=m) (by rw [HL.out]; exact hmr)
     have HZK:=Lib.hid hzk
     clear hzk
     go_upto_region 7 with (fail)
     refine wp_world ?_
     intro W6 hW6
     obtain ⟨hB6,T6,hs6⟩:=world1 hW6
     obtain ⟨d1,d2,d3,d4⟩:=T6.two
     clear q1 q2 hW6
     by_cases hki : m = k
     ·subst hki
      go_wp2
      go_roundw
      case rel=>exact ⟨m + 1,by omega,by simp,nx hb' hB6,Lib.hid (fun k' h1 h2=>hoff.out k' oM h2)⟩
      case measure=>simp [intOf]; omega
     ·have hki' : ¬ (k : Int) = (m : Int):=by omega
      have hbn : ((k : Int) != (m : Int)) = true:=by simpa using hki'
      go_wp2_with fail
      refine (sign_any _ z W6 (hzv.ext (lx hB6)).weak).mono ?_
      rintro e w7 ⟨rfl,hb7⟩
      have hb9:=nx (nx hb' hB6) hb7
      by_cases hz0 : z = 0
      ·rw [cmpI_zero hz0]
       go_wp2
       go_roundw
       case rel=>
        refine ⟨m + 1,by omega,by simp,hb9,Lib.hid (fun k' h1 h2=>?_)⟩
        rcases Nat.lt_or_ge k' m with h3 | h3
        ·exact hoff.out k' h3 h2
        ·obtain rfl : k' = m:=by omega
         rw [getD_of HZK.out,hz0]
       case measure=>simp [intOf]; omega
      ·have hc:=cmpI_ne hz0
       obtain ⟨k0,hk0⟩ : ∃k0,cmpI z 0 = k0:=⟨_,rfl⟩
       rw [hk0] at hc ⊢
       have hkb : (k0 == 0) = false:=by simpa using hc
       have hkb2 : (k0 != 0) = true:=by simpa using hc
       go_wp2
       go_ret
       refine ⟨?_,nx hb hb9⟩
       rw [hgo.out,drop_cons HZ.out,diagGo_off (fun ho=>hz0 (by rw [<-getD_of HZK.out]; exact ho m (by rw [HL.out]; exact hmr) oM))]
       rfl
    ·obtain rfl : m = rn:=by omega
     go_wp2
     go_roundw
     case rel=>
      refine ⟨k + 1,by omega,by simp,nx hb hb',Lib.hid ?_⟩
      rw [hgo.out,drop_cons HZ.out,diagGo_step (by intro k' h1 h2; rw [HL.out] at h1; exact hoff.out k' h1 h2)]
     case measure=>simp [intOf]; omega
  ·obtain rfl : k = n:=by omega
   go_wp2
   go_ret
   refine ⟨?_,hb⟩
   rw [hgo.out,List.drop_eq_nil_of_le (Nat.le_of_eq HX.out)]
   rfl
theorem Tryz.infoI : (Tryz.prog.info? tI).map (fun i=>(i.zero,i.size,i.bytes)) = some (some (.agg #[.bool false,.slice none 0 0]),2,32):=by kernel_rfl
def CellsI (w : World) (cells : List Value) (zs : List Int) : Prop:=
 ∀(k : Nat) (z : Int),zs[k]? = some z->∃s a l c,cells[k * 2]? = some (.bool s)/\cells[k * 2 + 1]? = some (.slice a l c)/\IntV w (.agg #[.bool s,.slice a l c]) z
def VecO (w : World) (base : Nat) (v : Value) (zs : List Int) : Prop:=∃cells,w.ownsRow base tI 2 v zs.length cells/\CellsI w cells zs
theorem VecO.nil (w : World) (base : Nat) : VecO w base (.slice none 0 0) []:=⟨[],World.ownsRow_nil _ _ _ _,fun k z h=>by simp at h⟩
theorem VecO.below {w w' : World} {base : Nat} {v : Value} {zs : List Int} (h : VecO w base v zs) (hb : Below w.heap.size w w') : VecO w' base v zs:=by
 obtain ⟨cells,h1,h2⟩:=h
 refine ⟨cells,h1.kept (row:=none) ⟨hb.os,hb.tape,hb.output,hb.size,fun k hk _=>hb.block k hk⟩ (by cases hv : v.ownBlock <;> simp),fun k z hk=>?_⟩
 obtain ⟨s,a,l,c,e1,e2,e3⟩:=h2 k z hk
 exact ⟨s,a,l,c,e1,e2,e3.ext (lx hb)⟩
theorem VecO.vec {w : World} {base : Nat} {v : Value} {zs : List Int} (h : VecO w base v zs) : VecV w v zs:=by
 obtain ⟨cells,⟨h0,h1⟩,h2⟩:=h
 rcases h1 with ⟨rfl,hn⟩ | ⟨g,cap,cur,rfl,hg,hh,hnc,hc,hs,ht⟩
 ·have : zs = []:=List.eq_nil_of_length_eq_zero hn
  subst this
  exact VecV.nil w
 ·refine ⟨some ⟨g,0,none⟩,zs.length,cap,rfl,rfl,hnc,hc,fun _=>⟨g,rfl,cur,hh,fun k z hk=>?_⟩⟩
  obtain ⟨s,a,l,c,e1,e2,e3⟩:=h2 k z hk
  have hk' : k < zs.length:=(List.getElem?_eq_some_iff.1 hk).1
  rw [<-ht,List.getElem?_take_of_lt oM] at e1 e2
  exact ⟨s,a,l,c,by simpa using e1,by simpa using e2,e3⟩
theorem VecO.len {w : World} {base : Nat} {v : Value} {zs : List Int} (h : VecO w base v zs) : ∃ao cap,v = .slice ao zs.length cap/\zs.length<=cap/\cap<=9223372036854775807:=by
 obtain ⟨ao,n,cap,h1,h2,h3,h4,-⟩:=h.vec
 subst h2
 exact ⟨ao,cap,h1,h3,h4⟩
theorem lext_grown {w w' : World} {base : Nat} {v : Value} {n : Nat} {xs : List Value} {e : TypeId} {size : Nat} (h : w.ownsRow base e size v n xs) (he : e ≠ tU) (hg : w.grownBy w' v.ownBlock) : LExt w w':=by
 intro b cs fz hb
 have hlt:=(Array.getElem?_eq_some_iff.1 hb).1
 by_cases hv : v.ownBlock = some b
 ·exfalso
  rcases h.2 with ⟨rfl,-⟩ | ⟨g,cap,cur,rfl,-,hh,-⟩
  ·cases hv
  ·simp only [Value.ownBlock,Option.some.injEq] at hv
   subst hv
   rw [hh] at hb
   injection hb with hb
   injection hb with _ ht
   exact he ht
 ·have hne : ∀k,v.ownBlock = some k->b ≠ k:=fun k hk e=>hv (by rw [hk,e])
  rw [hg.block b hlt (by
   intro hh
   exact hv hh.symm)]
  exact hb
set_option maxRecDepth 20000 in
theorem appI {w : World} {ops : Array Oper} {rest : List Oper} {o : Oper} {a : Act} {Q : Exit->Act->World->Prop} (hgd : o.guard = none) (s x : Operand)
  (ho : o.op = .call { callee:=.builtin .append,args:=#[s,x],argTypes:=#[35,35] })
  (base : Nat) (v : Value) (zs : List Int) (hs : a.eval s = v) (hown : VecO w base v zs) (b : Nat) (c : Nat) (sn : Bool) (sa : Option Addr) (sl sc : Nat) (z : Int) (hx : a.eval x = .slice (some ⟨b,0,none⟩) 1 c)
  (hb : Blk w b tI #[.bool sn,.slice sa sl sc]) (hz : IntV w (.agg #[.bool sn,.slice sa sl sc]) z)
  (hlen : zs.length + 1<=1099511627776) (hbase : base<=w.heap.size)
  (h : ∀v' w',VecO w' base v' (zs ++ [z])->w.grownBy w' v.ownBlock->LExt w w'->wpList Tryz.prog ops Q rest (a.put o.dst v') w') : wpList Tryz.prog ops Q (o :: rest) a w:=by
 obtain ⟨i0,hi,hz0,hz1,hz2⟩:=info_parts Tryz.infoI
 obtain ⟨cells,h1,h2⟩:=hown
 have hcl : cells.length = zs.length * 2:=h1.1
 obtain ⟨c1,c2,-,-⟩:=hb.two
 refine wpList_append_own w hgd s x 35 ho base tI i0 _ 2 32 Tryz.underlying35 hi hz0 hz1 hz2 rfl oM v zs.length cells hs h1 ⟨b,0,none⟩ 1 c [.bool sn,.slice sa sl sc] hx rfl ?_ ?_ (by simp [maxLen]; omega) oM hbase ?_
 ·intro j u hj
  rw [Addr.add_lit]
  match j with
  | 0=>simp at hj; subst hj; exact c1
  | 1=>simp at hj; subst hj; exact c2
  | j + 2=>simp at hj
 ·intro u hu
  simp at hu
  rcases hu with rfl | rfl <;> rfl
 ·intro v' w' k1 k2 _
  have hx:=lext_grown h1 dE k2
  refine h v' w' ⟨cells ++ [.bool sn,.slice sa sl sc],by simpa using k1,?_⟩ k2 hx
  intro k y hk
  rcases Nat.lt_or_ge k zs.length with hlt | hge
  ·rw [List.getElem?_append_left hlt] at hk
   obtain ⟨s',a',l',c',e1,e2,e3⟩:=h2 k y hk
   exact ⟨s',a',l',c',by rw [List.getElem?_append_left oM]; exact e1,by rw [List.getElem?_append_left oM]; exact e2,e3.ext hx⟩
  ·rw [List.getElem?_append_right hge] at hk
   have hk0 : k = zs.length:=by
    have:=(List.getElem?_eq_some_iff.1 hk).1
    simp at this
    omega
   subst hk0
   simp at hk
   subst hk
   refine ⟨sn,sa,sl,sc,?_,?_,hz.ext hx⟩
   ·rw [List.getElem?_append_right oM,hcl]; simp
   ·rw [List.getElem?_append_right oM,hcl]
    rw [show zs.length * 2 + 1 - zs.length * 2 = 1 by omega]
    rfl
theorem VecO.own {w : World} {base : Nat} {v : Value} {zs : List Int} (h : VecO w base v zs) : ∀g,v.ownBlock = some g->base<=g:=by
 intro g hg
 obtain ⟨cells,⟨h0,h1⟩,h2⟩:=h
 rcases h1 with ⟨rfl,hn⟩ | ⟨g',cap,cur,rfl,hg',-⟩
 ·cases hg
 ·simp only [Value.ownBlock,Option.some.injEq] at hg
  omega
theorem VecO.mono {w : World} {base base' : Nat} {v : Value} {zs : List Int} (h : VecO w base v zs) (hb : base'<=base) : VecO w base' v zs:=by
 obtain ⟨cells,⟨h0,h1⟩,h2⟩:=h
 refine ⟨cells,⟨h0,?_⟩,h2⟩
 rcases h1 with h1 | ⟨g,cap,cur,e1,e2,e3⟩
 ·exact .inl h1
 ·exact .inr ⟨g,cap,cur,e1,Nat.le_trans hb e2,e3⟩
theorem VecO.set2 {w : World} {base r : Nat} {v : Value} {zs : List Int} (h : VecO w base v zs) (hr : r < base) {t : TypeId} {cs : Array Value} (hb : Blk w r t cs) (ht : t ≠ tU) (x y : Value) : VecO ((w.setCell ⟨r,0,none⟩ x).setCell ⟨r,1,none⟩ y) base v zs:=by
 have hx:=hb.lext2 ht x y
 obtain ⟨cells,h1,h2⟩:=h
 refine ⟨cells,ownsRow_setCell_below (ownsRow_setCell_below h1 (a:=⟨r,0,none⟩) hr x) (a:=⟨r,1,none⟩) hr y,fun k z hk=>?_⟩
 obtain ⟨s,a,l,c,e1,e2,e3⟩:=h2 k z hk
 exact ⟨s,a,l,c,e1,e2,e3.ext hx⟩
def diagL (M : List (List Int)) (n : Nat) : List Int:=(List.range n).map fun k=>(M.getD k []).getD k 0
theorem diagL_succ (M : List (List Int)) (n : Nat) : diagL M (n + 1) = diagL M n ++ [(M.getD n []).getD n 0]:=by
 unfold diagL
 rw [List.range_succ,List.map_append]
 rfl
theorem diagL_length (M : List (List Int)) (n : Nat) : (diagL M n).length = n:=by simp [diagL]
set_option maxHeartbeats 2000000 in
set_option maxRecDepth 20000 in
theorem elements_any (v : Value) (R C : Nat) (M : List (List Int)) (w : World) (h : MatV w v R C M) (hF : Fits R C M) (hR : R<=1000000) (hC : C<=1000000) :
  Calls Tryz.prog 61 #[v] w fun e w'=>∃u,e = .returned u/\VecO w' w.heap.size u (diagL M (min R C))/\Below w.heap.size w w':=by
 obtain ⟨A,rfl,h⟩:=h
 obtain ⟨ao,n,cap,rfl,e2,e3,e4,-⟩:=id h
 have HX:=Lib.hid e2
 obtain ⟨hF1,hF2⟩:=hF
 have HF:=Lib.hid hF2
 obtain rfl : n = R:=by rw [<-e2,hF1]
 obtain ⟨m,hm⟩ : ∃m,min n C = m:=⟨_,rfl⟩
 have hmn : m<=n:=by omega
 have hmc : m<=C:=by omega
 have hmi : min (n : Int) (C : Int) = (m : Int):=by omega
 rw [hm]
 clear e2 hF1 hF2
 go_enter Tryz.func61,Tryz.ntmps61
 go_upto_region 2 with (fail)
 refine wp_world ?_
 intro W0 hW0
 obtain ⟨hB0,bx1,hs0⟩:=world1 hW0
 obtain ⟨c1,c2,c3,c4,c5,c6⟩:=bx1.three
 go_wp2
 clear c1 c2 c3 c4 c5 c6
 go_loopw [3,10] (fun u iv wr=>∃k : Nat,k<=m/\iv = .int .i64 k/\VecO wr (w.heap.size + 1) u (diagL M k)/\Below w.heap.size w wr/\Blk wr w.heap.size 28 #[.int .i64 n,.int .i64 C,.slice ao n cap]) (fun _ iv _=>m - (intOf iv).toNat)
 case atStart=>exact ⟨0,by omega,rfl,VecO.nil _ _,hB0,bx1⟩
 case round=>
  obtain ⟨k,hk,rfl,ho,hb,bx1⟩:=hrel
  by_cases hlt : k < m
  ·obtain ⟨c1,c2,c3,c4,c5,c6⟩:=bx1.three
   obtain ⟨b,ra,rn,rc,zs,rfl,hbl,hz,p1,hv⟩:=(h.below hb).row (k:=k) (by rw [HX.out]; omega)
   have hzl:=HF.out zs (List.mem_of_getElem? hz)
   have hrn:=hv.len.1
   obtain rfl : rn = C:=by omega
   obtain ⟨b',z,s,a,l,c,rfl,hbl',hzk,q1,q2,hzv⟩:=hv.cell (k:=k) oM
   have hd : Hid (diagL M (k + 1) = diagL M k ++ [z]):=by
    rw [diagL_succ,getD_of hz,getD_of hzk]; exact Lib.hid rfl
   clear hz hzk hzl
   go_wp2_with (at_builtin; refine appI rfl _ _ rfl (w.heap.size + 1) _ (diagL M k) rfl (ho.below ((Below.refl _ _).alloc (Nat.le_refl _) _)) wr.heap.size 1 s a l c z rfl (Blk.new _ _ _) (hzv.ext (lx ((Below.refl _ _).alloc (Nat.le_refl _) _))) (by rw [diagL_length]; omega) (by have:=bx1.lt; simp; omega) ?_; intro v' w' hown hgr hxg)
   have hgr : World.grownBy (wr.alloc (.cells #[.bool s,.slice a l c] tI)) w' (Value.ownBlock u3):=hgr
   have hB9 : Below w.heap.size w w':=(hb.alloc hb.size _).grown hgr (by have:=hb.size; simp; omega) (fun g hg=>by have:=ho.own g hg; omega)
   have bx9 : Blk w' w.heap.size 28 #[.int .i64 n,.int .i64 rn,.slice (some ⟨b,0,none⟩) n cap]:=
    (hgr.block _ (by have:=bx1.lt; simp; omega) (fun hh=>by have:=ho.own _ hh.symm; omega)).trans (bx1.alloc _)
   go_roundw
   case rel=>exact ⟨k + 1,by omega,by simp,by rw [hd.out]; exact hown,hB9,bx9⟩
   case measure=>simp [intOf]; omega
  ·obtain rfl : k = m:=by omega
   go_wp2
   go_ret
   exact ⟨_,rfl,ho.mono (Nat.le_succ _),hb⟩
end Go.Proofs.YtnocgagoaldfnaaGreat
