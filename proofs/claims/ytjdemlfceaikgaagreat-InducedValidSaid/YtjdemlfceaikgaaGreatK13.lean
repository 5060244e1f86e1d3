/- torsionref05.Ints. torsionref05.Filled. torsionref05: Made, Square. torsionref05.Transpose; torsionref13: combine, combineColumns. torsionref13: combine, combineColumns. The two definitions of a Smith form agree. The arguments of torsionlaw13's statements, opened. Arguments of torsionlaw14's statements, opened. An int8 that came in. -/
import Derived.ChangeArms
import Derived.ProofKit
import Derived.OpenShut
import Derived.Test.YtjdemlfceaikgaaGreatK08
import Derived.Test.YtjdemlfceaikgaaGreatK10
set_option linter.unusedVariables false
set_option linter.unusedSimpArgs false
set_option linter.unusedSectionVars false
namespace Go.Proofs.YtjdemlfceaikgaaGreat
open Go.RowKit
theorem idx_lt {i j R C : Nat} (hi : i < R) (hj : j < C) : i * C + j < R * C:=by
 have : (i + 1) * C<=R * C:=Nat.mul_le_mul_right _ hi
 rw [Nat.add_mul] at this
 omega
set_option maxHeartbeats 4000000 in
set_option maxRecDepth 20000 in
theorem ints_any (v : Value) (R C : Nat) (ls : List Int) (w : World) (h : I64V w v ls) (hl : ls.length = R * C) (hR : R<=1000) (hC : C<=1000) :
  Calls Tryz.prog 39 #[.int .i64 R,.int .i64 C,v] w (RetMat w R C (genM R C (fun i j=>ls.getD (i * C + j) 0))):=by
 obtain ⟨ao,n,cap,rfl,h2,h3,h4,-,-⟩:=id h
 have HL:=Lib.hid h2
 have hnR : n = R * C:=by omega
 have HN:=Lib.hid hnR
 obtain ⟨f,hf⟩ : ∃f : Nat->Nat->Int,(fun i j=>ls.getD (i * C + j) 0) = f:=⟨_,rfl⟩
 rw [hf]
 have HFE : HidS (∀i j,f i j = ls.getD (i * C + j) 0):=⟨fun i j=>by rw [<-hf]⟩
 clear hf h2 hl hnR
 go_enter Tryz.func39,Tryz.ntmps39
 go_upto_region 1 with (fail)
 refine wp_world ?_
 intro W0 hW0
 obtain ⟨hB0,br,hs0⟩:=world1 hW0
 go_wp2_with fail
 refine (r5new_any R C W0 oM oM).mono ?_
 rintro e w2 ⟨u,bs,rfl,⟨hbl,A2,rfl,ho⟩,hb2⟩
 obtain ⟨oo,on,oc,rfl,-,-,-,-⟩:=id ho.rows
 have hlts:=ho.lts
 go_upto_region 2 with (fail)
 refine wp_world ?_
 intro W3 hW3
 obtain ⟨hB3,T5,hs3⟩:=world1 hW3
 have br:=(br.below hb2).below hB3
 have ho:=ho.below hB3
 rw [upTo_start R C f] at ho
 have hBt:=nx (nx hB0 hb2) hB3
 have q2:=hb2.size
 clear hW3 hW0
 go_wp2
 go_loopw [8] (fun iv wr=>∃i : Nat,i<=R/\iv = .int .i64 i/\Below w.heap.size w wr/\Blk wr w.heap.size 41 #[.int .i64 0,.int .i64 0,.slice none 0 0]/\Blk wr w2.heap.size 41 #[.int .i64 R,.int .i64 C,.slice oo on oc]/\RowsO wr W0.heap.size (.slice oo on oc) C bs (genM R C (upTo f i 0))) (fun iv _=>R - (intOf iv).toNat)
 case atStart=>exact ⟨0,by omega,rfl,hBt,br,T5,ho⟩
 case round=>
  obtain ⟨i,hi,rfl,hb,br,T5,ho⟩:=hrel
  by_cases hlt : i < R
  ·go_wp2
   go_loopw [9] (fun jv wr=>∃j : Nat,j<=C/\jv = .int .i64 j/\Below w.heap.size w wr/\Blk wr w.heap.size 41 #[.int .i64 0,.int .i64 0,.slice none 0 0]/\Blk wr w2.heap.size 41 #[.int .i64 R,.int .i64 C,.slice oo on oc]/\RowsO wr W0.heap.size (.slice oo on oc) C bs (genM R C (upTo f i j))) (fun jv _=>C - (intOf jv).toNat)
   case atStart=>exact ⟨0,by omega,rfl,hb,br,T5,ho⟩
   case round=>
    obtain ⟨j,hj,rfl,hb,br,T5,ho⟩:=hrel
    by_cases hjc : j < C
    ·have hmn : i * C + j < n:=by rw [HN.out]; exact idx_lt hlt hjc
     have hn6 : n<=1000000:=by rw [HN.out]; exact Nat.le_trans (Nat.mul_le_mul hR hC) oM
     obtain ⟨m,hm⟩ : ∃m,i * C + j = m:=⟨_,rfl⟩
     have hmi : (i : Int) * (C : Int) + (j : Int) = (m : Int):=by rw [<-hm,Int.natCast_add,Int.natCast_mul]
     have hp0 : 0<=(i : Int) * (C : Int):=by omega
     have hp1 : (i : Int) * (C : Int)<=1000000:=by omega
     have hw1 : IntKind.i64.wrap ((i : Int) * (C : Int)) = (i : Int) * (C : Int):=IntWalk.i64_in _ oM
     have hw2 : IntKind.i64.wrap (m : Int) = (m : Int):=IntWalk.i64_in _ oM
     have hmlt : m < n:=by omega
     have hlt3 : (i : Int) * (C : Int) + (j : Int) < (n : Int):=by omega
     obtain ⟨b,z,rfl,hbl1,hz,c1,z1,z2⟩:=(h.below hb).cell (k:=m) (by rw [HL.out]; exact hmlt)
     have hent : Hid (f i j = z):=by rw [HFE.out,hm,getD_of hz]; exact Lib.hid rfl
     obtain ⟨g,bo,rfl,hg,hbo,hbo2,o1,ho3⟩:=ho.at_ (i:=i) oM
     obtain ⟨f1,f2,f3,f4,f5,f6⟩:=T5.three
     have hio : i < on:=by omega
     have HO3:=Lib.hid ho3
     have HM:=Lib.hid hm
     clear ho3 hm hz
     have lt5:=T5.lt
     go_upto_region 8 with (fail)
     refine wp_serH 16 [pcI 14 (z)] ?_
     refine sRd ?_
     refine sRc (fun wS hI Gk hG=>by go_simp; exact ck hG (r1of_any z _ z1 z2)) (fun va14 _=>?_)
     refine sRd ?_
     refine sRe ?_
     intro w9 hbw9 ha14
     obtain ⟨pn,pa,pl,pc,px,rfl,hpx⟩:=id ha14
     have HPX:=Lib.hid hpx
     clear hpx
     have ho9:=ho.below hbw9
     obtain ⟨sn,sa,sl,sc,y1,y2,y3,y4,-⟩:=ho9.cellAt hbo hjc
     have hbolt:=hlts i bo hbo
     have hset:=ho9.set hbo hjc ha14
     clear hw1 hw2 hmi hp0 hp1 hlt3
     go_wp2
     go_roundw
     case rel=>
      rw [<-hent.out,upTo_step hlt hjc] at hset
      exact ⟨j + 1,by omega,by simp,bset (bset (nx hb hbw9) oM _ _) oM _ _,(set2_old _ _ _ _ _ _ _ oM).trans (br.below hbw9),(set2_old _ _ _ _ _ _ _ oM).trans (T5.below hbw9),hset.1⟩
     case measure=>simp [intOf]; omega
    ·obtain rfl : j = C:=by omega
     rw [upTo_row] at ho
     go_wp2
     go_roundw
     case rel=>exact ⟨i + 1,by omega,by simp,hb,br,T5,ho⟩
     case measure=>simp [intOf]; omega
  ·obtain rfl : i = R:=by omega
   rw [upTo_end] at ho
   obtain ⟨f1,f2,f3,f4,f5,f6⟩:=T5.three
   obtain ⟨r1,r2,r3,r4,r5,r6⟩:=br.three
   have q1:=hB0.size
   go_wp2
   refine bodyPost_mat rfl rfl rfl (br.put3 _ _ _) ⟨_,bs,rfl,⟨hbl,_,rfl,?_⟩,bset (bset (bset hb oM 0 _) oM 1 _) oM 2 _⟩
   exact (ho.keep (fun k hk=>set3_old _ _ k _ _ _ oM) (br.lext3 dE _ _ _)).mono q1
def I8V (w : World) (v : Value) (ls : List Int) : Prop:=
 ∃ao n cap,v = .slice ao n cap/\ls.length = n/\n<=cap/\cap<=9223372036854775807/\(∀z ∈ ls,-128<=z/\z<=127) ∧
  (ls ≠ []->∃b off,ao = some ⟨b,off,none⟩/\b < w.heap.size/\∀(k : Nat) (z : Int),ls[k]? = some z->w.cell? ⟨b,off + k,none⟩ = some (.int .i8 z))
theorem I8V.cell {w : World} {ao : Option Addr} {n cap : Nat} {ls : List Int} (h : I8V w (.slice ao n cap) ls) {k : Nat} (hk : k < ls.length) :
  ∃b off z,ao = some ⟨b,off,none⟩/\b < w.heap.size/\ls[k]? = some z/\w.cell? ⟨b,off + k,none⟩ = some (.int .i8 z)/\-128<=z/\z<=127:=by
 obtain ⟨ao',n',cap',h1,h2,h3,h4,h5,h6⟩:=h
 injection h1 with e1 e2 e3
 subst e1
 obtain ⟨b,off,e,hb,hc⟩:=h6 (by rintro rfl; simp at hk)
 have hz:=List.getElem?_eq_getElem hk
 have:=h5 _ (List.mem_of_getElem? hz)
 exact ⟨b,off,_,e,hb,hz,hc _ _ hz,this.1,this.2⟩
theorem I8V.below {w w' : World} {v : Value} {ls : List Int} (h : I8V w v ls) (hb : Below w.heap.size w w') : I8V w' v ls:=by
 obtain ⟨ao,n,cap,h1,h2,h3,h4,h5,h6⟩:=h
 refine ⟨ao,n,cap,h1,h2,h3,h4,h5,fun hne=>?_⟩
 obtain ⟨b,off,e,hlt,hc⟩:=h6 hne
 exact ⟨b,off,e,Nat.lt_of_lt_of_le hlt hb.size,fun k z hz=>(hb.cell (p:=⟨b,off + k,none⟩) hlt).trans (hc k z hz)⟩
def digF (C : Nat) (ls : List Int) : Nat->Nat->Int:=fun i j=>(ls.getD (i * C + j) 0).tmod 10
theorem digF_out {C : Nat} {ls : List Int} {i j : Nat} (h : ls.length<=i * C + j) : digF C ls i j = 0:=by
 unfold digF
 rw [List.getD_eq_getElem?_getD,List.getElem?_eq_none h]
 rfl
theorem tmod10 {z : Int} : (Int.tmod z 10).natAbs<=9:=by
 rcases Int.le_total 0 z with h | h
 ·rw [Int.tmod_eq_emod_of_nonneg h]; omega
 ·have : Int.tmod z 10 = -(Int.tmod (-z) 10):=by rw [Int.neg_tmod]; omega
  rw [this,Int.tmod_eq_emod_of_nonneg oM]; omega
theorem digF_le (C : Nat) (ls : List Int) (i j : Nat) : (digF C ls i j).natAbs<=9:=tmod10
theorem upTo_rest {R C : Nat} {f : Nat->Nat->Int} {i j : Nat} (h : ∀b,j<=b->f i b = 0) : genM R C (upTo f i j) = genM R C (upTo f (i + 1) 0):=
 genM_congr fun a _ b _=>by
  unfold upTo
  by_cases e : a < i ∨ (a = i/\b < j)
  ·rw [if_pos e,if_pos oM]
  ·rw [if_neg e]
   by_cases e2 : a < i + 1 ∨ a = i + 1/\b < 0
   ·rw [if_pos e2]
    obtain rfl : a = i:=by omega
    exact (h b oM).symm
   ·rw [if_neg e2]
set_option maxHeartbeats 4000000 in
set_option maxRecDepth 20000 in
theorem filled_any (v : Value) (R C : Nat) (ls : List Int) (w : World) (h : I8V w v ls) (hR : R<=16) (hC : C<=16) :
  Calls Tryz.prog 104 #[.int .i64 R,.int .i64 C,v] w (RetMat w R C (genM R C (digF C ls))):=by
 obtain ⟨ao,n,cap,rfl,h2,h3,h4,-,-⟩:=id h
 have HL:=Lib.hid h2
 obtain ⟨f,hf⟩ : ∃f : Nat->Nat->Int,digF C ls = f:=⟨_,rfl⟩
 rw [hf]
 have HFE : HidS (∀i j,f i j = digF C ls i j):=⟨fun i j=>by rw [<-hf]⟩
 clear hf h2
 go_enter Tryz.func104,Tryz.ntmps104
 go_upto_region 1 with (fail)
 refine wp_world ?_
 intro W0 hW0
 obtain ⟨hB0,br,hs0⟩:=world1 hW0
 have e1 : min (R : Int) 16 = R:=by omega
 have e2 : min (C : Int) 16 = C:=by omega
 go_wp2_with fail
 refine (r5new_any R C W0 oM oM).mono ?_
 rintro e w2 ⟨u,bs,rfl,⟨hbl,A2,rfl,ho⟩,hb2⟩
 obtain ⟨oo,on,oc,rfl,-,-,-,-⟩:=id ho.rows
 have hlts:=ho.lts
 go_upto_region 2 with (fail)
 refine wp_world ?_
 intro W3 hW3
 obtain ⟨hB3,T7,hs3⟩:=world1 hW3
 have br:=(br.below hb2).below hB3
 have ho:=ho.below hB3
 rw [upTo_start R C f] at ho
 have hBt:=nx (nx hB0 hb2) hB3
 have q2:=hb2.size
 clear hW3 hW0 e1 e2
 go_wp2
 go_loopw [8] (fun iv wr=>∃i : Nat,i<=R/\iv = .int .i64 i/\Below w.heap.size w wr/\Blk wr w.heap.size 41 #[.int .i64 0,.int .i64 0,.slice none 0 0]/\Blk wr w2.heap.size 41 #[.int .i64 R,.int .i64 C,.slice oo on oc]/\RowsO wr W0.heap.size (.slice oo on oc) C bs (genM R C (upTo f i 0))) (fun iv _=>R - (intOf iv).toNat)
 case atStart=>exact ⟨0,by omega,rfl,hBt,br,T7,ho⟩
 case round=>
  obtain ⟨i,hi,rfl,hb,br,T7,ho⟩:=hrel
  obtain ⟨f1,f2,f3,f4,f5,f6⟩:=T7.three
  by_cases hlt : i < R
  ·go_wp2
   clear f1 f2 f3 f4 f5 f6
   go_loopw [9] (fun jv wr=>∃j : Nat,j<=C/\jv = .int .i64 j/\Below w.heap.size w wr/\Blk wr w.heap.size 41 #[.int .i64 0,.int .i64 0,.slice none 0 0]/\Blk wr w2.heap.size 41 #[.int .i64 R,.int .i64 C,.slice oo on oc]/\RowsO wr W0.heap.size (.slice oo on oc) C bs (genM R C (upTo f i j))) (fun jv _=>C - (intOf jv).toNat)
   case atStart=>exact ⟨0,by omega,rfl,hb,br,T7,ho⟩
   case round=>
    obtain ⟨j,hj,rfl,hb,br,T7,ho⟩:=hrel
    obtain ⟨f1,f2,f3,f4,f5,f6⟩:=T7.three
    obtain ⟨m,hm⟩ : ∃m,i * C + j = m:=⟨_,rfl⟩
    have hmi : (i : Int) * (C : Int) + (j : Int) = (m : Int):=by rw [<-hm,Int.natCast_add,Int.natCast_mul]
    have hiC : i * C<=16 * 16:=Nat.mul_le_mul oM hC
    have hp0 : 0<=(i : Int) * (C : Int):=by rw [<-Int.natCast_mul]; omega
    have hp1 : (i : Int) * (C : Int)<=1000000:=by rw [<-Int.natCast_mul]; omega
    have hw1 : IntKind.i64.wrap ((i : Int) * (C : Int)) = (i : Int) * (C : Int):=IntWalk.i64_in _ oM
    have hw2 : IntKind.i64.wrap (m : Int) = (m : Int):=IntWalk.i64_in _ oM
    have hmm : IntKind.i64.wrap ((i : Int) * (C : Int) + (j : Int)) = (m : Int):=by rw [hmi,hw2]
    by_cases hjc : j < C
    ·by_cases hmn : m < n
     ·obtain ⟨b,off,z,rfl,hbl1,hz,c1,z1,z2⟩:=h.cell (k:=m) (by rw [HL.out]; exact hmn)
      have hcell:=(hb.cell (p:=⟨b,off + m,none⟩) hbl1).trans c1
      have hent : Hid (f i j = Int.tmod z 10):=Lib.hid (by rw [HFE.out]; unfold digF; rw [hm,getD_of hz])
      have ht9 : (Int.tmod z 10).natAbs<=9:=tmod10
      obtain ⟨t,ht⟩ : ∃t,Int.tmod z 10 = t:=⟨_,rfl⟩
      rw [ht] at hent ht9
      obtain ⟨g,bo,rfl,hg,hbo,hbo2,o1,ho3⟩:=ho.at_ (i:=i) oM
      have hio : i < on:=by omega
      have HO3:=Lib.hid ho3
      have HM:=Lib.hid hm
      have HT:=HidS.mk ht
      have lt7:=T7.lt
      clear ho3 hm hz hiC c1 ht
      go_upto_region 8 with (fail)
      refine wp_serH 19 [pcD 15 [] (fun _ v=>v = .int .i8 t),pcD 16 [] (fun _ v=>v = .int .i64 t),pcI 17 (t)] ?_
      refine sRd ?_
      refine sRc (fun wS hI Gk hG=>?_) (fun _ hv=>?_)
      ·go_simp
       exact ⟨hG _ _ (congrArg (Value.int .i8) HT.out),Below.refl _ _⟩
      obtain ⟨_,-,rfl⟩:=hv
      refine sRc (fun wS hI Gk hG=>?_) (fun _ hv=>?_)
      ·go_simp
       exact ⟨hG _ _ (congrArg (Value.int .i64) (IntWalk.i64_in _ oM)),Below.refl _ _⟩
      obtain ⟨_,-,rfl⟩:=hv
      refine sRc (fun wS hI Gk hG=>by go_simp; exact ck hG (r1of_any t _ oM oM)) (fun va17 _=>?_)
      refine sRd ?_
      refine sRe ?_
      intro w9 hbw9 _ _ ha17
      obtain ⟨pn,pa,pl,pc,px,rfl,hpx⟩:=id ha17
      have HPX:=Lib.hid hpx
      clear hpx
      have ho9:=ho.below hbw9
      obtain ⟨sn,sa,sl,sc,y1,y2,y3,y4,-⟩:=ho9.cellAt hbo hjc
      have hbolt:=hlts i bo hbo
      have hset:=ho9.set hbo hjc ha17
      clear hw1 hw2 hmi hp0 hp1 hmm ht9
      go_wp2
      go_roundw
      case rel=>
       rw [<-hent.out,upTo_step hlt hjc] at hset
       exact ⟨j + 1,by omega,by simp,bset (bset (nx hb hbw9) oM _ _) oM _ _,(set2_old _ _ _ _ _ _ _ oM).trans (br.below hbw9),(set2_old _ _ _ _ _ _ _ oM).trans (T7.below hbw9),hset.1⟩
      case measure=>simp [intOf]; omega
     ·have hrest : ∀b,j<=b->f i b = 0:=fun b hb=>by
       rw [HFE.out]
       exact digF_out (by rw [HL.out]; omega)
      rw [upTo_rest hrest] at ho
      clear hmi hp0 hp1 hiC hm
      go_wp2
      go_roundw
      case rel=>exact ⟨i + 1,by omega,by simp,hb,br,T7,ho⟩
      case measure=>simp [intOf]; omega
    ·obtain rfl : j = C:=by omega
     rw [upTo_row] at ho
     clear hmi hp0 hp1 hmm hw1 hw2
     go_wp2
     go_roundw
     case rel=>exact ⟨i + 1,by omega,by simp,hb,br,T7,ho⟩
     case measure=>simp [intOf]; omega
  ·obtain rfl : i = R:=by omega
   rw [upTo_end] at ho
   obtain ⟨r1,r2,r3,r4,r5,r6⟩:=br.three
   have q1:=hB0.size
   go_wp2
   refine bodyPost_mat rfl rfl rfl (br.put3 _ _ _) ⟨_,bs,rfl,⟨hbl,_,rfl,?_⟩,bset (bset (bset hb oM 0 _) oM 1 _) oM 2 _⟩
   exact (ho.keep (fun k hk=>set3_old _ _ k _ _ _ oM) (br.lext3 dE _ _ _)).mono q1


def addC (F : Nat->Nat->Int) (i j : Nat) (k : Int) : Nat->Nat->Int:=fun a b=>if b = i then F a i + k * F a j else F a b
def addFu (F : Nat->Nat->Int) (i j : Nat) (k : Int) (c : Nat) : Nat->Nat->Int:=fun a b=>if a = i/\b < c then F i b + k * F j b else F a b
def addCu (F : Nat->Nat->Int) (i j : Nat) (k : Int) (c : Nat) : Nat->Nat->Int:=fun a b=>if b = i/\a < c then F a i + k * F a j else F a b

end Go.Proofs.YtjdemlfceaikgaaGreat

namespace Go.Proofs.YtjdemlfceaikgaaGreat
open Go.ChangeShapes Go.WideShapes Go.ChangeAt Go.RowKit
theorem Tryz.own : ownKnob Tryz.prog.godebug = none:=by kernel_rfl
theorem Tryz.laidOut : laidOutB Tryz.prog = true:=by kernel_rfl
theorem cells5 : Tryz.prog.cellsOf 5 = 1:=by kernel_rfl
theorem open_i8 {H : Type} {enc : TypeId × Value->H} {w : World} {f : Nat} {cs : List Value} {y : DataW H × List MemPlace} (hf : DataW.trod enc Tryz.prog w 0 (fun _=>true) true f 26 cs = some y) (hlt : ∀x ∈ y.2,x.block < w.heap.size) :
  ∃ao n cap ls,cs = [.slice ao n cap]/\I8V w (.slice ao n cap) ls:=by
 rcases open_ints Tryz.underlying26 Tryz.underlying25 kR hf with ⟨e1,-⟩ | ⟨a,len,cap,zs,e1,-,hl,hm,hzl,e2,hcell,hwf⟩
 ·exact ⟨none,0,0,[],e1,none,0,0,rfl,rfl,Nat.le_refl _,by omega,fun z hz=>(by cases hz),fun h=>absurd rfl h⟩
 ·simp only [if_true] at hzl
  unfold maxLen at hm
  refine ⟨some a,len,cap,zs.take len,e1,some a,len,cap,rfl,by simp; omega,hl,by omega,fun z hz=>?_,fun h=>?_⟩
  ·have:=hwf z (List.mem_of_mem_take hz)
   exact bounds_i8 this
  ·have hpos : 0 < zs.length:=by
    rcases Nat.eq_zero_or_pos zs.length with h0 | h0
    ·exact absurd (by rw [List.eq_nil_of_length_eq_zero h0]; simp) h
    ·exact h0
   obtain ⟨b,off,rfl,hj⟩:=ints_at hcell hpos
   refine ⟨b,off,rfl,?_,fun k z hk=>?_⟩
   ·exact hlt (.cell b off) (by rw [e2]; exact MemPlace.mem_row.2 ⟨0,hpos,rfl⟩)
   ·obtain ⟨h1,h2⟩:=List.getElem?_eq_some_iff.1 hk
    rw [List.getElem_take] at h2
    have hkz : k < zs.length:=by
     simp at h1
     omega
    rw [hj k hkz,<-h2]
    simp [hkz]
set_option maxRecDepth 100000 in
theorem open_i8v {H : Type} {enc : TypeId × Value->H} {w : World} {b0 : Nat} {r : Reach} {v : Value} {d : DataW H} {ps : List MemPlace} (hval : Value.okWide Tryz.prog w r b0 26 v)
  (h : DataW.Trod enc Tryz.prog w 0 (fun _=>true) true 26 v d ps) (hlt : ∀x ∈ ps,x.block < w.heap.size) : ∃ls,I8V w v ls:=by
 obtain ⟨a0,len0,cap0,rfl⟩:=okWide_slice Tryz.underlying26 hval
 obtain ⟨fuel,hf⟩:=h
 obtain ⟨ao,n,cap,ls,hk,hI⟩:=open_i8 hf hlt
 simp [Value.cells] at hk
 obtain ⟨rfl,rfl,rfl⟩:=hk
 exact ⟨ls,hI⟩

end Go.Proofs.YtjdemlfceaikgaaGreat
