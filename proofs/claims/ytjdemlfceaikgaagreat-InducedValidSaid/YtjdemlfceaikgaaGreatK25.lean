/- torsionref29.Proper. torsionref29.Valid. torsionref26.Vector, Row: the coefficients of a chain of one dimension. torsionref29.Made: a complex, its first cells, and a map. torsionref26.Row, Combination, Cyclic. torsionref26.Cyclic: a combination of cycles. -/
import Derived.Test.YtjdemlfceaikgaaGreatK20
import Derived.Test.YtjdemlfceaikgaaGreatK23
set_option linter.unusedVariables false
set_option linter.unusedSimpArgs false
set_option linter.unusedSectionVars false
namespace Go.Proofs.YtjdemlfceaikgaaGreat
open Go.RowKit
theorem adj_pw {α : Type} {k : α->Int} {x : List α} (h : ∀j,j < x.length->0 < j->∀f g,x[j - 1]? = some f->x[j]? = some g->k f < k g) : x.Pairwise fun a b=>k a < k b:=by
 rw [List.pairwise_iff_getElem]
 have key : ∀d i,∀(h1 : i + d + 1 < x.length),k (x[i]'oM) < k (x[i + d + 1]'h1):=fun d=>by
  induction d with
  | zero=>
   intro i h1
   exact h (i + 1) h1 oM _ _ (by rw [Nat.add_sub_cancel]; exact List.getElem?_eq_getElem oM) (List.getElem?_eq_getElem h1)
  | succ d ih=>
   intro i h1
   have h2:=ih i oM
   have h3:=h (i + d + 1 + 1) oM oM _ _ (by rw [Nat.add_sub_cancel]; exact List.getElem?_eq_getElem oM) (List.getElem?_eq_getElem oM)
   have h4 : i + (d + 1) + 1 = i + d + 1 + 1:=by omega
   simp only [h4]
   exact Int.lt_trans h2 h3
 intro i j hi hj hij
 obtain ⟨d,rfl⟩ : ∃d,j = i + d + 1:=⟨j - i - 1,by omega⟩
 exact key d i hj
def mupB (m : Mp) (i : Nat) : Prop:=∀j,j < i->(∀f,m[j]? = some f->ValC f.2)/\(0 < j->∀f g,m[j - 1]? = some f->m[j]? = some g->f.1 < g.1)
theorem mup_prp {m : Mp} : mupB m m.length ↔ PrpM m:=by
 constructor
 ·intro h
  refine ⟨adj_pw fun j hj h0 f g hf hg=>(h j hj).2 h0 f g hf hg,fun f hf=>?_⟩
  obtain ⟨i,hi,rfl⟩:=List.getElem_of_mem hf
  exact (h i hi).1 _ (List.getElem?_eq_getElem hi)
 ·intro h j hj
  refine ⟨fun f hf=>h.val f (List.mem_of_getElem? hf),fun h0 f g hf hg=>?_⟩
  obtain ⟨h1,rfl⟩:=List.getElem?_eq_some_iff.1 hf
  obtain ⟨h2,rfl⟩:=List.getElem?_eq_some_iff.1 hg
  exact List.pairwise_iff_getElem.1 h.srt (j - 1) j h1 h2 oM
theorem mup_step {m : Mp} {i : Nat} {f : Int × Ch} (h : mupB m i) (hf : m[i]? = some f) (hv : ValC f.2) (ha : ∀p g,i = p + 1->m[p]? = some g->g.1 < f.1) : mupB m (i + 1):=fun j hj=>by
 by_cases hji : j = i
 ·subst hji
  refine ⟨fun u hu=>?_,fun h0 u z hu hz=>?_⟩
  ·rw [hf] at hu
   cases hu
   exact hv
  ·rw [hf] at hz
   cases hz
   exact ha (j - 1) u oM hu
 ·exact h j oM
set_option maxHeartbeats 8000000 in
set_option maxRecDepth 20000 in
theorem proper_any (v : Value) (m : Mp) (w : World) (h : MapV w v m) :
  Calls Tryz.prog 23 #[v] w fun e w'=>∃q,e = .returned (.bool q)/\(q = true ↔ PrpM m)/\Below w.heap.size w w':=by
 obtain ⟨ao,ac,rfl,-,hc1⟩:=id h.shape
 obtain ⟨n,hxn⟩ : ∃n,m.length = n:=⟨_,rfl⟩
 have hl:=h.len
 rw [hxn] at h hl ⊢
 have hn9 : n<=9223372036854775807:=by omega
 have H:=HidS.mk h
 have HXN:=HidS.mk hxn
 have HVV : HidS (mupB m n ↔ PrpM m):=⟨by rw [<-hxn]; exact mup_prp⟩
 clear h hxn
 go_enter Tryz.func23,Tryz.ntmps23
 go_wp2
 go_loopw [3] (fun iv wr=>∃i : Nat,i<=n/\iv = .int .i64 i/\HidS (mupB m i)/\Below w.heap.size w wr) (fun iv _=>n - (intOf iv).toNat)
 case atStart=>exact ⟨0,by omega,rfl,⟨fun j hj=>by omega⟩,Below.refl _ _⟩
 case round=>
  obtain ⟨i,hi,rfl,hT,hB⟩:=hrel
  by_cases hlt : i < n
  ·obtain ⟨f,hf⟩:=lt_get HXN.out hlt
   obtain ⟨b1,o1,q1,rfl,hb1,f1,f2,hv1⟩:=(H.out.below hB).img hf
   have HV:=HidS.mk hv1
   have HF:=HidS.mk hf
   clear hv1 hf
   have hl1 : LastsB (fun (_ : World) v=>∃q,v = Value.bool q/\(q = true ↔ ValC f.2)):=fun _ _ _ _ h=>h
   by_cases hi0 : i = 0
   ·subst hi0
    have h00 : ((0 : Nat) : Int) = 0:=rfl
    rw [h00]
    simp only [h00,Nat.zero_mul,Nat.zero_add] at f1 f2
    go_upto_region 4 with (fail)
    refine wp_ser [pcD 22 [] (fun _ v=>∃q,v = Value.bool q/\(q = true ↔ ValC f.2))] ?_
    refine sRd ?_
    refine sRc (fun wS hI Gk hG=>by go_simp; exact ck hG ((cvalid_any _ f.2 wS (HV.out.below hI.bel)).mono fun e w' ⟨q,h1,h2,h3⟩=>⟨_,h1,⟨q,rfl,h2⟩,h3⟩)) (fun _ hv=>?_)
    obtain ⟨_,-,q,rfl,hq⟩:=hv
    have HQ:=HidS.mk hq
    clear hq
    refine sRd ?_
    refine sRe ?_
    intro w2 hb2 _
    cases q
    ·have HNO : HidS (¬ PrpM m):=⟨fun hp=>by
      have:=HQ.out.2 (hp.val f (List.mem_of_getElem? HF.out))
      cases this⟩
     go_wp2
     go_ret
     first | exact ⟨false,rfl,⟨fun h=>(by cases h),fun h=>absurd h HNO.out⟩,nx hB hb2⟩ | exact .inl ⟨rfl,HNO.out,nx hB hb2⟩
    ·have HT1 : HidS (mupB m 1):=⟨mup_step hT.out HF.out (HQ.out.1 rfl) fun p g h=>by omega⟩
     go_wp2
     go_roundw
     case rel=>exact ⟨1,by omega,by simp,HT1,nx hB hb2⟩
     case measure=>simp [intOf]; omega
   ·obtain ⟨p,hp⟩ : ∃p,i = p + 1:=⟨i - 1,by omega⟩
    have hpn : p < n:=by omega
    obtain ⟨g,hg⟩:=lt_get HXN.out hpn
    obtain ⟨b2,o2,q2,eb,hb2,g1,g2,hv2⟩:=(H.out.below hB).img hg
    cases eb
    have HG:=HidS.mk hg
    have hpI : (i : Int) - 1 = (p : Int):=by omega
    have hwp : IntKind.i64.wrap (p : Int) = (p : Int):=IntWalk.i64_in _ oM
    have hgt : (i : Int) > 0:=by omega
    have hgt2 : (0 : Int) < (i : Int):=by omega
    have hgt3 : 0 < i:=by omega
    have HPI:=HidS.mk hp
    clear hg hv2 hp
    by_cases hle : g.1 < f.1
    ·have hd : decide (g.1 ≥ f.1) = false:=decide_eq_false oM
     go_upto_region 4 with (fail)
     refine wp_ser [pcD 5 [] (fun _ v=>v = .int .i64 p),pcD 14 [] (fun _ v=>v = .bool false),pcD 22 [] (fun _ v=>∃q,v = Value.bool q/\(q = true ↔ ValC f.2))] ?_
     refine sRd ?_
     refine sRc (fun wS hI Gk hG=>by go_simp; exact ⟨hG _ _ rfl,Below.refl _ _⟩) (fun va3 hv3=>?_)
     obtain ⟨_,-,hv3⟩:=hv3
     obtain rfl : va3 = .int .i64 p:=hv3
     refine sRd ?_
     refine sRc (fun wS hI Gk hG=>by go_simp; exact ⟨hG _ _ (by first | rfl | exact congrArg Value.bool hd),Below.refl _ _⟩) (fun va3 hv3=>?_)
     obtain ⟨_,-,hv3⟩:=hv3
     obtain rfl : va3 = .bool false:=hv3
     refine sRd ?_
     refine sRc (fun wS hI Gk hG=>by go_simp; exact ck hG ((cvalid_any _ f.2 wS (HV.out.below hI.bel)).mono fun e w' ⟨q,h1,h2,h3⟩=>⟨_,h1,⟨q,rfl,h2⟩,h3⟩)) (fun _ hv=>?_)
     obtain ⟨_,-,q,rfl,hq⟩:=hv
     have HQ:=HidS.mk hq
     clear hq
     refine sRd ?_
     refine sRe ?_
     intro w2 hb2 _ _ _
     cases q
     ·have HNO : HidS (¬ PrpM m):=⟨fun hp=>by
       have:=HQ.out.2 (hp.val f (List.mem_of_getElem? HF.out))
       cases this⟩
      go_wp2
      go_ret
      first | exact ⟨false,rfl,⟨fun h=>(by cases h),fun h=>absurd h HNO.out⟩,nx hB hb2⟩ | exact .inl ⟨rfl,HNO.out,nx hB hb2⟩
     ·have HT1 : HidS (mupB m (i + 1)):=⟨mup_step hT.out HF.out (HQ.out.1 rfl) fun p' g' e1 e2=>by
       have e3:=HPI.out
       obtain rfl : p' = p:=by omega
       rw [HG.out] at e2
       cases e2
       exact hle⟩
      clear hpI hwp
      go_wp2
      go_roundw
      case rel=>exact ⟨i + 1,by omega,by simp,HT1,nx hB hb2⟩
      case measure=>simp [intOf]; omega
    ·have hd : decide (g.1 ≥ f.1) = true:=decide_eq_true oM
     have HNO : HidS (¬ PrpM m):=⟨fun hp=>by
      have h2:=((HVV.out.2 hp) i hlt).2 oM g f (by rw [HPI.out,Nat.add_sub_cancel]; exact HG.out) HF.out
      exact hle h2⟩
     go_upto_region 4 with (fail)
     refine wp_ser [pcD 5 [] (fun _ v=>v = .int .i64 p),pcD 14 [] (fun _ v=>v = .bool true)] ?_
     refine sRd ?_
     refine sRc (fun wS hI Gk hG=>by go_simp; exact ⟨hG _ _ rfl,Below.refl _ _⟩) (fun va3 hv3=>?_)
     obtain ⟨_,-,hv3⟩:=hv3
     obtain rfl : va3 = .int .i64 p:=hv3
     refine sRd ?_
     refine sRc (fun wS hI Gk hG=>by go_simp; exact ⟨hG _ _ (by first | rfl | exact congrArg Value.bool hd),Below.refl _ _⟩) (fun va3 hv3=>?_)
     obtain ⟨_,-,hv3⟩:=hv3
     obtain rfl : va3 = .bool true:=hv3
     refine sRd ?_
     refine sRe ?_
     intro w2 hb2 _ _
     go_wp2
     go_ret
     first | exact ⟨false,rfl,⟨fun h=>(by cases h),fun h=>absurd h HNO.out⟩,nx hB hb2⟩ | exact .inl ⟨rfl,HNO.out,nx hB hb2⟩
  ·obtain rfl : n = i:=by omega
   go_wp2
   go_ret
   exact ⟨true,rfl,⟨fun _=>HVV.out.1 hT.out,fun _=>rfl⟩,hB⟩
def cellP (b : Cx) (f : Cel) (g : Int × Ch) : Prop:=g.1 = f.1/\(dimC b g.2).2 = 0/\(g.2 ≠ []->(dimC b g.2).1 = f.2.1)
def comP (b : Cx) (m : Mp) (f : Cel) (g : Int × Ch) : Prop:=edC b g.2 = apC m f.2.2
def uptP (P : Cel->Int × Ch->Prop) (a : Cx) (m : Mp) (i : Nat) : Prop:=∀j,j < i->∀f g,a[j]? = some f->m[j]? = some g->P f g
theorem uptP.step {P : Cel->Int × Ch->Prop} {a : Cx} {m : Mp} {i : Nat} {f : Cel} {g : Int × Ch} (h : uptP P a m i) (hf : a[i]? = some f) (hg : m[i]? = some g) (hp : P f g) : uptP P a m (i + 1):=fun j hj u z hu hz=>by
 by_cases hji : j = i
 ·subst hji
  rw [hf] at hu
  rw [hg] at hz
  cases hu
  cases hz
  exact hp
 ·exact h j oM u z hu hz
structure ValR (a b : Cx) (m : Mp) : Prop where
 prp : PrpM m
 len : m.length = a.length
 cel : uptP (cellP b) a m a.length
 com : uptP (comP b m) a m a.length
set_option maxHeartbeats 16000000 in
set_option maxRecDepth 20000 in
theorem val29_any (va vb vm : Value) (a b : Cx) (m : Mp) (w : World) (ha : CpxV w va a) (hb : CpxV w vb b) (hm : MapV w vm m) (hE : ∀g ∈ m,ActOk (bOf b) g.2) (hI : ∀f ∈ a,ActOk (imgM m) f.2.2) :
  Calls Tryz.prog 22 #[va,vb,vm] w fun e w'=>∃q,e = .returned (.bool q)/\(q = true ↔ ValR a b m)/\Below w.heap.size w w':=by
 obtain ⟨ao,ac,rfl,-,hc1⟩:=id ha.shape
 obtain ⟨bo,bc,rfl,-,hc2⟩:=id hb.shape
 obtain ⟨mo,mc,rfl,-,hc3⟩:=id hm.shape
 obtain ⟨n,han⟩ : ∃n,a.length = n:=⟨_,rfl⟩
 obtain ⟨q,hmq⟩ : ∃n,m.length = n:=⟨_,rfl⟩
 obtain ⟨bl,hbl⟩ : ∃n,b.length = n:=⟨_,rfl⟩
 have hl1:=ha.len
 have hl2:=hm.len
 rw [han] at ha hl1 ⊢
 rw [hmq] at hm hl2 ⊢
 rw [hbl] at hb ⊢
 have hn9 : n<=9223372036854775807:=by omega
 have hq9 : q<=9223372036854775807:=by omega
 have HA:=HidS.mk ha
 have HB:=HidS.mk hb
 have HM:=HidS.mk hm
 have HAN:=HidS.mk han
 have HMQ:=HidS.mk hmq
 have HEE:=HidS.mk hE
 have HII:=HidS.mk hI
 clear ha hb hm han hmq hE hI hl1 hl2 hbl
 go_enter Tryz.func22,Tryz.ntmps22
 go_wp2_with fail
 refine (proper_any _ m w HM.out).mono ?_
 rintro e w2 ⟨qp,rfl,hqp,hb2⟩
 have HQP:=HidS.mk hqp
 clear hqp
 cases qp
 ·have HNO : HidS (¬ ValR a b m):=⟨fun h=>by
   have:=HQP.out.2 h.prp
   cases this⟩
  go_wp2
  go_ret
  first | exact ⟨false,rfl,⟨fun h=>(by cases h),fun h=>absurd h HNO.out⟩,hb2⟩ | exact .inl ⟨rfl,HNO.out,hb2⟩
 ·have HPR : HidS (PrpM m):=⟨HQP.out.1 rfl⟩
  clear HQP
  by_cases hqn : q = n
  ·subst hqn
   go_wp2
   go_loopw [7,8,9] (fun iv _ _ wr=>∃i : Nat,i<=q/\iv = .int .i64 i/\HidS (uptP (cellP b) a m i)/\Below w.heap.size w wr) (fun iv _ _ _=>q - (intOf iv).toNat)
   case atStart=>exact ⟨0,by omega,rfl,⟨fun j hj=>by omega⟩,hb2⟩
   case round=>
    clear hb2
    obtain ⟨i,hi,rfl,hT,hB⟩:=hrel
    by_cases hlt : i < q
    ·obtain ⟨f,hf⟩:=lt_get HAN.out hlt
     obtain ⟨g,hg⟩:=lt_get HMQ.out hlt
     obtain ⟨b1,o1,q1,rfl,hb1,f1,f2,f3,hv1⟩:=(HA.out.below hB).cel hf
     obtain ⟨b2,o2,q2,rfl,hb2,g1,g2,hv2⟩:=(HM.out.below hB).img hg
     have HF:=HidS.mk hf
     have HG:=HidS.mk hg
     clear hv1 hv2 hf hg
     by_cases hid : g.1 = f.1
     ·have hne : (g.1 != f.1) = false:=by simpa using hid
      have HID:=HidS.mk hid
      clear hid
      go_upto_region 6 with (fail)
      refine wp_ser [] ?_
      refine sRd ?_
      refine sRf ?_
      intro w5 hb5
      have hB5:=nx hB hb5
      obtain ⟨b',o1',q1',eb,hb1',f1,f2,f3,hv1⟩:=(HA.out.below hB5).cel HF.out
      cases eb
      obtain ⟨b',o2',q2',eb,hb2',g1,g2,hv2⟩:=(HM.out.below hB5).img HG.out
      cases eb
      have HV2:=HidS.mk hv2
      clear hv1 hv2
      go_wp2_with fail
      refine (dim_any _ _ b g.2 w5 (HB.out.below hB5) HV2.out).mono ?_
      rintro e w6 ⟨rfl,hb6⟩
      have hB6:=nx hB5 hb6
      obtain ⟨d1,hd1⟩ : ∃d,(dimC b g.2).1 = d:=⟨_,rfl⟩
      obtain ⟨d2,hd2⟩ : ∃d,(dimC b g.2).2 = d:=⟨_,rfl⟩
      obtain ⟨gl,hgl⟩ : ∃d,g.2.length = d:=⟨_,rfl⟩
      clear f1 f2 f3 g1 g2
      obtain ⟨b',o1',q1',eb,hb1',f1,f2,f3,hv1⟩:=(HA.out.below hB6).cel HF.out
      cases eb
      obtain ⟨b',o2',q2',eb,hb2',g1,g2,hv2⟩:=(HM.out.below hB6).img HG.out
      cases eb
      have hgl9 : gl<=9223372036854775807:=by have:=hv2.len; omega
      rw [hd1,hd2]
      rw [hgl] at g2
      have HD1:=HidS.mk hd1
      have HD2:=HidS.mk hd2
      have HGL:=HidS.mk hgl
      clear hv1 hv2 hd1 hd2 hgl
      by_cases h0 : d2 = 0
      ·subst h0
       by_cases hgl0 : gl = 0
       ·subst hgl0
        have HT1 : HidS (uptP (cellP b) a m (i + 1)):=⟨hT.out.step HF.out HG.out ⟨HID.out,HD2.out,fun h=>absurd (List.eq_nil_of_length_eq_zero HGL.out) h⟩⟩
        go_wp2
        go_roundw
        case rel=>exact ⟨i + 1,by omega,by simp,HT1,hB6⟩
        case measure=>simp [intOf]; omega
       ·have hg0 : 0 < gl:=by omega
        have hgI : (gl : Int) > 0:=by omega
        by_cases hdd : d1 = f.2.1
        ·have hdn : (d1 != f.2.1) = false:=by simpa using hdd
         have HT1 : HidS (uptP (cellP b) a m (i + 1)):=⟨hT.out.step HF.out HG.out ⟨HID.out,HD2.out,fun _=>HD1.out.trans hdd⟩⟩
         clear hdd
         go_wp2
         go_roundw
         case rel=>exact ⟨i + 1,by omega,by simp,HT1,hB6⟩
         case measure=>simp [intOf]; omega
        ·have hdn : (d1 != f.2.1) = true:=by simpa using hdd
         have HNO : HidS (¬ ValR a b m):=⟨fun h=>by
          have:=h.cel i (by rw [HAN.out]; exact hlt) f g HF.out HG.out
          exact hdd (HD1.out.symm.trans (this.2.2 fun e=>by rw [e] at HGL; have:=HGL.out; simp at this; omega))⟩
         clear hdd
         go_wp2
         go_ret
         first | exact ⟨false,rfl,⟨fun h=>(by cases h),fun h=>absurd h HNO.out⟩,hB6⟩ | exact .inl ⟨rfl,HNO.out,hB6⟩
      ·have h0n : (d2 != 0) = true:=by simpa using h0
       have HNO : HidS (¬ ValR a b m):=⟨fun h=>by
        have:=h.cel i (by rw [HAN.out]; exact hlt) f g HF.out HG.out
        exact h0 (HD2.out.symm.trans this.2.1)⟩
       clear h0
       go_wp2
       go_ret
       first | exact ⟨false,rfl,⟨fun h=>(by cases h),fun h=>absurd h HNO.out⟩,hB6⟩ | exact .inl ⟨rfl,HNO.out,hB6⟩
     ·have hne : (g.1 != f.1) = true:=by simpa using hid
      have HNO : HidS (¬ ValR a b m):=⟨fun h=>hid (h.cel i (by rw [HAN.out]; exact hlt) f g HF.out HG.out).1⟩
      clear hid
      go_upto_region 6 with (fail)
      refine wp_ser [] ?_
      refine sRd ?_
      refine sRf ?_
      intro w5 hb5
      go_wp2
      go_ret
      first | exact ⟨false,rfl,⟨fun h=>(by cases h),fun h=>absurd h HNO.out⟩,nx hB hb5⟩ | exact .inl ⟨rfl,HNO.out,nx hB hb5⟩
    ·obtain rfl : q = i:=by omega
     go_wp2
     go_loopw [10] (fun iv wr=>∃j : Nat,j<=q/\iv = .int .i64 j/\HidS (uptP (comP b m) a m j)/\Below w.heap.size w wr) (fun iv _=>q - (intOf iv).toNat)
     case atStart=>exact ⟨0,by omega,rfl,⟨fun j hj=>by omega⟩,hB⟩
     case round=>
      clear hB
      obtain ⟨j,hj,rfl,hU,hB⟩:=hrel
      by_cases hjt : j < q
      ·obtain ⟨f,hf⟩:=lt_get HAN.out hjt
       obtain ⟨g,hg⟩:=lt_get HMQ.out hjt
       obtain ⟨b1,o1,q1,rfl,hb1,f1,f2,f3,hv1⟩:=(HA.out.below hB).cel hf
       obtain ⟨b2,o2,q2,rfl,hb2,g1,g2,hv2⟩:=(HM.out.below hB).img hg
       have HF:=HidS.mk hf
       have HG:=HidS.mk hg
       have HV1:=HidS.mk hv1
       have HV2:=HidS.mk hv2
       have HMR:=HidS.mk (HM.out.below hB)
       have HBR:=HidS.mk (HB.out.below hB)
       have HAE:=HidS.mk (HEE.out g (List.mem_of_getElem? hg))
       have HAI:=HidS.mk (HII.out f (List.mem_of_getElem? hf))
       obtain ⟨d,hd⟩ : ∃d,decide (edC b g.2 = apC m f.2.2) = d:=⟨_,rfl⟩
       have HD:=HidS.mk hd
       have hl1:=lastsB_ls faceE (edC b g.2)
       have hl2:=lastsB_ls faceE (apC m f.2.2)
       clear hv1 hv2 hf hg hd
       go_upto_region 14 with (fail)
       refine wp_ser [pcD 6 [] (fun w v=>ChnV w v (edC b g.2)),pcD 13 [] (fun w v=>ChnV w v (apC m f.2.2)),pcD 14 [6,13] (fun _ v=>v = .bool d)] ?_
       refine sRd ?_
       refine sRc (fun wS hI Gk hG=>by go_simp; exact ck hG (edge_any _ _ b g.2 wS (HBR.out.below hI.bel) (HV2.out.below hI.bel) HAE.out)) (fun v6 _=>?_)
       refine sRd ?_
       refine sRc (fun wS hI Gk hG=>by go_simp; exact ck hG (image29_any _ _ m f.2.2 wS (HMR.out.below hI.bel) (HV1.out.below hI.bel) HAI.out)) (fun v13 _=>?_)
       refine sRc (fun wS hI h6 h13 Gk hG=>by go_simp; exact ck hG ((csame_any _ _ _ _ wS h6 h13).mono fun e w' ⟨h1,h2⟩=>⟨_,h1,by rw [HD.out],h2⟩)) (fun _ hv=>?_)
       obtain ⟨_,-,rfl⟩:=hv
       refine sRd ?_
       refine sRe ?_
       intro w5 hb5 _ _ _
       have hB5:=nx hB hb5
       cases d
       ·have HNO : HidS (¬ ValR a b m):=⟨fun h=>of_decide_eq_false HD.out (h.com j (by rw [HAN.out]; exact hjt) f g HF.out HG.out)⟩
        go_wp2
        go_ret
        first | exact ⟨false,rfl,⟨fun h=>(by cases h),fun h=>absurd h HNO.out⟩,hB5⟩ | exact .inl ⟨rfl,HNO.out,hB5⟩
       ·have HT1 : HidS (uptP (comP b m) a m (j + 1)):=⟨hU.out.step HF.out HG.out (show edC b g.2 = apC m f.2.2 from of_decide_eq_true HD.out)⟩
        go_wp2
        go_roundw
        case rel=>exact ⟨j + 1,by omega,by simp,HT1,hB5⟩
        case measure=>simp [intOf]; omega
      ·obtain rfl : q = j:=by omega
       have HYES : HidS (ValR a b m):=⟨⟨HPR.out,by rw [HMQ.out,HAN.out],by rw [HAN.out]; exact hT.out,by rw [HAN.out]; exact hU.out⟩⟩
       go_wp2
       go_ret
       exact ⟨true,rfl,⟨fun _=>HYES.out,fun _=>rfl⟩,hB⟩
  ·have HNO : HidS (¬ ValR a b m):=⟨fun h=>hqn (by rw [<-HMQ.out,<-HAN.out]; exact h.len)⟩
   go_wp2
   go_ret
   first | exact ⟨false,rfl,⟨fun h=>(by cases h),fun h=>absurd h HNO.out⟩,hb2⟩ | exact .inl ⟨rfl,HNO.out,hb2⟩
def numE : El Int where
 T:=tI
 k:=2
 ts:=[tU]
 E:=fun w vs x=>∃s a l c,vs = [.bool s,.slice a l c]/\IntV w (.agg #[.bool s,.slice a l c]) x
 pos:=by decide
 nt:=by decide
 len:=by rintro w vs x ⟨s,a,l,c,rfl,-⟩; rfl
 one:=by
  rintro w vs x ⟨s,a,l,c,rfl,-⟩ v hv
  simp only [List.mem_cons,List.not_mem_nil,or_false] at hv
  rcases hv with rfl | rfl <;> rfl
 st:=by
  rintro w w' vs x ht ⟨s,a,l,c,rfl,h⟩
  exact ⟨s,a,l,c,rfl,h.ext (ht.lext sI)⟩
abbrev NumV:=LsV numE
abbrev NumO:=LsO numE
theorem LsV.vec {w : World} {v : Value} {zs : List Int} (h : NumV w v zs) : VecV w v zs:=by
 obtain ⟨ao,n,cap,h1,h2,h3,h4,h5⟩:=h
 refine ⟨ao,n,cap,h1,h2,h3,h4,fun hn=>?_⟩
 obtain ⟨b,cs,e1,e2,e3⟩:=h5 hn
 refine ⟨b,e1,cs,e2,fun k z hk=>?_⟩
 obtain ⟨vs,e4,s,a,l,c,rfl,e5⟩:=e3 k z hk
 exact ⟨s,a,l,c,e4 0 _ rfl,e4 1 _ rfl,e5⟩
theorem appNum {w : World} {ops : Array Oper} {rest : List Oper} {o : Oper} {a : Act} {Q : Exit->Act->World->Prop} (hgd : o.guard = none) (s x : Operand)
  (ho : o.op = .call { callee:=.builtin .append,args:=#[s,x],argTypes:=#[117,117] })
  (base : Nat) (v : Value) (xs : List Int) (hs : a.eval s = v) (hown : NumO w base v xs) (yv : Value) (ys : List Int) (hx : a.eval x = yv) (hy : NumV w yv ys) (hlen : xs.length + ys.length<=10000000) (hbase : base<=w.heap.size)
  (h : ∀v' w',NumO w' base v' (xs ++ ys)->w.grownBy w' v.ownBlock->TE [tU] w w'->wpList Tryz.prog ops Q rest (a.put o.dst v') w') : wpList Tryz.prog ops Q (o :: rest) a w:=by
 obtain ⟨i0,hi,hz0,hz1,hz2⟩:=info_parts Tryz.infoI
 exact wpList_appLs hgd numE s x 117 ho Tryz.underlying117 hi hz0 hz1 hz2 rfl dE base v xs hs hown yv ys hx hy oM hbase fun v' w' h1 h2 h3=>h v' w' h1 h2 h3
set_option maxHeartbeats 16000000 in
set_option maxRecDepth 20000 in
theorem vector26_own (v u : Value) (c : Cx) (k : Int) (x : Ch) (w : World) (h : CpxV w v c) (hx : ChnV w u x) (hv : ValC x) (h0 : (dimC c x).2 = 0) (h1 : x ≠ []->(dimC c x).1 = k) (hn : c.length<=1000) (hl : x.length<=1000000) :
  Calls Tryz.prog 102 #[v,.int .i64 k,u] w fun e w'=>∃r,e = .returned (.tuple #[r,.int .i64 0])/\NumO w' w.heap.size r ((cellsC c k).map (coef x))/\Below w.heap.size w w':=by
 obtain ⟨ao,ac,rfl,-,hc1⟩:=id h.shape
 obtain ⟨bo,bc,rfl,-,hc2⟩:=id hx.shape
 obtain ⟨n,hcn⟩ : ∃n,c.length = n:=⟨_,rfl⟩
 obtain ⟨m,hxm⟩ : ∃n,x.length = n:=⟨_,rfl⟩
 obtain ⟨I,hI⟩ : ∃I,cellsC c k = I:=⟨_,rfl⟩
 obtain ⟨R,hR⟩ : ∃R,I.length = R:=⟨_,rfl⟩
 have hRn : R<=n:=by rw [<-hR,<-hI,<-hcn]; exact cells_len
 obtain ⟨d1,hd1⟩ : ∃d,(dimC c x).1 = d:=⟨_,rfl⟩
 have HDIM:=HidS.mk (dim_any _ _ c x w h hx)
 rw [h0,hd1] at HDIM
 have hmd : 0 < m->d1 = k:=fun hm=>by rw [<-hd1]; exact h1 (by rintro rfl; simp at hxm; omega)
 rw [hcn] at h hn HDIM ⊢
 rw [hxm] at hx hl HDIM ⊢
 rw [hI]
 have H:=HidS.mk h
 have HX:=HidS.mk hx
 have HCN:=HidS.mk hcn
 have HXM:=HidS.mk hxm
 have HI:=HidS.mk hI
 have HR:=HidS.mk hR
 have HV:=HidS.mk hv
 have HMD:=HidS.mk hmd
 clear h hx hcn hxm hI hR hv h0 h1 hd1 hmd
 go_enter Tryz.func102,Tryz.ntmps102
 go_wp2_with fail
 refine HDIM.out.mono ?_
 rintro e w2 ⟨rfl,hb2⟩
 by_cases hm0 : m = 0
 ·subst hm0
  go_wp2_with fail
  refine (ccells_any _ c _ w2 (H.out.below hb2) (by rw [HCN.out]; omega)).mono ?_
  rintro e w3 ⟨u1,rfl,hI1,hb3⟩
  rw [HI.out] at hI1
  obtain ⟨io,ic,rfl,-,-⟩:=hI1.vs.shape
  rw [HR.out] at hI1 ⊢
  have HI1:=HidS.mk hI1.vs
  have hB3:=nx hb2 hb3
  have HX3:=HidS.mk (HX.out.below hB3)
  clear hI1
  have hO : HidS (NumO (w3.alloc (.cells #[] tI)) w3.heap.size (.slice (some ⟨w3.heap.size,0,none⟩) 0 0) ((I.take 0).map (coef x))):=⟨LsO.made numE w3 (Nat.le_refl _)⟩
  have hal:=(Below.refl w3.heap.size w3).alloc (Nat.le_refl _) (.cells #[] tI)
  go_wp2
  go_loopw [11,12] (fun u iv wr=>∃i : Nat,i<=R/\iv = .int .i64 i/\HidS (NumO wr w3.heap.size u ((I.take i).map (coef x)))/\Below w3.heap.size w3 wr) (fun _ iv _=>R - (intOf iv).toNat)
  case atStart=>exact ⟨0,by omega,rfl,hO,hal⟩
  case round=>
   clear hO hal
   obtain ⟨i,hi,rfl,hO,hB⟩:=hrel
   obtain ⟨uo,uc,rfl⟩:=LsO.shape hO.out
   have hlm : ((I.take i).map (coef x)).length = i:=by rw [List.length_map,List.length_take,HR.out]; omega
   rw [hlm] at hO ⊢
   have HLM:=HidS.mk hlm
   clear hlm
   by_cases hlt : i < R
   ·obtain ⟨a,ha⟩:=lt_get HR.out hlt
    have HA:=HidS.mk ha
    clear ha
    go_wp2_with fail
    refine (r1of_any 0 wr dE dE).mono ?_
    rintro e w5 ⟨_,rfl,hz0,hb5⟩
    obtain ⟨z1,z2,z3,z4,_,rfl,-⟩:=id hz0
    have hB5:=nx hB hb5
    have hO5:=HidS.mk (LsO.below hO.out hb5)
    have HZ0:=HidS.mk hz0
    clear hz0 hO
    go_upto_region 11 with (fail)
    refine wp_world ?_
    intro W6 hW6
    obtain ⟨hB6,T2,hs6⟩:=world1 hW6
    have hBX : HidS (BoxI W6 w5.heap.size (coef (x.take 0) a)):=⟨BoxI.mk T2 (HZ0.out.ext (lx hB6))⟩
    have hs5:=hB5.size
    clear hW6 T2 HZ0
    go_wp2
    go_loopw [14] (fun jv wr=>∃j : Nat,j<=0/\jv = .int .i64 j/\HidS (BoxI wr w5.heap.size (coef (x.take j) a))/\Below w5.heap.size w5 wr) (fun jv _=>0 - (intOf jv).toNat)
    case atStart=>exact ⟨0,by omega,rfl,hBX,hB6⟩
    case round=>
     clear hBX hB6
     obtain ⟨j,hj,rfl,hBX,hBj⟩:=hrel
     have hjm : j = 0:=by omega
     have hBY : HidS (BoxI wr w5.heap.size (coef x a)):=⟨by rw [<-take_all HXM.out,<-hjm]; exact hBX.out⟩
     subst hjm
     obtain ⟨y1,y2,y3,y4,TB,hyv⟩:=hBY.out
     obtain ⟨e1,e2,e3,e4⟩:=TB.two
     have hBr:=nx hB5 hBj
     have hal:=(Below.refl wr.heap.size wr).alloc (Nat.le_refl _) (.cells #[.bool y1,.slice y2 y3 y4] tI)
     have HO8:=HidS.mk ((LsO.below hO5.out hBj).below hal)
     have HN8:=HidS.mk (LsO.lits (e:=numE) (base:=0) (Blk.new wr tI #[.bool y1,.slice y2 y3 y4]) (Nat.zero_le _) [([.bool y1,.slice y2 y3 y4],coef x a)] rfl (List.forall_mem_cons.2 ⟨⟨_,_,_,_,rfl,hyv.ext (lx hal)⟩,fun _ h=>by cases h⟩) sI).vs
     have hsz:=hBr.size
     clear TB hyv hBX
     go_wp2_with (at_builtin; go_loud (refine appNum rfl _ _ rfl w3.heap.size _ ((I.take i).map (coef x)) rfl HO8.out _ [coef x a] rfl HN8.out (by rw [HLM.out]; show i + 1<=_; omega) (by simp; omega) ?_; intro v9 w15 hown9 hgr9 hte9))
     have hB15 : Below w3.heap.size w3 w15:=(hBr.alloc hBr.size _).grown hgr9 (by simp; omega) (fun g hg=>by have:=HO8.out.own g hg; omega)
     have hO15 : HidS (NumO w15 w3.heap.size v9 ((I.take (i + 1)).map (coef x))):=⟨by rw [take_sn HA.out,List.map_append]; exact hown9⟩
     clear hown9 hgr9 hte9
     go_roundw
     case rel=>exact ⟨i + 1,by omega,by simp,hO15,hB15⟩
     case measure=>simp [intOf]; omega
   ·obtain rfl : R = i:=by omega
    rw [take_all HR.out] at hO
    go_wp2
    go_ret2
    exact ⟨_,rfl,LsO.mono hO.out hB3.size,nx hB3 hB⟩
 ·have hmI : (m : Int) > 0:=by omega
  have hm00 : 0 < m:=by omega
  have hdk : d1 = k:=HMD.out hm00
  subst hdk
  go_wp2_with fail
  refine (ccells_any _ c _ w2 (H.out.below hb2) (by rw [HCN.out]; omega)).mono ?_
  rintro e w3 ⟨u1,rfl,hI1,hb3⟩
  rw [HI.out] at hI1
  obtain ⟨io,ic,rfl,-,-⟩:=hI1.vs.shape
  rw [HR.out] at hI1 ⊢
  have HI1:=HidS.mk hI1.vs
  have hB3:=nx hb2 hb3
  have HX3:=HidS.mk (HX.out.below hB3)
  clear hI1
  have hO : HidS (NumO (w3.alloc (.cells #[] tI)) w3.heap.size (.slice (some ⟨w3.heap.size,0,none⟩) 0 0) ((I.take 0).map (coef x))):=⟨LsO.made numE w3 (Nat.le_refl _)⟩
  have hal:=(Below.refl w3.heap.size w3).alloc (Nat.le_refl _) (.cells #[] tI)
  go_wp2
  go_loopw [11,12] (fun u iv wr=>∃i : Nat,i<=R/\iv = .int .i64 i/\HidS (NumO wr w3.heap.size u ((I.take i).map (coef x)))/\Below w3.heap.size w3 wr) (fun _ iv _=>R - (intOf iv).toNat)
  case atStart=>exact ⟨0,by omega,rfl,hO,hal⟩
  case round=>
   clear hO hal
   obtain ⟨i,hi,rfl,hO,hB⟩:=hrel
   obtain ⟨uo,uc,rfl⟩:=LsO.shape hO.out
   have hlm : ((I.take i).map (coef x)).length = i:=by rw [List.length_map,List.length_take,HR.out]; omega
   rw [hlm] at hO ⊢
   have HLM:=HidS.mk hlm
   clear hlm
   by_cases hlt : i < R
   ·obtain ⟨a,ha⟩:=lt_get HR.out hlt
    have HA:=HidS.mk ha
    clear ha
    go_wp2_with fail
    refine (r1of_any 0 wr dE dE).mono ?_
    rintro e w5 ⟨_,rfl,hz0,hb5⟩
    obtain ⟨z1,z2,z3,z4,_,rfl,-⟩:=id hz0
    have hB5:=nx hB hb5
    have hO5:=HidS.mk (LsO.below hO.out hb5)
    have HZ0:=HidS.mk hz0
    clear hz0 hO
    go_upto_region 11 with (fail)
    refine wp_world ?_
    intro W6 hW6
    obtain ⟨hB6,T2,hs6⟩:=world1 hW6
    have hBX : HidS (BoxI W6 w5.heap.size (coef (x.take 0) a)):=⟨BoxI.mk T2 (HZ0.out.ext (lx hB6))⟩
    have hs5:=hB5.size
    clear hW6 T2 HZ0
    go_wp2
    go_loopw [14] (fun jv wr=>∃j : Nat,j<=m/\jv = .int .i64 j/\HidS (BoxI wr w5.heap.size (coef (x.take j) a))/\Below w5.heap.size w5 wr) (fun jv _=>m - (intOf jv).toNat)
    case atStart=>exact ⟨0,by omega,rfl,hBX,hB6⟩
    case round=>
     clear hBX hB6
     obtain ⟨j,hj,rfl,hBX,hBj⟩:=hrel
     by_cases hjt : j < m
     ·obtain ⟨f,hf⟩:=lt_get HXM.out hjt
      have hBr:=nx hB5 hBj
      obtain ⟨b1,s1,a1,l1,k1,rfl,hb1,f1,f2,f3,hv1⟩:=(HX3.out.below hBr).face hf
      obtain ⟨b2,rfl,hb2',g1⟩:=(HI1.out.below hBr).int HA.out
      have HF:=HidS.mk hf
      clear hf hv1
      go_upto_region 14 with (fail)
      refine wp_ser [] ?_
      refine sRd ?_
      refine sRf ?_
      intro w7 hb7
      have hB7:=nx hBj hb7
      have hBX:=HidS.mk (hBX.out.below hb7)
      clear f1 f2 f3 g1
      by_cases he : f.1 = a
      ·obtain ⟨b',s1,a1,l1,k1,eb,hb1',f1,f2,f3,hv1⟩:=(HX3.out.below (nx hB5 hB7)).face HF.out
       cases eb
       have HV1:=HidS.mk hv1
       obtain ⟨y1,y2,y3,y4,TB,-⟩:=hBX.out
       obtain ⟨e1,e2,e3,e4⟩:=TB.two
       have HTB:=HidS.mk TB
       have HST : HidS (coef (x.take (j + 1)) a = f.2):=⟨by rw [coef_snoc HF.out,if_pos he,<-he,coef_before HV.out HF.out,Int.zero_add]⟩
       have HN : HidS (BoxI ((w7.setCell ⟨w5.heap.size,0,none⟩ (.bool s1)).setCell ⟨w5.heap.size,1,none⟩ (.slice a1 l1 k1)) w5.heap.size (coef (x.take (j + 1)) a)):=⟨by rw [HST.out]; exact BoxI.put HTB.out HV1.out⟩
       have heq : (f.1 == a) = true:=by simpa using he
       clear TB hv1
       go_wp2
       go_roundw
       case rel=>exact ⟨j + 1,by omega,by simp,HN,bset (bset hB7 (Nat.le_refl _) _ _) (Nat.le_refl _) _ _⟩
       case measure=>simp [intOf]; omega
      ·have hne : (f.1 == a) = false:=by simpa using he
       have HN : HidS (BoxI w7 w5.heap.size (coef (x.take (j + 1)) a)):=⟨by rw [coef_snoc HF.out,if_neg he,Int.add_zero]; exact hBX.out⟩
       go_wp2
       go_roundw
       case rel=>exact ⟨j + 1,by omega,by simp,HN,hB7⟩
       case measure=>simp [intOf]; omega
     ·have hjm : j = m:=by omega
      have hBY : HidS (BoxI wr w5.heap.size (coef x a)):=⟨by rw [<-take_all HXM.out,<-hjm]; exact hBX.out⟩
      subst hjm
      obtain ⟨y1,y2,y3,y4,TB,hyv⟩:=hBY.out
      obtain ⟨e1,e2,e3,e4⟩:=TB.two
      have hBr:=nx hB5 hBj
      have hal:=(Below.refl wr.heap.size wr).alloc (Nat.le_refl _) (.cells #[.bool y1,.slice y2 y3 y4] tI)
      have HO8:=HidS.mk ((LsO.below hO5.out hBj).below hal)
      have HN8:=HidS.mk (LsO.lits (e:=numE) (base:=0) (Blk.new wr tI #[.bool y1,.slice y2 y3 y4]) (Nat.zero_le _) [([.bool y1,.slice y2 y3 y4],coef x a)] rfl (List.forall_mem_cons.2 ⟨⟨_,_,_,_,rfl,hyv.ext (lx hal)⟩,fun _ h=>by cases h⟩) sI).vs
      have hsz:=hBr.size
      clear TB hyv hBX
      go_wp2_with (at_builtin; go_loud (refine appNum rfl _ _ rfl w3.heap.size _ ((I.take i).map (coef x)) rfl HO8.out _ [coef x a] rfl HN8.out (by rw [HLM.out]; show i + 1<=_; omega) (by simp; omega) ?_; intro v9 w15 hown9 hgr9 hte9))
      have hB15 : Below w3.heap.size w3 w15:=(hBr.alloc hBr.size _).grown hgr9 (by simp; omega) (fun g hg=>by have:=HO8.out.own g hg; omega)
      have hO15 : HidS (NumO w15 w3.heap.size v9 ((I.take (i + 1)).map (coef x))):=⟨by rw [take_sn HA.out,List.map_append]; exact hown9⟩
      clear hown9 hgr9 hte9
      go_roundw
      case rel=>exact ⟨i + 1,by omega,by simp,hO15,hB15⟩
      case measure=>simp [intOf]; omega
   ·obtain rfl : R = i:=by omega
    rw [take_all HR.out] at hO
    go_wp2
    go_ret2
    exact ⟨_,rfl,LsO.mono hO.out hB3.size,nx hB3 hB⟩
structure MdP (a b : Cx) (m : Mp) : Prop where
 cx : CxI 4 b
 ex : ∃(k : Nat) (n : Int) (l : List Int),k<=b.length/\n.natAbs<=3/\a = b.take k/\m = (homM b n (raisC b l)).take k
def MdT (w : World) (v : Value) : Prop:=∃a b m va vb vm,v = .tuple #[va,vb,vm]/\MdP a b m/\CpxV w va a/\CpxV w vb b/\MapV w vm m
theorem lastsB_map (m : Mp) : LastsB fun w v=>MapV w v m:=fun _ _ _ b h=>h.below b
set_option maxHeartbeats 8000000 in
set_option maxRecDepth 20000 in
theorem md29_any (s A : Nat) (N : Int) (v lv : Value) (L : List Q4) (l : List Int) (w : World) (hs : s<=255) (hA : A<=255) (hN : -128<=N/\N<=127) (h : QdV w v L) (hl : I8V w lv l) :
  Calls Tryz.prog 9 #[.agg #[.int .u8 s,v,.int .u8 A,.int .i8 N,lv]] w fun e w'=>∃u,e = .returned u/\MdT w' u/\Below w.heap.size w w':=by
 obtain ⟨qo,qn,qc,rfl,hq1,hq2,hq3,-⟩:=id h
 obtain ⟨lo,ln,lc,rfl,-⟩:=id hl
 have H:=HidS.mk h
 have HL:=HidS.mk hl
 obtain ⟨r,hr⟩ : ∃r,A % 3 = r:=⟨_,rfl⟩
 have hr3 : r<=2:=by omega
 have hrm : (A : Int).tmod 3 = (r : Int):=by rw [<-hr]; rfl
 obtain ⟨nn,hnn⟩ : ∃nn,N.tmod 4 = nn:=⟨_,rfl⟩
 have hn3 : -3<=nn/\nn<=3:=by
  rw [<-hnn]
  rcases Int.lt_or_le N 0 with hz0 | hz0
  ·have h1 : N.tmod 4 = -((-N) % 4):=by rw [<-Int.neg_neg N,Int.neg_tmod,Int.tmod_eq_emod_of_nonneg oM,Int.neg_neg]
   omega
  ·rw [Int.tmod_eq_emod_of_nonneg hz0]; omega
 have hw8n : IntKind.i8.wrap nn = nn:=IntWalk.i8_in _ oM
 have hw64n : IntKind.i64.wrap nn = nn:=IntWalk.i64_in _ oM
 clear h hl hr hq1
 go_enter Tryz.func9,Tryz.ntmps9
 go_upto_region 1 with (fail)
 refine wp_world ?_
 intro W0 hW0
 obtain ⟨hB0,T5,hs0⟩:=world1 hW0
 have H:=HidS.mk (H.out.below hB0)
 have HL:=HidS.mk (HL.out.below hB0)
 have HT:=HidS.mk T5
 have d0:=T5.cell 0
 have d1:=T5.cell 1
 simp at d0 d1
 clear hW0 T5
 go_wp2_with fail
 refine (cmade_any s _ L W0 hs H.out).mono ?_
 rintro e w2 ⟨u2,c,rfl,hc,hI,hb2⟩
 obtain ⟨ao,ac,rfl,hac,hac9⟩:=id hc.shape
 obtain ⟨n,hn⟩ : ∃n,c.length = n:=⟨_,rfl⟩
 rw [hn] at hc hac ⊢
 have hn11 : n<=11:=by have:=hI.len; omega
 have HC:=HidS.mk hc
 have HI:=HidS.mk hI
 have HN:=HidS.mk hn
 have hB2:=hb2
 have hwr : IntKind.i64.wrap (r : Int) = (r : Int):=IntWalk.i64_in _ oM
 have T5:=HT.out.below hB2
 have d2:=T5.cell 2
 have d1:=T5.cell 1
 simp at d2 d1
 clear hc hI hn hb2 T5 d0
 obtain ⟨kk,hkk⟩ : ∃kk : Int,(n : Int) - (r : Int) = kk:=⟨_,rfl⟩
 obtain ⟨ql,hql⟩ : ∃kk : Int,(n : Int) - (qn : Int) = kk:=⟨_,rfl⟩
 have hwk : IntKind.i64.wrap kk = kk:=IntWalk.i64_in _ oM
 have hwq : IntKind.i64.wrap ql = ql:=IntWalk.i64_in _ oM
 by_cases h1 : kk < ql
 ·skip
  have hkn : n<=n:=by omega
  have hkI : (n : Int)<=n:=by omega
  have hk0 : (0 : Int)<=n:=by omega
  have hkc : (n : Int)<=ac:=by omega
  have T5:=HT.out.below hB2
  have d3:=T5.cell 3
  have d4:=T5.cell 4
  simp at d3 d4
  have HML : HidS ((homM c nn (raisC c l)).length = n):=⟨by unfold homM; simp [HN.out]⟩
  have hl1:=lastsB_map (homM c nn (raisC c l))
  have HL2:=HidS.mk (HL.out.below hB2)
  clear T5
  go_upto_region 5 with (fail)
  have hl2 : LastsB (fun w v=>∃o m q,v = Value.slice o m q/\MapV w v ((homM c nn (raisC c l)).take n)):=fun _ _ _ b ⟨o,m,q,h1,h2⟩=>⟨o,m,q,h1,h2.below b⟩
  refine wp_ser [pcD 2 [] (fun _ v=>v = .slice ao n ac),pcD 11 [] (fun w v=>MapV w v (homM c nn (raisC c l))),pcD 13 [11] (fun w v=>∃o m q,v = Value.slice o m q/\MapV w v ((homM c nn (raisC c l)).take n))] ?_
  refine sRd ?_
  refine sRc (fun wS hI Gk hG=>by go_simp; exact ⟨hG _ _ rfl,Below.refl _ _⟩) (fun _ hv=>?_)
  obtain ⟨_,-,rfl⟩:=hv
  refine sRd ?_
  refine sRc (fun wS hI Gk hG=>by go_simp; exact ck hG ((homotopic_any _ _ c nn l wS (HC.out.below hI.bel) (HL2.out.below hI.bel) HI.out oM oM).mono fun e w' ⟨u,h1,h2,h3⟩=>⟨u,h1,h2.vs,h3⟩)) (fun _ hv=>?_)
  obtain ⟨_,-,hv⟩:=hv
  obtain ⟨mo,mc,rfl,hm1,hm2⟩:=LsV.shape hv
  rw [HML.out] at hm1 ⊢
  clear hv
  have hkmc : (n : Int)<=mc:=by omega
  have hkmc' : n<=mc:=by omega
  refine sRd ?_
  refine sRc (fun wS hI h11 Gk hG=>by
   have h11' : MapV wS (.slice mo n mc) (homM c nn (raisC c l)):=h11
   go_simp
   exact ⟨hG _ _ ⟨_,_,_,rfl,LsV.take h11' hkn⟩,Below.refl _ _⟩) (fun _ hv=>?_)
  obtain ⟨_,-,p1,p2,p3,rfl,-⟩:=hv
  refine sRd ?_
  refine sRe ?_
  intro w5 hb5 _ _ h13
  obtain ⟨_,_,_,ee,h13⟩:=h13
  cases ee
  have HA5:=HidS.mk ((HC.out.below hb5).take hkn)
  have HC5:=HidS.mk (HC.out.below hb5)
  have H13:=HidS.mk h13
  clear h13
  go_wp2
  go_ret3
  exact ⟨_,rfl,⟨c.take n,c,(homM c nn (raisC c l)).take n,_,_,_,rfl,⟨HI.out,n,nn,l,by rw [HN.out]; exact hkn,by omega,rfl,rfl⟩,HA5.out,HC5.out,H13.out⟩,hB0.trans ((nx hB2 hb5).mono oM)⟩
 ·by_cases h2 : kk < 0
  ·skip
   have hkn : n<=n:=by omega
   have hkI : (n : Int)<=n:=by omega
   have hk0 : (0 : Int)<=n:=by omega
   have hkc : (n : Int)<=ac:=by omega
   have T5:=HT.out.below hB2
   have d3:=T5.cell 3
   have d4:=T5.cell 4
   simp at d3 d4
   have HML : HidS ((homM c nn (raisC c l)).length = n):=⟨by unfold homM; simp [HN.out]⟩
   have hl1:=lastsB_map (homM c nn (raisC c l))
   have HL2:=HidS.mk (HL.out.below hB2)
   clear T5
   go_upto_region 5 with (fail)
   have hl2 : LastsB (fun w v=>∃o m q,v = Value.slice o m q/\MapV w v ((homM c nn (raisC c l)).take n)):=fun _ _ _ b ⟨o,m,q,h1,h2⟩=>⟨o,m,q,h1,h2.below b⟩
   refine wp_ser [pcD 2 [] (fun _ v=>v = .slice ao n ac),pcD 11 [] (fun w v=>MapV w v (homM c nn (raisC c l))),pcD 13 [11] (fun w v=>∃o m q,v = Value.slice o m q/\MapV w v ((homM c nn (raisC c l)).take n))] ?_
   refine sRd ?_
   refine sRc (fun wS hI Gk hG=>by go_simp; exact ⟨hG _ _ rfl,Below.refl _ _⟩) (fun _ hv=>?_)
   obtain ⟨_,-,rfl⟩:=hv
   refine sRd ?_
   refine sRc (fun wS hI Gk hG=>by go_simp; exact ck hG ((homotopic_any _ _ c nn l wS (HC.out.below hI.bel) (HL2.out.below hI.bel) HI.out oM oM).mono fun e w' ⟨u,h1,h2,h3⟩=>⟨u,h1,h2.vs,h3⟩)) (fun _ hv=>?_)
   obtain ⟨_,-,hv⟩:=hv
   obtain ⟨mo,mc,rfl,hm1,hm2⟩:=LsV.shape hv
   rw [HML.out] at hm1 ⊢
   clear hv
   have hkmc : (n : Int)<=mc:=by omega
   have hkmc' : n<=mc:=by omega
   refine sRd ?_
   refine sRc (fun wS hI h11 Gk hG=>by
    have h11' : MapV wS (.slice mo n mc) (homM c nn (raisC c l)):=h11
    go_simp
    exact ⟨hG _ _ ⟨_,_,_,rfl,LsV.take h11' hkn⟩,Below.refl _ _⟩) (fun _ hv=>?_)
   obtain ⟨_,-,p1,p2,p3,rfl,-⟩:=hv
   refine sRd ?_
   refine sRe ?_
   intro w5 hb5 _ _ h13
   obtain ⟨_,_,_,ee,h13⟩:=h13
   cases ee
   have HA5:=HidS.mk ((HC.out.below hb5).take hkn)
   have HC5:=HidS.mk (HC.out.below hb5)
   have H13:=HidS.mk h13
   clear h13
   go_wp2
   go_ret3
   exact ⟨_,rfl,⟨c.take n,c,(homM c nn (raisC c l)).take n,_,_,_,rfl,⟨HI.out,n,nn,l,by rw [HN.out]; exact hkn,by omega,rfl,rfl⟩,HA5.out,HC5.out,H13.out⟩,hB0.trans ((nx hB2 hb5).mono oM)⟩
  ·obtain ⟨k,hk⟩ : ∃k : Nat,kk = (k : Int):=⟨kk.toNat,by omega⟩
   subst hk
   have hkn : k<=n:=by omega
   have hkI : (k : Int)<=n:=by omega
   have hk0 : (0 : Int)<=k:=by omega
   have hkc : (k : Int)<=ac:=by omega
   have T5:=HT.out.below hB2
   have d3:=T5.cell 3
   have d4:=T5.cell 4
   simp at d3 d4
   have HML : HidS ((homM c nn (raisC c l)).length = n):=⟨by unfold homM; simp [HN.out]⟩
   have hl1:=lastsB_map (homM c nn (raisC c l))
   have HL2:=HidS.mk (HL.out.below hB2)
   clear T5
   go_upto_region 5 with (fail)
   have hl2 : LastsB (fun w v=>∃o m q,v = Value.slice o m q/\MapV w v ((homM c nn (raisC c l)).take k)):=fun _ _ _ b ⟨o,m,q,h1,h2⟩=>⟨o,m,q,h1,h2.below b⟩
   refine wp_ser [pcD 2 [] (fun _ v=>v = .slice ao k ac),pcD 11 [] (fun w v=>MapV w v (homM c nn (raisC c l))),pcD 13 [11] (fun w v=>∃o m q,v = Value.slice o m q/\MapV w v ((homM c nn (raisC c l)).take k))] ?_
   refine sRd ?_
   refine sRc (fun wS hI Gk hG=>by go_simp; exact ⟨hG _ _ rfl,Below.refl _ _⟩) (fun _ hv=>?_)
   obtain ⟨_,-,rfl⟩:=hv
   refine sRd ?_
   refine sRc (fun wS hI Gk hG=>by go_simp; exact ck hG ((homotopic_any _ _ c nn l wS (HC.out.below hI.bel) (HL2.out.below hI.bel) HI.out oM oM).mono fun e w' ⟨u,h1,h2,h3⟩=>⟨u,h1,h2.vs,h3⟩)) (fun _ hv=>?_)
   obtain ⟨_,-,hv⟩:=hv
   obtain ⟨mo,mc,rfl,hm1,hm2⟩:=LsV.shape hv
   rw [HML.out] at hm1 ⊢
   clear hv
   have hkmc : (k : Int)<=mc:=by omega
   have hkmc' : k<=mc:=by omega
   refine sRd ?_
   refine sRc (fun wS hI h11 Gk hG=>by
    have h11' : MapV wS (.slice mo n mc) (homM c nn (raisC c l)):=h11
    go_simp
    exact ⟨hG _ _ ⟨_,_,_,rfl,LsV.take h11' hkn⟩,Below.refl _ _⟩) (fun _ hv=>?_)
   obtain ⟨_,-,p1,p2,p3,rfl,-⟩:=hv
   refine sRd ?_
   refine sRe ?_
   intro w5 hb5 _ _ h13
   obtain ⟨_,_,_,ee,h13⟩:=h13
   cases ee
   have HA5:=HidS.mk ((HC.out.below hb5).take hkn)
   have HC5:=HidS.mk (HC.out.below hb5)
   have H13:=HidS.mk h13
   clear h13
   go_wp2
   go_ret3
   exact ⟨_,rfl,⟨c.take k,c,(homM c nn (raisC c l)).take k,_,_,_,rfl,⟨HI.out,k,nn,l,by rw [HN.out]; exact hkn,by omega,rfl,rfl⟩,HA5.out,HC5.out,H13.out⟩,hB0.trans ((nx hB2 hb5).mono oM)⟩
theorem row26_own (v u : Value) (c : Cx) (k : Int) (x : Ch) (w : World) (h : CpxV w v c) (hx : ChnV w u x) (hv : ValC x) (h0 : (dimC c x).2 = 0) (h1 : x ≠ []->(dimC c x).1 = k) (hn : c.length<=1000) (hl : x.length<=1000000) :
  Calls Tryz.prog 57 #[v,.int .i64 k,u] w fun e w'=>∃r,e = .returned r/\NumO w' w.heap.size r ((cellsC c k).map (coef x))/\Below w.heap.size w w':=by
 have HC:=HidS.mk (vector26_own v u c k x w h hx hv h0 h1 hn hl)
 obtain ⟨ao,ac,rfl,-,-⟩:=id h.shape
 obtain ⟨bo,bc,rfl,-,-⟩:=id hx.shape
 clear h hx h0 h1
 go_enter Tryz.func57,Tryz.ntmps57
 go_wp2_with fail
 refine HC.out.mono ?_
 rintro e w2 ⟨r,rfl,h1,hb2⟩
 obtain ⟨ro,rc,rfl⟩:=LsO.shape h1
 obtain ⟨rn,hrn⟩ : ∃t,((cellsC c k).map (coef x)).length = t:=⟨_,rfl⟩
 rw [hrn] at h1 ⊢
 clear hrn
 have H1:=HidS.mk h1
 clear h1
 go_wp2
 go_ret
 exact ⟨_,rfl,H1.out,hb2⟩
def combC (c : Cx) (k : Int) (l : List Int) : Ch:=ofC (cellsC c k) (genV (cellsC c k).length (digF (cellsC c k).length l 0))
theorem comb_nrm (c : Cx) (k : Int) (l : List Int) : nrm ((cellsC c k).zip (genV (cellsC c k).length (digF (cellsC c k).length l 0)))<=(cellsC c k).length * 9:=nrm_zip fun z hz=>by
 obtain ⟨t,ht,rfl⟩:=List.mem_map.1 hz
 exact digF_le _ _ _ _
theorem comb_any (v lv : Value) (c : Cx) (k : Int) (l : List Int) (w : World) (h : CpxV w v c) (hl : I8V w lv l) (hn : c.length<=16) :
  Calls Tryz.prog 16 #[v,.int .i64 k,lv] w fun e w'=>∃r,e = .returned r/\ChnV w' r (combC c k l)/\Below w.heap.size w w':=by
 obtain ⟨ao,ac,rfl,-,-⟩:=id h.shape
 obtain ⟨lo,ln,lc,rfl,-⟩:=id hl
 obtain ⟨n,hcn⟩ : ∃n,c.length = n:=⟨_,rfl⟩
 obtain ⟨I,hI⟩ : ∃I,cellsC c k = I:=⟨_,rfl⟩
 obtain ⟨R,hR⟩ : ∃R,I.length = R:=⟨_,rfl⟩
 have hRn : R<=c.length:=by rw [<-hR,<-hI]; exact cells_len
 have HOF : HidS (∀v r w,CpxV w v c->VecV w r (genV R (digF R l 0))->Calls Tryz.prog 58 #[v,.int .i64 k,r] w fun e w'=>∃u,e = .returned u/\ChnV w' u (combC c k l)/\Below w.heap.size w w'):=⟨fun v r w h1 h2=>by
  have h3:=comb_nrm c k l
  unfold combC
  rw [hI,hR] at h3 ⊢
  rw [<-hI]
  refine cof_any v r c k _ w h1 h2 oM (by rw [hI,hR]; simp [genV]) ?_
  rw [hI]
  exact two_pow_lim (e:=10) (by have h9 : 2 ^ 10 = 1024:=rfl; omega) dE⟩
 have HVE : HidS (∀w,I8V w (.slice lo ln lc) l->Calls Tryz.prog 59 #[.slice lo ln lc,.int .i64 R] w fun e w'=>∃u,e = .returned u/\VecV w' u (genV R (digF R l 0))/\Below w.heap.size w w'):=⟨fun w h=>vector_any _ R l w h oM⟩
 rw [hcn] at h hn ⊢
 have H:=HidS.mk h
 have HL:=HidS.mk hl
 have HCN:=HidS.mk hcn
 have HI:=HidS.mk hI
 have HR:=HidS.mk hR
 clear h hl hcn hI hR hRn
 go_enter Tryz.func16,Tryz.ntmps16
 go_wp2_with fail
 refine (ccells_any _ c _ w H.out (by rw [HCN.out]; omega)).mono ?_
 rintro e w3 ⟨u1,rfl,hI1,hb3⟩
 rw [HI.out] at hI1
 obtain ⟨io,ic,rfl,-,-⟩:=hI1.vs.shape
 rw [HR.out] at hI1 ⊢
 clear hI1
 go_wp2_with fail
 refine (HVE.out w3 (HL.out.below hb3)).mono ?_
 rintro e w4 ⟨u2,rfl,h2,hb4⟩
 obtain ⟨ro,rn,rc,rfl,-⟩:=id h2
 have H2:=HidS.mk h2
 clear h2
 go_wp2_with fail
 refine (HOF.out _ _ w4 (H.out.below (nx hb3 hb4)) H2.out).mono ?_
 rintro e w5 ⟨u3,rfl,h3,hb5⟩
 obtain ⟨o3,n3,c3,rfl⟩ : ∃o m q,u3 = .slice o m q:=(LsV.shape h3).elim fun o h=>h.elim fun q h=>⟨o,_,q,h.1⟩
 have H3:=HidS.mk h3
 clear h3
 go_wp2
 go_ret
 exact ⟨_,rfl,H3.out,nx (nx hb3 hb4) hb5⟩
theorem GrS.okn {c : Cx} {k : Int} {b : Ch} {i : Nat} (h : GrS c k b i) : ValC b/\HomD c k b/\bdC c b = []/\nrm b<=i * (3 * cbn k):=by
 obtain ⟨l,h1,rfl,h2⟩:=h
 obtain ⟨g1,g2,g3,g4⟩:=grow_from (a:=[]) h2 ValC.nil (HomD.nil _ _) rfl
 refine ⟨g1,g2,g3,?_⟩
 rw [h1] at g4
 exact Nat.le_trans g4 (by simp [nrm])
theorem cyc_sm {n : Nat} (k : Int) (hk : k<=3) (h : n<=21 * cbn k) : SmN n:=by
 have h1:=kbn_two (eb k.toNat)
 have h2 : eb k.toNat<=1000000:=by
  rcases (by omega : k.toNat = 0 ∨ k.toNat = 1 ∨ k.toNat = 2 ∨ k.toNat = 3) with e | e | e | e <;> rw [e] <;> decide
 have h7 : 2 ^ (49 * eb k.toNat + 171 + 4) = 2 ^ (49 * eb k.toNat + 171) * 16:=Nat.pow_add 2 _ 4
 unfold cbn at h
 generalize 2 ^ (49 * eb k.toNat + 171) = P at h1 h7
 generalize kbn (2 ^ eb k.toNat) = Q at h h1
 exact two_pow_le (e:=49 * eb k.toNat + 171 + 4) (by rw [h7]; omega) (by unfold LIM; omega)
set_option maxHeartbeats 16000000 in
set_option maxRecDepth 20000 in
theorem cyclic_any {t : Nat} (v lv : Value) (c : Cx) (k : Int) (l : List Int) (w : World) (h : CpxV w v c) (hl : I8V w lv l) (hI : CxI t c) (ht : t<=4) (hk : -1000<=k/\k<=3) :
  Calls Tryz.prog 32 #[v,.int .i64 k,lv] w fun e w'=>∃u b,e = .returned u/\ChnV w' u b/\GrS c k b 7/\Below w.heap.size w w':=by
 obtain ⟨ao,ac,rfl,-,hc1⟩:=id h.shape
 obtain ⟨lo,ln,lc,rfl,hln,hll,hlc,-,-⟩:=id hl
 obtain ⟨n,hxn⟩ : ∃n,c.length = n:=⟨_,rfl⟩
 rw [hxn] at h ⊢
 have hn11 : n<=11:=by have:=hI.len; omega
 have H:=HidS.mk h
 have HL:=HidS.mk hl
 have HLN:=HidS.mk hln
 have HI:=HidS.mk hI
 have HXN:=HidS.mk hxn
 have HCY:=HidS.mk (fun w h=>cyclesI (.slice ao n ac) c k w h hI ht hk)
 have hpad : HidS (∀(b : Ch) (i : Nat),GrS c k b i->i<=7->GrS c k b 7):=⟨fun b i ⟨l,h1,h2,h3⟩ hi=>by
  refine ⟨l ++ List.replicate (7 - i) ([],0),by rw [List.length_append,List.length_replicate]; omega,?_,fun p hp=>?_⟩
  ·rw [h2]
   have : ∀(m : Nat) (a : Ch),(List.replicate m (([] : Ch),(0 : Int))).foldl (fun b p=>plusC b p.1 p.2) a = a:=fun m=>by
    induction m with
    | zero=>intro a; rfl
    | succ m ih=>intro a; rw [List.replicate_succ,List.foldl_cons]; exact ih a
   unfold growB
   rw [List.foldl_append,this]
  ·rcases List.mem_append.1 hp with hp | hp
   ·exact h3 p hp
   ·rw [List.eq_of_mem_replicate hp]
    exact ⟨ValC.nil,HomD.nil _ _,rfl,Nat.zero_le _,by decide⟩⟩
 clear h hl hI hxn hln
 go_enter Tryz.func32,Tryz.ntmps32
 go_wp2_with fail
 refine (HCY.out w H.out).mono ?_
 rintro e w2 ⟨ul,L,rfl,hL,hP,-,hb2⟩
 obtain ⟨lo',lc',rfl,hl1,hl2⟩:=id hL.shape
 obtain ⟨m,hm⟩ : ∃m,L.length = m:=⟨_,rfl⟩
 rw [hm] at hL hl1 ⊢
 have hm7 : m<=7:=by rw [<-hm]; exact hP.1
 have HLS:=HidS.mk hL
 have HP:=HidS.mk hP
 have HM:=HidS.mk hm
 have HL2:=HidS.mk (HL.out.below hb2)
 clear hL hP hm hl1 hl2
 go_upto_region 2 with (fail)
 refine wp_world ?_
 intro W3 hW3
 have hB3 : Below w2.heap.size w2 W3:=by rw [hW3.out]; exact (Below.refl _ _).alloc (Nat.le_refl _) _
 clear hW3
 have hST : HidS (∃b,ChnV W3 (.slice (some ⟨w2.heap.size,0,none⟩) 0 0) b/\GrS c k b 0):=⟨[],LsV.nil _ _ _ _ (Nat.zero_le _),[],rfl,rfl,fun p hp=>by cases hp⟩
 go_wp2
 go_loopw [8,9] (fun u iv wr=>∃i : Nat,i<=m/\iv = .int .i64 i/\HidS (∃b,ChnV wr u b/\GrS c k b i)/\Below w2.heap.size w2 wr) (fun _ iv _=>m - (intOf iv).toNat)
 case atStart=>exact ⟨0,by omega,rfl,hST,hB3⟩
 case round=>
  clear hST hB3
  obtain ⟨i,him,rfl,hS,hB⟩:=hrel
  obtain ⟨b,hb,hg⟩:=hS.out
  obtain ⟨bo,bc,rfl,-,-⟩:=id hb.shape
  obtain ⟨q,hq⟩ : ∃q,b.length = q:=⟨_,rfl⟩
  rw [hq] at hb ⊢
  have HBV:=HidS.mk hb
  have HG:=HidS.mk hg
  have hq11 : q<=11:=by rw [<-hq]; have:=hg.okn.2.1.length HI.out.val hg.okn.1; rw [HXN.out] at this; omega
  have HQ:=HidS.mk hq
  clear hb hg hS hq
  by_cases hlm : i < m
  ·by_cases hll' : i < ln
   ·obtain ⟨x,hx⟩:=lt_get HM.out hlm
    obtain ⟨b1,xo,xc,rfl,hb1,f1,hxv⟩:=(HLS.out.below hB).chn hx
    have hxp:=cycP_at HP.out hx
    have hx11 : x.length<=11:=by have:=hxp.2.1.length HI.out.val hxp.1; rw [HXN.out] at this; omega
    obtain ⟨qx,hqx⟩ : ∃q,x.length = q:=⟨_,rfl⟩
    rw [hqx] at f1 hxv hx11
    obtain ⟨bl,off,z,hlo,hbl,hz,g2,z1,z2⟩:=(HL2.out.below hB).cell (k:=i) (by rw [HLN.out]; exact hll')
    subst hlo
    have HXP:=HidS.mk hxp
    have HXV:=HidS.mk hxv
    have HQX:=HidS.mk hqx
    obtain ⟨nn,hnn⟩ : ∃nn,z.tmod 4 = nn:=⟨_,rfl⟩
    have hn3 : -3<=nn/\nn<=3:=by
     rw [<-hnn]
     rcases Int.lt_or_le z 0 with hz0 | hz0
     ·have h1 : z.tmod 4 = -((-z) % 4):=by rw [<-Int.neg_neg z,Int.neg_tmod,Int.tmod_eq_emod_of_nonneg oM,Int.neg_neg]
      omega
     ·rw [Int.tmod_eq_emod_of_nonneg hz0]; omega
    have hw8n : IntKind.i8.wrap nn = nn:=IntWalk.i8_in _ oM
    have hw64n : IntKind.i64.wrap nn = nn:=IntWalk.i64_in _ oM
    have HSS : HidS (SmN (nrm b + nn.natAbs * nrm x)/\SmN nn.natAbs/\SmN (nrm x)/\GrS c k (plusC b x nn) (i + 1)):=⟨by
     have h1:=HG.out.okn.2.2.2
     have h2:=hxp.2.2.2
     have h3 : nn.natAbs * nrm x<=3 * cbn k:=Nat.mul_le_mul oM h2
     have h4 : i * (3 * cbn k)<=6 * (3 * cbn k):=Nat.mul_le_mul_right _ oM
     exact ⟨cyc_sm k hk.2 oM,two_pow_lim (e:=10) (by have : 2 ^ 10 = 1024:=rfl; omega) dE,cyc_sm k hk.2 oM,HG.out.step hxp oM⟩⟩
    have hl1:=lasts_int nn
    have hl2:=lastsB_ls faceE (plusC b x nn)
    clear hx hxv hxp hqx hz
    go_upto_region 5 with (fail)
    refine wp_serH 13 [pcD 11 [] (fun w v=>IntV w v nn),pcD 12 [11] (fun w v=>ChnV w v (plusC b x nn))] ?_
    refine sRd ?_
    refine sRc (fun wS hI Gk hG=>by go_simp; exact ck hG (r1of_any nn wS oM oM)) (fun _ hv=>?_)
    obtain ⟨_,-,s5,a5,l5,k5,_,rfl,-⟩:=hv
    refine sRc (fun wS hI h11 Gk hG=>by go_simp; exact ck hG (cadd_any _ _ _ b x nn wS (HBV.out.below hI.bel) (HXV.out.below hI.bel) h11 HSS.out.1 HSS.out.2.1 HSS.out.2.2.1 (by rw [HQ.out,HQX.out]; omega))) (fun v12 _=>?_)
    refine sRe ?_
    intro w5 hb5 _ h12
    have hB5:=nx hB hb5
    have HS5 : HidS (∃b,ChnV w5 v12 b/\GrS c k b (i + 1)):=⟨_,h12,HSS.out.2.2.2⟩
    clear h12
    go_wp2
    go_roundw
    case rel=>exact ⟨i + 1,by omega,by simp,HS5,hB5⟩
    case measure=>simp [intOf]; omega
   ·have HE:=HidS.mk (hpad.out b i HG.out oM)
    go_wp2
    go_ret
    exact ⟨_,b,rfl,HBV.out,HE.out,nx hb2 hB⟩
  ·have HE:=HidS.mk (hpad.out b i HG.out oM)
   go_wp2
   go_ret
   exact ⟨_,b,rfl,HBV.out,HE.out,nx hb2 hB⟩
end Go.Proofs.YtjdemlfceaikgaaGreat
