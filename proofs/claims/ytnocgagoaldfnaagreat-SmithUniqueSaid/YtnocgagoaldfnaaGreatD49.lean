/- The arguments of torsionlaw13's statements, opened. -/
import Derived.ChangeArms
import Derived.ProofKit
import Derived.OpenShut
import Derived.Test.YtnocgagoaldfnaaGreatD47
set_option linter.unusedVariables false
set_option linter.unusedSimpArgs false
set_option linter.unusedSectionVars false
namespace Go.Proofs.YtnocgagoaldfnaaGreat
open Go.ChangeShapes Go.WideShapes Go.ChangeAt Go.RowKit
theorem Tryz.own : ownKnob Tryz.prog.godebug = none:=by kernel_rfl
theorem Tryz.laidOut : laidOutB Tryz.prog = true:=by kernel_rfl
theorem cells40 : Tryz.prog.cellsOf 40 = 2:=by kernel_rfl
theorem cells5 : Tryz.prog.cellsOf 5 = 1:=by kernel_rfl
theorem cells47 : Tryz.prog.cellsOf 47 = 1:=by kernel_rfl
set_option maxRecDepth 100000 in
theorem open_pair {H : Type} {enc : TypeId × Value->H} {w : World} {b0 base : Nat} {spare : Nat->Bool} {held : Bool} {r : Reach} {v : Value} {d : DataW H} {ps : List MemPlace} (hval : Value.okWide Tryz.prog w r b0 40 v)
  (h : DataW.Trod enc Tryz.prog w base spare held 40 v d ps) : ∃a b : Int,v = .agg #[.int .u8 a,.int .u8 b]/\(0<=a/\a<=255)/\(0<=b/\b<=255):=by
 simp only [Value.okWide,Tryz.underlying40] at hval
 obtain ⟨cs,rfl,hsz,-⟩:=hval
 obtain ⟨fuel,hf⟩:=h
 obtain ⟨xs,m,-,-,h1,h2,h3⟩:=DataW.trod_array Tryz.underlying40 hf
 rw [cells40] at h1
 have e0:=h3 0 oM
 have e1:=h3 1 oM
 rw [cells5] at e0 e1
 rw [List.getElem?_eq_getElem oM] at e0 e1
 obtain ⟨a,ha,-,wa⟩:=DataW.trod_int Tryz.underlying5 e0
 obtain ⟨b,hb,-,wb⟩:=DataW.trod_int Tryz.underlying5 e1
 simp only [Value.cells] at ha hb h1
 obtain ⟨cl⟩:=cs
 match cl,h1 with
 | [c0,c1],_=>
  simp at ha hb
  subst ha
  subst hb
  simp [Lit.wf,IntKind.min,IntKind.max,IntKind.bits,IntKind.signed] at wa wb
  exact ⟨a,b,rfl,by omega,by omega⟩
theorem open_i8 {H : Type} {enc : TypeId × Value->H} {w : World} {f : Nat} {cs : List Value} {y : DataW H × List MemPlace} (hf : DataW.trod enc Tryz.prog w 0 (fun _=>true) true f 22 cs = some y) (hlt : ∀x ∈ y.2,x.block < w.heap.size) :
  ∃ao n cap ls,cs = [.slice ao n cap]/\I8V w (.slice ao n cap) ls:=by
 rcases open_ints Tryz.underlying22 Tryz.underlying41 kR hf with ⟨e1,-⟩ | ⟨a,len,cap,zs,e1,-,hl,hm,hzl,e2,hcell,hwf⟩
 ·exact ⟨none,0,0,[],e1,none,0,0,rfl,rfl,Nat.le_refl _,by omega,fun z hz=>(by cases hz),fun h=>absurd rfl h⟩
 ·simp only [if_true] at hzl
  unfold maxLen at hm
  refine ⟨some a,len,cap,zs.take len,e1,some a,len,cap,rfl,by simp; omega,hl,by omega,fun z hz=>?_,fun h=>?_⟩
  ·have:=hwf z (List.mem_of_mem_take hz)
   exact bounds_i8 this
  ·have hpos : 0 < zs.length:=by
    rcases Nat.eq_zero_or_pos zs.length with h0 | h0
    ·exact absurd (by rw [List.eq_nil_of_length_eq_zero h0]; simp) h
    ·exact h0
   obtain ⟨b,off,rfl,hj⟩:=ints_at hcell hpos
   refine ⟨b,off,rfl,?_,fun k z hk=>?_⟩
   ·exact hlt (.cell b off) (by rw [e2]; exact MemPlace.mem_row.2 ⟨0,hpos,rfl⟩)
   ·obtain ⟨h1,h2⟩:=List.getElem?_eq_some_iff.1 hk
    rw [List.getElem_take] at h2
    have hkz : k < zs.length:=by
     simp at h1
     omega
    rw [hj k hkz,<-h2]
    simp [hkz]
set_option maxRecDepth 100000 in
theorem open_raw {H : Type} {enc : TypeId × Value->H} {w : World} {b0 : Nat} {r : Reach} {v : Value} {d : DataW H} {ps : List MemPlace} (hval : Value.okWide Tryz.prog w r b0 24 v)
  (h : DataW.Trod enc Tryz.prog w 0 (fun _=>true) true 24 v d ps) (hlt : ∀x ∈ ps,x.block < w.heap.size) : ∃(a b : Nat) (sv : Value) (ls : List Int),v = .agg #[.int .u8 a,.int .u8 b,sv]/\a<=255/\b<=255/\I8V w sv ls:=by
 simp only [Value.okWide,Tryz.underlying24] at hval
 obtain ⟨cs,rfl,hsz,-⟩:=hval
 obtain ⟨fuel,hf⟩:=h
 obtain ⟨xs,m,h0,h1,h2,h3,h4⟩:=DataW.trod_struct Tryz.underlying24 hf
 have c24 : Tryz.prog.cellsOf 24 = 3:=by kernel_rfl
 have c22 : Tryz.prog.cellsOf 22 = 1:=by kernel_rfl
 have g0 : DataW.trod enc Tryz.prog w 0 (fun _=>true) true m 5 (List.take (Tryz.prog.cellsOf 5) (List.drop 0 (Value.agg cs).cells.toList)) = xs[0]?:=h4 0 _ rfl
 have g1 : DataW.trod enc Tryz.prog w 0 (fun _=>true) true m 5 (List.take (Tryz.prog.cellsOf 5) (List.drop 1 (Value.agg cs).cells.toList)) = xs[1]?:=h4 1 _ rfl
 have g2 : DataW.trod enc Tryz.prog w 0 (fun _=>true) true m 22 (List.take (Tryz.prog.cellsOf 22) (List.drop 2 (Value.agg cs).cells.toList)) = xs[2]?:=h4 2 _ rfl
 rw [c24] at h2
 rw [cells5] at g0 g1
 rw [c22] at g2
 simp only [Value.cells] at g0 g1 g2 h2
 obtain ⟨cl⟩:=cs
 match xs,h3 with
 | [y0,y1,y2],_=>
  match cl,h2 with
  | [k0,k1,k2],_=>
   simp at g0 g1 g2
   obtain ⟨a,ha,-,wa⟩:=DataW.trod_int Tryz.underlying5 g0
   obtain ⟨b,hb,-,wb⟩:=DataW.trod_int Tryz.underlying5 g1
   simp only [Prod.mk.injEq] at h1
   obtain ⟨ao,n,cap,ls,hk,hI⟩:=open_i8 g2 (fun x hx=>hlt x (by rw [h1.2]; simp [hx]))
   simp at ha hb hk
   subst ha
   subst hb
   subst hk
   have wa:=bounds_u8 wa
   have wb:=bounds_u8 wb
   exact ⟨a.toNat,b.toNat,_,ls,by rw [Int.toNat_of_nonneg wa.1,Int.toNat_of_nonneg wb.1],by omega,by omega,hI⟩
end Go.Proofs.YtnocgagoaldfnaaGreat
