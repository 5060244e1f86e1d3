/- What integers of the program look like in memory: limbs, integers, frames; over any world. The functions of package integer on limbs: what each call does. The functions of package integer on limbs, second part. -/
import Derived.Test.YtnocgagoaldfnaaGreatRows
import Derived.WalkKit
import Derived.WalkSpells
import Derived.WalkLawsBesides
import Derived.Lib.Hide
import Derived.Deep.Draws
import Derived.Deep.QuietTactic
import Derived.BigQuiet
import Derived.Test.YtnocgagoaldfnaaGreatB02
set_option linter.unusedVariables false
set_option linter.unusedSimpArgs false
set_option linter.unusedSectionVars false
namespace Go.Proofs.YtnocgagoaldfnaaGreat
open Go.RowKit
abbrev tU : TypeId:=95
def LIM : Nat:=1099511627776
theorem LIM_eq : LIM = 1099511627776:=rfl
def LExt (w w' : World) : Prop:=∀(b : Nat) (cs : Array Value) (fz : Nat × Nat),w.heap[b]? = some (.cells cs tU fz)→w'.heap[b]? = some (.cells cs tU fz)
theorem LExt.refl (w : World) : LExt w w:=fun _ _ _ h=>h
theorem LExt.trans {a b c : World} (h : LExt a b) (k : LExt b c) : LExt a c:=fun _ _ _ hh=>k _ _ _ (h _ _ _ hh)
theorem LExt.below {w w' : World} {B : Nat} (h : Below B w w') (hB : w.heap.size≤B) : LExt w w':=fun b cs fz hh=>by
 have hl : b < w.heap.size:=by
  rcases Nat.lt_or_ge b w.heap.size with h1 | h1
  ·exact h1
  ·rw [Array.getElem?_eq_none h1] at hh; cases hh
 rw [h.block b (by omega)]; exact hh
def LimbsAt (w : World) (ao : Option Addr) (xs : List Nat) : Prop:=
 Limbs xs∧(xs ≠ []→∃b off cs fz,ao = some ⟨b,off,none⟩∧w.heap[b]? = some (.cells cs tU fz)∧∀k x,xs[k]? = some x→cs[off + k]? = some (.int .u32 (x : Nat)))
theorem LimbsAt.nil (w : World) (ao : Option Addr) : LimbsAt w ao []:=⟨Limbs.nil,fun h=>absurd rfl h⟩
theorem LimbsAt.ext {w w' : World} {ao : Option Addr} {xs : List Nat} (h : LimbsAt w ao xs) (e : LExt w w') : LimbsAt w' ao xs:=
 ⟨h.1,fun hne=>by
  obtain ⟨b,off,cs,fz,h1,h2,h3⟩:=h.2 hne
  exact ⟨b,off,cs,fz,h1,e _ _ _ h2,h3⟩⟩
theorem LimbsAt.cell {w : World} {ao : Option Addr} {xs : List Nat} (h : LimbsAt w ao xs) {k : Nat} (hk : k < xs.length) :
  ∃b off,ao = some ⟨b,off,none⟩∧b < w.heap.size∧w.cell? ⟨b,off + k,none⟩ = some (.int .u32 (xs.getD k 0 : Nat)):=by
 obtain ⟨b,off,cs,fz,h1,h2,h3⟩:=h.2 (by rintro rfl; simp at hk)
 refine ⟨b,off,h1,?_,?_⟩
 ·exact (Array.getElem?_eq_some_iff.1 h2).1
 ·rw [cell_of_row w b (off + k) cs tU fz h2,h3 k (xs.getD k 0) (by simp [List.getD_eq_getElem?_getD,List.getElem?_eq_getElem hk])]
theorem LimbsAt.limb {w : World} {ao : Option Addr} {xs : List Nat} (h : LimbsAt w ao xs) {k : Nat} (hk : k < xs.length) :
  ∃b off x,ao = some ⟨b,off,none⟩∧b < w.heap.size∧x < 4294967296∧Hid (xs.getD k 0 = x)∧w.cell? ⟨b,off + k,none⟩ = some (.int .u32 (x : Nat)):=by
 obtain ⟨b,off,h1,h2,h3⟩:=h.cell hk
 exact ⟨b,off,_,h1,h2,h.1.get k,rfl,h3⟩
theorem LimbsAt.cells {w : World} {ao : Option Addr} {xs : List Nat} (h : LimbsAt w ao xs) (hk : 0 < xs.length) :
  ∃b off,ao = some ⟨b,off,none⟩∧b < w.heap.size∧∀k,k < xs.length→w.cell? ⟨b,off + k,none⟩ = some (.int .u32 (xs.getD k 0 : Nat)):=by
 obtain ⟨b,off,h1,hb,h2⟩:=h.cell hk
 refine ⟨b,off,h1,hb,fun k hk=>?_⟩
 obtain ⟨b',off',h1',_,h2'⟩:=h.cell hk
 rw [h1] at h1'
 injection h1' with h1'
 injection h1' with e1 e2
 subst e1; subst e2
 exact h2'
theorem LimbsAt.take {w : World} {ao : Option Addr} {xs : List Nat} (h : LimbsAt w ao xs) (n : Nat) : LimbsAt w ao (xs.take n):=
 ⟨h.1.take n,fun hne=>by
  obtain ⟨b,off,cs,fz,h1,h2,h3⟩:=h.2 (by rintro rfl; simp at hne)
  refine ⟨b,off,cs,fz,h1,h2,fun k x hk=>h3 k x ?_⟩
  rw [List.getElem?_take] at hk
  split at hk
  ·exact hk
  ·cases hk⟩
def limbCells (xs : List Nat) : Array Value:=(xs.map fun n=>Value.int .u32 (n : Nat)).toArray
def LBlk (w : World) (b : Nat) (xs : List Nat) : Prop:=w.heap[b]? = some (.cells (limbCells xs) tU (0,0))
theorem LBlk.lt {w : World} {b : Nat} {xs : List Nat} (h : LBlk w b xs) : b < w.heap.size:=(Array.getElem?_eq_some_iff.1 h).1
theorem LBlk.cell {w : World} {b : Nat} {xs : List Nat} (h : LBlk w b xs) {k : Nat} (hk : k < xs.length) : w.cell? ⟨b,k,none⟩ = some (.int .u32 (xs.getD k 0 : Nat)):=by
 rw [cell_of_row w b k _ tU _ h]
 simp [limbCells,List.getElem?_eq_getElem hk,List.getD_eq_getElem?_getD]
theorem LBlk.frozen {w : World} {b : Nat} {xs : List Nat} (h : LBlk w b xs) (k : Nat) : w.frozen? ⟨b,k,none⟩ = false:=frozen_of_row w b k _ _ h
theorem LBlk.set {w : World} {b : Nat} {xs : List Nat} (h : LBlk w b xs) (k n : Nat) : LBlk (w.setCell ⟨b,k,none⟩ (.int .u32 (n : Nat))) b (xs.set k n):=by
 unfold LBlk at h ⊢
 rw [heap_setCell_same w b k _ tU _ h]
 simp [limbCells,List.map_set]
theorem LBlk.set' {w : World} {b : Nat} {xs : List Nat} (h : LBlk w b xs) (k : Nat) (m : Int) (n : Nat) (hm : m = n) : LBlk (w.setCell ⟨b,k,none⟩ (.int .u32 m)) b (xs.set k n):=by
 subst hm; exact h.set k n
theorem LBlk.ext {w w' : World} {b : Nat} {xs : List Nat} (h : LBlk w b xs) (e : LExt w w') : LBlk w' b xs:=e _ _ _ h
theorem LBlk.alloc {w : World} {b : Nat} {xs : List Nat} (h : LBlk w b xs) (o : Obj) : LBlk (w.alloc o) b xs:=(heap_alloc_old w o h.lt).trans h
theorem LBlk.at_ {w : World} {b : Nat} {xs : List Nat} (h : LBlk w b xs) (hx : Limbs xs) : LimbsAt w (some ⟨b,0,none⟩) xs:=
 ⟨hx,fun _=>⟨b,0,_,_,rfl,h,fun k x hk=>by simp [limbCells,hk]⟩⟩
theorem Tryz.infoU : (Tryz.prog.info? tU).map (fun i=>(i.zero,i.size,i.bytes)) = some (some (.int .u32 0),1,4):=by kernel_rfl
theorem run_make_rowN {P : Program} (t e : TypeId) (i : TypeInfo) (z : Value) (ht : P.underlying t = some (.slice e)) (hi : P.info? e = some i) (hz : i.zero = some z)
  (kl kc : IntKind) (n c : Nat) (hnc : n≤c) (hbytes : i.bytes * c≤281474976710656) (h63 : c≤9223372036854775807) (w : World) :
  (Instr.makeSlice t (.int kl (n : Int)) (.int kc (c : Int))).run P w = .ok (.slice (some ⟨w.heap.size,0,none⟩) n c) (w.alloc (.cells (madeCells z.cells (c * i.size)) e)):=by
 have hb : (i.bytes : Int) * (c : Int)≤281474976710656:=by
  have h : ((i.bytes * c : Nat) : Int)≤281474976710656:=by omega
  rwa [Int.natCast_mul] at h
 have hr:=run_make (P:=P) w t e i z ht hi hz kl kc n c (by omega) (by omega) hb (by omega)
 simp only [Int.toNat_natCast] at hr
 exact hr
theorem madeU (n : Nat) : madeCells (Value.int .u32 0).cells (n * 1) = limbCells (List.replicate n 0):=by
 apply Array.ext
 ·simp [madeCells,limbCells]
 ·intro i h1 h2
  simp [madeCells,limbCells,Nat.mod_one,Value.cells]
theorem mkU (m : Int) (n : Nat) (hm : m = n) (h : n≤70368744177664) (W : World) :
  (Instr.makeSlice 43 (.int .i64 m) (.int .i64 m)).run Tryz.prog W = .ok (.slice (some ⟨W.heap.size,0,none⟩) n n) (W.alloc (.cells (limbCells (List.replicate n 0)) tU)):=by
 subst hm
 obtain ⟨i0,hi,hz0,hz1,hz2⟩:=info_parts Tryz.infoU
 have:=run_make_rowN (P:=Tryz.prog) 43 tU i0 _ Tryz.underlying43 hi hz0 .i64 .i64 n n (Nat.le_refl _) (by rw [hz2]; omega) (by omega) W
 rw [this,hz1,madeU]
theorem LBlk.made (w : World) (xs : List Nat) : LBlk (w.alloc (.cells (limbCells xs) tU)) w.heap.size xs:=heap_alloc_new w _
def IntW (w : World) (v : Value) (z : Int) : Prop:=
 ∃neg ao n cap xs,v = .agg #[.bool neg,.slice ao n cap]∧xs.length = n∧n≤cap∧cap≤9223372036854775807∧LimbsAt w ao xs∧Normal xs∧z = sgn neg (nat xs)
def IntV (w : World) (v : Value) (z : Int) : Prop:=
 ∃neg ao n cap xs,v = .agg #[.bool neg,.slice ao n cap]∧xs.length = n∧n≤cap∧cap≤9223372036854775807∧LimbsAt w ao xs∧Normal xs∧z = sgn neg (nat xs)∧(n = 0→neg = false)
theorem IntV.weak {w : World} {v : Value} {z : Int} (h : IntV w v z) : IntW w v z:=by
 obtain ⟨neg,ao,n,cap,xs,h1,h2,h3,h4,h5,h6,h7,_⟩:=h
 exact ⟨neg,ao,n,cap,xs,h1,h2,h3,h4,h5,h6,h7⟩
theorem IntW.ext {w w' : World} {v : Value} {z : Int} (h : IntW w v z) (e : LExt w w') : IntW w' v z:=by
 obtain ⟨neg,ao,n,cap,xs,h1,h2,h3,h4,h5,h6⟩:=h
 exact ⟨neg,ao,n,cap,xs,h1,h2,h3,h4,h5.ext e,h6⟩
theorem IntV.ext {w w' : World} {v : Value} {z : Int} (h : IntV w v z) (e : LExt w w') : IntV w' v z:=by
 obtain ⟨neg,ao,n,cap,xs,h1,h2,h3,h4,h5,h6⟩:=h
 exact ⟨neg,ao,n,cap,xs,h1,h2,h3,h4,h5.ext e,h6⟩
theorem IntV.below {w w' : World} {B : Nat} {v : Value} {z : Int} (h : IntV w v z) (hb : Below B w w') (hB : w.heap.size≤B) : IntV w' v z:=h.ext (LExt.below hb hB)
def Sm (z : Int) : Prop:=z.natAbs < B32 ^ LIM
theorem Sm.len {neg : Bool} {xs : List Nat} (h : Sm (sgn neg (nat xs))) (hn : Normal xs) : xs.length≤LIM:=by
 unfold Sm at h
 rw [natAbs_sgn] at h
 cases hx : xs.length with
 | zero=>omega
 | succ n=>
  have h1:=nat_ge hn hx
  rcases Nat.lt_or_ge n LIM with h2 | h2
  ·omega
  ·have:=pow_mono h2; omega
theorem Sm.of_pow {z : Int} {k : Nat} (h : z.natAbs < B32 ^ k) (hk : k≤LIM) : Sm z:=Nat.lt_of_lt_of_le h (pow_mono hk)
theorem Sm.mono {z y : Int} (h : Sm z) (hy : y.natAbs≤z.natAbs) : Sm y:=Nat.lt_of_le_of_lt hy h
def RetInt (w : World) (z : Int) (e : Ending) (w' : World) : Prop:=∃v,e = .returned v∧IntV w' v z∧Below w.heap.size w w'
def RetLimbs (w : World) (n : Nat) (e : Ending) (w' : World) : Prop:=
 ∃ao len cap xs,e = .returned (.slice ao len cap)∧xs.length = len∧len≤cap∧cap≤9223372036854775807∧LimbsAt w' ao xs∧nat xs = n∧Below w.heap.size w w'
theorem bcell {W w1 : World} (hb : Below W.heap.size W w1) : (∀b o,b < W.heap.size→w1.cell? ⟨b,o,none⟩ = W.cell? ⟨b,o,none⟩)∧(∀b o,b < W.heap.size→w1.frozen? ⟨b,o,none⟩ = W.frozen? ⟨b,o,none⟩):=
 ⟨fun b o h=>hb.cell (p:=⟨b,o,none⟩) h,fun b o h=>hb.frozen (p:=⟨b,o,none⟩) h⟩
theorem wp_world {P : Program} {c : Code} {Q : Exit→Act→World→Prop} {a : Act} {w : World} (h : ∀W0,Hid (W0 = w)→Code.wp P c Q a W0) : Code.wp P c Q a w:=h w rfl
theorem cell_at {W w : World} (h : Hid (W = w)) {a : Addr} {v : Option Value} (k : w.cell? a = v) : W.cell? a = v:=by rw [h.out]; exact k
theorem frozen_at {W w : World} (h : Hid (W = w)) {a : Addr} {v : Bool} (k : w.frozen? a = v) : W.frozen? a = v:=by rw [h.out]; exact k
theorem kc_drew {w : World} {a : Addr} {v : Value} (h : w.cell? a = some v) : w.drew.cell? a = some v:=h
theorem kc_below {w w1 : World} {b o : Nat} {v : Value} (h : w.cell? ⟨b,o,none⟩ = some v) (hb : Below w.heap.size w w1) : w1.cell? ⟨b,o,none⟩ = some v:=
 (hb.cell (p:=⟨b,o,none⟩) (World.block_lt_of_cell? w _ h)).trans h
theorem kc_set {w : World} {b o r i : Nat} {v u : Value} (h : w.cell? ⟨b,o,none⟩ = some v) (hne : b ≠ r) : (w.setCell ⟨r,i,none⟩ u).cell? ⟨b,o,none⟩ = some v:=
 (World.cell?_setCell_other w _ _ u (fun e=>hne (by injection e with e1; exact e1.symm))).trans h
theorem kf_below {w w1 : World} {b o : Nat} {v : Value} {f : Bool} (h : w.cell? ⟨b,o,none⟩ = some v) (hf : w.frozen? ⟨b,o,none⟩ = f) (hb : Below w.heap.size w w1) : w1.frozen? ⟨b,o,none⟩ = f:=
 (hb.frozen (p:=⟨b,o,none⟩) (World.block_lt_of_cell? w _ h)).trans hf
theorem nx {w W W' : World} (h : Below w.heap.size w W) (hb : Below W.heap.size W W') : Below w.heap.size w W':=h.trans (hb.mono h.size)
theorem lx {w W : World} (h : Below w.heap.size w W) : LExt w W:=LExt.below h (Nat.le_refl _)
theorem dr (w : World) : Below w.heap.size w w.drew:=(Below.refl _ _).drew
theorem drN (w : World) (n : Nat) : Below w.heap.size w (w.drewN n):=⟨rfl,rfl,rfl,Nat.le_refl _,fun _ _=>rfl⟩
def Blk (w : World) (g : Nat) (t : TypeId) (cs : Array Value) : Prop:=w.heap[g]? = some (.cells cs t (0,0))
section
variable {w w' : World} {g : Nat} {t : TypeId} {cs : Array Value}
theorem Blk.lt (h : Blk w g t cs) : g < w.heap.size:=(Array.getElem?_eq_some_iff.1 h).1
theorem Blk.cell (h : Blk w g t cs) (i : Nat) : w.cell? ⟨g,i,none⟩ = cs[i]?:=cell_of_row w g i cs t (0,0) h
theorem Blk.frozen (h : Blk w g t cs) (i : Nat) : w.frozen? ⟨g,i,none⟩ = false:=frozen_of_row w g i cs t h
theorem Blk.new (w : World) (t : TypeId) (cs : Array Value) : Blk (w.alloc (.cells cs t)) w.heap.size t cs:=heap_alloc_new w _
theorem Blk.drew (h : Blk w g t cs) : Blk w.drew g t cs:=h
theorem Blk.drewN (h : Blk w g t cs) (n : Nat) : Blk (w.drewN n) g t cs:=h
theorem Blk.alloc (h : Blk w g t cs) (o : Obj) : Blk (w.alloc o) g t cs:=(Below.heap_alloc w o g h.lt).trans h
theorem Blk.set_ (h : Blk w g t cs) (i : Nat) (u : Value) : Blk (w.setCell ⟨g,i,none⟩ u) g t (cs.setIfInBounds i u):=by
 unfold Blk at h ⊢
 simp [World.setCell,Array.getElem?_modify,h]
theorem Blk.far (h : Blk w g t cs) {r : Nat} (hp : g ≠ r) (i : Nat) (u : Value) : Blk (w.setCell ⟨r,i,none⟩ u) g t cs:=(Below.heap_setCell w ⟨r,i,none⟩ u g hp).trans h
theorem Blk.below (h : Blk w g t cs) (hb : Below w.heap.size w w') : Blk w' g t cs:=(hb.block g h.lt).trans h
theorem Blk.belowB {B : Nat} (h : Blk w g t cs) (hb : Below B w w') (hg : g < B) : Blk w' g t cs:=(hb.block g hg).trans h
theorem Blk.at_ (e : Hid (w' = w)) (h : Blk w g t cs) : Blk w' g t cs:=by rw [e.out]; exact h
theorem Blk.lext (h : Blk w g t cs) (hne : t ≠ tU) (i : Nat) (u : Value) : LExt w (w.setCell ⟨g,i,none⟩ u):=fun b c fz hb=>by
 have hg : b ≠ g:=by
  rintro rfl
  unfold Blk at h
  rw [h] at hb
  injection hb with hb
  injection hb with _ ht
  exact hne ht
 exact (Below.heap_setCell w ⟨g,i,none⟩ u b hg).trans hb
theorem bset {B : Nat} {a : World} (h : Below B a w) (hp : B≤g) (i : Nat) (u : Value) : Below B a (w.setCell ⟨g,i,none⟩ u):=h.setCell (p:=⟨g,i,none⟩) hp u
theorem Blk.two {c0 c1 : Value} (h : Blk w g t #[c0,c1]) : w.cell? ⟨g,0,none⟩ = some c0∧w.cell? ⟨g,1,none⟩ = some c1∧w.frozen? ⟨g,0,none⟩ = false∧w.frozen? ⟨g,1,none⟩ = false:=
 ⟨h.cell 0,h.cell 1,h.frozen 0,h.frozen 1⟩
theorem Blk.three {c0 c1 c2 : Value} (h : Blk w g t #[c0,c1,c2]) : w.cell? ⟨g,0,none⟩ = some c0∧w.cell? ⟨g,1,none⟩ = some c1∧w.cell? ⟨g,2,none⟩ = some c2 ∧
  w.frozen? ⟨g,0,none⟩ = false∧w.frozen? ⟨g,1,none⟩ = false∧w.frozen? ⟨g,2,none⟩ = false:=
 ⟨h.cell 0,h.cell 1,h.cell 2,h.frozen 0,h.frozen 1,h.frozen 2⟩
end
theorem Blk.put2 {w : World} {r : Nat} {T : TypeId} {c0 c1 : Value} (h : Blk w r T #[c0,c1]) (x y : Value) : Blk ((w.setCell ⟨r,0,none⟩ x).setCell ⟨r,1,none⟩ y) r T #[x,y]:=by
 simpa using (h.set_ 0 x).set_ 1 y
theorem Blk.lext2 {w : World} {r : Nat} {T : TypeId} {cs : Array Value} (h : Blk w r T cs) (hne : T ≠ tU) (x y : Value) : LExt w ((w.setCell ⟨r,0,none⟩ x).setCell ⟨r,1,none⟩ y):=
 (h.lext hne 0 _).trans ((h.set_ 0 _).lext hne 1 _)
theorem Tryz.sizeI : (Tryz.prog.info? 45).map (·.size) = some 2:=by kernel_rfl
theorem bodyPost_int {fn : Func} {a : Act} {w W : World} {z : Int} {r : Nat} {v : Array Value} {p : Tmp} (h : fn.results = #[.cell p 45]) (hd : a.defers = [])
  (hp : a.tmps.getD p undef = .pointer (some ⟨r,0,none⟩)) (hb : Blk W r 45 v) (hv : IntV W (.agg v) z) (hbel : Below w.heap.size w W) : bodyPost Tryz.prog fn (RetInt w z) .ret a W:=by
 obtain ⟨neg,ao,n,cap,xs,h1,h2⟩:=hv
 injection h1 with h1
 subst h1
 exact bodyPost_ret (results_cell_row h _ W r _ _ _ _ hp hb Tryz.underlying45 rfl (by rw [Tryz.sizeI]; rfl)) hd ⟨_,rfl,⟨neg,ao,n,cap,xs,rfl,h2⟩,hbel⟩
section
variable {w W0 : World} {T1 T2 T3 T4 T5 : TypeId} {A B C D E : Array Value}
theorem world1 (h : Hid (W0 = w.alloc (.cells A T1))) : Below w.heap.size w W0∧Blk W0 w.heap.size T1 A∧w.heap.size < W0.heap.size:=by
 rw [h.out]
 exact ⟨(Below.refl _ _).alloc (Nat.le_refl _) _,Blk.new _ _ _,by simp⟩
theorem world2 (h : Hid (W0 = (w.alloc (.cells A T1)).alloc (.cells B T2))) : Below w.heap.size w W0∧Blk W0 w.heap.size T1 A∧Blk W0 (w.heap.size + 1) T2 B∧w.heap.size + 1 < W0.heap.size:=by
 obtain ⟨h1,h2,h3⟩:=world1 (w:=w.alloc (.cells A T1)) (W0:=W0) (A:=B) (T1:=T2) h
 obtain ⟨k1,k2,k3⟩:=world1 (w:=w) (W0:=w.alloc (.cells A T1)) (A:=A) (T1:=T1) rfl
 simp only [World.size_alloc] at h2 h3
 exact ⟨nx k1 h1,k2.below h1,h2,h3⟩
theorem world3 (h : Hid (W0 = ((w.alloc (.cells A T1)).alloc (.cells B T2)).alloc (.cells C T3))) :
  Below w.heap.size w W0∧Blk W0 w.heap.size T1 A∧Blk W0 (w.heap.size + 1) T2 B∧Blk W0 (w.heap.size + 1 + 1) T3 C∧w.heap.size + 1 + 1 < W0.heap.size:=by
 obtain ⟨h1,h2,h3⟩:=world1 (w:=(w.alloc (.cells A T1)).alloc (.cells B T2)) (W0:=W0) h
 obtain ⟨k1,k2,k3,k4⟩:=world2 (w:=w) (W0:=(w.alloc (.cells A T1)).alloc (.cells B T2)) rfl
 simp only [World.size_alloc] at h2 h3
 exact ⟨nx k1 h1,k2.below h1,k3.below h1,h2,h3⟩
theorem world4 (h : Hid (W0 = (((w.alloc (.cells A T1)).alloc (.cells B T2)).alloc (.cells C T3)).alloc (.cells D T4))) :
  Below w.heap.size w W0∧Blk W0 w.heap.size T1 A∧Blk W0 (w.heap.size + 1) T2 B∧Blk W0 (w.heap.size + 1 + 1) T3 C∧Blk W0 (w.heap.size + 1 + 1 + 1) T4 D∧w.heap.size + 1 + 1 + 1 < W0.heap.size:=by
 obtain ⟨h1,h2,h3⟩:=world1 (w:=((w.alloc (.cells A T1)).alloc (.cells B T2)).alloc (.cells C T3)) (W0:=W0) h
 obtain ⟨k1,k2,k3,k4,k5⟩:=world3 (w:=w) (W0:=((w.alloc (.cells A T1)).alloc (.cells B T2)).alloc (.cells C T3)) rfl
 simp only [World.size_alloc] at h2 h3
 exact ⟨nx k1 h1,k2.below h1,k3.below h1,k4.below h1,h2,h3⟩
theorem world5 (h : Hid (W0 = ((((w.alloc (.cells A T1)).alloc (.cells B T2)).alloc (.cells C T3)).alloc (.cells D T4)).alloc (.cells E T5))) :
  Below w.heap.size w W0∧Blk W0 w.heap.size T1 A∧Blk W0 (w.heap.size + 1) T2 B∧Blk W0 (w.heap.size + 1 + 1) T3 C∧Blk W0 (w.heap.size + 1 + 1 + 1) T4 D∧Blk W0 (w.heap.size + 1 + 1 + 1 + 1) T5 E∧w.heap.size + 1 + 1 + 1 + 1 < W0.heap.size:=by
 obtain ⟨h1,h2,h3⟩:=world1 (w:=(((w.alloc (.cells A T1)).alloc (.cells B T2)).alloc (.cells C T3)).alloc (.cells D T4)) (W0:=W0) h
 obtain ⟨k1,k2,k3,k4,k5,k6⟩:=world4 (w:=w) (W0:=(((w.alloc (.cells A T1)).alloc (.cells B T2)).alloc (.cells C T3)).alloc (.cells D T4)) rfl
 simp only [World.size_alloc] at h2 h3
 exact ⟨nx k1 h1,k2.below h1,k3.below h1,k4.below h1,k5.below h1,h2,h3⟩
end
set_option maxHeartbeats 400000 in
theorem trim_any (ao : Option Addr) (n cap : Nat) (xs : List Nat) (w : World) (hn : xs.length = n) (hl : n≤cap) (hcap : cap≤9223372036854775807) (hx : LimbsAt w ao xs) :
  Calls Tryz.prog 98 #[.slice ao n cap] w fun e w'=>
   e = .returned (.slice ao (topLen xs n) (topLen xs n))∧w = w':=by
 have HN:=Lib.hid hn
 have hle:=topLen_le xs n
 have hlen : xs.length≤n:=by omega
 have hlen' : n≤xs.length:=by omega
 clear hn
 go_enter Tryz.func98,Tryz.ntmps98
 go_wp2
 go_step3
 go_wp2
 go_step3
 go_wp2
 go_loop [3] (fun v=>∃k : Nat,k≤n∧v = .int .i64 k∧Hid (topLen xs k = topLen xs n)) (fun v=>(intOf v).toNat)
 case atStart=>exact ⟨n,Nat.le_refl _,rfl,rfl⟩
 case round=>
  obtain ⟨k,hk,rfl,ht⟩:=hrel
  cases k with
  | zero=>
   have e : topLen xs n = 0:=ht.out.symm
   go_wp2
   go_ret
   exact ⟨by simp [e],rfl⟩
  | succ k=>
   obtain ⟨b,off,x,rfl,_,hx32,HX,hck⟩:=hx.limb (k:=k) (by omega)
   by_cases hz : x = 0
   ·have ht' : Hid (topLen xs k = topLen xs n):=by
     have:=ht.out; rw [show topLen xs (k + 1) = if xs.getD k 0 = 0 then topLen xs k else k + 1 from rfl,if_pos (HX.out.trans hz)] at this; exact this
    subst hz
    clear ht
    go_wp2
    go_round
    case rel=>exact ⟨k,by omega,by go_num,ht'⟩
    case measure=>simp [intOf]
   ·have ht' : Hid (topLen xs n = k + 1):=by
     have:=ht.out; rw [show topLen xs (k + 1) = if xs.getD k 0 = 0 then topLen xs k else k + 1 from rfl,if_neg (by rw [HX.out]; exact hz)] at this; exact this.symm
    have hzz : ((x : Int) == 0) = false:=by simpa using hz
    clear hz ht
    go_wp2
    go_ret
    exact ⟨by simp [ht'.out],rfl⟩
set_option maxHeartbeats 400000 in
set_option maxRecDepth 20000 in
theorem plus_any (ao1 ao2 : Option Addr) (n1 cap1 n2 cap2 : Nat) (xs ys : List Nat) (w : World) (hn1 : xs.length = n1) (hn2 : ys.length = n2) (hl1 : n1≤cap1) (hl2 : n2≤cap2)
  (hc1 : cap1≤9223372036854775807) (hc2 : cap2≤9223372036854775807) (hb1 : n1≤4 * LIM) (hb2 : n2≤4 * LIM) (hx1 : LimbsAt w ao1 xs) (hx2 : LimbsAt w ao2 ys) :
  Calls Tryz.prog 131 #[.slice ao1 n1 cap1,.slice ao2 n2 cap2] w (RetLimbs w (nat xs + nat ys)):=by
 have HN1:=Lib.hid hn1
 have HN2:=Lib.hid hn2
 have hlen1 : xs.length≤n1:=by omega
 have hlen1' : n1≤xs.length:=by omega
 have hlen2 : ys.length≤n2:=by omega
 have hlen2' : n2≤ys.length:=by omega
 clear hn1 hn2
 rw [LIM_eq] at hb1 hb2
 by_cases hlt : n1 < n2
 case pos=>
  have hle : n1≤n2:=by omega
  have hmk:=fun W=>mkU ((n2 : Int) + 1) (n2 + 1) (by omega) (by omega) W
  go_enter Tryz.func131,Tryz.ntmps131
  go_wp2
  clear hmk
  go_loopw [6,21] (fun c i wr=>∃(k d : Nat) (zs : List Nat),k≤n2∧i = .int .i64 k∧c = .int .u64 d∧d≤1∧LBlk wr w.heap.size zs∧Below w.heap.size w wr∧n2 < zs.length ∧
    Hid (zs.length = n2 + 1∧Limbs zs∧nat (zs.take k) + d * B32 ^ k = nat (ys.take k) + nat (xs.take k))) (fun _ i _=>n2 - (intOf i).toNat)
  case atStart=>exact ⟨0,0,List.replicate (n2 + 1) 0,by omega,rfl,rfl,by omega,LBlk.made _ _,(Below.refl _ _).alloc (Nat.le_refl _) _,by simp,⟨by simp,fun x hx=>by rw [List.eq_of_mem_replicate hx]; exact B32_pos,by simp⟩⟩
  case round=>
   obtain ⟨k,d,zs,hk,rfl,rfl,hd,hblk,hbel,hlz,HH⟩:=hrel
   have hfr:=hblk.frozen k
   by_cases hkn : k < n2
   ·obtain ⟨b,off,x,rfl,hbw,hx32,HX,hck⟩:=hx2.limb (k:=k) (by omega)
    have hck':=(hbel.cell (p:=⟨b,off + k,none⟩) hbw).trans hck
    have hcz:=hblk.cell (k:=k) (by omega)
    clear hck
    by_cases hk2 : k < n1
    ·obtain ⟨b2,off2,y,rfl,hbw2,hy32,HY,hcy⟩:=hx1.limb (k:=k) (by omega)
     have hcy':=(hbel.cell (p:=⟨b2,off2 + k,none⟩) hbw2).trans hcy
     clear hcy
     go_wp2
     go_roundw
     case rel=>exact ⟨k + 1,(d + x + y) / 4294967296,zs.set k ((d + x + y) % 4294967296),by omega,by go_num,by go_num,by omega,hblk.set' _ _ _ (by omega),hbel.setCell (Nat.le_refl _) _,by simpa using hlz,
       ⟨by simpa using HH.out.1,HH.out.2.1.set _ _ (Nat.mod_lt _ (by omega)),plus_step HH.out.2.2 (by omega) HX.out HY.out⟩⟩
     case measure=>simp [intOf]; omega
    ·have HY : xs.getD k 0 = 0:=by rw [List.getD_eq_getElem?_getD,List.getElem?_eq_none (by omega)]; rfl
     have HY':=Lib.hid HY
     clear HY
     go_wp2
     go_roundw
     case rel=>exact ⟨k + 1,(d + x) / 4294967296,zs.set k ((d + x) % 4294967296),by omega,by go_num,by go_num,by omega,hblk.set' _ _ _ (by omega),hbel.setCell (Nat.le_refl _) _,by simpa using hlz,
       ⟨by simpa using HH.out.1,HH.out.2.1.set _ _ (Nat.mod_lt _ (by omega)),plus_step HH.out.2.2 (by omega) HX.out HY'.out⟩⟩
     case measure=>simp [intOf]; omega
   ·obtain rfl : n2 = k:=by omega
    have hcz:=hblk.cell (k:=n2) (by omega)
    go_wp2
    go_ret
    refine ⟨_,_,_,zs.set n2 d,rfl,by simpa using HH.out.1,by omega,by omega,(hblk.set' _ _ d (by omega)).at_ (HH.out.2.1.set _ _ (by unfold B32; omega)),?_,hbel.setCell (Nat.le_refl _) _⟩
    have h1:=HH.out.2.2
    have h2:=nat_take_set zs n2 d hlz
    rw [nat_take_all _ (by simp [HH.out.1]),h1,nat_take_all ys (by omega),nat_take_all xs (by omega)] at h2
    omega
 case neg=>
  have hle : n2≤n1:=by omega
  have hmk:=fun W=>mkU ((n1 : Int) + 1) (n1 + 1) (by omega) (by omega) W
  go_enter Tryz.func131,Tryz.ntmps131
  go_wp2
  clear hmk
  go_loopw [6,21] (fun c i wr=>∃(k d : Nat) (zs : List Nat),k≤n1∧i = .int .i64 k∧c = .int .u64 d∧d≤1∧LBlk wr w.heap.size zs∧Below w.heap.size w wr∧n1 < zs.length ∧
    Hid (zs.length = n1 + 1∧Limbs zs∧nat (zs.take k) + d * B32 ^ k = nat (xs.take k) + nat (ys.take k))) (fun _ i _=>n1 - (intOf i).toNat)
  case atStart=>exact ⟨0,0,List.replicate (n1 + 1) 0,by omega,rfl,rfl,by omega,LBlk.made _ _,(Below.refl _ _).alloc (Nat.le_refl _) _,by simp,⟨by simp,fun x hx=>by rw [List.eq_of_mem_replicate hx]; exact B32_pos,by simp⟩⟩
  case round=>
   obtain ⟨k,d,zs,hk,rfl,rfl,hd,hblk,hbel,hlz,HH⟩:=hrel
   have hfr:=hblk.frozen k
   by_cases hkn : k < n1
   ·obtain ⟨b,off,x,rfl,hbw,hx32,HX,hck⟩:=hx1.limb (k:=k) (by omega)
    have hck':=(hbel.cell (p:=⟨b,off + k,none⟩) hbw).trans hck
    have hcz:=hblk.cell (k:=k) (by omega)
    clear hck
    by_cases hk2 : k < n2
    ·obtain ⟨b2,off2,y,rfl,hbw2,hy32,HY,hcy⟩:=hx2.limb (k:=k) (by omega)
     have hcy':=(hbel.cell (p:=⟨b2,off2 + k,none⟩) hbw2).trans hcy
     clear hcy
     go_wp2
     go_roundw
     case rel=>exact ⟨k + 1,(d + x + y) / 4294967296,zs.set k ((d + x + y) % 4294967296),by omega,by go_num,by go_num,by omega,hblk.set' _ _ _ (by omega),hbel.setCell (Nat.le_refl _) _,by simpa using hlz,
       ⟨by simpa using HH.out.1,HH.out.2.1.set _ _ (Nat.mod_lt _ (by omega)),plus_step HH.out.2.2 (by omega) HX.out HY.out⟩⟩
     case measure=>simp [intOf]; omega
    ·have HY : ys.getD k 0 = 0:=by rw [List.getD_eq_getElem?_getD,List.getElem?_eq_none (by omega)]; rfl
     have HY':=Lib.hid HY
     clear HY
     go_wp2
     go_roundw
     case rel=>exact ⟨k + 1,(d + x) / 4294967296,zs.set k ((d + x) % 4294967296),by omega,by go_num,by go_num,by omega,hblk.set' _ _ _ (by omega),hbel.setCell (Nat.le_refl _) _,by simpa using hlz,
       ⟨by simpa using HH.out.1,HH.out.2.1.set _ _ (Nat.mod_lt _ (by omega)),plus_step HH.out.2.2 (by omega) HX.out HY'.out⟩⟩
     case measure=>simp [intOf]; omega
   ·obtain rfl : n1 = k:=by omega
    have hcz:=hblk.cell (k:=n1) (by omega)
    go_wp2
    go_ret
    refine ⟨_,_,_,zs.set n1 d,rfl,by simpa using HH.out.1,by omega,by omega,(hblk.set' _ _ d (by omega)).at_ (HH.out.2.1.set _ _ (by unfold B32; omega)),?_,hbel.setCell (Nat.le_refl _) _⟩
    have h1:=HH.out.2.2
    have h2:=nat_take_set zs n1 d hlz
    rw [nat_take_all _ (by simp [HH.out.1]),h1,nat_take_all xs (by omega),nat_take_all ys (by omega)] at h2
    omega
set_option maxHeartbeats 400000 in
theorem cmpInt_any (a b : Int) (w : World) :
  Calls Tryz.prog 127 #[.int .i64 a,.int .i64 b] w fun e w'=>e = .returned (.int .i64 (cmpI a b))∧w = w':=by
 by_cases h1 : a < b
 ·have h1' : ¬ b < a:=by omega
  have e : cmpI a b = -1:=by unfold cmpI; rw [if_pos h1]
  have E:=Lib.hid e
  clear e
  go_enter Tryz.func127,Tryz.ntmps127
  go_wp2_with (go_in)
  go_ret
  exact ⟨by rw [E.out]; rfl,rfl⟩
 ·by_cases h2 : b < a
  ·have e : cmpI a b = 1:=by unfold cmpI; rw [if_neg h1,if_pos h2]
   have E:=Lib.hid e
   clear e
   go_enter Tryz.func127,Tryz.ntmps127
   go_wp2_with (go_in)
   go_ret
   exact ⟨by rw [E.out]; rfl,rfl⟩
  ·have e : cmpI a b = 0:=by unfold cmpI; rw [if_neg h1,if_neg h2]
   have E:=Lib.hid e
   clear e
   go_enter Tryz.func127,Tryz.ntmps127
   go_wp2_with (go_in)
   go_ret
   exact ⟨by rw [E.out]; rfl,rfl⟩
set_option maxHeartbeats 400000 in
theorem cmpU32_any (a b : Int) (w : World) :
  Calls Tryz.prog 140 #[.int .u32 a,.int .u32 b] w fun e w'=>e = .returned (.int .i64 (cmpI a b))∧w = w':=by
 by_cases h1 : a < b
 ·have h1' : ¬ b < a:=by omega
  have e : cmpI a b = -1:=by unfold cmpI; rw [if_pos h1]
  have E:=Lib.hid e
  clear e
  go_enter Tryz.func140,Tryz.ntmps140
  go_wp2_with (go_in)
  go_ret
  exact ⟨by rw [E.out]; rfl,rfl⟩
 ·by_cases h2 : b < a
  ·have e : cmpI a b = 1:=by unfold cmpI; rw [if_neg h1,if_pos h2]
   have E:=Lib.hid e
   clear e
   go_enter Tryz.func140,Tryz.ntmps140
   go_wp2_with (go_in)
   go_ret
   exact ⟨by rw [E.out]; rfl,rfl⟩
  ·have e : cmpI a b = 0:=by unfold cmpI; rw [if_neg h1,if_neg h2]
   have E:=Lib.hid e
   clear e
   go_enter Tryz.func140,Tryz.ntmps140
   go_wp2_with (go_in)
   go_ret
   exact ⟨by rw [E.out]; rfl,rfl⟩
theorem cmpU32_is (a b c : Int) (w : World) (h : cmpI a b = c) :
  Calls Tryz.prog 140 #[.int .u32 a,.int .u32 b] w fun e w'=>e = .returned (.int .i64 c)∧w' = w:=
 (cmpU32_any a b w).mono fun _ _ ⟨he,hw⟩=>⟨by rw [he,h],hw.symm⟩
theorem cmpI_lt {a b : Int} (h : a < b) : cmpI a b = -1:=by unfold cmpI; rw [if_pos h]
theorem cmpI_gt {a b : Int} (h : b < a) : cmpI a b = 1:=by unfold cmpI; rw [if_neg (by omega),if_pos h]
theorem cmpI_eq {a b : Int} (h : a = b) : cmpI a b = 0:=by unfold cmpI; rw [if_neg (by omega),if_neg (by omega)]
set_option maxHeartbeats 400000 in
theorem compare_any (ao1 ao2 : Option Addr) (n1 cap1 n2 cap2 : Nat) (xs ys : List Nat) (w : World) (hn1 : xs.length = n1) (hn2 : ys.length = n2) (hl1 : n1≤cap1) (hl2 : n2≤cap2)
  (hc1 : cap1≤9223372036854775807) (hc2 : cap2≤9223372036854775807) (hx1 : LimbsAt w ao1 xs) (hx2 : LimbsAt w ao2 ys) (hN1 : Normal xs) (hN2 : Normal ys) :
  Calls Tryz.prog 128 #[.slice ao1 n1 cap1,.slice ao2 n2 cap2] w fun e w'=>e = .returned (.int .i64 (cmpI (nat xs) (nat ys)))∧∃q,w' = w.drewN q:=by
 have HN1:=Lib.hid hn1
 have HN2:=Lib.hid hn2
 by_cases hne : n1 = n2
 ·subst hne
  have ec : ((cmpI (n1 : Int) (n1 : Int)) != 0) = false:=by unfold cmpI; simp
  have hlen1 : xs.length≤n1:=by omega
  have hlen1' : n1≤xs.length:=by omega
  have hlen2 : ys.length≤n1:=by omega
  have hlen2' : n1≤ys.length:=by omega
  clear hn1 hn2
  go_enter Tryz.func128,Tryz.ntmps128
  go_wp2_with (go_at_call 127; refine (cmpInt_any _ _ _).mono ?_; rintro e w' ⟨rfl,rfl⟩)
  clear ec
  go_loopw [6] (fun i wr=>∃k q : Nat,k≤n1∧i = .int .i64 ((k : Int) - 1)∧Hid (xs.drop k = ys.drop k)∧Hid (wr = w.drewN q)) (fun i _=>(intOf i + 1).toNat)
  case atStart=>exact ⟨n1,0,Nat.le_refl _,rfl,by show _ = _; rw [List.drop_eq_nil_of_le (by omega),List.drop_eq_nil_of_le (by omega)],rfl⟩
  case round=>
   obtain ⟨k,q,hk,rfl,HD,HW⟩:=hrel
   cases k with
   | zero=>
    have e0 : cmpI (nat xs : Int) (nat ys : Int) = 0:=by
     have : xs = ys:=by simpa using HD.out
     subst this; unfold cmpI; simp
    have E:=Lib.hid e0
    clear e0
    go_wp2
    go_ret
    exact ⟨by rw [E.out]; rfl,_,HW.out⟩
   | succ k=>
    obtain ⟨b,off,x,rfl,hbw,hx32,HX,hck⟩:=hx1.limb (k:=k) (by omega)
    obtain ⟨b2,off2,y,rfl,hbw2,hy32,HY,hcy⟩:=hx2.limb (k:=k) (by omega)
    have hck' : wr.cell? ⟨b,off + k,none⟩ = some (.int .u32 (x : Nat)):=by rw [HW.out]; exact hck
    have hcy' : wr.cell? ⟨b2,off2 + k,none⟩ = some (.int .u32 (y : Nat)):=by rw [HW.out]; exact hcy
    have ek : IntKind.i64.wrap ((k : Int) + 1 - 1) = k:=by rw [IntWalk.i64_in _ (by omega)]; omega
    clear hck hcy
    rcases Nat.lt_trichotomy x y with hxy | hxy | hxy
    ·have E : Hid (cmpI (nat xs) (nat ys) = -1):=cmpI_lt (by have:=cmp_lt hx1.1 (by omega) (by omega) HD.out HX.out HY.out hxy; omega)
     have hcall:=fun W=>cmpU32_is x y (-1) W (cmpI_lt (by omega))
     go_wp2
     go_quiet ((go_at_call 140; exact Calls.quiet_of_same (hcall _)))
     go_wp2
     go_ret
     exact ⟨by rw [E.out]; rfl,_,by rw [HW.out,World.drewN_drewN]⟩
    ·subst hxy
     have HD' : Hid (xs.drop k = ys.drop k):=by
      show _ = _
      rw [List.drop_eq_getElem_cons (l:=xs) (i:=k) (by omega),List.drop_eq_getElem_cons (l:=ys) (i:=k) (by omega),HD.out]
      have h1:=HX.out; have h2:=HY.out
      rw [List.getD_eq_getElem?_getD,List.getElem?_eq_getElem (by omega)] at h1 h2
      simp at h1 h2
      rw [h1,h2]
     have hcall:=fun W=>cmpU32_is x x 0 W (cmpI_eq rfl)
     clear HD HX HY
     go_wp2
     go_quiet ((go_at_call 140; exact Calls.quiet_of_same (hcall _)))
     go_wp2
     go_roundw
     case rel=>exact ⟨k,_,by omega,by go_num,HD',by show _ = _; rw [HW.out,World.drewN_drewN]⟩
     case measure=>simp [intOf]
    ·have E : Hid (cmpI (nat xs) (nat ys) = 1):=cmpI_gt (by have:=cmp_lt hx2.1 (by omega) (by omega) HD.out.symm HY.out HX.out hxy; omega)
     have hcall:=fun W=>cmpU32_is x y 1 W (cmpI_gt (by omega))
     go_wp2
     go_quiet ((go_at_call 140; exact Calls.quiet_of_same (hcall _)))
     go_wp2
     go_ret
     exact ⟨by rw [E.out]; rfl,_,by rw [HW.out,World.drewN_drewN]⟩
 ·rcases Nat.lt_or_gt_of_ne hne with h | h
  ·have e1 : cmpI (n1 : Int) (n2 : Int) = -1:=cmpI_lt (by omega)
   have E : Hid (cmpI (nat xs) (nat ys) = -1):=cmpI_lt (by have:=cmp_len hx1.1 hN2 (by omega); omega)
   have hcall:=fun W=>(cmpInt_any n1 n2 W)
   rw [e1] at hcall
   clear e1
   go_enter Tryz.func128,Tryz.ntmps128
   go_wp2_with (go_at_call 127; refine (hcall _).mono ?_; rintro e w' ⟨rfl,rfl⟩)
   go_ret
   exact ⟨by rw [E.out]; rfl,0,rfl⟩
  ·have e1 : cmpI (n1 : Int) (n2 : Int) = 1:=cmpI_gt (by omega)
   have E : Hid (cmpI (nat xs) (nat ys) = 1):=cmpI_gt (by have:=cmp_len hx2.1 hN1 (by omega); omega)
   have hcall:=fun W=>(cmpInt_any n1 n2 W)
   rw [e1] at hcall
   clear e1
   go_enter Tryz.func128,Tryz.ntmps128
   go_wp2_with (go_at_call 127; refine (hcall _).mono ?_; rintro e w' ⟨rfl,rfl⟩)
   go_ret
   exact ⟨by rw [E.out]; rfl,0,rfl⟩
end Go.Proofs.YtnocgagoaldfnaaGreat
