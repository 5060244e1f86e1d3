/- Lists of structs in memory, whatever the struct: reading, lists of the call's own, append. Chains, complexes and chain maps in memory. torsionref26.insert: a cell with a coefficient is added to a chain. torsionref26.Add, Scale, Same, Make: chains. torsionref26.Same, Make, Valid: chains. torsionref25.Cells, Find: cells of a complex. torsionref25.Row: the coefficients of a chain. The law for regions that draw, where nothing is written: values that last behind new memory. Blocks of 9 cells (printed by genB9.py). The law for regions that draw (RegV), where two values stand in a relation, and some values are copies of others. -/
import Derived.Test.YtjdemlfceaikgaaGreatK04
import Derived.Test.YtjdemlfceaikgaaGreatK08
set_option linter.unusedVariables false
set_option linter.unusedSimpArgs false
set_option linter.unusedSectionVars false
namespace Go.Proofs.YtjdemlfceaikgaaGreat
open Go.RowKit
def TE (ts : List TypeId) (w w' : World) : Prop:=∀(b : Nat) (cs : Array Value) (t : TypeId) (fz : Nat × Nat),t ∈ ts->w.heap[b]? = some (.cells cs t fz)->w'.heap[b]? = some (.cells cs t fz)
theorem TE.refl (ts : List TypeId) (w : World) : TE ts w w:=fun _ _ _ _ _ h=>h
theorem TE.trans {ts : List TypeId} {a b c : World} (h : TE ts a b) (k : TE ts b c) : TE ts a c:=fun _ _ _ _ ht hh=>k _ _ _ _ ht (h _ _ _ _ ht hh)
theorem TE.sub {ts us : List TypeId} {w w' : World} (h : TE ts w w') (hs : ∀t ∈ us,t ∈ ts) : TE us w w':=fun b cs t fz ht hh=>h b cs t fz (hs t ht) hh
theorem TE.lext {ts : List TypeId} {w w' : World} (h : TE ts w w') (ht : tU ∈ ts) : LExt w w':=fun b cs fz hh=>h b cs tU fz ht hh
theorem TE.below {ts : List TypeId} {w w' : World} {B : Nat} (h : Below B w w') (hB : w.heap.size<=B) : TE ts w w':=fun b _ _ _ _ hb=>
 (h.block b (Nat.lt_of_lt_of_le (Array.getElem?_eq_some_iff.1 hb).1 hB)).trans hb
theorem TE.row {ts : List TypeId} {w w' : World} {row : Option Nat} (hg : w.grownBy w' row) (hr : ∀g,row = some g->∀(cs : Array Value) (t : TypeId) (fz : Nat × Nat),w.heap[g]? = some (.cells cs t fz)->t ∉ ts) : TE ts w w':=fun b cs t fz ht hb=>
 (hg.block b (Array.getElem?_eq_some_iff.1 hb).1 fun e=>hr b e.symm cs t fz hb ht).trans hb
theorem TE.grown {ts : List TypeId} {w w' : World} {base : Nat} {v : Value} {n : Nat} {xs : List Value} {T : TypeId} {k : Nat} (h : w.ownsRow base T k v n xs) (hT : T ∉ ts) (hg : w.grownBy w' v.ownBlock) : TE ts w w':=TE.row hg fun g e cs t fz hb ht=>by
 rcases h.2 with ⟨rfl,-⟩ | ⟨g',cap,cur,rfl,-,hh,-⟩
 ·cases e
 ·injection e with e
  subst e
  rw [hh] at hb
  injection hb with hb
  injection hb with _ hb
  exact hT (hb ▸ ht)
theorem TE.setCell {ts : List TypeId} {w : World} {g : Nat} {T : TypeId} {cs : Array Value} (h : Blk w g T cs) (hT : T ∉ ts) (i : Nat) (u : Value) : TE ts w (w.setCell ⟨g,i,none⟩ u):=fun b c t fz ht hb=>by
 have hg : b ≠ g:=by
  rintro rfl
  unfold Blk at h
  rw [h] at hb
  injection hb with hb
  injection hb with _ hb
  exact hT (hb ▸ ht)
 exact (Below.heap_setCell w ⟨g,i,none⟩ u b hg).trans hb
structure El (α : Type) where
 T : TypeId
 k : Nat
 ts : List TypeId
 E : World->List Value->α->Prop
 pos : 0 < k
 nt : T ∉ ts
 len : ∀{w : World} {vs : List Value} {x : α},E w vs x->vs.length = k
 one : ∀{w : World} {vs : List Value} {x : α},E w vs x->∀v ∈ vs,v.oneCell' = true
 st : ∀{w w' : World} {vs : List Value} {x : α},TE ts w w'->E w vs x->E w' vs x
section
variable {α : Type} {e : El α} {w w' : World} {v : Value} {xs ys : List α} {base : Nat}
def LsV (e : El α) (w : World) (v : Value) (xs : List α) : Prop:=
 ∃ao n cap,v = .slice ao n cap/\xs.length = n/\n<=cap/\cap<=9223372036854775807/\(xs ≠ []->∃(b : Nat) (cs : Array Value),ao = some ⟨b,0,none⟩/\w.heap[b]? = some (.cells cs e.T (0,0))/\∀(i : Nat) (x : α),xs[i]? = some x->∃vs,(∀j v,vs[j]? = some v->cs[i * e.k + j]? = some v)/\e.E w vs x)
theorem LsV.te (h : LsV e w v xs) (ht : TE (e.T :: e.ts) w w') : LsV e w' v xs:=by
 obtain ⟨ao,n,cap,h1,h2,h3,h4,h5⟩:=h
 refine ⟨ao,n,cap,h1,h2,h3,h4,fun hn=>?_⟩
 obtain ⟨b,cs,e1,e2,e3⟩:=h5 hn
 refine ⟨b,cs,e1,ht _ _ _ _ List.mem_cons_self e2,fun i x hi=>?_⟩
 obtain ⟨vs,e4,e5⟩:=e3 i x hi
 exact ⟨vs,e4,e.st (ht.sub fun t h=>List.mem_cons_of_mem _ h) e5⟩
theorem LsV.below (h : LsV e w v xs) (hb : Below w.heap.size w w') : LsV e w' v xs:=h.te (TE.below hb (Nat.le_refl _))
theorem LsV.nil (e : El α) (w : World) (ao : Option Addr) (cap : Nat) (hc : cap<=9223372036854775807) : LsV e w (.slice ao 0 cap) []:=⟨ao,0,cap,rfl,rfl,Nat.zero_le _,hc,fun h=>absurd rfl h⟩
theorem LsV.shape (h : LsV e w v xs) : ∃o c,v = .slice o xs.length c/\xs.length<=c/\c<=9223372036854775807:=by
 obtain ⟨ao,n,cap,h1,rfl,h3,h4,-⟩:=h
 exact ⟨ao,cap,h1,h3,h4⟩
theorem LsV.at_ {ao : Option Addr} {n cap : Nat} (h : LsV e w (.slice ao n cap) xs) {i : Nat} {x : α} (hi : xs[i]? = some x) :
  ∃b vs,ao = some ⟨b,0,none⟩/\b < w.heap.size/\(∀j v,vs[j]? = some v->w.cell? ⟨b,i * e.k + j,none⟩ = some v)/\e.E w vs x:=by
 obtain ⟨ao',n',cap',h1,h2,h3,h4,h5⟩:=h
 injection h1 with e1 e2 e3
 subst e1
 obtain ⟨b,cs,e4,e5,e6⟩:=h5 (by rintro rfl; simp at hi)
 obtain ⟨vs,e7,e8⟩:=e6 i x hi
 exact ⟨b,vs,e4,(Array.getElem?_eq_some_iff.1 e5).1,fun j v hj=>(cell_of_row w b _ cs _ _ e5).trans (e7 j v hj),e8⟩
theorem LsV.len {ao : Option Addr} {n cap : Nat} (h : LsV e w (.slice ao n cap) xs) : n = xs.length/\n<=cap/\cap<=9223372036854775807:=by
 obtain ⟨ao',n',cap',h1,h2,h3,h4,-⟩:=h
 injection h1 with e1 e2 e3
 subst e2 e3
 exact ⟨h2.symm,h3,h4⟩
theorem LsV.take {ao : Option Addr} {n cap : Nat} (h : LsV e w (.slice ao n cap) xs) {m : Nat} (hm : m<=n) : LsV e w (.slice ao m cap) (xs.take m):=by
 obtain ⟨ao',n',cap',h1,h2,h3,h4,h5⟩:=h
 injection h1 with e1 e2 e3
 subst e1 e2 e3
 refine ⟨ao,m,cap,rfl,by rw [List.length_take]; omega,by omega,h4,fun hn=>?_⟩
 obtain ⟨b,cs,e4,e5,e6⟩:=h5 (by rintro rfl; simp at hn)
 refine ⟨b,cs,e4,e5,fun i x hi=>e6 i x ?_⟩
 rw [List.getElem?_take] at hi
 split at hi
 ·exact hi
 ·cases hi
def LsO (e : El α) (w : World) (base : Nat) (v : Value) (xs : List α) : Prop:=
 ∃L : List (List Value),w.ownsRow base e.T e.k v xs.length L.flatten/\L.length = xs.length/\∀(i : Nat) (vs : List Value) (x : α),L[i]? = some vs->xs[i]? = some x->e.E w vs x
theorem flat_at {k : Nat} : ∀{L : List (List Value)} (_ : ∀l ∈ L,l.length = k) {i j : Nat} {l : List Value} {u : Value},L[i]? = some l->l[j]? = some u->L.flatten[i * k + j]? = some u:=by
 intro L
 induction L with
 | nil=>intro _ i j l u h; simp at h
 | cons a L ih=>
  intro hL i j l u h1 h2
  have ha:=hL a List.mem_cons_self
  cases i with
  | zero=>
   simp at h1
   subst h1
   have:=(List.getElem?_eq_some_iff.1 h2).1
   rw [List.flatten_cons,Nat.zero_mul,Nat.zero_add,List.getElem?_append_left this]
   exact h2
  | succ i=>
   simp at h1
   have:=ih (fun l hl=>hL l (List.mem_cons_of_mem _ hl)) h1 h2
   rw [List.flatten_cons,List.getElem?_append_right (by rw [ha,Nat.add_mul]; omega),ha,Nat.add_mul,Nat.one_mul,Nat.add_right_comm,Nat.add_sub_cancel]
   exact this
theorem flat_inv {k : Nat} (hk : 0 < k) : ∀{L : List (List Value)} (_ : ∀l ∈ L,l.length = k) {q : Nat} {u : Value},L.flatten[q]? = some u->∃i j l,q = i * k + j/\L[i]? = some l/\l[j]? = some u:=by
 intro L
 induction L with
 | nil=>intro _ q u h; simp at h
 | cons a L ih=>
  intro hL q u h
  have ha:=hL a List.mem_cons_self
  rw [List.flatten_cons] at h
  rcases Nat.lt_or_ge q k with g | g
  ·rw [List.getElem?_append_left oM] at h
   exact ⟨0,q,a,by omega,rfl,h⟩
  ·rw [List.getElem?_append_right oM,ha] at h
   obtain ⟨i,j,l,h1,h2,h3⟩:=ih (fun l hl=>hL l (List.mem_cons_of_mem _ hl)) h
   exact ⟨i + 1,j,l,by rw [Nat.add_mul]; omega,by simpa using h2,h3⟩
theorem flat_len {k : Nat} : ∀{L : List (List Value)} (_ : ∀l ∈ L,l.length = k),L.flatten.length = L.length * k:=by
 intro L
 induction L with
 | nil=>intro _; simp
 | cons a L ih=>
  intro hL
  rw [List.flatten_cons,List.length_append,hL a List.mem_cons_self,ih fun l hl=>hL l (List.mem_cons_of_mem _ hl),List.length_cons,Nat.add_mul]
  omega
theorem LsO.chunks (h : LsO e w base v xs) : ∃L : List (List Value),w.ownsRow base e.T e.k v xs.length L.flatten/\L.length = xs.length/\(∀(i : Nat) (vs : List Value) (x : α),L[i]? = some vs->xs[i]? = some x->e.E w vs x)/\∀l ∈ L,l.length = e.k:=by
 obtain ⟨L,h1,h2,h3⟩:=h
 refine ⟨L,h1,h2,h3,fun l hl=>?_⟩
 obtain ⟨i,hi,rfl⟩:=List.getElem_of_mem hl
 exact e.len (h3 i _ _ (List.getElem?_eq_getElem hi) (List.getElem?_eq_getElem oM))
theorem LsO.own (h : LsO e w base v xs) : ∀g,v.ownBlock = some g->base<=g/\g < w.heap.size:=by
 obtain ⟨L,h1,-⟩:=h
 exact World.ownsRow.lt h1
theorem LsO.shape (h : LsO e w base v xs) : ∃o c,v = .slice o xs.length c:=by
 obtain ⟨L,h1,-⟩:=h
 rcases h1.2 with ⟨rfl,h0⟩ | ⟨g,cap,cur,rfl,-⟩
 ·exact ⟨none,0,by rw [h0]⟩
 ·exact ⟨_,_,rfl⟩
theorem LsO.vs (h : LsO e w base v xs) : LsV e w v xs:=by
 obtain ⟨L,h1,h2,h3,h4⟩:=h.chunks
 rcases h1.2 with ⟨rfl,h0⟩ | ⟨g,cap,cur,rfl,e2,e3,e4,e5,e6,e7⟩
 ·exact ⟨none,0,0,rfl,h0,Nat.le_refl _,by omega,fun hn=>absurd (List.eq_nil_of_length_eq_zero h0) hn⟩
 ·refine ⟨some ⟨g,0,none⟩,xs.length,cap,rfl,rfl,e4,e5,fun _=>⟨g,cur,rfl,e3,fun i x hi=>?_⟩⟩
  have hlt:=(List.getElem?_eq_some_iff.1 hi).1
  have hL : L[i]? = some L[i]:=List.getElem?_eq_getElem oM
  refine ⟨_,fun j u hj=>?_,h3 i _ x hL hi⟩
  have h5:=flat_at h4 hL hj
  rw [<-e7,List.getElem?_take] at h5
  split at h5
  ·simpa using h5
  ·cases h5
theorem LsO.te (h : LsO e w base v xs) (ht : TE (e.T :: e.ts) w w') : LsO e w' base v xs:=by
 obtain ⟨L,⟨h0,h1⟩,h2,h3⟩:=h
 refine ⟨L,⟨h0,?_⟩,h2,fun i vs x g1 g2=>e.st (ht.sub fun t h=>List.mem_cons_of_mem _ h) (h3 i vs x g1 g2)⟩
 rcases h1 with h4 | ⟨g,cap,cur,rfl,k1,k2,k3⟩
 ·exact .inl h4
 ·exact .inr ⟨g,cap,cur,rfl,k1,ht _ _ _ _ List.mem_cons_self k2,k3⟩
theorem LsO.below (h : LsO e w base v xs) (hb : Below w.heap.size w w') : LsO e w' base v xs:=h.te (TE.below hb (Nat.le_refl _))
theorem LsO.mono (h : LsO e w base v xs) {base' : Nat} (hb : base'<=base) : LsO e w base' v xs:=by
 obtain ⟨L,⟨h0,h1⟩,h2,h3⟩:=h
 refine ⟨L,⟨h0,?_⟩,h2,h3⟩
 rcases h1 with h4 | ⟨g,cap,cur,rfl,k1,k2⟩
 ·exact .inl h4
 ·exact .inr ⟨g,cap,cur,rfl,by omega,k2⟩
theorem LsO.made (e : El α) (w : World) (hb : base<=w.heap.size) : LsO e (w.alloc (.cells #[] e.T)) base (.slice (some ⟨w.heap.size,0,none⟩) 0 0) []:=
 ⟨[],World.ownsRow_made w #[] 0 hb (Nat.zero_le _) sI,rfl,fun i vs x h=>by simp at h⟩
theorem LsO.nil (e : El α) (w : World) (base : Nat) : LsO e w base (.slice none 0 0) []:=⟨[],World.ownsRow_nil w base e.T e.k,rfl,fun i vs x h=>by simp at h⟩
theorem LsO.lit {g : Nat} {cs : Array Value} (hb : Blk w g e.T cs) (hg : base<=g) (L : List (List Value)) (hc : cs.toList = L.flatten) (hl : L.length = xs.length) (hE : ∀(i : Nat) (vs : List Value) (x : α),L[i]? = some vs->xs[i]? = some x->e.E w vs x) (hm : xs.length<=maxLen) :
  LsO e w base (.slice (some ⟨g,0,none⟩) xs.length xs.length) xs:=by
 have h4 : ∀l ∈ L,l.length = e.k:=fun l hl=>by
  obtain ⟨i,hi,rfl⟩:=List.getElem_of_mem hl
  exact e.len (hE i _ _ (List.getElem?_eq_getElem hi) (List.getElem?_eq_getElem oM))
 have h5:=flat_len h4
 have h6 : cs.size = xs.length * e.k:=by rw [<-Array.length_toList,hc,h5,hl]
 exact ⟨L,⟨by rw [h5,hl],.inr ⟨g,_,cs,rfl,hg,hb,Nat.le_refl _,hm,h6,by rw [hc,List.take_of_length_le (by rw [h5,hl]; exact Nat.le_refl _)]⟩⟩,hl,hE⟩
theorem LsV.chunks {ao : Option Addr} {n cap : Nat} (h : LsV e w (.slice ao n cap) xs) (hn : xs ≠ []) : ∃(b : Nat) (L : List (List Value)),ao = some ⟨b,0,none⟩/\L.length = xs.length/\(∀(i : Nat) (vs : List Value) (x : α),L[i]? = some vs->xs[i]? = some x->e.E w vs x)/\(∀l ∈ L,l.length = e.k)/\∀(q : Nat) (u : Value),L.flatten[q]? = some u->w.cell? ⟨b,q,none⟩ = some u:=by
 obtain ⟨ao',n',cap',h1,h2,h3,h4,h5⟩:=h
 injection h1 with e1 e2 e3
 subst e1
 obtain ⟨b,cs,e4,e5,e6⟩:=h5 hn
 have hch : ∀i : Nat,∃vs : List Value,∀x,xs[i]? = some x->(∀j v,vs[j]? = some v->cs[i * e.k + j]? = some v)/\e.E w vs x:=fun i=>by
  rcases hx : xs[i]? with _ | x
  ·exact ⟨[],fun x h=>by cases h⟩
  ·obtain ⟨vs,h7⟩:=e6 i x hx
   exact ⟨vs,fun y hy=>by cases hy; exact h7⟩
 obtain ⟨f,hf⟩:=Classical.axiomOfChoice hch
 have hL : ∀i vs,((List.range xs.length).map f)[i]? = some vs->i < xs.length/\vs = f i:=fun i vs h=>by
  rw [List.getElem?_map] at h
  rcases Nat.lt_or_ge i xs.length with g | g
  ·rw [List.getElem?_range g] at h
   simp at h
   exact ⟨g,h.symm⟩
  ·rw [List.getElem?_eq_none (by simpa using g)] at h
   cases h
 have hk : ∀l ∈ (List.range xs.length).map f,l.length = e.k:=fun l hl=>by
  obtain ⟨i,hi,rfl⟩:=List.mem_map.1 hl
  exact e.len (hf i _ (List.getElem?_eq_getElem (List.mem_range.1 hi))).2
 refine ⟨b,(List.range xs.length).map f,e4,by simp,fun i vs x h1 h2=>?_,hk,fun q u hq=>?_⟩
 ·obtain ⟨-,rfl⟩:=hL i vs h1
  exact (hf i x h2).2
 ·obtain ⟨i,j,l,rfl,h7,h8⟩:=flat_inv e.pos hk hq
  obtain ⟨hi,rfl⟩:=hL i l h7
  exact (cell_of_row w b _ cs _ _ e5).trans ((hf i _ (List.getElem?_eq_getElem hi)).1 j u h8)
theorem run_appLs {P : Program} (e : El α) (t ty : TypeId) {i0 : TypeInfo} {z : Value} {bytes : Nat} (ht : P.underlying t = some (.slice e.T)) (hi : P.info? e.T = some i0) (hz : i0.zero = some z) (hsz : i0.size = e.k) (hby : i0.bytes = bytes) (hzs : z.cells.size = e.k) (hb : bytes<=100)
  (hown : LsO e w base v xs) {yv : Value} (hy : LsV e w yv ys) (hlen : xs.length + ys.length<=1099511627776) (hbase : base<=w.heap.size) :
  ∃v' w',(Builtin.append_ #[t,t] ty #[v,yv]).run P w = .ok v' w'/\LsO e w' base v' (xs ++ ys)/\w.grownBy w' v.ownBlock/\TE e.ts w w':=by
 obtain ⟨ao,c,rfl,-,-⟩:=hy.shape
 by_cases h0 : ys = []
 ·subst h0
  obtain ⟨o,c',rfl⟩:=hown.shape
  refine ⟨_,w,run_append_none P w t ty e.T i0 ht hi o xs.length c' (fun h=>?_) ?_ ao c,by rw [List.append_nil]; exact hown,⟨rfl,rfl,rfl,Nat.le_refl _,fun _ _ _=>rfl⟩,TE.refl _ _⟩
  ·obtain ⟨L,⟨-,h1⟩,-⟩:=hown
   rcases h1 with ⟨h2,h3⟩ | ⟨g,cap,cur,h2,-⟩
   ·injection h2 with _ _ h2
    exact ⟨h3,h2⟩
   ·rw [h] at h2; cases h2
  ·exact hown.vs.len.2.1
 ·obtain ⟨b,M,rfl,m1,m2,m3,m4⟩:=hy.chunks h0
  obtain ⟨L,l1,l2,l3,l4⟩:=hown.chunks
  have hp : (xs.length + ys.length) * bytes<=1099511627776 * 100:=Nat.mul_le_mul hlen hb
  obtain ⟨v',w',hr,k1,k2,-⟩:=run_append_own (P:=P) w base t ty e.T i0 z e.k bytes ht hi hz hsz hby hzs e.pos v xs.length _ l1 ⟨b,0,none⟩ ys.length c M.flatten (by rw [flat_len m3,m1]) (fun j u hj=>by rw [Addr.add_lit,Nat.zero_add]; exact m4 j u hj) (fun u hu=>by
   obtain ⟨l,hl,hu⟩:=List.mem_flatten.1 hu
   obtain ⟨i,hi,rfl⟩:=List.getElem_of_mem hl
   exact e.one (m2 i _ _ (List.getElem?_eq_getElem hi) (List.getElem?_eq_getElem oM)) u hu) (by simp [maxLen]; omega) oM hbase
  have hT:=TE.grown l1 e.nt k2
  refine ⟨v',w',hr,⟨L ++ M,by rw [List.length_append,List.flatten_append]; exact k1,by rw [List.length_append,List.length_append,l2,m1],fun i vs x g1 g2=>?_⟩,k2,hT⟩
  rcases Nat.lt_or_ge i L.length with g | g
  ·rw [List.getElem?_append_left g] at g1
   rw [List.getElem?_append_left oM] at g2
   exact e.st hT (l3 i vs x g1 g2)
  ·rw [List.getElem?_append_right g] at g1
   rw [List.getElem?_append_right oM,<-l2] at g2
   exact e.st hT (m2 _ vs x g1 g2)
theorem wp_appLs {P : Program} {o : Oper} {a : Act} {K : Act->World->Prop} {Q : Exit->Act->World->Prop} (e : El α) (s x : Operand) (t : TypeId)
  (ho : o.op = .call { callee:=.builtin .append,args:=#[s,x],argTypes:=#[t,t] })
  {i0 : TypeInfo} {z : Value} {bytes : Nat} (ht : P.underlying t = some (.slice e.T)) (hi : P.info? e.T = some i0) (hz : i0.zero = some z) (hsz : i0.size = e.k) (hby : i0.bytes = bytes) (hzs : z.cells.size = e.k) (hb : bytes<=100)
  (base : Nat) (v : Value) (xs : List α) (hs : a.eval s = v) (hown : LsO e w base v xs) (yv : Value) (ys : List α) (hx : a.eval x = yv) (hy : LsV e w yv ys) (hlen : xs.length + ys.length<=1099511627776) (hbase : base<=w.heap.size)
  (h : ∀v' w',LsO e w' base v' (xs ++ ys)->w.grownBy w' v.ownBlock->TE e.ts w w'->K (a.put o.dst v') w') : o.wp P a w K Q:=by
 obtain ⟨v',w',hr,h1,h2,h3⟩:=run_appLs (P:=P) e t o.type ht hi hz hsz hby hzs hb hown hy hlen hbase
 unfold Oper.wp execOp
 simp only [ho,resolve,invoke,builtin,Sem.run_bind,Sem.run_pure,Result.andThen_ok,List.map_toArray,List.map_cons,List.map_nil,hs,hx,hr]
 exact h v' w' h1 h2 h3
theorem wpList_appLs {P : Program} {ops : Array Oper} {rest : List Oper} {o : Oper} {a : Act} {Q : Exit->Act->World->Prop} (hgd : o.guard = none) (e : El α) (s x : Operand) (t : TypeId)
  (ho : o.op = .call { callee:=.builtin .append,args:=#[s,x],argTypes:=#[t,t] })
  {i0 : TypeInfo} {z : Value} {bytes : Nat} (ht : P.underlying t = some (.slice e.T)) (hi : P.info? e.T = some i0) (hz : i0.zero = some z) (hsz : i0.size = e.k) (hby : i0.bytes = bytes) (hzs : z.cells.size = e.k) (hb : bytes<=100)
  (base : Nat) (v : Value) (xs : List α) (hs : a.eval s = v) (hown : LsO e w base v xs) (yv : Value) (ys : List α) (hx : a.eval x = yv) (hy : LsV e w yv ys) (hlen : xs.length + ys.length<=1099511627776) (hbase : base<=w.heap.size)
  (h : ∀v' w',LsO e w' base v' (xs ++ ys)->w.grownBy w' v.ownBlock->TE e.ts w w'->wpList P ops Q rest (a.put o.dst v') w') : wpList P ops Q (o :: rest) a w:=
 wpList_plain hgd fun _ hK=>wp_appLs e s x t ho ht hi hz hsz hby hzs hb base v xs hs hown yv ys hx hy hlen hbase fun v' w' h1 h2 h3=>hK _ _ (h v' w' h1 h2 h3)
end
abbrev tFc : TypeId:=71
abbrev tCe : TypeId:=85
abbrev tIm : TypeId:=89
abbrev tCh : TypeId:=48
theorem Tryz.infoF : (Tryz.prog.info? tFc).map (fun i=>(i.zero,i.size,i.bytes)) = some (some (.agg #[.int .i64 0,.bool false,.slice none 0 0]),3,40):=by kernel_rfl
theorem Tryz.infoCe : (Tryz.prog.info? tCe).map (fun i=>(i.zero,i.size,i.bytes)) = some (some (.agg #[.int .i64 0,.int .i64 0,.slice none 0 0]),3,40):=by kernel_rfl
theorem Tryz.infoIm : (Tryz.prog.info? tIm).map (fun i=>(i.zero,i.size,i.bytes)) = some (some (.agg #[.int .i64 0,.slice none 0 0]),2,32):=by kernel_rfl
def faceE : El (Int × Int) where
 T:=tFc
 k:=3
 ts:=[tU]
 E:=fun w vs x=>∃s a l c,vs = [.int .i64 x.1,.bool s,.slice a l c]/\IntV w (.agg #[.bool s,.slice a l c]) x.2
 pos:=by decide
 nt:=by decide
 len:=by rintro w vs x ⟨s,a,l,c,rfl,-⟩; rfl
 one:=by
  rintro w vs x ⟨s,a,l,c,rfl,-⟩ v hv
  simp only [List.mem_cons,List.not_mem_nil,or_false] at hv
  rcases hv with rfl | rfl | rfl <;> rfl
 st:=by
  rintro w w' vs x ht ⟨s,a,l,c,rfl,h⟩
  exact ⟨s,a,l,c,rfl,h.ext (ht.lext sI)⟩
abbrev ChnV:=LsV faceE
abbrev ChnO:=LsO faceE
def cellE : El Cel where
 T:=tCe
 k:=3
 ts:=[tFc,tU]
 E:=fun w vs x=>∃v,vs = [.int .i64 x.1,.int .i64 x.2.1,v]/\LsV faceE w v x.2.2
 pos:=by decide
 nt:=by decide
 len:=by rintro w vs x ⟨v,rfl,-⟩; rfl
 one:=by
  rintro w vs x ⟨v,rfl,h⟩ u hu
  obtain ⟨o,c,rfl,-,-⟩:=h.shape
  simp only [List.mem_cons,List.not_mem_nil,or_false] at hu
  rcases hu with rfl | rfl | rfl <;> rfl
 st:=by
  rintro w w' vs x ht ⟨v,rfl,h⟩
  exact ⟨v,rfl,h.te ht⟩
abbrev CpxV:=LsV cellE
abbrev CpxO:=LsO cellE
def imgE : El (Int × Ch) where
 T:=tIm
 k:=2
 ts:=[tFc,tU]
 E:=fun w vs x=>∃v,vs = [.int .i64 x.1,v]/\LsV faceE w v x.2
 pos:=by decide
 nt:=by decide
 len:=by rintro w vs x ⟨v,rfl,-⟩; rfl
 one:=by
  rintro w vs x ⟨v,rfl,h⟩ u hu
  obtain ⟨o,c,rfl,-,-⟩:=h.shape
  simp only [List.mem_cons,List.not_mem_nil,or_false] at hu
  rcases hu with rfl | rfl <;> rfl
 st:=by
  rintro w w' vs x ht ⟨v,rfl,h⟩
  exact ⟨v,rfl,h.te ht⟩
abbrev MapV:=LsV imgE
abbrev MapO:=LsO imgE
def chnE : El Ch where
 T:=tCh
 k:=1
 ts:=[tFc,tU]
 E:=fun w vs x=>∃v,vs = [v]/\LsV faceE w v x
 pos:=by decide
 nt:=by decide
 len:=by rintro w vs x ⟨v,rfl,-⟩; rfl
 one:=by
  rintro w vs x ⟨v,rfl,h⟩ u hu
  obtain ⟨o,c,rfl,-,-⟩:=h.shape
  simp only [List.mem_cons,List.not_mem_nil,or_false] at hu
  rcases hu with rfl; rfl
 st:=by
  rintro w w' vs x ht ⟨v,rfl,h⟩
  exact ⟨v,rfl,h.te ht⟩
abbrev ChsV:=LsV chnE
abbrev ChsO:=LsO chnE
section
variable {w : World} {ao : Option Addr} {n cap i : Nat}
theorem LsV.face {x : Ch} {f : Int × Int} (h : ChnV w (.slice ao n cap) x) (hi : x[i]? = some f) : ∃b s a l c,ao = some ⟨b,0,none⟩/\b < w.heap.size/\w.cell? ⟨b,i * 3,none⟩ = some (.int .i64 f.1)/\w.cell? ⟨b,i * 3 + 1,none⟩ = some (.bool s)/\w.cell? ⟨b,i * 3 + 2,none⟩ = some (.slice a l c)/\IntV w (.agg #[.bool s,.slice a l c]) f.2:=by
 obtain ⟨b,vs,e,hb,hc,s,a,l,c,rfl,hv⟩:=h.at_ hi
 exact ⟨b,s,a,l,c,e,hb,hc 0 _ rfl,hc 1 _ rfl,hc 2 _ rfl,hv⟩
theorem LsV.cel {x : Cx} {f : Cel} (h : CpxV w (.slice ao n cap) x) (hi : x[i]? = some f) : ∃b o c,ao = some ⟨b,0,none⟩/\b < w.heap.size/\w.cell? ⟨b,i * 3,none⟩ = some (.int .i64 f.1)/\w.cell? ⟨b,i * 3 + 1,none⟩ = some (.int .i64 f.2.1)/\w.cell? ⟨b,i * 3 + 2,none⟩ = some (.slice o f.2.2.length c)/\ChnV w (.slice o f.2.2.length c) f.2.2:=by
 obtain ⟨b,vs,e,hb,hc,v,rfl,hv⟩:=h.at_ hi
 obtain ⟨o,c,rfl,-,-⟩:=hv.shape
 exact ⟨b,o,c,e,hb,hc 0 _ rfl,hc 1 _ rfl,hc 2 _ rfl,hv⟩
theorem LsV.img {x : List (Int × Ch)} {f : Int × Ch} (h : MapV w (.slice ao n cap) x) (hi : x[i]? = some f) : ∃b o c,ao = some ⟨b,0,none⟩/\b < w.heap.size/\w.cell? ⟨b,i * 2,none⟩ = some (.int .i64 f.1)/\w.cell? ⟨b,i * 2 + 1,none⟩ = some (.slice o f.2.length c)/\ChnV w (.slice o f.2.length c) f.2:=by
 obtain ⟨b,vs,e,hb,hc,v,rfl,hv⟩:=h.at_ hi
 obtain ⟨o,c,rfl,-,-⟩:=hv.shape
 exact ⟨b,o,c,e,hb,hc 0 _ rfl,hc 1 _ rfl,hv⟩
theorem LsV.chn {x : List Ch} {f : Ch} (h : ChsV w (.slice ao n cap) x) (hi : x[i]? = some f) : ∃b o c,ao = some ⟨b,0,none⟩/\b < w.heap.size/\w.cell? ⟨b,i,none⟩ = some (.slice o f.length c)/\ChnV w (.slice o f.length c) f:=by
 obtain ⟨b,vs,e,hb,hc,v,rfl,hv⟩:=h.at_ hi
 obtain ⟨o,c,rfl,-,-⟩:=hv.shape
 have:=hc 0 _ rfl
 rw [show chnE.k = 1 from rfl,Nat.mul_one,Nat.add_zero] at this
 exact ⟨b,o,c,e,hb,this,hv⟩
end
theorem ChnV.one {w : World} {g : Nat} {id z : Int} {s : Bool} {a : Option Addr} {l c : Nat} (hb : Blk w g tFc #[.int .i64 id,.bool s,.slice a l c]) (hz : IntV w (.agg #[.bool s,.slice a l c]) z) : ChnV w (.slice (some ⟨g,0,none⟩) 1 1) [(id,z)]:=
 (LsO.lit (e:=faceE) (xs:=[(id,z)]) hb (Nat.zero_le _) [[.int .i64 id,.bool s,.slice a l c]] rfl rfl (fun i vs x h1 h2=>by
  cases i with
  | zero=>cases h1; cases h2; exact ⟨s,a,l,c,rfl,hz⟩
  | succ i=>simp at h1) (by simp [maxLen])).vs
theorem appF {w : World} {ops : Array Oper} {rest : List Oper} {o : Oper} {a : Act} {Q : Exit->Act->World->Prop} (hgd : o.guard = none) (s x : Operand) (t : TypeId) (ht : Tryz.prog.underlying t = some (.slice tFc))
  (ho : o.op = .call { callee:=.builtin .append,args:=#[s,x],argTypes:=#[t,t] })
  (base : Nat) (v : Value) (xs : Ch) (hs : a.eval s = v) (hown : ChnO w base v xs) (yv : Value) (ys : Ch) (hx : a.eval x = yv) (hy : ChnV w yv ys) (hlen : xs.length + ys.length<=10000000) (hbase : base<=w.heap.size)
  (h : ∀v' w',ChnO w' base v' (xs ++ ys)->w.grownBy w' v.ownBlock->TE [tU] w w'->wpList Tryz.prog ops Q rest (a.put o.dst v') w') : wpList Tryz.prog ops Q (o :: rest) a w:=by
 obtain ⟨i0,hi,hz0,hz1,hz2⟩:=info_parts Tryz.infoF
 exact wpList_appLs hgd faceE s x t ho ht hi hz0 hz1 hz2 rfl dE base v xs hs hown yv ys hx hy oM hbase h
theorem insC_len {f : Int × Int} : ∀{x : Ch},(insC x f).length<=x.length + 1:=by
 intro x
 induction x with
 | nil=>unfold insC; split <;> simp
 | cons g x ih=>
  unfold insC
  split
  ·simp
  ·split
   ·simp
   ·split
    ·split
     ·simp; omega
     ·simp
    ·simp; exact ih
theorem drop_get {α : Type} {x : List α} {i : Nat} {f : α} (h : x[i]? = some f) : x.drop i = f :: x.drop (i + 1):=by
 obtain ⟨h1,h2⟩:=List.getElem?_eq_some_iff.1 h
 rw [<-h2]
 exact List.drop_eq_getElem_cons h1
set_option maxHeartbeats 8000000 in
set_option maxRecDepth 20000 in
theorem cinsert_any (v : Value) (x : Ch) (id z : Int) (s : Bool) (a : Option Addr) (l c : Nat) (w : World) (h : ChnV w v x) (hz : IntV w (.agg #[.bool s,.slice a l c]) z) (hS : ∀f ∈ x,Sm f.2) (hSz : Sm z) (hn : x.length<=1000000) :
  Calls Tryz.prog 71 #[v,.agg #[.int .i64 id,.bool s,.slice a l c]] w fun e w'=>∃u,e = .returned u/\ChnO w' w.heap.size u (insC x (id,z))/\Below w.heap.size w w':=by
 obtain ⟨ao,cap,rfl,hc1,hc2⟩:=h.shape
 obtain ⟨n,hxn⟩ : ∃n,x.length = n:=⟨_,rfl⟩
 rw [hxn] at h hc1 hn ⊢
 have H:=HidS.mk h
 have HZ:=HidS.mk hz
 have HS:=HidS.mk hS
 have HSZ:=HidS.mk hSz
 have HXN:=HidS.mk hxn
 clear h hz hS hSz
 go_enter Tryz.func71,Tryz.ntmps71
 go_upto_region 1 with (fail)
 refine wp_world ?_
 intro W0 hW0
 obtain ⟨hB0,T3,hs0⟩:=world1 hW0
 have HZ:=HidS.mk (HZ.out.ext (lx hB0))
 obtain ⟨c1,c2,c3,c4,c5,c6⟩:=T3.three
 clear hW0
 have hO : ChnO (W0.alloc (.cells #[] tFc)) W0.heap.size (.slice (some ⟨W0.heap.size,0,none⟩) 0 0) []:=LsO.made faceE W0 (Nat.le_refl _)
 have hal:=(Below.refl W0.heap.size W0).alloc (Nat.le_refl _) (.cells #[] tFc)
 obtain ⟨sg,hsg⟩ : ∃sg,cmpI z 0 = sg:=⟨_,rfl⟩
 obtain ⟨d0,hd0⟩ : ∃d0,(sg == 0) = d0:=⟨_,rfl⟩
 go_wp2_with fail
 refine (r1sign_any _ z _ (HZ.out.ext (lx hal))).mono ?_
 rintro e w2 ⟨rfl,hb2⟩
 rw [hsg]
 have hD0 : HidS (d0 = decide (z = 0)):=⟨by
  rw [<-hd0,<-hsg,<-cmpI_dec]
  by_cases e : cmpI z 0 = 0
  ·rw [decide_eq_true e]; simp [e]
  ·rw [decide_eq_false e]; simpa using e⟩
 have hO:=hO.below hb2
 have hB:=nx hal hb2
 have H:=HidS.mk (H.out.below hB0)
 have T0:=HidS.mk T3
 have hst : HidS ([] ++ (if d0 then x.drop 0 else insC (x.drop 0) (id,z)) = insC x (id,z)/\(d0 = false->z ≠ 0)):=⟨by
  rw [hD0.out]
  by_cases e : z = 0
  ·rw [decide_eq_true e]
   refine ⟨?_,fun h=>by cases h⟩
   simp only [if_true,List.nil_append,List.drop_zero]
   cases x with
   | nil=>simp [insC,e]
   | cons g x=>simp [insC,e]
  ·rw [decide_eq_false e]
   exact ⟨by simp,fun _=>e⟩⟩
 clear c1 c2 c3 c4 c5 c6 hal hb2 T3
 go_wp2
 go_loopw [5,6,7] (fun u dv iv wr=>∃(i : Nat) (o : Ch) (d : Bool),i<=n/\iv = .int .i64 i/\dv = .bool d/\ChnO wr W0.heap.size u o/\o.length<=i + d.toNat/\HidS (o ++ (if d then x.drop i else insC (x.drop i) (id,z)) = insC x (id,z)/\(d = false->z ≠ 0))/\Below W0.heap.size W0 wr) (fun _ _ iv _=>n - (intOf iv).toNat)
 case atStart=>exact ⟨0,[],d0,by omega,rfl,rfl,hO,by simp,hst,hB⟩
 case round=>
  clear hO hst hB hd0 hD0
  obtain ⟨i,o,d,hi,rfl,rfl,hO,hol,hst,hB⟩:=hrel
  have T3:=T0.out.below hB
  obtain ⟨c1,c2,c3,c4,c5,c6⟩:=T3.three
  obtain ⟨uo,uc,rfl⟩:=hO.shape
  by_cases hlt : i < n
  ·obtain ⟨f,hf⟩ : ∃f,x[i]? = some f:=⟨_,List.getElem?_eq_getElem (by rw [HXN.out]; exact hlt)⟩
   obtain ⟨b,s2,a2,l2,k2,rfl,hb,f1,f2,f3,hv⟩:=(H.out.below hB).face hf
   rw [drop_get hf] at hst
   have HV:=HidS.mk hv
   clear hv
   cases d
   ·have hol : o.length<=i:=hol
    have hst1 : HidS (o ++ insC (f :: x.drop (i + 1)) (id,z) = insC x (id,z)):=⟨hst.out.1⟩
    have hz0 : HidS (z ≠ 0):=⟨hst.out.2 rfl⟩
    clear hst
    go_upto_region 5 with (fail)
    refine wp_ser [] ?_
    refine sRd ?_
    refine sRf ?_
    intro w5 hb5
    have hB:=nx hB hb5
    have hO:=hO.below hb5
    have T3:=T0.out.below hB
    have hxe:=congrArg some (show b = b from rfl)
    obtain ⟨b',s2,a2,l2,k2,eb,hb',g1,g2,g3,hv⟩:=(H.out.below hB).face hf
    cases eb
    have HV:=HidS.mk hv
    clear hv c1 c2 c3 c4 c5 c6 f1 f2 f3 hxe
    obtain ⟨c1,c2,c3,c4,c5,c6⟩:=T3.three
    by_cases h1 : id < f.1
    ·skip
     have halp:=(Below.refl w5.heap.size w5).alloc (Nat.le_refl _) (.cells #[.int .i64 id,.bool s,.slice a l c] tFc)
     have hfrp : ChnV (w5.alloc (.cells #[.int .i64 id,.bool s,.slice a l c] tFc)) (.slice (some ⟨w5.heap.size,0,none⟩) 1 1) [(id,z)]:=ChnV.one (Blk.new _ _ _) ((HZ.out.ext (lx hB)).ext (lx halp))
     have HOp:=HidS.mk (hO.below halp)
     have hszp:=hB.size
     go_upto_region 8 with (at_builtin; go_loud (refine appF rfl _ _ 48 Tryz.underlying48 rfl W0.heap.size _ (o) rfl HOp.out _ [(id,z)] rfl hfrp (by simp; omega) (by simp; omega) ?_; intro vp wp hownp hgrp htep))
     have hBp : Below W0.heap.size W0 wp:=(hB.alloc hB.size _).grown hgrp (by simp; omega) (fun g hg=>by have:=HOp.out.own g hg; omega)
     clear g1 g2 g3
     obtain ⟨b',s3,a3,l3,k3,eb,hb',g1,g2,g3,hv'⟩:=(H.out.below hBp).face hf
     cases eb
     have HV':=HidS.mk hv'
     obtain ⟨q0,hq0⟩ : ∃q,(o ++ [(id,z)]).length = q:=⟨_,rfl⟩
     obtain ⟨uo,uc,rfl⟩:=hownp.shape
     rw [hq0] at hownp ⊢
     have hql : HidS (q0 = o.length + 1):=⟨by rw [<-hq0]; simp⟩
     clear hv' c1 c2 c3 c4 c5 c6 T3 hfrp HOp hgrp htep HV' g1 g2 g3 hb' hq0
     go_upto_region 8 with (fail)
     refine wp_ser [] ?_
     refine sRd ?_
     refine sRf ?_
     intro w6 hb6
     have hBq0:=nx hBp hb6
     have hownp:=hownp.below hb6
     obtain ⟨b',s3,a3,l3,k3,eb,hb',g1,g2,g3,hv'⟩:=(H.out.below hBq0).face hf
     cases eb
     have HV':=HidS.mk hv'
     clear hv'
     have halq:=(Below.refl w6.heap.size w6).alloc (Nat.le_refl _) (.cells #[.int .i64 f.1,.bool s3,.slice a3 l3 k3] tFc)
     have hfrq : ChnV (w6.alloc (.cells #[.int .i64 f.1,.bool s3,.slice a3 l3 k3] tFc)) (.slice (some ⟨w6.heap.size,0,none⟩) 1 1) [(f.1,f.2)]:=ChnV.one (Blk.new _ _ _) (HV'.out.ext (lx halq))
     have HOq:=HidS.mk (hownp.below halq)
     have hszq:=hBq0.size
     go_upto_region 4 with (at_builtin; go_loud (refine appF rfl _ _ 48 Tryz.underlying48 rfl W0.heap.size _ (o ++ [(id,z)]) rfl HOq.out _ [(f.1,f.2)] rfl hfrq (by simp; omega) (by simp; omega) ?_; intro vq wq hownq hgrq hteq))
     have hBq : Below W0.heap.size W0 wq:=(hBq0.alloc hBq0.size _).grown hgrq (by simp; omega) (fun g hg=>by have:=HOq.out.own g hg; omega)
     go_wp2
     go_roundw
     case rel=>exact ⟨i + 1,_,true,by omega,by simp,rfl,hownq,by simp; omega,⟨by
      rw [<-hst1.out]
      unfold insC
      rw [if_neg hz0.out,if_pos h1]
      simp,fun h=>by cases h⟩,hBq⟩
     case measure=>simp [intOf]; omega
    ·have HH1:=HidS.mk h1
     go_upto_region 8 with (fail)
     refine wp_ser [] ?_
     refine sRd ?_
     refine sRf ?_
     intro w6 hb6
     have hB:=nx hB hb6
     have hO:=hO.below hb6
     have T3:=T0.out.below hB
     clear c1 c2 c3 c4 c5 c6 g1 g2 g3 HV
     obtain ⟨b',s2,a2,l2,k2,eb,hb',g1,g2,g3,hv⟩:=(H.out.below hB).face hf
     cases eb
     have HV:=HidS.mk hv
     clear hv
     obtain ⟨c1,c2,c3,c4,c5,c6⟩:=T3.three
     by_cases h2 : f.1 = id
     ·have HH2:=HidS.mk h2
      go_upto_region 9 with (fail)
      have HS1 : HidS (Sm f.2):=⟨HS.out f (List.mem_of_getElem? hf)⟩
      have HZr:=HidS.mk (HZ.out.ext (lx hB))
      have hl1:=lasts_int (f.2 + z)
      refine wp_ser [pcD 7 [] (fun w v=>IntV w v (f.2 + z)),pbA 8 tI 2,pbS 9 8 tI 2] ?_
      refine sRd ?_
      refine sRc (fun wS hI Gk hG=>by go_simp; exact ck hG (r1add_any _ _ f.2 z wS (HV.out.ext hI.lext) (HZr.out.ext hI.lext) HS1.out HSZ.out)) (fun _ hv=>?_)
      obtain ⟨_,-,s5,a5,l5,k5,_,rfl,-⟩:=hv
      refine sRa (cs:=#[.bool false,.slice none 0 0]) fun b8 g8=>?_
      refine sRs b8 (.agg #[.bool s5,.slice a5 l5 k5]) ?_
      refine sRb ?_
      simp only [FA,FC,FN,ptr,List.nil_append,List.cons_append,Act.put,List.setIfInBounds_toArray,List.set_cons_zero,List.set_cons_succ]
      intro w3 hb3 h7 k8 _
      have T8 : Blk w3 b8 tI #[.bool s5,.slice a5 l5 k5]:=k8 _ rfl
      have hB3:=nx hB hb3
      have hO3:=hO.below hb3
      have H7:=HidS.mk (show IntV w3 (.agg #[.bool s5,.slice a5 l5 k5]) (f.2 + z) from h7)
      clear c1 c2 c3 c4 c5 c6 g1 g2 g3 T3 h7 k8 hl1
      obtain ⟨t1,t2,t3,t4⟩:=T8.two
      go_wp2_with fail
      refine (r1sign_any _ (f.2 + z) w3 H7.out).mono ?_
      rintro e w4 ⟨rfl,hb4⟩
      have hB4:=nx hB3 hb4
      have hO4:=hO3.below hb4
      by_cases hs : f.2 + z = 0
      ·rw [cmpI_zero hs]
       go_wp2
       go_roundw
       case rel=>exact ⟨i + 1,o,true,by omega,by simp,rfl,hO4,by simp; omega,⟨by
        rw [<-hst1.out]
        have HN1 : ¬ (id,z).1 < f.1:=by have:=HH1.out; first | exact this | exact Int.not_lt.2 this
        unfold insC
        rw [if_neg hz0.out,if_neg HN1,if_pos HH2.out,if_pos hs]
        simp,fun h=>by cases h⟩,hB4⟩
       case measure=>simp [intOf]; omega
      ·have hcn:=cmpI_ne hs
       obtain ⟨q,hq⟩ : ∃q,cmpI (f.2 + z) 0 = q:=⟨_,rfl⟩
       rw [hq] at hcn ⊢
       have hqn : (q != 0) = true:=by simpa using hcn
       have T3:=T0.out.below hB4
       obtain ⟨c1,c2,c3,c4,c5,c6⟩:=T3.three
       have T8:=T8.below hb4
       obtain ⟨t1,t2,t3,t4⟩:=T8.two
       have H7:=HidS.mk (H7.out.ext (lx hb4))
       clear hq
       have halp:=(Below.refl w4.heap.size w4).alloc (Nat.le_refl _) (.cells #[.int .i64 id,.bool s5,.slice a5 l5 k5] tFc)
       have hfrp : ChnV (w4.alloc (.cells #[.int .i64 id,.bool s5,.slice a5 l5 k5] tFc)) (.slice (some ⟨w4.heap.size,0,none⟩) 1 1) [(id,f.2 + z)]:=ChnV.one (Blk.new _ _ _) (H7.out.ext (lx halp))
       have HOp:=HidS.mk (hO4.below halp)
       have hszp:=hB4.size
       go_wp2_with (at_builtin; go_loud (refine appF rfl _ _ 48 Tryz.underlying48 rfl W0.heap.size _ (o) rfl HOp.out _ [(id,f.2 + z)] rfl hfrp (by simp; omega) (by simp; omega) ?_; intro vp wp hownp hgrp htep))
       have hBp : Below W0.heap.size W0 wp:=(hB4.alloc hB4.size _).grown hgrp (by simp; omega) (fun g hg=>by have:=HOp.out.own g hg; omega)
       go_roundw
       case rel=>exact ⟨i + 1,_,true,by omega,by simp,rfl,hownp,by simp; omega,⟨by
        rw [<-hst1.out]
        have HN1 : ¬ (id,z).1 < f.1:=by have:=HH1.out; first | exact this | exact Int.not_lt.2 this
        conv=>rhs; unfold insC
        rw [if_neg hz0.out,if_neg HN1,if_pos HH2.out,if_neg hs]
        simp,fun h=>by cases h⟩,hBp⟩
       case measure=>simp [intOf]; omega
     ·have HH2:=HidS.mk h2
      have halp:=(Below.refl w6.heap.size w6).alloc (Nat.le_refl _) (.cells #[.int .i64 f.1,.bool s2,.slice a2 l2 k2] tFc)
      have hfrp : ChnV (w6.alloc (.cells #[.int .i64 f.1,.bool s2,.slice a2 l2 k2] tFc)) (.slice (some ⟨w6.heap.size,0,none⟩) 1 1) [(f.1,f.2)]:=ChnV.one (Blk.new _ _ _) (HV.out.ext (lx halp))
      have HOp:=HidS.mk (hO.below halp)
      have hszp:=hB.size
      go_wp2_with (at_builtin; go_loud (refine appF rfl _ _ 48 Tryz.underlying48 rfl W0.heap.size _ (o) rfl HOp.out _ [(f.1,f.2)] rfl hfrp (by simp; omega) (by simp; omega) ?_; intro vp wp hownp hgrp htep))
      have hBp : Below W0.heap.size W0 wp:=(hB.alloc hB.size _).grown hgrp (by simp; omega) (fun g hg=>by have:=HOp.out.own g hg; omega)
      go_roundw
      case rel=>exact ⟨i + 1,_,false,by omega,by simp,rfl,hownp,by simp; omega,⟨by
       rw [<-hst1.out]
       have HN1 : ¬ (id,z).1 < f.1:=by have:=HH1.out; first | exact this | exact Int.not_lt.2 this
       conv=>rhs; unfold insC
       rw [if_neg hz0.out,if_neg HN1,if_neg HH2.out]
       simp,fun _=>hz0.out⟩,hBp⟩
      case measure=>simp [intOf]; omega
   ·have hol : o.length<=i + 1:=hol
    have hst1 : HidS ((o ++ [(f.1,f.2)]) ++ x.drop (i + 1) = insC x (id,z)):=⟨by rw [List.append_assoc]; exact hst.out.1⟩
    clear hst
    go_upto_region 5 with (fail)
    refine wp_ser [] ?_
    refine sRd ?_
    refine sRf ?_
    intro w5 hb5
    have hB5:=nx hB hb5
    clear c1 c2 c3 c4 c5 c6 f1 f2 f3
    obtain ⟨c1,c2,c3,c4,c5,c6⟩:=(T0.out.below hB5).three
    obtain ⟨b',s3,a3,l3,k3,eb,hb',f1,f2,f3,hv'⟩:=(H.out.below hB5).face hf
    cases eb
    go_upto_region 8 with (fail)
    refine wp_ser [] ?_
    refine sRd ?_
    refine sRf ?_
    intro w6 hb6
    have hB6:=nx hB5 hb6
    have hO:=(hO.below hb5).below hb6
    clear c1 c2 c3 c4 c5 c6 f1 f2 f3 hv'
    obtain ⟨b',s3,a3,l3,k3,eb,hb',f1,f2,f3,hv'⟩:=(H.out.below hB6).face hf
    cases eb
    have HV':=HidS.mk hv'
    clear hv'
    have halp:=(Below.refl w6.heap.size w6).alloc (Nat.le_refl _) (.cells #[.int .i64 f.1,.bool s3,.slice a3 l3 k3] tFc)
    have hfrp : ChnV (w6.alloc (.cells #[.int .i64 f.1,.bool s3,.slice a3 l3 k3] tFc)) (.slice (some ⟨w6.heap.size,0,none⟩) 1 1) [(f.1,f.2)]:=ChnV.one (Blk.new _ _ _) (HV'.out.ext (lx halp))
    have HOp:=HidS.mk (hO.below halp)
    have hszp:=hB6.size
    go_wp2_with (at_builtin; go_loud (refine appF rfl _ _ 48 Tryz.underlying48 rfl W0.heap.size _ (o) rfl HOp.out _ [(f.1,f.2)] rfl hfrp (by simp; omega) (by simp; omega) ?_; intro vp wp hownp hgrp htep))
    have hBp : Below W0.heap.size W0 wp:=(hB6.alloc hB6.size _).grown hgrp (by simp; omega) (fun g hg=>by have:=HOp.out.own g hg; omega)
    go_roundw
    case rel=>exact ⟨i + 1,_,true,by omega,by simp,rfl,hownp,by simp; omega,⟨hst1.out,fun h=>by cases h⟩,hBp⟩
    case measure=>simp [intOf]; omega
  ·obtain rfl : n = i:=by omega
   have hdr : x.drop n = []:=List.drop_eq_nil_of_le (by rw [HXN.out]; exact Nat.le_refl _)
   rw [hdr] at hst
   cases d
   ·have hol : o.length<=n:=hol
    have HE : HidS (o ++ [(id,z)] = insC x (id,z)):=⟨by
     rw [<-hst.out.1]
     unfold insC
     rw [if_neg (hst.out.2 rfl)]
     rfl⟩
    clear hst
    go_upto_region 15 with (fail)
    have halp:=(Below.refl wr.heap.size wr).alloc (Nat.le_refl _) (.cells #[.int .i64 id,.bool s,.slice a l c] tFc)
    have hfrp : ChnV (wr.alloc (.cells #[.int .i64 id,.bool s,.slice a l c] tFc)) (.slice (some ⟨wr.heap.size,0,none⟩) 1 1) [(id,z)]:=ChnV.one (Blk.new _ _ _) ((HZ.out.ext (lx hB)).ext (lx halp))
    have HOp:=HidS.mk (hO.below halp)
    have hszp:=hB.size
    go_upto_region 16 with (at_builtin; go_loud (refine appF rfl _ _ 48 Tryz.underlying48 rfl W0.heap.size _ (o) rfl HOp.out _ [(id,z)] rfl hfrp (by simp; omega) (by simp; omega) ?_; intro vp wp hownp hgrp htep))
    have hBp : Below W0.heap.size W0 wp:=(hB.alloc hB.size _).grown hgrp (by simp; omega) (fun g hg=>by have:=HOp.out.own g hg; omega)
    go_wp2
    go_ret
    exact ⟨_,rfl,HE.out ▸ hownp.mono hB0.size,nx hB0 hBp⟩
   ·have HE : HidS (o = insC x (id,z)):=⟨by
     rw [<-hst.out.1]
     simp⟩
    clear hst
    go_wp2
    go_ret
    exact ⟨_,rfl,HE.out ▸ hO.mono hB0.size,nx hB0 hB⟩
structure SmN (n : Nat) : Prop where
 lt : n < B32 ^ LIM
theorem SmN.sm {n : Nat} (h : SmN n) {z : Int} (hz : z.natAbs<=n) : Sm z:=Nat.lt_of_le_of_lt hz h.lt
theorem SmN.le {n m : Nat} (h : SmN n) (hm : m<=n) : SmN m:=⟨Nat.lt_of_le_of_lt hm h.lt⟩
theorem lastsB_ls {α : Type} (e : El α) (xs : List α) : LastsB fun w v=>LsV e w v xs:=fun _ _ _ b h=>h.below b
theorem addC_take {a b : Ch} {k : Int} {i : Nat} {f : Int × Int} (h : b[i]? = some f) : plusC a (b.take (i + 1)) k = insC (plusC a (b.take i) k) (f.1,k * f.2):=by
 unfold plusC
 rw [List.take_add_one,h,List.foldl_append]
 rfl
theorem nrm_take {b : Ch} {i : Nat} : nrm (b.take i)<=nrm b:=by
 induction b generalizing i with
 | nil=>simp
 | cons f b ih=>
  cases i with
  | zero=>simp [nrm]
  | succ i=>simp only [List.take_succ_cons,nrm]; have:=ih (i:=i); omega
theorem addC_len {k : Int} : ∀{b a : Ch},(plusC a b k).length<=a.length + b.length:=by
 intro b
 induction b with
 | nil=>intro a; exact Nat.le_refl _
 | cons f b ih=>
  intro a
  have h1:=ih (a:=insC a (f.1,k * f.2))
  have h2:=insC_len (f:=(f.1,k * f.2)) (x:=a)
  show (plusC (insC a (f.1,k * f.2)) b k).length<=_
  simp only [List.length_cons]
  omega
theorem mak_len : ∀{l a : Ch},(l.foldl insC a).length<=a.length + l.length:=by
 intro l
 induction l with
 | nil=>intro a; exact Nat.le_refl _
 | cons f l ih=>
  intro a
  have h1:=ih (a:=insC a f)
  have h2:=insC_len (f:=f) (x:=a)
  rw [List.foldl_cons]
  simp only [List.length_cons]
  omega
theorem SmN.add {a b : Ch} {k : Int} (h : SmN (nrm a + k.natAbs * nrm b)) (i : Nat) : ∀f ∈ plusC a (b.take i) k,Sm f.2:=fun f hf=>h.sm (by
 have h1:=nrm_le hf
 have h2:=nrm_add (a:=a) (b:=b.take i) (k:=k)
 have h3:=Nat.mul_le_mul_left k.natAbs (nrm_take (b:=b) (i:=i))
 omega)
set_option maxHeartbeats 8000000 in
set_option maxRecDepth 20000 in
theorem cadd_any (va vb vk : Value) (a b : Ch) (k : Int) (w : World) (ha : ChnV w va a) (hb : ChnV w vb b) (hk : IntV w vk k) (hS : SmN (nrm a + k.natAbs * nrm b)) (hK : SmN k.natAbs) (hM : SmN (nrm b)) (hn : a.length + b.length<=1000000) :
  Calls Tryz.prog 27 #[va,vb,vk] w fun e w'=>∃u,e = .returned u/\ChnV w' u (plusC a b k)/\Below w.heap.size w w':=by
 obtain ⟨ao,ac,rfl,-,-⟩:=id ha.shape
 obtain ⟨bo,bc,rfl,hc1,hc2⟩:=id hb.shape
 obtain ⟨s,a1,l1,k1,_,rfl,-⟩:=id hk
 obtain ⟨n,hbn⟩ : ∃n,b.length = n:=⟨_,rfl⟩
 obtain ⟨m,ham⟩ : ∃m,a.length = m:=⟨_,rfl⟩
 rw [hbn] at hb hc1 hn ⊢
 rw [ham] at ha hn ⊢
 have HA:=HidS.mk ha
 have H:=HidS.mk hb
 have HK:=HidS.mk hk
 have HBN:=HidS.mk hbn
 have HAM:=HidS.mk ham
 clear ha hb hk
 go_enter Tryz.func27,Tryz.ntmps27
 go_upto_region 1 with (fail)
 refine wp_world ?_
 intro W0 hW0
 obtain ⟨hB0,T2,hs0⟩:=world1 hW0
 have HK:=HidS.mk (HK.out.ext (lx hB0))
 have H:=HidS.mk (H.out.below hB0)
 have HA:=HidS.mk (HA.out.below hB0)
 have T0:=HidS.mk T2
 clear hW0 T2
 go_wp2
 go_loopw [7,8] (fun u iv wr=>∃i : Nat,i<=n/\iv = .int .i64 i/\ChnV wr u (plusC a (b.take i) k)/\Below W0.heap.size W0 wr) (fun _ iv _=>n - (intOf iv).toNat)
 case atStart=>exact ⟨0,by omega,rfl,HA.out,Below.refl _ _⟩
 case round=>
  obtain ⟨i,hi,rfl,hO,hB⟩:=hrel
  have T2:=T0.out.below hB
  obtain ⟨c1,c2,c3,c4⟩:=T2.two
  obtain ⟨uo,uc,rfl,-,-⟩:=id hO.shape
  have hlen : (plusC a (b.take i) k).length<=m + i:=by
   have:=addC_len (a:=a) (b:=b.take i) (k:=k)
   rw [List.length_take,HAM.out] at this
   omega
  obtain ⟨q,hq⟩ : ∃q,(plusC a (b.take i) k).length = q:=⟨_,rfl⟩
  rw [hq] at hO hlen ⊢
  have HO:=HidS.mk hO
  clear hO
  by_cases hlt : i < n
  ·obtain ⟨f,hf⟩ : ∃f,b[i]? = some f:=⟨_,List.getElem?_eq_getElem (by rw [HBN.out]; exact hlt)⟩
   obtain ⟨b',s2,a2,l2,k2,rfl,hb,f1,f2,f3,hv⟩:=(H.out.below hB).face hf
   have HV:=HidS.mk hv
   have HQ:=HidS.mk hq
   have HF1 : HidS (Sm f.2):=⟨hM.sm (nrm_le (List.mem_of_getElem? hf))⟩
   have HF2 : HidS (Sm (k * f.2)):=⟨hS.sm (by
    have:=Nat.mul_le_mul_left k.natAbs (nrm_le (List.mem_of_getElem? hf))
    rw [Int.natAbs_mul]
    omega)⟩
   have HF3:=HidS.mk (hS.add i)
   have HKi:=HidS.mk (HK.out.ext (lx hB))
   have hl1:=lasts_int (k * f.2)
   have hl2:=lastsB_ls faceE (insC (plusC a (b.take i) k) (f.1,k * f.2))
   clear hv hq
   go_upto_region 5 with (fail)
   refine wp_serH 15 [pcD 12 [] (fun w v=>IntV w v (k * f.2)),pcD 14 [12] (fun w v=>ChnV w v (insC (plusC a (b.take i) k) (f.1,k * f.2)))] ?_
   refine sRd ?_
   refine sRc (fun wS hI Gk hG=>by go_simp; exact ck hG (r1mul_any _ _ k f.2 wS (HKi.out.ext hI.lext) (HV.out.ext hI.lext) (hK.sm (Nat.le_refl _)) HF1.out)) (fun _ hv=>?_)
   obtain ⟨_,-,s5,a5,l5,k5,_,rfl,-⟩:=hv
   refine sRd ?_
   refine sRc (fun wS hI h12 Gk hG=>by go_simp; exact ck hG ((cinsert_any _ _ f.1 (k * f.2) s5 a5 l5 k5 wS (HO.out.below hI.bel) h12 HF3.out HF2.out (by rw [HQ.out]; omega)).mono fun e w' ⟨u,h1,h2,h3⟩=>⟨u,h1,h2.vs,h3⟩)) (fun v14 _=>?_)
   refine sRe ?_
   intro w2 hb2 h12 h14
   have hB2:=nx hB hb2
   go_wp2
   go_roundw
   case rel=>exact ⟨i + 1,by omega,by simp,by rw [addC_take hf]; exact h14,hB2⟩
   case measure=>simp [intOf]; omega
  ·obtain rfl : n = i:=by omega
   have hdr : b.take n = b:=List.take_of_length_le (by rw [HBN.out]; exact Nat.le_refl _)
   rw [hdr] at HO
   go_wp2
   go_ret
   exact ⟨_,rfl,HO.out,nx hB0 hB⟩
theorem cscale_any (vb vk : Value) (b : Ch) (k : Int) (w : World) (hb : ChnV w vb b) (hk : IntV w vk k) (hS : SmN (k.natAbs * nrm b)) (hK : SmN k.natAbs) (hM : SmN (nrm b)) (hn : b.length<=1000000) :
  Calls Tryz.prog 81 #[vb,vk] w fun e w'=>∃u,e = .returned u/\ChnV w' u (plusC [] b k)/\Below w.heap.size w w':=by
 obtain ⟨bo,bc,rfl,hc1,hc2⟩:=id hb.shape
 obtain ⟨s,a1,l1,k1,_,rfl,-⟩:=id hk
 have H:=HidS.mk hb
 have HK:=HidS.mk hk
 clear hb hk
 go_enter Tryz.func81,Tryz.ntmps81
 go_upto_region 1 with (fail)
 refine wp_world ?_
 intro W0 hW0
 obtain ⟨hB0,T2,hs0⟩:=world1 hW0
 have HK:=HidS.mk (HK.out.ext (lx hB0))
 have H:=HidS.mk (H.out.below hB0)
 obtain ⟨c1,c2,c3,c4⟩:=T2.two
 clear hW0
 go_wp2_with fail
 refine (cadd_any _ _ _ [] b k W0 (LsV.nil _ _ _ _ (Nat.zero_le _)) H.out HK.out (hS.le (by simp [nrm])) hK hM (by simpa using hn)).mono ?_
 rintro e w2 ⟨u,rfl,h1,hb2⟩
 go_wp2
 go_ret
 exact ⟨_,rfl,h1,nx hB0 hb2⟩
theorem take_sn {α : Type} {x : List α} {i : Nat} {f : α} (h : x[i]? = some f) : x.take (i + 1) = x.take i ++ [f]:=by rw [List.take_add_one,h]; rfl
theorem take_all {α : Type} {x : List α} {n : Nat} (h : x.length = n) : x.take n = x:=List.take_of_length_le oM
theorem lt_get {α : Type} {x : List α} {n i : Nat} (h : x.length = n) (hi : i < n) : ∃f,x[i]? = some f:=⟨_,List.getElem?_eq_getElem oM⟩
set_option maxHeartbeats 8000000 in
set_option maxRecDepth 20000 in
theorem csame_any (va vb : Value) (a b : Ch) (w : World) (ha : ChnV w va a) (hb : ChnV w vb b) :
  Calls Tryz.prog 19 #[va,vb] w fun e w'=>e = .returned (.bool (decide (a = b)))/\Below w.heap.size w w':=by
 obtain ⟨ao,ac,rfl,-,hc1⟩:=id ha.shape
 obtain ⟨bo,bc,rfl,-,hc2⟩:=id hb.shape
 obtain ⟨n,hbn⟩ : ∃n,b.length = n:=⟨_,rfl⟩
 obtain ⟨m,ham⟩ : ∃m,a.length = m:=⟨_,rfl⟩
 obtain ⟨ans,han⟩ : ∃q,decide (a = b) = q:=⟨_,rfl⟩
 have h1:=hb.len
 have h2:=ha.len
 rw [hbn] at hb h1 ⊢
 rw [ham] at ha h2 ⊢
 rw [han]
 have HA:=HidS.mk ha
 have HB:=HidS.mk hb
 have HN:=HidS.mk han
 have HBN:=HidS.mk hbn
 have HAM:=HidS.mk ham
 have hm : m<=9223372036854775807:=by omega
 clear ha hb han
 go_enter Tryz.func19,Tryz.ntmps19
 by_cases hmn : m = n
 ·subst hmn
  go_wp2
  go_loopw [5] (fun iv wr=>∃i : Nat,i<=m/\iv = .int .i64 i/\HidS (a.take i = b.take i)/\Below w.heap.size w wr) (fun iv _=>m - (intOf iv).toNat)
  case atStart=>exact ⟨0,by omega,rfl,⟨rfl⟩,Below.refl _ _⟩
  case round=>
   obtain ⟨i,hi,rfl,hT,hB⟩:=hrel
   by_cases hlt : i < m
   ·obtain ⟨f,hf⟩:=lt_get HAM.out hlt
    obtain ⟨g,hg⟩:=lt_get HBN.out hlt
    obtain ⟨b1,s1,a1,l1,k1,rfl,hb1,f1,f2,f3,hv1⟩:=(HA.out.below hB).face hf
    obtain ⟨b2,s2,a2,l2,k2,rfl,hb2,g1,g2,g3,hv2⟩:=(HB.out.below hB).face hg
    obtain ⟨p,y⟩:=f
    obtain ⟨q,z⟩:=g
    simp only at f1 g1 hv1 hv2
    have HF:=HidS.mk hf
    have HG:=HidS.mk hg
    by_cases hid : p = q
    ·subst hid
     have HV1:=HidS.mk hv1
     have HV2:=HidS.mk hv2
     obtain ⟨d,hd⟩ : ∃d,decide (y = z) = d:=⟨_,rfl⟩
     have HD:=HidS.mk hd
     clear hv1 hv2 hf hg hd
     go_upto_region 6 with (fail)
     refine wp_ser [pcD 22 [] (fun _ v=>v = .bool d)] ?_
     refine sRd ?_
     refine sRc (fun wS hI Gk hG=>by go_simp; exact ck hG ((r1same_any _ _ y z wS (HV1.out.ext hI.lext) (HV2.out.ext hI.lext)).mono fun e w' ⟨h1,h2⟩=>⟨_,h1,by rw [HD.out],h2⟩)) (fun _ hv=>?_)
     obtain ⟨_,-,rfl⟩:=hv
     refine sRd ?_
     refine sRe ?_
     intro w2 hb2' _
     have hB2:=nx hB hb2'
     cases d
     ·have hne : HidS (a = b->False):=⟨fun e=>by
       subst e
       have:=HF.out.symm.trans HG.out
       injection this with this
       injection this with _ this
       have h3:=HD.out
       rw [this] at h3
       simp at h3⟩
      go_wp2
      go_ret
      obtain rfl : ans = false:=HN.out.symm.trans (decide_eq_false hne.out)
      exact ⟨rfl,hB2⟩
     ·have he : HidS (y = z):=⟨of_decide_eq_true HD.out⟩
      clear HD
      go_wp2
      go_roundw
      case rel=>exact ⟨i + 1,by omega,by simp,⟨by rw [take_sn HF.out,take_sn HG.out,hT.out,he.out]⟩,hB2⟩
      case measure=>simp [intOf]; omega
    ·have hne : HidS (a = b->False):=⟨fun e=>by
      subst e
      have:=HF.out.symm.trans HG.out
      injection this with this
      injection this with this _
      exact hid this⟩
     have hpq : (p != q) = true:=by simpa using hid
     clear hf hg hv1 hv2 hid
     go_upto_region 6 with (fail)
     refine wp_ser [] ?_
     refine sRd ?_
     refine sRf ?_
     intro w2 hb2'
     have hB2:=nx hB hb2'
     go_wp2
     go_ret
     obtain rfl : ans = false:=HN.out.symm.trans (decide_eq_false hne.out)
     exact ⟨rfl,hB2⟩
   ·obtain rfl : m = i:=by omega
    have he : HidS (a = b):=⟨by rw [<-take_all HAM.out,<-take_all HBN.out]; exact hT.out⟩
    go_wp2
    go_ret
    obtain rfl : ans = true:=HN.out.symm.trans (decide_eq_true he.out)
    exact ⟨rfl,hB⟩
 ·have hne : HidS (a = b->False):=⟨fun e=>hmn (by rw [<-HAM.out,<-HBN.out,e])⟩
  go_wp2
  go_ret
  obtain rfl : ans = false:=HN.out.symm.trans (decide_eq_false hne.out)
  exact ⟨rfl,Below.refl _ _⟩
set_option maxHeartbeats 8000000 in
set_option maxRecDepth 20000 in
theorem cmake_any (v : Value) (x : Ch) (w : World) (h : ChnV w v x) (hS : SmN (nrm x)) (hn : x.length<=1000000) :
  Calls Tryz.prog 65 #[v] w fun e w'=>∃u,e = .returned u/\ChnV w' u (makC x)/\Below w.heap.size w w':=by
 obtain ⟨ao,ac,rfl,-,hc1⟩:=id h.shape
 obtain ⟨n,hxn⟩ : ∃n,x.length = n:=⟨_,rfl⟩
 rw [hxn] at h hn ⊢
 have H:=HidS.mk h
 have HXN:=HidS.mk hxn
 clear h hxn
 go_enter Tryz.func65,Tryz.ntmps65
 have hO : ChnV (w.alloc (.cells #[] tFc)) (.slice (some ⟨w.heap.size,0,none⟩) 0 0) (makC (x.take 0)):=by
  rw [List.take_zero]; exact LsV.nil _ _ _ _ (Nat.zero_le _)
 have hal:=(Below.refl w.heap.size w).alloc (Nat.le_refl _) (.cells #[] tFc)
 have HO:=HidS.mk hO
 clear hO
 go_wp2
 go_loopw [3,4] (fun u iv wr=>∃i : Nat,i<=n/\iv = .int .i64 i/\HidS (ChnV wr u (makC (x.take i)))/\Below w.heap.size w wr) (fun _ iv _=>n - (intOf iv).toNat)
 case atStart=>exact ⟨0,by omega,rfl,HO,hal⟩
 case round=>
  clear HO hal
  obtain ⟨i,hi,rfl,hO,hB⟩:=hrel
  obtain ⟨uo,uc,rfl,-,-⟩:=id hO.out.shape
  have hlen : (makC (x.take i)).length<=i:=by
   have:=mak_len (l:=x.take i) (a:=[])
   rw [List.length_take,HXN.out] at this
   simp only [List.length_nil] at this
   unfold makC
   omega
  obtain ⟨q,hq⟩ : ∃q,(makC (x.take i)).length = q:=⟨_,rfl⟩
  rw [hq] at hO hlen ⊢
  have HQ:=HidS.mk hq
  clear hq
  by_cases hlt : i < n
  ·obtain ⟨f,hf⟩:=lt_get HXN.out hlt
   obtain ⟨b',s2,a2,l2,k2,rfl,hb,f1,f2,f3,hv⟩:=(H.out.below hB).face hf
   have HV:=HidS.mk hv
   have HF:=HidS.mk hf
   have HF1 : HidS (Sm f.2):=⟨hS.sm (nrm_le (List.mem_of_getElem? hf))⟩
   have HF3 : HidS (∀f ∈ makC (x.take i),Sm f.2):=⟨fun f hf=>hS.sm (by
    have h1:=nrm_le hf
    have h2:=nrm_mak_from (l:=x.take i) (a:=[])
    have h3:=nrm_take (b:=x) (i:=i)
    unfold makC at h1
    simp only [nrm] at h2
    omega)⟩
   clear hv hf
   go_wp2_with fail
   refine (cinsert_any _ _ f.1 f.2 s2 a2 l2 k2 _ hO.out HV.out HF3.out HF1.out (by rw [HQ.out]; omega)).mono ?_
   rintro e w2 ⟨u,rfl,h1,hb2⟩
   have hB2:=nx hB hb2
   go_wp2
   go_roundw
   case rel=>exact ⟨i + 1,by omega,by simp,⟨by unfold makC; rw [take_sn HF.out,List.foldl_append]; exact h1.vs⟩,hB2⟩
   case measure=>simp [intOf]; omega
  ·obtain rfl : n = i:=by omega
   rw [take_all HXN.out] at hO
   go_wp2
   go_ret
   exact ⟨_,rfl,hO.out,hB⟩
abbrev tInt : TypeId:=3
theorem Tryz.infoInt : (Tryz.prog.info? tInt).map (fun i=>(i.zero,i.size,i.bytes)) = some (some (.int .i64 0),1,8):=by kernel_rfl
def intE : El Int where
 T:=tInt
 k:=1
 ts:=[]
 E:=fun _ vs x=>vs = [.int .i64 x]
 pos:=by decide
 nt:=by simp
 len:=by rintro w vs x rfl; rfl
 one:=by
  rintro w vs x rfl v hv
  rw [List.mem_singleton.1 hv]
  rfl
 st:=by
  rintro w w' vs x ht rfl
  rfl
abbrev IdsV:=LsV intE
abbrev IdsO:=LsO intE
section
variable {w : World} {ao : Option Addr} {n cap i : Nat}
theorem LsV.int {x : List Int} {f : Int} (h : IdsV w (.slice ao n cap) x) (hi : x[i]? = some f) : ∃b,ao = some ⟨b,0,none⟩/\b < w.heap.size/\w.cell? ⟨b,i,none⟩ = some (.int .i64 f):=by
 obtain ⟨b,vs,e,hb,hc,rfl⟩:=h.at_ hi
 have:=hc 0 _ rfl
 rw [show intE.k = 1 from rfl,Nat.mul_one,Nat.add_zero] at this
 exact ⟨b,e,hb,this⟩
end
theorem IdsV.one {w : World} {g : Nat} {id : Int} (hb : Blk w g tInt #[.int .i64 id]) : IdsV w (.slice (some ⟨g,0,none⟩) 1 1) [id]:=
 (LsO.lit (e:=intE) (xs:=[id]) hb (Nat.zero_le _) [[.int .i64 id]] rfl rfl (fun i vs x h1 h2=>by
  cases i with
  | zero=>cases h1; cases h2; rfl
  | succ i=>simp at h1) (by simp [maxLen])).vs
theorem appIn {w : World} {ops : Array Oper} {rest : List Oper} {o : Oper} {a : Act} {Q : Exit->Act->World->Prop} (hgd : o.guard = none) (s x : Operand)
  (ho : o.op = .call { callee:=.builtin .append,args:=#[s,x],argTypes:=#[79,79] })
  (base : Nat) (v : Value) (xs : List Int) (hs : a.eval s = v) (hown : IdsO w base v xs) (yv : Value) (ys : List Int) (hx : a.eval x = yv) (hy : IdsV w yv ys) (hlen : xs.length + ys.length<=10000000) (hbase : base<=w.heap.size)
  (h : ∀v' w',IdsO w' base v' (xs ++ ys)->w.grownBy w' v.ownBlock->wpList Tryz.prog ops Q rest (a.put o.dst v') w') : wpList Tryz.prog ops Q (o :: rest) a w:=by
 obtain ⟨i0,hi,hz0,hz1,hz2⟩:=info_parts Tryz.infoInt
 exact wpList_appLs hgd intE s x 79 ho Tryz.underlying79 hi hz0 hz1 hz2 rfl dE base v xs hs hown yv ys hx hy oM hbase fun v' w' h1 h2 _=>h v' w' h1 h2
theorem cells_snoc {c : Cx} {k : Int} {i : Nat} {f : Cel} (h : c[i]? = some f) : cellsC (c.take (i + 1)) k = cellsC (c.take i) k ++ if f.2.1 = k then [f.1] else []:=by
 unfold cellsC
 rw [take_sn h,List.filter_append,List.map_append]
 congr 1
 by_cases e : f.2.1 = k
 ·rw [List.filter_cons_of_pos (by simpa using e),if_pos e]; rfl
 ·rw [List.filter_cons_of_neg (by simpa using e),if_neg e]; rfl
theorem cells_len {c : Cx} {k : Int} : (cellsC c k).length<=c.length:=by
 unfold cellsC
 rw [List.length_map]
 exact List.length_filter_le _ _
set_option maxHeartbeats 8000000 in
set_option maxRecDepth 20000 in
theorem ccells_any (v : Value) (c : Cx) (k : Int) (w : World) (h : CpxV w v c) (hn : c.length<=1000000) :
  Calls Tryz.prog 35 #[v,.int .i64 k] w fun e w'=>∃u,e = .returned u/\IdsO w' w.heap.size u (cellsC c k)/\Below w.heap.size w w':=by
 obtain ⟨ao,ac,rfl,-,hc1⟩:=id h.shape
 obtain ⟨n,hxn⟩ : ∃n,c.length = n:=⟨_,rfl⟩
 rw [hxn] at h hn ⊢
 have H:=HidS.mk h
 have HXN:=HidS.mk hxn
 clear h hxn
 go_enter Tryz.func35,Tryz.ntmps35
 have hO : IdsO (w.alloc (.cells #[] tInt)) w.heap.size (.slice (some ⟨w.heap.size,0,none⟩) 0 0) (cellsC (c.take 0) k):=LsO.made intE w (Nat.le_refl _)
 have hal:=(Below.refl w.heap.size w).alloc (Nat.le_refl _) (.cells #[] tInt)
 have HO:=HidS.mk hO
 clear hO
 go_wp2
 go_loopw [5,6] (fun u iv wr=>∃i : Nat,i<=n/\iv = .int .i64 i/\HidS (IdsO wr w.heap.size u (cellsC (c.take i) k))/\Below w.heap.size w wr) (fun _ iv _=>n - (intOf iv).toNat)
 case atStart=>exact ⟨0,by omega,rfl,HO,hal⟩
 case round=>
  clear HO hal
  obtain ⟨i,hi,rfl,hO,hB⟩:=hrel
  obtain ⟨uo,uc,rfl⟩:=id hO.out.shape
  have hlen : (cellsC (c.take i) k).length<=i:=by
   have:=cells_len (c:=c.take i) (k:=k)
   rw [List.length_take] at this
   omega
  obtain ⟨q,hq⟩ : ∃q,(cellsC (c.take i) k).length = q:=⟨_,rfl⟩
  rw [hq] at hO hlen ⊢
  have HQ:=HidS.mk hq
  clear hq
  by_cases hlt : i < n
  ·obtain ⟨f,hf⟩:=lt_get HXN.out hlt
   obtain ⟨b',o2,c2,rfl,hb,f1,f2,f3,hv⟩:=(H.out.below hB).cel hf
   have HF:=HidS.mk hf
   clear hv hf
   by_cases hd : f.2.1 = k
   ·have hal:=(Below.refl wr.heap.size wr).alloc (Nat.le_refl _) (.cells #[.int .i64 f.1] tInt)
    have HO2:=HidS.mk (hO.out.below hal)
    have hsz:=hB.size
    go_wp2_with (at_builtin; go_loud (refine appIn rfl _ _ rfl w.heap.size _ (cellsC (c.take i) k) rfl HO2.out _ [f.1] rfl (IdsV.one (Blk.new _ _ _)) (by rw [HQ.out]; simp; omega) (by simp; omega) ?_; intro v2 w2 hown2 hgr2))
    have hB2 : Below w.heap.size w w2:=(hB.alloc hB.size _).grown hgr2 (by simp; omega) (fun g hg=>by have:=HO2.out.own g hg; omega)
    go_roundw
    case rel=>exact ⟨i + 1,by omega,by simp,⟨by rw [cells_snoc HF.out,if_pos hd]; exact hown2⟩,hB2⟩
    case measure=>simp [intOf]; omega
   ·go_wp2
    go_roundw
    case rel=>exact ⟨i + 1,by omega,by simp,⟨by rw [cells_snoc HF.out,if_neg hd,List.append_nil]; exact hO.out⟩,hB⟩
    case measure=>simp [intOf]; omega
  ·obtain rfl : n = i:=by omega
   rw [take_all HXN.out] at hO
   go_wp2
   go_ret
   exact ⟨_,rfl,hO.out,hB⟩
theorem Tryz.sizeCe : (Tryz.prog.info? tCe).map (·.size) = some 3:=by kernel_rfl
theorem run_loadCe {W : World} {r : Nat} {v : Array Value} (hb : Blk W r tCe v) (h3 : v.size = 3) : (loadVar tCe ⟨r,0,none⟩).run Tryz.prog W = .ok (.agg v) W:=
 run_loadVar_row W r _ _ v _ _ hb Tryz.underlying85 rfl (by rw [Tryz.sizeCe,h3])
theorem results_cet {fn : Func} {p u : Tmp} (h : fn.results = #[.cell p tCe,.tmp u]) (tmps : Array Value) {W : World} {r : Nat} {v : Array Value}
  (hp : tmps.getD p undef = .pointer (some ⟨r,0,none⟩)) (hb : Blk W r tCe v) (h3 : v.size = 3) :
  (results fn tmps).run Tryz.prog W = .ok (.tuple #[.agg v,tmps.getD u undef]) W:=by
 have hp' : tmps[p]?.getD undef = .pointer (some ⟨r,0,none⟩):=by simpa using hp
 simp [results,h,hp',asAddr,run_loadCe hb h3]
theorem TE.set3 {ts : List TypeId} {w : World} {g : Nat} {T : TypeId} {cs : Array Value} (h : Blk w g T cs) (hT : T ∉ ts) (x y z : Value) : TE ts w (((w.setCell ⟨g,0,none⟩ x).setCell ⟨g,1,none⟩ y).setCell ⟨g,2,none⟩ z):=fun b c t fz ht hb=>by
 have hg : b ≠ g:=by
  rintro rfl
  unfold Blk at h
  rw [h] at hb
  injection hb with hb
  injection hb with _ hb
  exact hT (hb ▸ ht)
 exact ((Below.heap_setCell _ ⟨g,2,none⟩ z b hg).trans ((Below.heap_setCell _ ⟨g,1,none⟩ y b hg).trans (Below.heap_setCell w ⟨g,0,none⟩ x b hg))).trans hb
def CelV (w : World) (v : Value) (f : Cel) : Prop:=∃o n c,v = .agg #[.int .i64 f.1,.int .i64 f.2.1,.slice o n c]/\ChnV w (.slice o n c) f.2.2
theorem CelV.below {w w' : World} {v : Value} {f : Cel} (h : CelV w v f) (hb : Below w.heap.size w w') : CelV w' v f:=by
 obtain ⟨o,n,c,h1,h2⟩:=h
 exact ⟨o,n,c,h1,h2.below hb⟩
def celD (c : Cx) (i : Int) : Cel:=(findC c i).getD (0,0,[])
theorem bOf_celD (c : Cx) (i : Int) : (celD c i).2.2 = bOf c i:=by
 unfold celD bOf
 cases findC c i <;> rfl
def FindT (c : Cx) (i : Int) (w : World) (v : Value) : Prop:=∃u,v = .tuple #[u,.bool (findC c i).isSome]/\CelV w u (celD c i)
theorem findC_drop {c : Cx} {k : Int} : ∀{i : Nat} {f : Cel},c[i]? = some f->findC (c.drop i) k = if f.1 = k then some f else findC (c.drop (i + 1)) k:=by
 intro i f h
 rw [drop_get h]
 rfl
set_option maxHeartbeats 8000000 in
set_option maxRecDepth 20000 in
theorem cfind_any (v : Value) (c : Cx) (k : Int) (w : World) (h : CpxV w v c) :
  Calls Tryz.prog 75 #[v,.int .i64 k] w fun e w'=>∃u,e = .returned u/\FindT c k w' u/\Below w.heap.size w w':=by
 obtain ⟨ao,ac,rfl,-,hc1⟩:=id h.shape
 obtain ⟨n,hxn⟩ : ∃n,c.length = n:=⟨_,rfl⟩
 have hl:=h.len
 rw [hxn] at h hl ⊢
 have H:=HidS.mk h
 have HXN:=HidS.mk hxn
 clear h hxn
 have hn9 : n<=9223372036854775807:=by omega
 go_enter Tryz.func75,Tryz.ntmps75
 go_upto_region 1 with (fail)
 refine wp_world ?_
 intro W0 hW0
 obtain ⟨hB0,T3,hs0⟩:=world1 hW0
 have T0:=HidS.mk T3
 have H:=HidS.mk (H.out.below hB0)
 have hfl : HidS True:=⟨trivial⟩
 clear hW0 T3
 go_wp2
 go_loopw [6] (fun iv wr=>∃i : Nat,i<=n/\iv = .int .i64 i/\HidS (findC (c.drop i) k = findC c k)/\wr = W0) (fun iv _=>n - (intOf iv).toNat)
 case atStart=>exact ⟨0,by omega,rfl,⟨rfl⟩,rfl⟩
 case round=>
  obtain ⟨i,hi,rfl,hd,rfl⟩:=hrel
  have T3:=T0.out
  obtain ⟨c1,c2,c3,c4,c5,c6⟩:=T3.three
  by_cases hlt : i < n
  ·obtain ⟨f,hf⟩:=lt_get HXN.out hlt
   obtain ⟨b',o2,q2,rfl,hb,f1,f2,f3,hv⟩:=H.out.cel hf
   obtain ⟨p,d,x⟩:=f
   simp only at f1 f2 f3 hv
   have HF:=HidS.mk hf
   have HV:=HidS.mk hv
   clear hv hf
   by_cases he : p = k
   ·subst he
    have HD : HidS (findC c p = some (p,d,x)):=⟨by rw [<-hd.out,findC_drop HF.out,if_pos rfl]⟩
    go_wp2
    refine bodyPost_ret (results_cet rfl _ rfl (T3.put3 _ _ _) rfl) rfl ⟨_,rfl,⟨_,by rw [HD.out]; rfl,?_⟩,bset (bset (bset hB0 oM 0 _) oM 1 _) oM 2 _⟩
    unfold celD
    rw [HD.out]
    exact ⟨_,_,_,rfl,HV.out.te (TE.set3 T3 dE _ _ _)⟩
   ·go_wp2
    go_roundw
    case rel=>exact ⟨i + 1,by omega,by simp,⟨by rw [<-hd.out,findC_drop HF.out,if_neg he]⟩,by first | rfl | trivial⟩
    case measure=>simp [intOf]; omega
  ·obtain rfl : n = i:=by omega
   have HD : HidS (findC c k = none):=⟨by rw [<-hd.out,List.drop_eq_nil_of_le (by rw [HXN.out]; exact Nat.le_refl _)]; rfl⟩
   go_wp2
   refine bodyPost_ret (results_cet rfl _ rfl (T3.put3 _ _ _) rfl) rfl ⟨_,rfl,⟨_,by rw [HD.out]; rfl,?_⟩,bset (bset (bset hB0 oM 0 _) oM 1 _) oM 2 _⟩
   unfold celD
   rw [HD.out]
   exact ⟨_,_,_,rfl,LsV.nil _ _ _ _ (Nat.zero_le _)⟩
theorem mkVec (m : Int) (n : Nat) (hm : m = n) (h : n<=1099511627776) (W : World) :
  (Instr.makeSlice 117 (.int .i64 m) (.int .i64 m)).run Tryz.prog W = .ok (.slice (some ⟨W.heap.size,0,none⟩) n n) (W.alloc (.cells (zeroCells n) tI)):=by
 subst hm
 obtain ⟨i0,hi,hz0,hz1,hz2⟩:=info_parts Tryz.infoI
 have:=run_make_rowN (P:=Tryz.prog) 117 tI i0 _ Tryz.underlying117 hi hz0 .i64 .i64 n n (Nat.le_refl _) (by rw [hz2]; omega) oM W
 rw [this,hz1]
 rfl
theorem ValC.take {x : Ch} (h : ValC x) (i : Nat) : ValC (x.take i):=⟨List.Pairwise.sublist (List.take_sublist i x) h.srt,fun f hf=>h.nz f (List.mem_of_mem_take hf)⟩
theorem coef_snoc {x : Ch} {i : Nat} {f : Int × Int} (h : x[i]? = some f) (a : Int) : coef (x.take (i + 1)) a = coef (x.take i) a + if f.1 = a then f.2 else 0:=by
 unfold coef
 rw [take_sn h,lin_append]
 congr 1
 by_cases e : f.1 = a
 ·simp [lin,dl,e]
 ·simp [lin,dl,e,Ne.symm e]
theorem coef_before {x : Ch} {i : Nat} {f : Int × Int} (hv : ValC x) (h : x[i]? = some f) : coef (x.take i) f.1 = 0:=coef_none fun g hg=>by
 obtain ⟨j,hj,rfl⟩:=List.getElem_of_mem hg
 rw [List.length_take] at hj
 have hi:=(List.getElem?_eq_some_iff.1 h)
 obtain ⟨h1,h2⟩:=hi
 rw [List.getElem_take,<-h2]
 have:=List.pairwise_iff_getElem.1 hv.srt j i oM h1 oM
 omega
def RowS (x : Ch) (ids cur : List Int) (i j : Nat) : Prop:=cur.length = ids.length/\∀(t : Nat) (a : Int),ids[t]? = some a->cur[t]? = some (if t < j then coef (x.take (i + 1)) a else coef (x.take i) a)
theorem RowS.start (x : Ch) (ids : List Int) : RowS x ids (List.replicate ids.length 0) 0 0:=⟨List.length_replicate,fun t a h=>by
 rw [if_neg oM,List.take_zero,List.getElem?_replicate,if_pos (List.getElem?_eq_some_iff.1 h).1]
 rfl⟩
theorem RowS.row {x : Ch} {ids cur : List Int} {i : Nat} (h : RowS x ids cur i ids.length) : RowS x ids cur (i + 1) 0:=⟨h.1,fun t a ht=>by
 rw [h.2 t a ht,if_pos (List.getElem?_eq_some_iff.1 ht).1,if_neg oM]⟩
theorem RowS.skip {x : Ch} {ids cur : List Int} {i j : Nat} {f : Int × Int} {a : Int} (h : RowS x ids cur i j) (hf : x[i]? = some f) (ha : ids[j]? = some a) (hn : a ≠ f.1) : RowS x ids cur i (j + 1):=⟨h.1,fun t b ht=>by
 rw [h.2 t b ht]
 by_cases e : t = j
 ·subst e
  rw [ha] at ht
  injection ht with ht
  subst ht
  rw [if_neg oM,if_pos oM,coef_snoc hf,if_neg (fun e=>hn e.symm),Int.add_zero]
 ·by_cases e2 : t < j
  ·rw [if_pos e2,if_pos oM]
  ·rw [if_neg e2,if_neg oM]⟩
theorem RowS.set {x : Ch} {ids cur : List Int} {i j : Nat} {f : Int × Int} {a : Int} (h : RowS x ids cur i j) (hv : ValC x) (hf : x[i]? = some f) (ha : ids[j]? = some a) (hn : a = f.1) : RowS x ids (cur.set j f.2) i (j + 1):=⟨by rw [List.length_set]; exact h.1,fun t b ht=>by
 by_cases e : t = j
 ·subst e
  rw [ha] at ht
  injection ht with ht
  subst ht
  rw [if_pos oM,List.getElem?_set_self (by rw [h.1]; exact (List.getElem?_eq_some_iff.1 ha).1),hn,coef_snoc hf,coef_before hv hf,if_pos rfl,Int.zero_add]
 ·rw [List.getElem?_set_ne (Ne.symm e),h.2 t b ht]
  by_cases e2 : t < j
  ·rw [if_pos e2,if_pos oM]
  ·rw [if_neg e2,if_neg oM]⟩
theorem RowS.done {x : Ch} {ids cur : List Int} {n : Nat} (h : RowS x ids cur n 0) (hn : x.length = n) : cur = ids.map (coef x):=by
 apply List.ext_getElem?
 intro t
 rw [List.getElem?_map]
 rcases ht : ids[t]? with _ | a
 ·have:=List.getElem?_eq_none_iff.1 ht
  rw [List.getElem?_eq_none (by rw [h.1]; exact this)]
  rfl
 ·rw [h.2 t a ht,if_neg oM,take_all hn]
  rfl
set_option maxHeartbeats 8000000 in
set_option maxRecDepth 20000 in
theorem row25_any (v u : Value) (x : Ch) (ids : List Int) (w : World) (hx : ChnV w v x) (hu : IdsV w u ids) (hV : ValC x) (hl : x.length<=1000000) (hi : ids.length<=1000000) :
  Calls Tryz.prog 76 #[v,u] w fun e w'=>∃r,e = .returned r/\VecV w' r (ids.map (coef x))/\Below w.heap.size w w':=by
 obtain ⟨ao,ac,rfl,-,hc1⟩:=id hx.shape
 obtain ⟨bo,bc,rfl,-,hc2⟩:=id hu.shape
 obtain ⟨n,hxn⟩ : ∃n,x.length = n:=⟨_,rfl⟩
 obtain ⟨m,hum⟩ : ∃n,ids.length = n:=⟨_,rfl⟩
 rw [hxn] at hx hl ⊢
 rw [hum] at hu hi ⊢
 have H:=HidS.mk hx
 have HU:=HidS.mk hu
 have HXN:=HidS.mk hxn
 have HUM:=HidS.mk hum
 have HV:=HidS.mk hV
 clear hx hu hxn hum hV
 go_enter Tryz.func76,Tryz.ntmps76
 have hmk:=fun W=>mkVec (m : Int) m rfl oM W
 go_upto_region 2 with (fail)
 refine wp_world ?_
 intro W1 hW1
 have hr : HidS (∃cur,RowS x ids cur 0 0/\RowAt W1 w.heap.size cur):=⟨_,RowS.start x ids,by rw [hW1.out,HUM.out]; exact row_zero w m⟩
 have hB : Below w.heap.size w W1:=by rw [hW1.out]; exact (Below.refl _ _).alloc (Nat.le_refl _) _
 clear hW1 hmk
 go_wp2
 go_loopw [6] (fun iv wr=>∃i : Nat,i<=n/\iv = .int .i64 i/\HidS (∃cur,RowS x ids cur i 0/\RowAt wr w.heap.size cur)/\Below w.heap.size w wr) (fun iv _=>n - (intOf iv).toNat)
 case atStart=>exact ⟨0,by omega,rfl,hr,hB⟩
 case round=>
  clear hr hB
  obtain ⟨i,hi,rfl,hR,hB⟩:=hrel
  by_cases hlt : i < n
  ·obtain ⟨f,hf⟩:=lt_get HXN.out hlt
   have HF:=HidS.mk hf
   clear hf
   go_wp2
   go_loopw [7] (fun jv wr=>∃j : Nat,j<=m/\jv = .int .i64 j/\HidS (∃cur,RowS x ids cur i j/\RowAt wr w.heap.size cur)/\Below w.heap.size w wr) (fun jv _=>m - (intOf jv).toNat)
   case atStart=>exact ⟨0,by omega,rfl,hR,hB⟩
   case round=>
    clear hR hB
    obtain ⟨j,hj,rfl,hR,hB⟩:=hrel
    by_cases hjt : j < m
    ·obtain ⟨a,ha⟩:=lt_get HUM.out hjt
     obtain ⟨b1,s1,a1,l1,k1,rfl,hb1,f1,f2,f3,hv1⟩:=(H.out.below hB).face HF.out
     obtain ⟨b2,rfl,hb2,g1⟩:=(HU.out.below hB).int ha
     have HG:=HidS.mk ha
     clear ha hv1
     go_upto_region 8 with (fail)
     refine wp_ser [] ?_
     refine sRd ?_
     refine sRf ?_
     intro w5 hb5
     have hB5:=nx hB hb5
     clear f1 f2 f3 g1
     obtain ⟨cur,hcur,hrow⟩:=hR.out
     have HCUR:=HidS.mk hcur
     have HROW:=HidS.mk (hrow.below hb5)
     clear hcur hrow hR
     by_cases he : a = f.1
     ·obtain ⟨b',s1,a1,l1,k1,eb,hb1,f1,f2,f3,hv1⟩:=(H.out.below hB5).face HF.out
      cases eb
      have hk : j < cur.length:=by rw [HCUR.out.1,HUM.out]; exact hjt
      have hset:=HidS.mk (HROW.out.set hk hv1)
      have HS:=HidS.mk (HCUR.out.set HV.out HF.out HG.out he)
      obtain ⟨cz,hcz⟩ : ∃z,cur[j]? = some z:=⟨_,List.getElem?_eq_getElem hk⟩
      obtain ⟨s3,a3,l3,k3,d1,d2,d3,d4,-⟩:=HROW.out.cell hcz
      clear hv1 hcz
      go_wp2
      go_roundw
      case rel=>exact ⟨j + 1,by omega,by simp,⟨_,HS.out,hset.out.1⟩,bset (bset hB5 (Nat.le_refl _) _ _) (Nat.le_refl _) _ _⟩
      case measure=>simp [intOf]; omega
     ·have hne : (a == f.1) = false:=by simpa using he
      have HS:=HidS.mk (HCUR.out.skip HF.out HG.out he)
      go_wp2
      go_roundw
      case rel=>exact ⟨j + 1,by omega,by simp,⟨_,HS.out,HROW.out⟩,hB5⟩
      case measure=>simp [intOf]; omega
    ·obtain rfl : m = j:=by omega
     have hR : HidS (∃cur,RowS x ids cur (i + 1) 0/\RowAt wr w.heap.size cur):=by
      obtain ⟨cur,h1,h2⟩:=hR.out
      rw [<-HUM.out] at h1
      exact ⟨cur,h1.row,h2⟩
     go_wp2
     go_roundw
     case rel=>exact ⟨i + 1,by omega,by simp,hR,hB⟩
     case measure=>simp [intOf]; omega
  ·obtain rfl : n = i:=by omega
   have hR : HidS (∃cur,cur = ids.map (coef x)/\RowAt wr w.heap.size cur):=by
    obtain ⟨cur,h1,h2⟩:=hR.out
    exact ⟨cur,h1.done HXN.out,h2⟩
   go_wp2
   go_ret
   refine ⟨_,rfl,?_,hB⟩
   obtain ⟨cur,rfl,h2⟩:=hR.out
   exact ⟨_,m,m,rfl,by rw [List.length_map,HUM.out],Nat.le_refl _,by omega,fun _=>⟨_,rfl,h2⟩⟩
theorem lastsB_int (z : Int) : LastsB (fun w v=>IntV w v z):=fun _ _ _ e h=>h.ext (lx e)
theorem lastsB_eq (x : Value) : LastsB (fun _ v=>v = x):=fun _ _ _ _ h=>h
theorem lastsB_mat (R C : Int) (M : List (List Int)) : LastsB (fun w v=>MatV w v R C M):=fun _ _ _ e h=>h.below e
theorem lastsB_vec (zs : List Int) : LastsB (fun w v=>VecV w v zs):=fun _ _ _ e h=>h.below e
def wellRV (N : Nat) (vs : List VS) : Bool:=decide (vs.map (·.slot)).Nodup && decide (vs.map (·.op)).Nodup && (vs.map (·.slot)).all (fun s=>decide (s < N))
structure RV (W : World) (T0 : Array Value) (vs : List VS) (L : Array Bool) (T : Array Value) (w : World) : Prop where
 wf : wellRV T0.size vs = true
 lv : ∀s ∈ vs,LastsB s.P
 size : T.size = T0.size
 keep : ∀j,(∀s ∈ vs,s.slot ≠ j)->T[j]? = T0[j]?
 bel : Below W.heap.size W w
 val : ∀s ∈ vs,L[s.op]? = some true->∃v,T[s.slot]? = some v/\s.P w v
section
variable {W : World} {T0 : Array Value} {vs : List VS} {L : Array Bool} {T : Array Value} {w w' : World}
theorem RV.start (hwf : wellRV T0.size vs = true:=by kernel_rfl) (hv : ∀s ∈ vs,LastsB s.P:=by repeat' (first | exact lastsB_int _ | exact lastsB_eq _ | exact lastsB_mat _ _ _ | exact lastsB_vec _ | assumption | refine List.forall_mem_cons.2 ⟨?_,?_⟩ | exact List.forall_mem_nil _)) {n : Nat} : RV W T0 vs (Array.replicate n false) T0 W.drew:=
 ⟨hwf,hv,rfl,fun _ _=>rfl,dr _,fun s _ h=>by
  rw [Array.getElem?_replicate] at h
  split at h <;> simp at h⟩
theorem RV.world (h : RV W T0 vs L T w) (hb : Below w.heap.size w w') : RV W T0 vs L T w':=
 ⟨h.wf,h.lv,h.size,h.keep,nx h.bel hb,fun s hs hl=>by
  obtain ⟨v,h1,h2⟩:=h.val s hs hl
  exact ⟨v,h1,h.lv s hs _ _ _ hb h2⟩⟩
theorem RV.value {k : Nat} {v : Value} (h : RV W T0 vs L T w) (s : VS) (hs : s ∈ vs) (hk : s.op = k) (hP : s.P w v) : RV W T0 vs (L.setIfInBounds k true) (T.setIfInBounds s.slot v) w:=by
 subst hk
 have hwf:=h.wf
 unfold wellRV at hwf
 simp only [Bool.and_eq_true,decide_eq_true_eq,List.all_eq_true] at hwf
 obtain ⟨⟨w1,w2⟩,w3⟩:=hwf
 have hslot : s.slot < T0.size:=w3 _ (List.mem_map.2 ⟨s,hs,rfl⟩)
 refine ⟨h.wf,h.lv,by simp [h.size],fun j h1=>by rw [Array.getElem?_setIfInBounds_ne (h1 s hs)]; exact h.keep j h1,h.bel,?_⟩
 intro t ht hl
 by_cases he : t = s
 ·subst he
  exact ⟨v,by rw [Array.getElem?_setIfInBounds_self_of_lt (by rw [h.size]; exact hslot)],hP⟩
 ·have n1 : t.op ≠ s.op:=fun e=>he (inj_of_nodup w2 ht hs e)
  have n2 : t.slot ≠ s.slot:=fun e=>he (inj_of_nodup w1 ht hs e)
  obtain ⟨u,h1,h2⟩:=h.val t ht (set_true hl (Ne.symm n1))
  exact ⟨u,by rw [Array.getElem?_setIfInBounds_ne (Ne.symm n2)]; exact h1,h2⟩
theorem RV.v {s : VS} (h : RV W T0 vs L T w) (hs : s ∈ vs) (hl : L[s.op]? = some true) : ∃v,T[s.slot]? = some v/\s.P w v:=h.val s hs hl
theorem RV.y {k : Nat} {v : Value} (h : RV W T0 vs L T w) {s : VS} (hs : s ∈ vs) (hP : s.P w v) (hk : s.op = k:=by rfl) : RV W T0 vs (L.setIfInBounds k true) (T.setIfInBounds s.slot v) w:=h.value s hs hk hP
theorem RV.cell {b o : Nat} {v : Value} (h : RV W T0 vs L T w) (hc : W.cell? ⟨b,o,none⟩ = some v) : w.cell? ⟨b,o,none⟩ = some v:=kc_below hc h.bel
theorem RV.k {x : Value} (h : RV W T0 vs L T w) (j : Nat) (h2 : T0[j]? = some x) (h1 : (vs.all fun s=>!(s.slot == j)) = true) : T[j]? = some x:=
 (h.keep j (fun s hs e=>by have:=List.all_eq_true.1 h1 s hs; simp [e] at this)).trans h2
theorem RV.q {i s : Nat} {x : Value} (h : RV W T0 vs L T w) (hm : E i s x ∈ vs) : RV W T0 vs (L.setIfInBounds i true) (T.setIfInBounds s x) w:=h.value _ hm rfl rfl
theorem RV.fin {G : Array Value->World->Prop} (hL : (vs.all fun s=>L[s.op]? == some true) = true) (h : ∀w,Below W.heap.size W w->∀T,Fin w vs T0 T->G T w) (T : Array Value) (w : World) (hI : RV W T0 vs L T w) : G T w:=by
 refine h w hI.bel T (fin_of vs (fun j hj=>hI.keep j hj) (fun s hs=>hI.val s hs ?_) hI.size ?_)
 ·have:=List.all_eq_true.1 hL s hs
  simpa using this
 ·have hw:=hI.wf
  unfold wellRV at hw
  simp only [Bool.and_eq_true,decide_eq_true_eq] at hw
  exact hw.1.1
end
theorem Blk.all9 {w : World} {g : Nat} {t : TypeId} {c0 c1 c2 c3 c4 c5 c6 c7 c8 : Value} (h : Blk w g t #[c0,c1,c2,c3,c4,c5,c6,c7,c8]) :
  (w.cell? ⟨g,0,none⟩ = some c0/\w.cell? ⟨g,1,none⟩ = some c1/\w.cell? ⟨g,2,none⟩ = some c2/\w.cell? ⟨g,3,none⟩ = some c3/\w.cell? ⟨g,4,none⟩ = some c4/\w.cell? ⟨g,5,none⟩ = some c5/\w.cell? ⟨g,6,none⟩ = some c6/\w.cell? ⟨g,7,none⟩ = some c7/\w.cell? ⟨g,8,none⟩ = some c8)/\(w.frozen? ⟨g,0,none⟩ = false/\w.frozen? ⟨g,1,none⟩ = false/\w.frozen? ⟨g,2,none⟩ = false/\w.frozen? ⟨g,3,none⟩ = false/\w.frozen? ⟨g,4,none⟩ = false/\w.frozen? ⟨g,5,none⟩ = false/\w.frozen? ⟨g,6,none⟩ = false/\w.frozen? ⟨g,7,none⟩ = false/\w.frozen? ⟨g,8,none⟩ = false):=
 ⟨⟨h.cell 0,h.cell 1,h.cell 2,h.cell 3,h.cell 4,h.cell 5,h.cell 6,h.cell 7,h.cell 8⟩,⟨h.frozen 0,h.frozen 1,h.frozen 2,h.frozen 3,h.frozen 4,h.frozen 5,h.frozen 6,h.frozen 7,h.frozen 8⟩⟩
theorem Blk.put9 {w : World} {g : Nat} {t : TypeId} {c0 c1 c2 c3 c4 c5 c6 c7 c8 : Value} (h : Blk w g t #[c0,c1,c2,c3,c4,c5,c6,c7,c8]) (x0 x1 x2 x3 x4 x5 x6 x7 x8 : Value) : Blk (((((((((w.setCell ⟨g,0,none⟩ x0).setCell ⟨g,1,none⟩ x1).setCell ⟨g,2,none⟩ x2).setCell ⟨g,3,none⟩ x3).setCell ⟨g,4,none⟩ x4).setCell ⟨g,5,none⟩ x5).setCell ⟨g,6,none⟩ x6).setCell ⟨g,7,none⟩ x7).setCell ⟨g,8,none⟩ x8) g t #[x0,x1,x2,x3,x4,x5,x6,x7,x8]:=by
 simpa using (((((((((h.set_ 0 x0).set_ 1 x1).set_ 2 x2).set_ 3 x3).set_ 4 x4).set_ 5 x5).set_ 6 x6).set_ 7 x7).set_ 8 x8)
theorem Blk.lext9 {w : World} {g : Nat} {t : TypeId} {cs : Array Value} (h : Blk w g t cs) (hne : t ≠ tU) (x0 x1 x2 x3 x4 x5 x6 x7 x8 : Value) : LExt w (((((((((w.setCell ⟨g,0,none⟩ x0).setCell ⟨g,1,none⟩ x1).setCell ⟨g,2,none⟩ x2).setCell ⟨g,3,none⟩ x3).setCell ⟨g,4,none⟩ x4).setCell ⟨g,5,none⟩ x5).setCell ⟨g,6,none⟩ x6).setCell ⟨g,7,none⟩ x7).setCell ⟨g,8,none⟩ x8):=
 (((((((((h.lext hne 0 x0).trans ((h.set_ 0 x0).lext hne 1 x1)).trans (((h.set_ 0 x0).set_ 1 x1).lext hne 2 x2)).trans ((((h.set_ 0 x0).set_ 1 x1).set_ 2 x2).lext hne 3 x3)).trans (((((h.set_ 0 x0).set_ 1 x1).set_ 2 x2).set_ 3 x3).lext hne 4 x4)).trans ((((((h.set_ 0 x0).set_ 1 x1).set_ 2 x2).set_ 3 x3).set_ 4 x4).lext hne 5 x5)).trans (((((((h.set_ 0 x0).set_ 1 x1).set_ 2 x2).set_ 3 x3).set_ 4 x4).set_ 5 x5).lext hne 6 x6)).trans ((((((((h.set_ 0 x0).set_ 1 x1).set_ 2 x2).set_ 3 x3).set_ 4 x4).set_ 5 x5).set_ 6 x6).lext hne 7 x7)).trans (((((((((h.set_ 0 x0).set_ 1 x1).set_ 2 x2).set_ 3 x3).set_ 4 x4).set_ 5 x5).set_ 6 x6).set_ 7 x7).lext hne 8 x8))
theorem set9_old (w : World) (g k : Nat) (x0 x1 x2 x3 x4 x5 x6 x7 x8 : Value) (hk : k ≠ g) : ((((((((((w.setCell ⟨g,0,none⟩ x0).setCell ⟨g,1,none⟩ x1).setCell ⟨g,2,none⟩ x2).setCell ⟨g,3,none⟩ x3).setCell ⟨g,4,none⟩ x4).setCell ⟨g,5,none⟩ x5).setCell ⟨g,6,none⟩ x6).setCell ⟨g,7,none⟩ x7).setCell ⟨g,8,none⟩ x8)).heap[k]? = w.heap[k]?:=
 ((setCell_old _ g 8 k x8 hk).trans ((setCell_old _ g 7 k x7 hk).trans ((setCell_old _ g 6 k x6 hk).trans ((setCell_old _ g 5 k x5 hk).trans ((setCell_old _ g 4 k x4 hk).trans ((setCell_old _ g 3 k x3 hk).trans ((setCell_old _ g 2 k x2 hk).trans ((setCell_old _ g 1 k x1 hk).trans (setCell_old _ g 0 k x0 hk)))))))))
theorem below9 {B : Nat} {a w : World} {g : Nat} (h : Below B a w) (hp : B<=g) (x0 x1 x2 x3 x4 x5 x6 x7 x8 : Value) : Below B a (((((((((w.setCell ⟨g,0,none⟩ x0).setCell ⟨g,1,none⟩ x1).setCell ⟨g,2,none⟩ x2).setCell ⟨g,3,none⟩ x3).setCell ⟨g,4,none⟩ x4).setCell ⟨g,5,none⟩ x5).setCell ⟨g,6,none⟩ x6).setCell ⟨g,7,none⟩ x7).setCell ⟨g,8,none⟩ x8):=
 (bset (bset (bset (bset (bset (bset (bset (bset (bset h hp 0 x0) hp 1 x1) hp 2 x2) hp 3 x3) hp 4 x4) hp 5 x5) hp 6 x6) hp 7 x7) hp 8 x8)
structure Cpy where
 k : Nat
 s : Nat
 d : Nat
 t : Nat
def Cpy.fine (vs : List VS) (c : Cpy) : Bool:=vs.any (fun a=>a.op == c.k && a.slot == c.s) && vs.any (fun a=>a.op == c.d && a.slot == c.t) && !(c.k == c.d)
theorem any_mem {vs : List VS} {k s : Nat} (h : vs.any (fun a=>a.op == k && a.slot == s) = true) : ∃P,(⟨k,s,P⟩ : VS) ∈ vs:=by
 obtain ⟨a,ha,e⟩:=List.any_eq_true.1 h
 simp only [Bool.and_eq_true,beq_iff_eq] at e
 obtain ⟨rfl,rfl⟩:=e
 exact ⟨a.P,ha⟩
theorem Cpy.fine_all {vs : List VS} {cp : List Cpy} (h : cp.all (Cpy.fine vs) = true) {c : Cpy} (hc : c ∈ cp) : (∃P,(⟨c.k,c.s,P⟩ : VS) ∈ vs)/\(∃P,(⟨c.d,c.t,P⟩ : VS) ∈ vs)/\c.k ≠ c.d:=by
 have:=List.all_eq_true.1 h c hc
 unfold Cpy.fine at this
 simp only [Bool.and_eq_true] at this
 exact ⟨any_mem this.1.1,any_mem this.1.2,by have:=this.2; simpa using this⟩
structure RVP (ka sa kb sb : Nat) (Q : Value->Value->Prop) (cp : List Cpy) (W : World) (T0 : Array Value) (vs : List VS) (L : Array Bool) (T : Array Value) (w : World) : Prop where
 rv : RV W T0 vs L T w
 ma : ∃P,(⟨ka,sa,P⟩ : VS) ∈ vs
 mb : ∃P,(⟨kb,sb,P⟩ : VS) ∈ vs
 ne : ka ≠ kb
 mc : cp.all (Cpy.fine vs) = true
 pair : L[ka]? = some true->L[kb]? = some true->∃u v,T[sa]? = some u/\T[sb]? = some v/\Q u v
 cpy : ∀c ∈ cp,L[c.k]? = some true->L[c.d]? = some true/\T[c.s]? = T[c.t]?
section
variable {ka sa kb sb : Nat} {Q : Value->Value->Prop} {cp : List Cpy} {W : World} {T0 : Array Value} {vs : List VS} {L : Array Bool} {T : Array Value} {w w' : World}
theorem RVP.start (hwf : wellRV T0.size vs = true) (hv : ∀s ∈ vs,LastsB s.P) (ma : ∃P,(⟨ka,sa,P⟩ : VS) ∈ vs) (mb : ∃P,(⟨kb,sb,P⟩ : VS) ∈ vs) (ne : ka ≠ kb) (mc : cp.all (Cpy.fine vs) = true) {n : Nat} : RVP ka sa kb sb Q cp W T0 vs (Array.replicate n false) T0 W.drew:=
 have no : ∀k,¬ (Array.replicate n false)[k]? = some true:=fun k h=>by
  rw [Array.getElem?_replicate] at h
  split at h <;> simp at h
 ⟨RV.start hwf hv,ma,mb,ne,mc,fun h _=>absurd h (no _),fun _ _ h=>absurd h (no _)⟩
theorem RVP.world (h : RVP ka sa kb sb Q cp W T0 vs L T w) (hb : Below w.heap.size w w') : RVP ka sa kb sb Q cp W T0 vs L T w':=⟨h.rv.world hb,h.ma,h.mb,h.ne,h.mc,h.pair,h.cpy⟩
theorem RVP.cell (h : RVP ka sa kb sb Q cp W T0 vs L T w) {b o : Nat} {v : Value} (hc : W.cell? ⟨b,o,none⟩ = some v) : w.cell? ⟨b,o,none⟩ = some v:=h.rv.cell hc
theorem RVP.bel (h : RVP ka sa kb sb Q cp W T0 vs L T w) : Below W.heap.size W w:=h.rv.bel
theorem RVP.size (h : RVP ka sa kb sb Q cp W T0 vs L T w) : T.size = T0.size:=h.rv.size
theorem RVP.keep (h : RVP ka sa kb sb Q cp W T0 vs L T w) : ∀j,(∀s ∈ vs,s.slot ≠ j)->T[j]? = T0[j]?:=h.rv.keep
theorem RVP.val (h : RVP ka sa kb sb Q cp W T0 vs L T w) : ∀s ∈ vs,L[s.op]? = some true->∃v,T[s.slot]? = some v/\s.P w v:=h.rv.val
theorem RVP.value {k : Nat} {v : Value} (h : RVP ka sa kb sb Q cp W T0 vs L T w) (s : VS) (hs : s ∈ vs) (hk : s.op = k) (hP : s.P w v)
  (hq : ∀u,(k = ka->T[sb]? = some u->L[kb]? = some true->Q v u)/\(k = kb->T[sa]? = some u->L[ka]? = some true->Q u v):=by intro u; exact ⟨fun e=>absurd e dE,fun e=>absurd e dE⟩)
  (hL : L[k]? = some false:=by assumption) (hc : cp.all (fun c=>!(c.k == k)) = true ∨ ∀c ∈ cp,c.k = k->L[c.d]? = some true/\T[c.t]? = some v:=by first | exact .inl rfl | exact .inl dE) :
  RVP ka sa kb sb Q cp W T0 vs (L.setIfInBounds k true) (T.setIfInBounds s.slot v) w:=by
 have hr:=h.rv.value s hs hk hP
 subst hk
 obtain ⟨Pa,ma⟩:=h.ma
 obtain ⟨Pb,mb⟩:=h.mb
 have hwf:=h.rv.wf
 unfold wellRV at hwf
 simp only [Bool.and_eq_true,decide_eq_true_eq,List.all_eq_true] at hwf
 obtain ⟨⟨w1,w2⟩,w3⟩:=hwf
 have hslot : s.slot < T.size:=by rw [h.rv.size]; exact w3 _ (List.mem_map.2 ⟨s,hs,rfl⟩)
 have hab : sb ≠ sa:=fun e=>h.ne (congrArg VS.op (inj_of_nodup w1 ma mb e.symm))
 have hkeep : ∀{j : Nat},L[j]? = some true->j ≠ s.op:=fun hj e=>by rw [e,hL] at hj; cases hj
 have hset : ∀{j : Nat},L[j]? = some true->(L.setIfInBounds s.op true)[j]? = some true:=fun {j} hj=>by rw [Array.getElem?_setIfInBounds_ne (Ne.symm (hkeep hj))]; exact hj
 refine ⟨hr,h.ma,h.mb,h.ne,h.mc,fun h1 h2=>?_,fun c hcm h1=>?_⟩
 ·by_cases e1 : s.op = ka
  ·have es : s = ⟨ka,sa,Pa⟩:=inj_of_nodup w2 hs ma e1
   have e2 : s.slot = sa:=by rw [es]
   have hlb : L[kb]? = some true:=set_true h2 (by rw [e1]; exact h.ne)
   obtain ⟨u,hu,-⟩:=h.rv.val _ mb hlb
   exact ⟨v,u,by rw [e2,Array.getElem?_setIfInBounds_self_of_lt (by rw [<-e2]; exact hslot)],by rw [e2,Array.getElem?_setIfInBounds_ne (Ne.symm hab)]; exact hu,(hq u).1 e1 hu hlb⟩
  ·have hla : L[ka]? = some true:=set_true h1 e1
   obtain ⟨u,hu,-⟩:=h.rv.val _ ma hla
   by_cases e3 : s.op = kb
   ·have es : s = ⟨kb,sb,Pb⟩:=inj_of_nodup w2 hs mb e3
    have e2 : s.slot = sb:=by rw [es]
    exact ⟨u,v,by rw [e2,Array.getElem?_setIfInBounds_ne hab]; exact hu,by rw [e2,Array.getElem?_setIfInBounds_self_of_lt (by rw [<-e2]; exact hslot)],(hq u).2 e3 hu hla⟩
   ·obtain ⟨x,y,g1,g2,g3⟩:=h.pair hla (set_true h2 e3)
    have n1 : s.slot ≠ sa:=fun e=>e1 (congrArg VS.op (inj_of_nodup w1 hs ma e))
    have n2 : s.slot ≠ sb:=fun e=>e3 (congrArg VS.op (inj_of_nodup w1 hs mb e))
    exact ⟨x,y,by rw [Array.getElem?_setIfInBounds_ne n1]; exact g1,by rw [Array.getElem?_setIfInBounds_ne n2]; exact g2,g3⟩
 ·obtain ⟨⟨Pk,mk⟩,⟨Pd,md⟩,hne⟩:=Cpy.fine_all h.mc hcm
  by_cases e1 : c.k = s.op
  ·rcases hc with hc | hc
   ·have:=List.all_eq_true.1 hc c hcm
    simp [e1] at this
   ·obtain ⟨g1,g2⟩:=hc c hcm e1
    have es : s = ⟨c.k,c.s,Pk⟩:=inj_of_nodup w2 hs mk e1.symm
    have e2 : s.slot = c.s:=by rw [es]
    have n2 : s.slot ≠ c.t:=fun e=>hne (by rw [e1]; exact congrArg VS.op (inj_of_nodup w1 hs md e))
    exact ⟨hset g1,by rw [<-e2,Array.getElem?_setIfInBounds_self_of_lt hslot,Array.getElem?_setIfInBounds_ne n2,g2]⟩
  ·obtain ⟨g1,g2⟩:=h.cpy c hcm (set_true h1 (Ne.symm e1))
   have n1 : s.slot ≠ c.s:=fun e=>e1 (congrArg VS.op (inj_of_nodup w1 hs mk e)).symm
   have n2 : s.slot ≠ c.t:=fun e=>hkeep g1 (congrArg VS.op (inj_of_nodup w1 hs md e)).symm
   exact ⟨hset g1,by rw [Array.getElem?_setIfInBounds_ne n1,Array.getElem?_setIfInBounds_ne n2]; exact g2⟩
theorem RVP.v {s : VS} (h : RVP ka sa kb sb Q cp W T0 vs L T w) (hs : s ∈ vs) (hl : L[s.op]? = some true) : ∃v,T[s.slot]? = some v/\s.P w v:=h.val s hs hl
theorem RVP.y {k : Nat} {v : Value} (h : RVP ka sa kb sb Q cp W T0 vs L T w) {s : VS} (hs : s ∈ vs) (hP : s.P w v)
  (hq : ∀u,(k = ka->T[sb]? = some u->L[kb]? = some true->Q v u)/\(k = kb->T[sa]? = some u->L[ka]? = some true->Q u v):=by intro u; exact ⟨fun e=>absurd e dE,fun e=>absurd e dE⟩)
  (hL : L[k]? = some false:=by assumption) (hc : cp.all (fun c=>!(c.k == k)) = true ∨ ∀c ∈ cp,c.k = k->L[c.d]? = some true/\T[c.t]? = some v:=by first | exact .inl rfl | exact .inl dE) (hk : s.op = k:=by rfl) :
  RVP ka sa kb sb Q cp W T0 vs (L.setIfInBounds k true) (T.setIfInBounds s.slot v) w:=h.value s hs hk hP hq hL hc
end
end Go.Proofs.YtjdemlfceaikgaaGreat
