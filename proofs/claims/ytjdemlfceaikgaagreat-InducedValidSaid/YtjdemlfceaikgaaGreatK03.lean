/- Chains as lists of cells with coefficients. Plain Lean. Complexes, boundaries, and chain maps that are homotopic to multiples of the identity. Plain Lean. -/

set_option linter.unusedVariables false
set_option linter.unusedSimpArgs false
set_option linter.unusedSectionVars false
namespace Go.Proofs.YtjdemlfceaikgaaGreat
abbrev Ch:=List (Int × Int)
def insC : Ch->Int × Int->Ch
 | [],f=>if f.2 = 0 then [] else [f]
 | g :: x,f=>if f.2 = 0 then g :: x else if f.1 < g.1 then f :: g :: x else if g.1 = f.1 then (if g.2 + f.2 = 0 then x else (f.1,g.2 + f.2) :: x) else g :: insC x f
def plusC (a b : Ch) (k : Int) : Ch:=b.foldl (fun x f=>insC x (f.1,k * f.2)) a
def makC (l : Ch) : Ch:=l.foldl insC []
def lin (g : Int->Int) : Ch->Int
 | []=>0
 | f :: x=>f.2 * g f.1 + lin g x
def dl (i : Int) : Int->Int:=fun j=>if j = i then 1 else 0
def coef (x : Ch) (i : Int) : Int:=lin (dl i) x
def nrm : Ch->Nat
 | []=>0
 | f :: x=>f.2.natAbs + nrm x
structure ValC (x : Ch) : Prop where
 srt : x.Pairwise fun a b=>a.1 < b.1
 nz : ∀f ∈ x,f.2 ≠ 0
section
variable {x y a b : Ch} {g h : Int->Int} {f : Int × Int} {k i : Int}
theorem ValC.nil : ValC []:=⟨List.Pairwise.nil,fun _ h=>by cases h⟩
theorem ValC.one (h : f.2 ≠ 0) : ValC [f]:=⟨List.pairwise_singleton _ _,fun g hg=>by rw [List.mem_singleton.1 hg]; exact h⟩
theorem ValC.tail (h : ValC (f :: x)) : ValC x:=⟨(List.pairwise_cons.1 h.srt).2,fun g hg=>h.nz g (List.mem_cons_of_mem _ hg)⟩
theorem insC_mem {p : Int × Int} : ∀{x : Ch},p ∈ insC x f->p.1 = f.1 ∨ p ∈ x:=by
 intro x
 induction x with
 | nil=>
  unfold insC
  split
  ·intro h; cases h
  ·intro h; rw [List.mem_singleton.1 h]; exact .inl rfl
 | cons g x ih=>
  unfold insC
  split
  ·exact .inr
  ·split
   ·intro h
    rcases List.mem_cons.1 h with h | h
    ·rw [h]; exact .inl rfl
    ·exact .inr h
   ·split
    ·split
     ·intro h; exact .inr (List.mem_cons_of_mem _ h)
     ·intro h
      rcases List.mem_cons.1 h with h | h
      ·rw [h]; exact .inl rfl
      ·exact .inr (List.mem_cons_of_mem _ h)
    ·intro h
     rcases List.mem_cons.1 h with h | h
     ·rw [h]; exact .inr List.mem_cons_self
     ·rcases ih h with h | h
      ·exact .inl h
      ·exact .inr (List.mem_cons_of_mem _ h)
theorem ValC.ins : ∀{x : Ch},ValC x->ValC (insC x f):=by
 intro x
 induction x with
 | nil=>
  intro _
  unfold insC
  split
  ·exact ValC.nil
  ·exact ValC.one (by assumption)
 | cons g x ih=>
  intro h
  obtain ⟨h1,h2⟩:=List.pairwise_cons.1 h.srt
  unfold insC
  split
  ·exact h
  ·rename_i hz
   split
   ·rename_i hlt
    refine ⟨List.pairwise_cons.2 ⟨fun p hp=>?_,h.srt⟩,fun p hp=>?_⟩
    ·rcases List.mem_cons.1 hp with hp | hp
     ·rw [hp]; exact hlt
     ·exact Int.lt_trans hlt (h1 p hp)
    ·rcases List.mem_cons.1 hp with hp | hp
     ·rw [hp]; exact hz
     ·exact h.nz p hp
   ·split
    ·rename_i he
     split
     ·exact h.tail
     ·rename_i hs
      refine ⟨List.pairwise_cons.2 ⟨fun p hp=>?_,h2⟩,fun p hp=>?_⟩
      ·show f.1 < p.1; rw [<-he]; exact h1 p hp
      ·rcases List.mem_cons.1 hp with hp | hp
       ·rw [hp]; exact hs
       ·exact h.nz p (List.mem_cons_of_mem _ hp)
    ·have h3:=ih h.tail
     refine ⟨List.pairwise_cons.2 ⟨fun p hp=>?_,h3.srt⟩,fun p hp=>?_⟩
     ·rcases insC_mem hp with e | hp
      ·rw [e]; omega
      ·exact h1 p hp
     ·rcases List.mem_cons.1 hp with hp | hp
      ·rw [hp]; exact h.nz g List.mem_cons_self
      ·exact h3.nz p hp
theorem ValC.add : ∀{b a : Ch},ValC a->ValC (plusC a b k):=by
 intro b
 induction b with
 | nil=>intro a h; exact h
 | cons f b ih=>intro a h; exact ih (a:=insC a (f.1,k * f.2)) h.ins
theorem ValC.mak_from : ∀{l a : Ch},ValC a->ValC (l.foldl insC a):=by
 intro l
 induction l with
 | nil=>intro a h; exact h
 | cons f l ih=>intro a h; exact ih h.ins
theorem ValC.mak (l : Ch) : ValC (makC l):=ValC.mak_from ValC.nil
theorem lin_ins : ∀{x : Ch},lin g (insC x f) = lin g x + f.2 * g f.1:=by
 intro x
 induction x with
 | nil=>
  unfold insC
  split
  ·rename_i h; rw [h]; simp [lin]
  ·simp [lin]
 | cons p x ih=>
  unfold insC
  split
  ·rename_i h; rw [h]; simp
  ·split
   ·simp only [lin]; omega
   ·split
    ·rename_i he
     split
     ·rename_i hs
      simp only [lin]
      have h1 : p.2 * g p.1 + f.2 * g f.1 = 0:=by rw [he,<-Int.add_mul,hs,Int.zero_mul]
      omega
     ·simp only [lin]
      rw [he,Int.add_mul]
      omega
    ·simp only [lin]
     rw [ih]
     omega
theorem lin_add : ∀{b a : Ch},lin g (plusC a b k) = lin g a + k * lin g b:=by
 intro b
 induction b with
 | nil=>intro a; simp [plusC,lin]
 | cons f b ih=>
  intro a
  show lin g (plusC (insC a (f.1,k * f.2)) b k) = _
  rw [ih,lin_ins]
  simp only [lin]
  rw [Int.mul_add,Int.mul_assoc]
  omega
theorem lin_mak_from : ∀{l a : Ch},lin g (l.foldl insC a) = lin g a + lin g l:=by
 intro l
 induction l with
 | nil=>intro a; simp [lin]
 | cons f l ih=>
  intro a
  rw [List.foldl_cons,ih,lin_ins]
  simp only [lin]
  omega
theorem lin_mak (l : Ch) : lin g (makC l) = lin g l:=by unfold makC; rw [lin_mak_from]; simp [lin]
theorem lin_append : lin g (x ++ y) = lin g x + lin g y:=by
 induction x with
 | nil=>simp [lin]
 | cons f x ih=>simp only [List.cons_append,lin,ih]; omega
theorem lin_cong {g h : Int->Int} : ∀{x : Ch},(∀f ∈ x,g f.1 = h f.1)->lin g x = lin h x:=by
 intro x
 induction x with
 | nil=>intro _; rfl
 | cons f x ih=>
  intro e
  simp only [lin]
  rw [e f List.mem_cons_self,ih fun p hp=>e p (List.mem_cons_of_mem _ hp)]
theorem lin_zero (hg : ∀f ∈ x,g f.1 = 0) : lin g x = 0:=by
 induction x with
 | nil=>rfl
 | cons f x ih=>simp only [lin]; rw [hg f List.mem_cons_self,ih fun p hp=>hg p (List.mem_cons_of_mem _ hp),Int.mul_zero]; rfl
theorem coef_lt (h : ∀f ∈ x,i < f.1) : coef x i = 0:=lin_zero fun f hf=>by
 have:=h f hf
 simp only [dl]
 rw [if_neg (by omega)]
theorem ValC.coef (h : ValC x) (hf : f ∈ x) : coef x f.1 = f.2:=by
 induction x with
 | nil=>cases hf
 | cons p x ih=>
  obtain ⟨h1,h2⟩:=List.pairwise_cons.1 h.srt
  unfold Go.Proofs.YtjdemlfceaikgaaGreat.coef at ih ⊢
  simp only [lin]
  rcases List.mem_cons.1 hf with e | hf
  ·rw [e,show lin (dl p.1) x = 0 from coef_lt h1]
   simp [dl]
  ·have:=h1 f hf
   rw [ih h.tail hf,show dl f.1 p.1 = 0 by simp only [dl]; rw [if_neg (by omega)]]
   omega
theorem ValC.ext : ∀{x y : Ch},ValC x->ValC y->(∀i,Go.Proofs.YtjdemlfceaikgaaGreat.coef x i = Go.Proofs.YtjdemlfceaikgaaGreat.coef y i)->x = y:=by
 intro x
 induction x with
 | nil=>
  intro y _ hy h
  match y with
  | []=>rfl
  | f :: y=>
   have h1:=h f.1
   rw [hy.coef List.mem_cons_self] at h1
   exact absurd h1.symm (hy.nz f List.mem_cons_self)
 | cons f x ih=>
  intro y hx hy h
  match y with
  | []=>
   have h1:=h f.1
   rw [hx.coef List.mem_cons_self] at h1
   exact absurd h1 (hx.nz f List.mem_cons_self)
  | p :: y=>
   obtain ⟨x1,x2⟩:=List.pairwise_cons.1 hx.srt
   obtain ⟨y1,y2⟩:=List.pairwise_cons.1 hy.srt
   have e1 : f.1 = p.1:=by
    rcases Int.lt_trichotomy f.1 p.1 with g | g | g
    ·have h1:=h f.1
     rw [hx.coef List.mem_cons_self,coef_lt (x:=p :: y) fun q hq=>by
      rcases List.mem_cons.1 hq with e | hq
      ·rw [e]; exact g
      ·exact Int.lt_trans g (y1 q hq)] at h1
     exact absurd h1 (hx.nz f List.mem_cons_self)
    ·exact g
    ·have h1:=h p.1
     rw [hy.coef List.mem_cons_self,coef_lt (x:=f :: x) fun q hq=>by
      rcases List.mem_cons.1 hq with e | hq
      ·rw [e]; exact g
      ·exact Int.lt_trans g (x1 q hq)] at h1
     exact absurd h1.symm (hy.nz p List.mem_cons_self)
   have e2 : f = p:=by
    have h1:=h f.1
    rw [hx.coef List.mem_cons_self] at h1
    rw [e1,hy.coef List.mem_cons_self] at h1
    exact Prod.ext e1 h1
   subst e2
   rw [ih hx.tail hy.tail fun i=>by
    have h1:=h i
    unfold Go.Proofs.YtjdemlfceaikgaaGreat.coef at h1 ⊢
    simp only [lin] at h1
    omega]
theorem nrm_ins : ∀{x : Ch},nrm (insC x f)<=nrm x + f.2.natAbs:=by
 intro x
 induction x with
 | nil=>unfold insC; split <;> simp [nrm]
 | cons p x ih=>
  unfold insC
  split
  ·omega
  ·split
   ·simp only [nrm]; omega
   ·split
    ·split
     ·simp only [nrm]; omega
     ·simp only [nrm]; omega
    ·simp only [nrm]; omega
theorem nrm_add : ∀{b a : Ch},nrm (plusC a b k)<=nrm a + k.natAbs * nrm b:=by
 intro b
 induction b with
 | nil=>intro a; simp [plusC,nrm]
 | cons f b ih=>
  intro a
  have h1:=ih (a:=insC a (f.1,k * f.2))
  have h2:=nrm_ins (x:=a) (f:=(f.1,k * f.2))
  show nrm (plusC (insC a (f.1,k * f.2)) b k)<=_
  simp only [nrm,Int.natAbs_mul] at h2 ⊢
  rw [Nat.mul_add]
  omega
theorem nrm_mak_from : ∀{l a : Ch},nrm (l.foldl insC a)<=nrm a + nrm l:=by
 intro l
 induction l with
 | nil=>intro a; simp [nrm]
 | cons f l ih=>
  intro a
  have h1:=ih (a:=insC a f)
  have h2:=nrm_ins (x:=a) (f:=f)
  rw [List.foldl_cons]
  simp only [nrm]
  omega
theorem nrm_le (hf : f ∈ x) : f.2.natAbs<=nrm x:=by
 induction x with
 | nil=>cases hf
 | cons p x ih=>
  simp only [nrm]
  rcases List.mem_cons.1 hf with e | hf
  ·rw [e]; omega
  ·have:=ih hf; omega
end
theorem mak_val {a : Ch} (ha : ValC a) : makC a = a:=ValC.ext (ValC.mak _) ha fun i=>by unfold coef; rw [lin_mak]
abbrev Cel:=Int × Int × Ch
abbrev Cx:=List Cel
def findC : Cx->Int->Option Cel
 | [],_=>none
 | f :: c,i=>if f.1 = i then some f else findC c i
def bOf (c : Cx) (i : Int) : Ch:=match findC c i with
 | some f=>f.2.2
 | none=>[]
def actC (F : Int->Ch) (a x : Ch) : Ch:=x.foldl (fun out f=>plusC out (F f.1) f.2) a
def bdC (c : Cx) (x : Ch) : Ch:=actC (bOf c) [] x
def HomD (c : Cx) (d : Int) (x : Ch) : Prop:=∀f ∈ x,∃q,findC c f.1 = some q/\q.2.1 = d
structure ValX (c : Cx) : Prop where
 srt : c.Pairwise fun a b=>a.1 < b.1
 val : ∀f ∈ c,ValC f.2.2
 face : ∀f ∈ c,HomD c (f.2.1 - 1) f.2.2/\∀p ∈ f.2.2,p.1 < f.1
 cyc : ∀f ∈ c,bdC c f.2.2 = []
section
variable {c c' : Cx} {x y a b : Ch} {g h : Int->Int} {f q : Cel} {k i d n : Int} {F G : Int->Ch}
theorem lin_act : ∀{x a : Ch},lin g (actC F a x) = lin g a + lin (fun i=>lin g (F i)) x:=by
 intro x
 induction x with
 | nil=>intro a; simp [actC,lin]
 | cons f x ih=>
  intro a
  show lin g (actC F (plusC a (F f.1) f.2) x) = _
  rw [ih,lin_add]
  simp only [lin]
  omega
theorem ValC.act : ∀{x a : Ch},ValC a->ValC (actC F a x):=by
 intro x
 induction x with
 | nil=>intro a h; exact h
 | cons f x ih=>intro a h; exact ih (a:=plusC a (F f.1) f.2) h.add
theorem lin_bd : lin g (bdC c x) = lin (fun i=>lin g (bOf c i)) x:=by unfold bdC; rw [lin_act]; simp [lin]
theorem ValC.bd (c : Cx) (x : Ch) : ValC (bdC c x):=ValC.act ValC.nil
theorem addC_mem {p : Int × Int} : ∀{b a : Ch},p ∈ plusC a b k->(∃q ∈ a,q.1 = p.1) ∨ ∃q ∈ b,q.1 = p.1:=by
 intro b
 induction b with
 | nil=>intro a h; exact .inl ⟨p,h,rfl⟩
 | cons f b ih=>
  intro a h
  rcases ih (a:=insC a (f.1,k * f.2)) h with ⟨q,h1,h2⟩ | ⟨q,h1,h2⟩
  ·rcases insC_mem h1 with e | h1
   ·exact .inr ⟨f,List.mem_cons_self,by rw [<-h2,e]⟩
   ·exact .inl ⟨q,h1,h2⟩
  ·exact .inr ⟨q,List.mem_cons_of_mem _ h1,h2⟩
theorem HomD.add (ha : HomD c d a) (hb : HomD c d b) : HomD c d (plusC a b k):=fun p hp=>by
 rcases addC_mem hp with ⟨q,h1,h2⟩ | ⟨q,h1,h2⟩
 ·rw [<-h2]; exact ha q h1
 ·rw [<-h2]; exact hb q h1
theorem HomD.nil (c : Cx) (d : Int) : HomD c d []:=fun p hp=>by cases hp
theorem HomD.act : ∀{x a : Ch},HomD c d a->(∀f ∈ x,HomD c d (F f.1))->HomD c d (actC F a x):=by
 intro x
 induction x with
 | nil=>intro a h _; exact h
 | cons f x ih=>intro a h hx; exact ih (h.add (hx f List.mem_cons_self)) fun p hp=>hx p (List.mem_cons_of_mem _ hp)
theorem findC_mem : ∀{c : Cx},findC c i = some q->q ∈ c/\q.1 = i:=by
 intro c
 induction c with
 | nil=>intro h; cases h
 | cons f c ih=>
  intro h
  unfold findC at h
  split at h
  ·rename_i e; cases h; exact ⟨List.mem_cons_self,e⟩
  ·exact ⟨List.mem_cons_of_mem _ (ih h).1,(ih h).2⟩
theorem findC_srt : ∀{c : Cx},(c.Pairwise fun a b=>a.1 < b.1)->q ∈ c->findC c q.1 = some q:=by
 intro c
 induction c with
 | nil=>intro _ h; cases h
 | cons f c ih=>
  intro hs h
  obtain ⟨h1,h2⟩:=List.pairwise_cons.1 hs
  unfold findC
  rcases List.mem_cons.1 h with e | h
  ·rw [e,if_pos rfl]
  ·have:=h1 q h
   rw [if_neg (by omega)]
   exact ih h2 h
theorem bOf_at (h : ValX c) (hf : f ∈ c) : bOf c f.1 = f.2.2:=by unfold bOf; rw [findC_srt h.srt hf]
theorem HomD.bd (hv : ValX c) (hx : HomD c d x) : HomD c (d - 1) (bdC c x):=HomD.act (HomD.nil _ _) fun f hf=>by
 obtain ⟨q,h1,h2⟩:=hx f hf
 unfold bOf
 rw [h1,<-h2]
 exact (hv.face q (findC_mem h1).1).1
theorem dd_zero (hv : ValX c) (i : Int) : lin (fun j=>lin g (bOf c j)) (bOf c i) = 0:=by
 rw [<-lin_bd]
 unfold bOf
 rcases h : findC c i with _ | q
 ·rfl
 ·rw [hv.cyc q (findC_mem h).1]; rfl
theorem findC_append : ∀{c : Cx},findC c i = some q->findC (c ++ c') i = some q:=by
 intro c
 induction c with
 | nil=>intro h; cases h
 | cons f c ih=>
  intro h
  unfold findC at h
  show (if f.1 = i then some f else findC (c ++ c') i) = some q
  split at h
  ·rename_i e; rw [if_pos e]; exact h
  ·rename_i e; rw [if_neg e]; exact ih h
theorem HomD.append (h : HomD c d x) : HomD (c ++ c') d x:=fun f hf=>by
 obtain ⟨q,h1,h2⟩:=h f hf
 exact ⟨q,findC_append h1,h2⟩
theorem bd_append (h : HomD c d x) : bdC (c ++ c') x = bdC c x:=ValC.ext (ValC.bd _ _) (ValC.bd _ _) fun i=>by
 unfold coef
 rw [lin_bd,lin_bd]
 refine lin_cong fun f hf=>?_
 obtain ⟨q,h1,-⟩:=h f hf
 unfold bOf
 rw [h1,findC_append h1]
theorem ValX.grow (hv : ValX c) (hf : ∀q ∈ c,q.1 < f.1) (h1 : ValC f.2.2) (h2 : HomD c (f.2.1 - 1) f.2.2) (h3 : bdC c f.2.2 = []) : ValX (c ++ [f]):=by
 refine ⟨List.pairwise_append.2 ⟨hv.srt,List.pairwise_singleton _ _,fun a ha b hb=>by rw [List.mem_singleton.1 hb]; exact hf a ha⟩,fun q hq=>?_,fun q hq=>?_,fun q hq=>?_⟩
 ·rcases List.mem_append.1 hq with hq | hq
  ·exact hv.val q hq
  ·rw [List.mem_singleton.1 hq]; exact h1
 ·rcases List.mem_append.1 hq with hq | hq
  ·exact ⟨(hv.face q hq).1.append,(hv.face q hq).2⟩
  ·rw [List.mem_singleton.1 hq]
   refine ⟨h2.append,fun p hp=>?_⟩
   obtain ⟨r,h4,-⟩:=h2 p hp
   have:=findC_mem h4
   rw [<-this.2]
   exact hf r this.1
 ·rcases List.mem_append.1 hq with hq | hq
  ·rw [bd_append (hv.face q hq).1]; exact hv.cyc q hq
  ·rw [List.mem_singleton.1 hq,bd_append h2]; exact h3
theorem take_find (hv : ValX c) {m : Nat} (hq : q ∈ c) (hr : f ∈ c.take m) (hlt : q.1<=f.1) : findC (c.take m) q.1 = some q:=by
 have hs : (c.take m).Pairwise fun a b=>a.1 < b.1:=List.Pairwise.sublist (List.take_sublist m c) hv.srt
 refine findC_srt hs ?_
 have h1 : q ∈ c.take m ++ c.drop m:=by rw [List.take_append_drop]; exact hq
 rcases List.mem_append.1 h1 with h1 | h1
 ·exact h1
 ·have h2 : (c.take m ++ c.drop m).Pairwise fun a b=>a.1 < b.1:=by rw [List.take_append_drop]; exact hv.srt
  have:=(List.pairwise_append.1 h2).2.2 f hr q h1
  omega
theorem ValX.take (hv : ValX c) (m : Nat) : ValX (c.take m):=by
 have hH : ∀f ∈ c.take m,HomD (c.take m) (f.2.1 - 1) f.2.2:=fun f hf p hp=>by
  have hfc:=List.mem_of_mem_take hf
  obtain ⟨q,h1,h2⟩:=(hv.face f hfc).1 p hp
  have h3:=findC_mem h1
  have h4:=(hv.face f hfc).2 p hp
  rw [<-h3.2]
  exact ⟨q,take_find hv h3.1 hf (by omega),h2⟩
 refine ⟨List.Pairwise.sublist (List.take_sublist m c) hv.srt,fun f hf=>hv.val f (List.mem_of_mem_take hf),fun f hf=>⟨hH f hf,(hv.face f (List.mem_of_mem_take hf)).2⟩,fun f hf=>?_⟩
 have h1:=hv.cyc f (List.mem_of_mem_take hf)
 have h2:=bd_append (c':=c.drop m) (hH f hf)
 rw [List.take_append_drop] at h2
 rw [<-h2]; exact h1
def HomH (c : Cx) (H : Int->Ch) : Prop:=∀f ∈ c,HomD c (f.2.1 + 1) (H f.1)
structure ImgH (c : Cx) (n : Int) (H F : Int->Ch) : Prop where
 val : ∀f ∈ c,ValC (F f.1)
 eq : ∀f ∈ c,∀g,lin g (F f.1) = n * g f.1 + lin (fun i=>lin g (bOf c i)) (H f.1) + lin (fun i=>lin g (H i)) (bOf c f.1)
theorem ImgH.lin (hF : ImgH c n G F) (hx : HomD c d x) : Go.Proofs.YtjdemlfceaikgaaGreat.lin (fun i=>Go.Proofs.YtjdemlfceaikgaaGreat.lin g (F i)) x = n * Go.Proofs.YtjdemlfceaikgaaGreat.lin g x + Go.Proofs.YtjdemlfceaikgaaGreat.lin (fun i=>Go.Proofs.YtjdemlfceaikgaaGreat.lin (fun j=>Go.Proofs.YtjdemlfceaikgaaGreat.lin g (bOf c j)) (G i)) x + Go.Proofs.YtjdemlfceaikgaaGreat.lin (fun i=>Go.Proofs.YtjdemlfceaikgaaGreat.lin (fun j=>Go.Proofs.YtjdemlfceaikgaaGreat.lin g (G j)) (bOf c i)) x:=by
 induction x with
 | nil=>simp [Go.Proofs.YtjdemlfceaikgaaGreat.lin]
 | cons p x ih=>
  obtain ⟨q,h1,h2⟩:=hx p List.mem_cons_self
  have h3:=findC_mem h1
  have h4:=hF.eq q h3.1 g
  rw [h3.2] at h4
  simp only [Go.Proofs.YtjdemlfceaikgaaGreat.lin]
  rw [ih fun r hr=>hx r (List.mem_cons_of_mem _ hr),h4]
  simp only [Int.mul_add]
  rw [Int.mul_left_comm p.2 n]
  omega
theorem ImgH.comm (hv : ValX c) (hG : HomH c G) (hF : ImgH c n G F) (hf : f ∈ c) : bdC c (F f.1) = actC F [] f.2.2:=by
 refine ValC.ext (ValC.bd _ _) (ValC.act ValC.nil) fun i=>?_
 unfold coef
 rw [lin_bd,lin_act,hF.eq f hf,hF.lin (hv.face f hf).1]
 rw [bOf_at hv hf]
 have z1 : Go.Proofs.YtjdemlfceaikgaaGreat.lin (fun i_1=>Go.Proofs.YtjdemlfceaikgaaGreat.lin (fun i_2=>Go.Proofs.YtjdemlfceaikgaaGreat.lin (dl i) (bOf c i_2)) (bOf c i_1)) (G f.1) = 0:=lin_zero fun p _=>dd_zero hv p.1
 have z2 : Go.Proofs.YtjdemlfceaikgaaGreat.lin (fun i_1=>Go.Proofs.YtjdemlfceaikgaaGreat.lin (fun j=>Go.Proofs.YtjdemlfceaikgaaGreat.lin (dl i) (G j)) (bOf c i_1)) f.2.2 = 0:=by
  rw [<-bOf_at hv hf]
  exact dd_zero hv f.1
 rw [z1,z2]
 simp only [Go.Proofs.YtjdemlfceaikgaaGreat.lin]
 omega
end
end Go.Proofs.YtjdemlfceaikgaaGreat
