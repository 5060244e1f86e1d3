/- Cycles out of kernels, and complexes that grow. Plain Lean. Maps that are homotopic to a multiple of the identity: what the reference's loops make. Plain Lean. Chain maps as lists: validity, images, composition, matrices. Plain Lean. Complexes that grow by one cell, and the spaces that they begin with. Plain Lean. -/
import Derived.Test.YtjdemlfceaikgaaGreatK02
import Derived.Test.YtjdemlfceaikgaaGreatK03
set_option linter.unusedVariables false
set_option linter.unusedSimpArgs false
set_option linter.unusedSectionVars false
namespace Go.Proofs.YtjdemlfceaikgaaGreat
def cellsC (c : Cx) (k : Int) : List Int:=(c.filter fun f=>f.2.1 == k).map (·.1)
def ofC (ids v : List Int) : Ch:=(ids.zip v).foldl insC []
section
variable {c : Cx} {k i : Int} {ids v : List Int} {g : Int->Int} {x : Ch}
theorem ofC_val (ids v : List Int) : ValC (ofC ids v):=ValC.mak_from ValC.nil
theorem lin_of (ids v : List Int) : lin g (ofC ids v) = lin g (ids.zip v):=by unfold ofC; rw [lin_mak_from]; simp [lin]
theorem lin_zip : ∀{ids v : List Int},v.length = ids.length->lin g (ids.zip v) = sumN ids.length fun t=>v.getD t 0 * g (ids.getD t 0):=by
 intro ids
 induction ids with
 | nil=>intro v _; rfl
 | cons a ids ih=>
  intro v h
  match v,h with
  | [],h=>simp at h
  | b :: v,h=>
   rw [List.zip_cons_cons]
   simp only [lin,List.length_cons]
   rw [ih (v:=v) (by simpa using h)]
   have e : ∀(n : Nat) (f : Nat->Int),sumN (n + 1) f = f 0 + sumN n fun t=>f (t + 1):=fun n f=>by
    induction n with
    | zero=>simp [sumN]
    | succ n ih=>rw [show sumN (n + 1 + 1) f = sumN (n + 1) f + f (n + 1) from rfl,ih,show sumN (n + 1) (fun t=>f (t + 1)) = sumN n (fun t=>f (t + 1)) + f (n + 1) from rfl]; omega
   rw [e]
   simp
theorem nrm_of (ids v : List Int) : nrm (ofC ids v)<=nrm (ids.zip v):=by
 have:=nrm_mak_from (l:=ids.zip v) (a:=[])
 unfold ofC
 simpa [nrm] using this
theorem nrm_zip {h : Nat} : ∀{ids v : List Int},(∀z ∈ v,z.natAbs<=h)->nrm (ids.zip v)<=ids.length * h:=by
 intro ids
 induction ids with
 | nil=>intro v _; simp [nrm]
 | cons a ids ih=>
  intro v hv
  match v with
  | []=>simp [nrm]
  | b :: v=>
   have h1:=ih (v:=v) fun z hz=>hv z (List.mem_cons_of_mem _ hz)
   have h2:=hv b List.mem_cons_self
   rw [List.zip_cons_cons]
   simp only [nrm,List.length_cons]
   rw [Nat.add_mul]
   omega
theorem cellsC_mem : i ∈ cellsC c k ↔ ∃f ∈ c,f.1 = i/\f.2.1 = k:=by
 unfold cellsC
 constructor
 ·intro h
  obtain ⟨f,h1,h2⟩:=List.mem_map.1 h
  obtain ⟨h3,h4⟩:=List.mem_filter.1 h1
  exact ⟨f,h3,h2,by simpa using h4⟩
 ·rintro ⟨f,h1,h2,h3⟩
  exact List.mem_map.2 ⟨f,List.mem_filter.2 ⟨h1,by simpa using h3⟩,h2⟩
theorem makC_mem {p : Int × Int} : ∀{l a : Ch},p ∈ l.foldl insC a->(∃q ∈ a,q.1 = p.1) ∨ ∃q ∈ l,q.1 = p.1:=by
 intro l
 induction l with
 | nil=>intro a h; exact .inl ⟨p,h,rfl⟩
 | cons f l ih=>
  intro a h
  rcases ih (a:=insC a f) h with ⟨q,h1,h2⟩ | ⟨q,h1,h2⟩
  ·rcases insC_mem h1 with e | h1
   ·exact .inr ⟨f,List.mem_cons_self,by rw [<-h2,e]⟩
   ·exact .inl ⟨q,h1,h2⟩
  ·exact .inr ⟨q,List.mem_cons_of_mem _ h1,h2⟩
theorem ofC_hom (hv : ValX c) (k : Int) (v : List Int) : HomD c k (ofC (cellsC c k) v):=fun p hp=>by
 rcases makC_mem hp with ⟨q,h,-⟩ | ⟨q,h1,h2⟩
 ·cases h
 ·obtain ⟨f,h3,h4,h5⟩:=cellsC_mem.1 (List.of_mem_zip h1).1
  refine ⟨f,?_,h5⟩
  rw [<-h2,<-h4]
  exact findC_srt hv.srt h3
def bdM (c : Cx) (k : Int) (a b : Nat) : Int:=coef (bOf c ((cellsC c k).getD a 0)) ((cellsC c (k - 1)).getD b 0)
theorem coef_none (h : ∀f ∈ x,f.1 ≠ i) : coef x i = 0:=lin_zero fun f hf=>by
 simp only [dl]
 rw [if_neg (h f hf)]
theorem ofC_cyc (hv : ValX c) {k : Int} {n : Nat->Int} (hn : ∀b,b < (cellsC c (k - 1)).length->sumN (cellsC c k).length (fun a=>n a * bdM c k a b) = 0) :
  bdC c (ofC (cellsC c k) ((List.range (cellsC c k).length).map n)) = []:=ValC.ext (ValC.bd _ _) ValC.nil fun j=>by
 show lin _ _ = 0
 rw [lin_bd,lin_of,lin_zip (by simp)]
 by_cases hj : j ∈ cellsC c (k - 1)
 ·obtain ⟨b,hb,rfl⟩:=List.getElem_of_mem hj
  refine Eq.trans (sumN_congr fun a ha=>?_) (hn b hb)
  unfold bdM
  rw [List.getD_eq_getElem?_getD,List.getElem?_map,List.getElem?_range ha]
  rw [List.getD_eq_getElem?_getD (l:=cellsC c (k - 1)),List.getElem?_eq_getElem hb]
  rfl
 ·refine sumN_zero fun a ha=>?_
  have : coef (bOf c ((cellsC c k).getD a 0)) j = 0:=coef_none fun p hp e=>by
   have h1 : (cellsC c k).getD a 0 ∈ cellsC c k:=by
    rw [List.getD_eq_getElem?_getD,List.getElem?_eq_getElem ha]
    exact List.getElem_mem ha
   obtain ⟨f,h2,h3,h4⟩:=cellsC_mem.1 h1
   rw [<-h3,bOf_at hv h2] at hp
   obtain ⟨q,h5,h6⟩:=(hv.face f h2).1 p hp
   have h7:=findC_mem h5
   exact hj (cellsC_mem.2 ⟨q,h7.1,by rw [h7.2,e],by rw [h6,h4]⟩)
  show _ * lin (dl j) _ = 0
  rw [show lin (dl j) (bOf c ((cellsC c k).getD a 0)) = 0 from this,Int.mul_zero]
theorem bd_add {a b : Ch} {k : Int} (ha : bdC c a = []) (hb : bdC c b = []) : bdC c (plusC a b k) = []:=ValC.ext (ValC.bd _ _) ValC.nil fun i=>by
 have h1 : lin (dl i) (bdC c a) = 0:=by rw [ha]; rfl
 have h2 : lin (dl i) (bdC c b) = 0:=by rw [hb]; rfl
 rw [lin_bd] at h1 h2
 show lin _ _ = 0
 rw [lin_bd,lin_add,h1,h2,Int.mul_zero]
 rfl
end
def raiC (ids : List Int) (F : Nat->Int) : Nat->Ch
 | 0=>[]
 | j + 1=>plusC (raiC ids F j) [(ids.getD j 0,1)] (F j)
def lifJ (x : Ch) (i : Int) (r out : Ch) : Ch:=x.foldl (fun out p=>if p.1 = i then plusC out r p.2 else out) out
def idN (c : Cx) (i : Nat) : Int:=(c.getD i (0,0,[])).1
def lifN (c : Cx) (x : Ch) (H : Nat->Ch) : Nat->Ch
 | 0=>[]
 | i + 1=>lifJ x (idN c i) (H i) (lifN c x H i)
def lifC (c : Cx) (x : Ch) (H : Nat->Ch) : Ch:=lifN c x H c.length
def homI (c : Cx) (n : Int) (H : Nat->Ch) (i : Nat) : Ch:=
 plusC (plusC (plusC [] [(idN c i,1)] n) (bdC c (lifC c [(idN c i,1)] H)) 1) (lifC c (c.getD i (0,0,[])).2.2 H) 1
section
variable {c : Cx} {x r out : Ch} {g : Int->Int} {i k : Int} {H : Nat->Ch} {ids : List Int} {F : Nat->Int}
theorem ValC.rai (ids : List Int) (F : Nat->Int) : ∀n,ValC (raiC ids F n)
 | 0=>ValC.nil
 | n + 1=>(ValC.rai ids F n).add
theorem nrm_rai {h : Nat} (hF : ∀j,(F j).natAbs<=h) : ∀n,nrm (raiC ids F n)<=n * h
 | 0=>by simp [raiC,nrm]
 | n + 1=>by
  have h1:=nrm_rai hF n
  have h2:=nrm_add (a:=raiC ids F n) (b:=[(ids.getD n 0,1)]) (k:=F n)
  have h3:=hF n
  simp only [nrm] at h2
  show nrm (plusC _ _ _)<=_
  rw [show (1 : Int).natAbs + 0 = 1 from rfl,Nat.mul_one] at h2
  rw [Nat.add_mul]
  omega
theorem HomD.rai {d : Int} (hi : ∀i ∈ ids,∃q,findC c i = some q/\q.2.1 = d) : ∀n,n<=ids.length->HomD c d (raiC ids F n)
 | 0,_=>HomD.nil _ _
 | n + 1,hn=>(HomD.rai hi n (by omega)).add fun p hp=>by
  rw [List.mem_singleton.1 hp]
  refine hi _ ?_
  rw [List.getD_eq_getElem?_getD,List.getElem?_eq_getElem (by omega)]
  exact List.getElem_mem _
theorem ValC.lifJ : ∀{x out : Ch},ValC out->ValC (Go.Proofs.YtjdemlfceaikgaaGreat.lifJ x i r out):=by
 intro x
 induction x with
 | nil=>intro out h; exact h
 | cons p x ih=>
  intro out h
  show ValC (Go.Proofs.YtjdemlfceaikgaaGreat.lifJ x i r (if p.1 = i then plusC out r p.2 else out))
  split
  ·exact ih h.add
  ·exact ih h
theorem lin_lifJ : ∀{x out : Ch},lin g (Go.Proofs.YtjdemlfceaikgaaGreat.lifJ x i r out) = lin g out + coef x i * lin g r:=by
 intro x
 induction x with
 | nil=>intro out; simp [Go.Proofs.YtjdemlfceaikgaaGreat.lifJ,coef,lin]
 | cons p x ih=>
  intro out
  show lin g (Go.Proofs.YtjdemlfceaikgaaGreat.lifJ x i r (if p.1 = i then plusC out r p.2 else out)) = _
  rw [ih]
  unfold coef
  simp only [lin]
  split
  ·rename_i e
   rw [lin_add,show dl i p.1 = 1 by simp [dl,e],Int.mul_one,Int.add_mul]
   omega
  ·rename_i e
   rw [show dl i p.1 = 0 by simp [dl,e],Int.mul_zero,Int.zero_add]
theorem lin_lif (c : Cx) (x : Ch) (H : Nat->Ch) : ∀n,lin g (lifN c x H n) = sumN n fun t=>coef x (idN c t) * lin g (H t)
 | 0=>rfl
 | n + 1=>by
  show lin g (Go.Proofs.YtjdemlfceaikgaaGreat.lifJ _ _ _ _) = _
  rw [lin_lifJ,lin_lif c x H n]
  rfl
theorem nrm_lifJ : ∀{x out : Ch},nrm (Go.Proofs.YtjdemlfceaikgaaGreat.lifJ x i r out)<=nrm out + nrm x * nrm r:=by
 intro x
 induction x with
 | nil=>intro out; simp [Go.Proofs.YtjdemlfceaikgaaGreat.lifJ,nrm]
 | cons p x ih=>
  intro out
  show nrm (Go.Proofs.YtjdemlfceaikgaaGreat.lifJ x i r (if p.1 = i then plusC out r p.2 else out))<=_
  simp only [nrm]
  rw [Nat.add_mul]
  split
  ·have h1:=ih (out:=plusC out r p.2)
   have h2:=nrm_add (a:=out) (b:=r) (k:=p.2)
   omega
  ·have h1:=ih (out:=out)
   omega
theorem nrm_lif {h : Nat} (hH : ∀t,nrm (H t)<=h) : ∀n,nrm (lifN c x H n)<=n * (nrm x * h)
 | 0=>by simp [lifN,nrm]
 | n + 1=>by
  have h1:=nrm_lif hH n
  have h2:=nrm_lifJ (x:=x) (i:=idN c n) (r:=H n) (out:=lifN c x H n)
  have h3 : nrm x * nrm (H n)<=nrm x * h:=Nat.mul_le_mul_left _ (hH n)
  show nrm (Go.Proofs.YtjdemlfceaikgaaGreat.lifJ _ _ _ _)<=_
  rw [Nat.add_mul]
  omega
theorem HomD.lifJ {d : Int} (hr : HomD c d r) : ∀{x out : Ch},HomD c d out->HomD c d (Go.Proofs.YtjdemlfceaikgaaGreat.lifJ x i r out):=by
 intro x
 induction x with
 | nil=>intro out h; exact h
 | cons p x ih=>
  intro out h
  show HomD c d (Go.Proofs.YtjdemlfceaikgaaGreat.lifJ x i r (if p.1 = i then plusC out r p.2 else out))
  split
  ·exact ih (h.add hr)
  ·exact ih h
theorem lifJ_none : ∀{x out : Ch},(∀p ∈ x,p.1 ≠ i)->Go.Proofs.YtjdemlfceaikgaaGreat.lifJ x i r out = out:=by
 intro x
 induction x with
 | nil=>intro out _; rfl
 | cons p x ih=>
  intro out h
  show Go.Proofs.YtjdemlfceaikgaaGreat.lifJ x i r (if p.1 = i then plusC out r p.2 else out) = _
  rw [if_neg (h p List.mem_cons_self)]
  exact ih fun q hq=>h q (List.mem_cons_of_mem _ hq)
theorem idN_inj (hv : ValX c) {m n : Nat} (hm : m < c.length) (hn : n < c.length) (e : idN c m = idN c n) : m = n:=by
 have key : ∀{m n : Nat},m < n->n < c.length->idN c m < idN c n:=fun {m n} h1 h2=>by
  unfold idN
  rw [List.getD_eq_getElem?_getD,List.getD_eq_getElem?_getD,List.getElem?_eq_getElem (by omega),List.getElem?_eq_getElem h2]
  exact List.pairwise_iff_getElem.1 hv.srt m n (by omega) h2 h1
 rcases Nat.lt_trichotomy m n with h | h | h
 ·have:=key h hn; omega
 ·exact h
 ·have:=key h hm; omega
theorem idN_ex (hi : ∃q ∈ c,q.1 = i) : ∃n,n < c.length/\idN c n = i:=by
 obtain ⟨q,h1,h2⟩:=hi
 obtain ⟨n,hn,rfl⟩:=List.getElem_of_mem h1
 refine ⟨n,hn,?_⟩
 unfold idN
 rw [List.getD_eq_getElem?_getD,List.getElem?_eq_getElem hn]
 exact h2
noncomputable def hidC (c : Cx) (H : Nat->Ch) (i : Int) : Ch:=
 open Classical in if h : ∃n,n < c.length/\idN c n = i then H h.choose else []
theorem hidC_at (hv : ValX c) {n : Nat} (hn : n < c.length) : hidC c H (idN c n) = H n:=by
 unfold hidC
 have hx : ∃m,m < c.length/\idN c m = idN c n:=⟨n,hn,rfl⟩
 rw [dif_pos hx]
 exact congrArg H (idN_inj hv hx.choose_spec.1 hn hx.choose_spec.2)
theorem lin_hid (hv : ValX c) : ∀{x : Ch},(∀f ∈ x,∃q ∈ c,q.1 = f.1)->(sumN c.length fun t=>coef x (idN c t) * lin g (H t)) = lin (fun i=>lin g (hidC c H i)) x:=by
 intro x
 induction x with
 | nil=>
  intro _
  exact sumN_zero fun t _=>by unfold coef; simp [lin]
 | cons p x ih=>
  intro hx
  obtain ⟨n,hn,e⟩:=idN_ex (hx p List.mem_cons_self)
  simp only [lin]
  rw [<-ih fun f hf=>hx f (List.mem_cons_of_mem _ hf),<-e,hidC_at hv hn]
  have e2 : ∀t,coef (p :: x) (idN c t) * lin g (H t) = (if idN c t = idN c n then p.2 * lin g (H t) else 0) + coef x (idN c t) * lin g (H t):=fun t=>by
   unfold coef
   simp only [lin]
   rw [Int.add_mul]
   congr 1
   split
   ·rename_i e3; rw [show dl (idN c t) p.1 = 1 by simp only [dl]; rw [if_pos (by omega)],Int.mul_one]
   ·rename_i e3; rw [show dl (idN c t) p.1 = 0 by simp only [dl]; rw [if_neg (by omega)],Int.mul_zero,Int.zero_mul]
  rw [sumN_congr fun t _=>e2 t,sumN_add]
  congr 1
  rw [sumN_one (c:=n) hn fun t ht hne=>by
   by_cases e3 : t < c.length
   ·rw [if_neg fun h=>hne (idN_inj hv e3 hn h)]
   ·omega]
  rw [if_pos rfl]
theorem homI_val (c : Cx) (n : Int) (H : Nat->Ch) (i : Nat) : ValC (homI c n H i):=((ValC.nil.add).add).add
theorem homI_img (hv : ValX c) (n : Int) {F : Int->Ch} (hF : ∀i,i < c.length->F (idN c i) = homI c n H i) : ImgH c n (hidC c H) F:=by
 have hc : ∀f ∈ c,∃i,i < c.length/\idN c i = f.1/\c.getD i (0,0,[]) = f:=fun f hf=>by
  obtain ⟨i,hi,rfl⟩:=List.getElem_of_mem hf
  have e : c.getD i (0,0,[]) = c[i]:=by rw [List.getD_eq_getElem?_getD,List.getElem?_eq_getElem hi]; rfl
  exact ⟨i,hi,by unfold idN; rw [e],e⟩
 refine ⟨fun f hf=>?_,fun f hf g=>?_⟩
 ·obtain ⟨i,hi,h1,h2⟩:=hc f hf
  rw [<-h1,hF i hi]
  exact homI_val c n H i
 ·obtain ⟨i,hi,h1,h2⟩:=hc f hf
  rw [<-h1,hF i hi]
  unfold homI
  have l1 : ∀g,lin g (lifC c [(idN c i,1)] H) = lin g (hidC c H (idN c i)):=fun g=>by
   unfold lifC
   rw [lin_lif,lin_hid hv fun p hp=>?_]
   ·simp [lin]
   ·rw [List.mem_singleton.1 hp]
    exact ⟨f,hf,h1.symm⟩
  have l2 : lin g (lifC c (c.getD i (0,0,[])).2.2 H) = lin (fun i=>lin g (hidC c H i)) (bOf c (idN c i)):=by
   unfold lifC
   rw [lin_lif,lin_hid hv fun p hp=>?_]
   ·rw [h1,bOf_at hv hf,h2]
   ·rw [h2] at hp
    obtain ⟨q,h3,-⟩:=(hv.face f hf).1 p hp
    exact ⟨q,(findC_mem h3).1,(findC_mem h3).2⟩
  rw [lin_add,lin_add,lin_add,lin_bd,l1,l2]
  simp only [lin,Int.one_mul,Int.add_zero,Int.zero_add]
end
abbrev Mp:=List (Int × Ch)
def findM : Mp->Int->Option Ch
 | [],_=>none
 | f :: m,i=>if f.1 = i then some f.2 else findM m i
def imgM (m : Mp) (i : Int) : Ch:=match findM m i with
 | some x=>x
 | none=>[]
def HasM (m : Mp) (x : Ch) : Prop:=∀f ∈ x,∃y,findM m f.1 = some y
def appM (m : Mp) (x : Ch) : Ch:=actC (imgM m) [] x
def comM (m n : Mp) : Mp:=m.map fun f=>(f.1,appM n f.2)
def incM (c : Cx) : Mp:=c.map fun f=>(f.1,[(f.1,1)])
def homM (c : Cx) (n : Int) (H : Nat->Ch) : Mp:=(List.range c.length).map fun i=>(idN c i,homI c n H i)
structure PrpM (m : Mp) : Prop where
 srt : m.Pairwise fun a b=>a.1 < b.1
 val : ∀f ∈ m,ValC f.2
structure ValM (a b : Cx) (m : Mp) : Prop where
 prp : PrpM m
 ids : m.map (·.1) = a.map (·.1)
 dim : ∀f ∈ a,HomD b f.2.1 (imgM m f.1)
 com : ∀f ∈ a,bdC b (imgM m f.1) = appM m f.2.2
section
variable {a b c : Cx} {m n p : Mp} {x y : Ch} {g : Int->Int} {k i d : Int}
theorem findM_mem {u : Ch} : ∀{m : Mp},findM m i = some u->(i,u) ∈ m:=by
 intro m
 induction m with
 | nil=>intro h; cases h
 | cons f m ih=>
  intro h
  unfold findM at h
  split at h
  ·rename_i e
   cases h
   rw [<-e]
   exact List.mem_cons_self
  ·exact List.mem_cons_of_mem _ (ih h)
theorem findM_srt {f : Int × Ch} : ∀{m : Mp},(m.Pairwise fun a b=>a.1 < b.1)->f ∈ m->findM m f.1 = some f.2:=by
 intro m
 induction m with
 | nil=>intro _ h; cases h
 | cons q m ih=>
  intro hs h
  obtain ⟨h1,h2⟩:=List.pairwise_cons.1 hs
  unfold findM
  rcases List.mem_cons.1 h with e | h
  ·rw [e,if_pos rfl]
  ·have:=h1 f h
   rw [if_neg (by omega)]
   exact ih h2 h
theorem findM_ids : ∀{m : Mp},i ∈ m.map (·.1)->∃u,findM m i = some u:=by
 intro m
 induction m with
 | nil=>intro h; cases h
 | cons f m ih=>
  intro h
  unfold findM
  split
  ·exact ⟨_,rfl⟩
  ·rename_i hne
   rw [List.map_cons] at h
   rcases List.mem_cons.1 h with e | h
   ·exact absurd e.symm hne
   ·exact ih h
theorem imgM_val (h : PrpM m) (i : Int) : ValC (imgM m i):=by
 unfold imgM
 rcases e : findM m i with _ | u
 ·exact ValC.nil
 ·exact h.val _ (findM_mem e)
theorem appM_val (m : Mp) (x : Ch) : ValC (appM m x):=ValC.act ValC.nil
theorem lin_app : lin g (appM m x) = lin (fun i=>lin g (imgM m i)) x:=by unfold appM; rw [lin_act]; simp [lin]
theorem appM_add (m : Mp) (x y : Ch) (k : Int) : appM m (plusC x y k) = plusC (appM m x) (appM m y) k:=ValC.ext (appM_val _ _) (appM_val _ _).add fun i=>by
 unfold coef
 rw [lin_app,lin_add,lin_add,lin_app,lin_app]
theorem ValM.has (h : ValM a b m) (hx : HomD a d x) : HasM m x:=fun f hf=>by
 obtain ⟨q,h1,-⟩:=hx f hf
 have h2:=findC_mem h1
 refine findM_ids ?_
 rw [h.ids,<-h2.2]
 exact List.mem_map_of_mem h2.1
theorem ValM.hom (h : ValM a b m) (hx : HomD a d x) : HomD b d (appM m x):=HomD.act (HomD.nil _ _) fun f hf=>by
 obtain ⟨q,h1,h2⟩:=hx f hf
 have h3:=findC_mem h1
 have:=h.dim q h3.1
 rw [h3.2,h2] at this
 exact this
theorem ValM.bd (hv : ValX a) (h : ValM a b m) (hx : HomD a d x) : bdC b (appM m x) = appM m (bdC a x):=ValC.ext (ValC.bd _ _) (appM_val _ _) fun i=>by
 unfold coef
 rw [lin_bd,lin_app,lin_app,lin_bd]
 refine lin_cong fun f hf=>?_
 obtain ⟨q,h1,-⟩:=hx f hf
 have h2:=findC_mem h1
 have h3:=h.com q h2.1
 rw [h2.2] at h3
 have h4:=congrArg (lin (dl i)) h3
 rw [lin_bd,lin_app] at h4
 rw [h4,<-h2.2,bOf_at hv h2.1]
theorem imgM_com : imgM (comM m n) i = appM n (imgM m i):=by
 unfold imgM comM
 induction m with
 | nil=>rfl
 | cons f m ih=>
  rw [List.map_cons]
  unfold findM
  by_cases e : f.1 = i
  ·rw [if_pos e,if_pos e]
  ·rw [if_neg e,if_neg e]; exact ih
theorem com_app (m n : Mp) (x : Ch) : appM (comM m n) x = appM n (appM m x):=ValC.ext (appM_val _ _) (appM_val _ _) fun i=>by
 unfold coef
 rw [lin_app,lin_app,lin_app]
 refine lin_cong fun f _=>?_
 rw [imgM_com,lin_app]
theorem ValM.comp (hvb : ValX b) (h1 : ValM a b m) (h2 : ValM b c n) : ValM a c (comM m n):=by
 refine ⟨⟨?_,fun f hf=>?_⟩,?_,fun f hf=>?_,fun f hf=>?_⟩
 ·unfold comM
  rw [List.pairwise_map]
  exact h1.prp.srt
 ·obtain ⟨q,-,rfl⟩:=List.mem_map.1 hf
  exact appM_val _ _
 ·unfold comM
  rw [List.map_map]
  exact h1.ids
 ·rw [imgM_com]
  exact h2.hom (h1.dim f hf)
 ·rw [imgM_com,h2.bd hvb (h1.dim f hf),h1.com f hf,com_app]
theorem comM_assoc (m n p : Mp) : comM (comM m n) p = comM m (comM n p):=by
 unfold comM
 rw [List.map_map]
 refine List.map_congr_left fun f _=>?_
 show (f.1,appM p (appM n f.2)) = (f.1,appM (comM n p) f.2)
 rw [com_app]
theorem imgM_inc (hv : ValX c) {f : Cel} (hf : f ∈ c) : imgM (incM c) f.1 = [(f.1,1)]:=by
 unfold imgM
 have h1 : (incM c).Pairwise fun a b=>a.1 < b.1:=by
  unfold incM
  rw [List.pairwise_map]
  exact hv.srt
 rw [findM_srt (f:=(f.1,[(f.1,1)])) h1 (List.mem_map.2 ⟨f,hf,rfl⟩)]
theorem app_inc (hv : ValX c) (hx : HomD c d x) (hx2 : ValC x) : appM (incM c) x = x:=ValC.ext (appM_val _ _) hx2 fun i=>by
 unfold coef
 rw [lin_app]
 refine lin_cong fun f hf=>?_
 obtain ⟨q,h1,-⟩:=hx f hf
 have h2:=findC_mem h1
 rw [<-h2.2,imgM_inc hv h2.1]
 simp [lin]
theorem inc_val (hv : ValX c) (t : Nat) : ValM (c.take t) c (incM (c.take t)):=by
 have ht:=hv.take t
 refine ⟨⟨?_,fun f hf=>?_⟩,?_,fun f hf=>?_,fun f hf=>?_⟩
 ·unfold incM
  rw [List.pairwise_map]
  exact ht.srt
 ·obtain ⟨q,-,rfl⟩:=List.mem_map.1 hf
  exact ValC.one (show (1 : Int) ≠ 0 by decide)
 ·unfold incM
  rw [List.map_map]
  rfl
 ·rw [imgM_inc ht hf]
  intro q hq
  rw [List.mem_singleton.1 hq]
  exact ⟨f,findC_srt hv.srt (List.mem_of_mem_take hf),rfl⟩
 ·rw [imgM_inc ht hf,app_inc ht (ht.face f hf).1 (ht.val f hf)]
  refine ValC.ext (ValC.bd _ _) (ht.val f hf) fun i=>?_
  unfold coef
  rw [lin_bd]
  simp only [lin]
  rw [bOf_at hv (List.mem_of_mem_take hf)]
  omega
theorem comM_inc_left (hv : ValX a) (hm : PrpM m) (hi : m.map (·.1) = a.map (·.1)) : comM (incM a) m = m:=by
 have h1 : ∀f ∈ a,imgM (comM (incM a) m) f.1 = imgM m f.1:=fun f hf=>by
  rw [imgM_com,imgM_inc hv hf]
  refine ValC.ext (appM_val _ _) (imgM_val hm _) fun i=>?_
  unfold coef
  rw [lin_app]
  simp only [lin]
  omega
 refine List.ext_getElem? fun t=>?_
 have hl : m.length = a.length:=by have:=congrArg List.length hi; simpa using this
 rcases Nat.lt_or_ge t a.length with h | h
 ·have e1 : m[t]? = some m[t]:=List.getElem?_eq_getElem (by omega)
  have e2 : a[t]? = some a[t]:=List.getElem?_eq_getElem h
  have e3 : m[t].1 = a[t].1:=by
   have:=congrArg (fun l=>l[t]?) hi
   simp only [List.getElem?_map,e1,e2] at this
   simpa using this
  have e4:=findM_srt hm.srt (List.getElem_mem (show t < m.length by omega))
  have e5:=h1 a[t] (List.getElem_mem h)
  rw [imgM_com,imgM_inc hv (List.getElem_mem h)] at e5
  unfold comM incM
  rw [List.map_map,List.getElem?_map,e2,e1]
  simp only [Option.map_some,Function.comp]
  congr 1
  refine Prod.ext e3.symm ?_
  show appM m [(a[t].1,1)] = m[t].2
  rw [e5,<-e3]
  unfold imgM
  rw [e4]
 ·rw [List.getElem?_eq_none (by unfold comM incM; simpa using h),List.getElem?_eq_none (by omega)]
theorem comM_inc_right (hvb : ValX b) (h : ValM a b m) : comM m (incM b) = m:=by
 unfold comM
 conv=>rhs; rw [<-List.map_id m]
 refine List.map_congr_left fun f hf=>?_
 have h1 : f.1 ∈ a.map (·.1):=by rw [<-h.ids]; exact List.mem_map_of_mem hf
 obtain ⟨q,h2,h3⟩:=List.mem_map.1 h1
 have h4:=h.dim q h2
 have h5:=findM_srt h.prp.srt hf
 have h6 : imgM m q.1 = f.2:=by unfold imgM; rw [h3,h5]
 rw [h6] at h4
 show (f.1,appM (incM b) f.2) = f
 rw [app_inc hvb h4 (h.prp.val f hf)]
theorem homM_val (hv : ValX c) (n : Int) {H : Nat->Ch} (hH : HomH c (hidC c H)) (t : Nat) : ValM (c.take t) c ((homM c n H).take t):=by
 have hlen : (homM c n H).length = c.length:=by unfold homM; simp
 have hget : ∀i,i < c.length->(homM c n H)[i]? = some (idN c i,homI c n H i):=fun i hi=>by unfold homM; simp [hi]
 have hid : ∀i,(h : i < c.length)->idN c i = (c[i]).1:=fun i h=>by unfold idN; rw [List.getD_eq_getElem?_getD,List.getElem?_eq_getElem h]; rfl
 have hids : (homM c n H).map (·.1) = c.map (·.1):=List.ext_getElem? fun i=>by
  rw [List.getElem?_map,List.getElem?_map]
  rcases Nat.lt_or_ge i c.length with h | h
  ·rw [hget i h,List.getElem?_eq_getElem h]
   simp only [Option.map_some]
   rw [hid i h]
  ·rw [List.getElem?_eq_none (by omega),List.getElem?_eq_none h]
   rfl
 have hsrt : (homM c n H).Pairwise fun a b=>a.1 < b.1:=by
  have : ((homM c n H).map (·.1)).Pairwise (· < ·):=by rw [hids,List.pairwise_map]; exact hv.srt
  rwa [List.pairwise_map] at this
 have hst : ((homM c n H).take t).Pairwise fun a b=>a.1 < b.1:=List.Pairwise.sublist (List.take_sublist _ _) hsrt
 have himg : ∀i,i < c.length->imgM (homM c n H) (idN c i) = homI c n H i:=fun i hi=>by
  unfold imgM
  rw [findM_srt (f:=(idN c i,homI c n H i)) hsrt (List.mem_of_getElem? (hget i hi))]
 have hI:=homI_img hv n himg
 have hsame : ∀f ∈ c.take t,imgM ((homM c n H).take t) f.1 = imgM (homM c n H) f.1:=fun f hf=>by
  obtain ⟨i,hi,rfl⟩:=List.getElem_of_mem hf
  rw [List.length_take] at hi
  have hic : i < c.length:=by omega
  rw [List.getElem_take,<-hid i hic,himg i hic]
  unfold imgM
  rw [findM_srt (f:=(idN c i,homI c n H i)) hst (List.mem_of_getElem? (i:=i) (by rw [List.getElem?_take,if_pos (by omega)]; exact hget i hic))]
 have hdim : ∀f ∈ c,HomD c f.2.1 (imgM (homM c n H) f.1):=fun f hf=>by
  obtain ⟨i,hi,rfl⟩:=List.getElem_of_mem hf
  rw [<-hid i hi,himg i hi]
  have hci : c.getD i (0,0,[]) = c[i]:=by rw [List.getD_eq_getElem?_getD,List.getElem?_eq_getElem hi]; rfl
  have hone : HomD c (c[i]).2.1 [(idN c i,1)]:=fun q hq=>by
   rw [List.mem_singleton.1 hq,hid i hi]
   exact ⟨c[i],findC_srt hv.srt (List.getElem_mem hi),rfl⟩
  have hlif : ∀(x : Ch) (d : Int),HomD c d x->HomD c (d + 1) (lifC c x H):=fun x d hx=>by
   have : ∀n,n<=c.length->HomD c (d + 1) (lifN c x H n):=fun n=>by
    induction n with
    | zero=>intro _; exact HomD.nil _ _
    | succ n ih=>
     intro hn
     by_cases hne : ∀p ∈ x,p.1 ≠ idN c n
     ·show HomD c (d + 1) (lifJ x (idN c n) (H n) (lifN c x H n))
      rw [lifJ_none hne]
      exact ih (by omega)
     ·refine HomD.lifJ ?_ (ih (by omega))
      obtain ⟨p,hp⟩:=Classical.not_forall.1 hne
      obtain ⟨hp1,hp2⟩:=Classical.not_imp.1 hp
      have hp2:=Classical.not_not.1 hp2
      obtain ⟨q,h1,h2⟩:=hx p hp1
      have h3:=findC_mem h1
      have h4:=hH q h3.1
      rw [h3.2,hp2,hidC_at hv (by omega),h2] at h4
      exact h4
   exact this _ (Nat.le_refl _)
  unfold homI
  refine ((HomD.add (HomD.add (HomD.nil _ _) hone) ?_).add ?_)
  ·have:=HomD.bd hv (hlif _ _ hone)
   rwa [Int.add_sub_cancel] at this
  ·have h1:=(hv.face c[i] (List.getElem_mem hi)).1
   rw [hci]
   have:=hlif _ _ h1
   rwa [Int.sub_add_cancel] at this
 refine ⟨⟨hst,fun f hf=>?_⟩,?_,fun f hf=>?_,fun f hf=>?_⟩
 ·obtain ⟨i,hi,rfl⟩:=List.mem_map.1 (List.mem_of_mem_take hf)
  exact homI_val _ _ _ _
 ·rw [List.map_take,List.map_take,hids]
 ·rw [hsame f hf]; exact hdim f (List.mem_of_mem_take hf)
 ·rw [hsame f hf,ImgH.comm hv hH hI (List.mem_of_mem_take hf)]
  refine ValC.ext (ValC.act ValC.nil) (appM_val _ _) fun i=>?_
  unfold coef
  rw [lin_act,lin_app]
  simp only [lin]
  rw [Int.zero_add]
  refine lin_cong fun p hp=>?_
  obtain ⟨q,h1,-⟩:=((hv.take t).face f hf).1 p hp
  have h2:=findC_mem h1
  rw [<-h2.2,hsame q h2.1]
end
def eb : Nat->Nat
 | 0=>0
 | k + 1=>49 * eb k + 171
structure CxI (t : Nat) (c : Cx) : Prop where
 val : ValX c
 dim : ∀f ∈ c,0<=f.2.1/\f.2.1<=3
 n0 : (cellsC c 0).length<=3 + t
 n1 : (cellsC c 1).length<=3 + t
 n2 : (cellsC c 2).length<=2 + t
 n3 : (cellsC c 3).length<=1 + t
 len : c.length<=7 + t
 ids : ∀f ∈ c,0<=f.1/\f.1<=9 + 2 * t
 bnd : ∀f ∈ c,∀p ∈ f.2.2,p.2.natAbs<=2 ^ eb f.2.1.toNat
section
variable {c : Cx} {f : Cel} {k d : Int} {t : Nat} {x b : Ch}
def growB (l : List (Ch × Int)) : Ch:=l.foldl (fun b p=>plusC b p.1 p.2) []
theorem grow_from {B : Nat} : ∀{l : List (Ch × Int)} {a : Ch},(∀p ∈ l,ValC p.1/\HomD c k p.1/\bdC c p.1 = []/\nrm p.1<=B/\p.2.natAbs<=3)->ValC a->HomD c k a->bdC c a = [] ->
  ValC (l.foldl (fun b p=>plusC b p.1 p.2) a)/\HomD c k (l.foldl (fun b p=>plusC b p.1 p.2) a)/\bdC c (l.foldl (fun b p=>plusC b p.1 p.2) a) = []/\nrm (l.foldl (fun b p=>plusC b p.1 p.2) a)<=nrm a + l.length * (3 * B):=by
 intro l
 induction l with
 | nil=>intro a _ h1 h2 h3; exact ⟨h1,h2,h3,by simp⟩
 | cons p l ih=>
  intro a hl h1 h2 h3
  obtain ⟨p1,p2,p3,p4,p5⟩:=hl p List.mem_cons_self
  obtain ⟨i1,i2,i3,i4⟩:=ih (a:=plusC a p.1 p.2) (fun q hq=>hl q (List.mem_cons_of_mem _ hq)) h1.add (h2.add p2) (bd_add h3 p3)
  refine ⟨i1,i2,i3,?_⟩
  have h4:=nrm_add (a:=a) (b:=p.1) (k:=p.2)
  have h5 : p.2.natAbs * nrm p.1<=3 * B:=Nat.mul_le_mul p5 p4
  rw [List.foldl_cons,List.length_cons,Nat.add_mul]
  omega
theorem growB_ok {B : Nat} {l : List (Ch × Int)} (hl : ∀p ∈ l,ValC p.1/\HomD c k p.1/\bdC c p.1 = []/\nrm p.1<=B/\p.2.natAbs<=3) (h3 : l.length<=3) : ValC (growB l)/\HomD c k (growB l)/\bdC c (growB l) = []/\nrm (growB l)<=9 * B:=by
 obtain ⟨h1,h2,h4,h5⟩:=grow_from (a:=[]) hl ValC.nil (HomD.nil _ _) rfl
 refine ⟨h1,h2,h4,Nat.le_trans h5 ?_⟩
 have : l.length * (3 * B)<=3 * (3 * B):=Nat.mul_le_mul_right _ h3
 simp only [nrm]
 omega
theorem cells_app (c : Cx) (f : Cel) (k : Int) : cellsC (c ++ [f]) k = cellsC c k ++ if f.2.1 = k then [f.1] else []:=by
 unfold cellsC
 rw [List.filter_append,List.map_append]
 congr 1
 by_cases e : f.2.1 = k
 ·rw [List.filter_cons_of_pos (by simpa using e),if_pos e]; rfl
 ·rw [List.filter_cons_of_neg (by simpa using e),if_neg e]; rfl
theorem cells_app_len (c : Cx) (f : Cel) (k : Int) : (cellsC (c ++ [f]) k).length<=(cellsC c k).length + 1:=by
 rw [cells_app]
 split <;> simp
theorem CxI.grow (h : CxI t c) (hd : 0<=f.2.1/\f.2.1<=3) (hi : 0<=f.1/\f.1<=11 + 2 * t) (hf : ∀q ∈ c,q.1 < f.1) (h1 : ValC f.2.2) (h2 : HomD c (f.2.1 - 1) f.2.2) (h3 : bdC c f.2.2 = []) (h4 : nrm f.2.2<=2 ^ eb f.2.1.toNat) : CxI (t + 1) (c ++ [f]):=by
 have hl:=fun k=>cells_app_len c f k
 refine ⟨h.val.grow hf h1 h2 h3,fun q hq=>?_,by have:=hl 0; have:=h.n0; omega,by have:=hl 1; have:=h.n1; omega,by have:=hl 2; have:=h.n2; omega,by have:=hl 3; have:=h.n3; omega,?_,fun q hq=>?_,fun q hq p hp=>?_⟩
 ·rcases List.mem_append.1 hq with hq | hq
  ·exact h.dim q hq
  ·rw [List.mem_singleton.1 hq]; exact hd
 ·rw [List.length_append]
  have:=h.len
  simp
  omega
 ·rcases List.mem_append.1 hq with hq | hq
  ·have:=h.ids q hq
   omega
  ·rw [List.mem_singleton.1 hq]; omega
 ·rcases List.mem_append.1 hq with hq | hq
  ·exact h.bnd q hq p hp
  ·rw [List.mem_singleton.1 hq] at hp ⊢
   exact Nat.le_trans (nrm_le hp) h4
theorem CxI.mono {s : Nat} (h : CxI t c) (hs : t<=s) : CxI s c:=
 ⟨h.val,h.dim,by have:=h.n0; omega,by have:=h.n1; omega,by have:=h.n2; omega,by have:=h.n3; omega,by have:=h.len; omega,fun f hf=>by have:=h.ids f hf; omega,h.bnd⟩
theorem cells_take_len (c : Cx) (m : Nat) (k : Int) : (cellsC (c.take m) k).length<=(cellsC c k).length:=by
 unfold cellsC
 exact ((List.take_sublist m c).filter _).map (fun f=>f.1) |>.length_le
theorem CxI.take (h : CxI t c) (m : Nat) : CxI t (c.take m):=by
 have hl:=fun k=>cells_take_len c m k
 have hm : ∀f ∈ c.take m,f ∈ c:=fun f hf=>List.mem_of_mem_take hf
 refine ⟨h.val.take m,fun f hf=>h.dim f (hm f hf),by have:=hl 0; have:=h.n0; omega,by have:=hl 1; have:=h.n1; omega,by have:=hl 2; have:=h.n2; omega,by have:=hl 3; have:=h.n3; omega,?_,fun f hf=>h.ids f (hm f hf),fun f hf=>h.bnd f (hm f hf)⟩
 have:=h.len
 rw [List.length_take]
 omega
def homB (c : Cx) (d : Int) (x : Ch) : Bool:=x.all fun f=>match findC c f.1 with
 | some q=>q.2.1 == d
 | none=>false
theorem homB_ok (h : homB c d x = true) : HomD c d x:=fun f hf=>by
 have:=List.all_eq_true.1 h f hf
 rcases hq : findC c f.1 with _ | q
 ·rw [hq] at this; cases this
 ·rw [hq] at this; exact ⟨q,rfl,by simpa using this⟩
def valXB (c : Cx) : Bool:=decide (c.Pairwise fun a b=>a.1 < b.1) && c.all fun f=>decide (f.2.2.Pairwise fun a b=>a.1 < b.1) && f.2.2.all (fun p=>decide (p.2 ≠ 0)) && homB c (f.2.1 - 1) f.2.2 && f.2.2.all (fun p=>decide (p.1 < f.1)) && (bdC c f.2.2).isEmpty
theorem valXB_ok (h : valXB c = true) : ValX c:=by
 unfold valXB at h
 simp only [Bool.and_eq_true,List.all_eq_true,decide_eq_true_eq,List.isEmpty_iff] at h
 obtain ⟨h1,h2⟩:=h
 exact ⟨h1,fun f hf=>⟨(h2 f hf).1.1.1.1,(h2 f hf).1.1.1.2⟩,fun f hf=>⟨homB_ok (h2 f hf).1.1.2,(h2 f hf).1.2⟩,fun f hf=>(h2 f hf).2⟩
def cxB (c : Cx) : Bool:=valXB c && c.all (fun f=>decide (0<=f.2.1/\f.2.1<=3) && decide (0<=f.1/\f.1<=9) && f.2.2.all fun p=>decide (p.2.natAbs<=if f.2.1 = 0 then 1 else 6)) && decide ((cellsC c 0).length<=3) && decide ((cellsC c 1).length<=3) && decide ((cellsC c 2).length<=2) && decide ((cellsC c 3).length<=1) && decide (c.length<=7)
theorem eb_big {k : Nat} (h : 0 < k) : 171<=eb k:=by
 cases k with
 | zero=>omega
 | succ k=>show 171<=49 * eb k + 171; omega
theorem cxB_ok (h : cxB c = true) : CxI 0 c:=by
 unfold cxB at h
 simp only [Bool.and_eq_true,List.all_eq_true,decide_eq_true_eq] at h
 obtain ⟨⟨⟨⟨⟨⟨h1,h2⟩,h3⟩,h4⟩,h5⟩,h6⟩,h7⟩:=h
 refine ⟨valXB_ok h1,fun f hf=>(h2 f hf).1.1,by omega,by omega,by omega,by omega,by omega,fun f hf=>by have:=(h2 f hf).1.2; omega,fun f hf p hp=>?_⟩
 have h8:=(h2 f hf).2 p hp
 have h9:=(h2 f hf).1.1
 split at h8
 ·exact Nat.le_trans h8 (Nat.pow_pos (by decide))
 ·have h10 : 171<=eb f.2.1.toNat:=eb_big (by omega)
  have h11 : 2 ^ 171<=2 ^ eb f.2.1.toNat:=Nat.pow_le_pow_right (by omega) h10
  have h12 : 6<=2 ^ 171:=by decide
  omega
end
def threeC : Cx:=[(1,0,[]),(2,0,[]),(3,0,[]),(4,1,[(1,-1),(2,1)]),(5,1,[(2,-1),(3,1)]),(6,1,[(1,1),(3,-1)])]
def spaceC : Nat->Cx
 | 1=>[(1,0,[])]
 | 2=>[(1,0,[]),(7,0,[])]
 | 3=>[(1,0,[]),(2,0,[]),(3,1,[(1,-1),(2,1)])]
 | 4=>[(1,0,[]),(2,1,[])]
 | 5=>threeC
 | 6=>threeC ++ [(9,2,[(4,1),(5,1),(6,1)])]
 | 7=>[(1,0,[]),(2,2,[])]
 | 8=>[(1,0,[]),(2,1,[]),(3,1,[]),(4,2,[])]
 | 9=>[(1,0,[]),(2,1,[]),(3,2,[(2,2)])]
 | 10=>[(1,0,[]),(2,1,[]),(3,1,[]),(4,2,[(2,2)])]
 | 11=>[(1,0,[]),(2,1,[]),(3,2,[(2,3)]),(4,3,[])]
 | 12=>[(1,0,[]),(2,1,[]),(3,2,[(2,4)]),(4,2,[(2,6)])]
 | 13=>[(1,0,[]),(2,1,[]),(3,0,[]),(5,1,[]),(6,2,[(5,2)])]
 | _=>[]
theorem space_ok {s : Nat} (h : s < 14) : CxI 0 (spaceC s):=by
 have : ∀s,s < 14->cxB (spaceC s) = true:=by decide
 exact cxB_ok (this s h)
end Go.Proofs.YtjdemlfceaikgaaGreat
