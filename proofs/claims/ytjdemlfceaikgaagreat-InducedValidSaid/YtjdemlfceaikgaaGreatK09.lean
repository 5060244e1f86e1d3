/- Slices of int: their own rows, append; torsionref05.Range. A region that draws: the first n operations in whatever order, behind them the others by the law of all orders. -/
import Derived.RegionTactic
import Derived.Test.YtjdemlfceaikgaaGreatK01
import Derived.Test.YtjdemlfceaikgaaGreatK06
set_option linter.unusedVariables false
set_option linter.unusedSimpArgs false
set_option linter.unusedSectionVars false
namespace Go.Proofs.YtjdemlfceaikgaaGreat
open Go.RowKit
abbrev tNn : TypeId:=3
def NatsAt (w : World) (ao : Option Addr) (xs : List Nat) : Prop:=
 (∀x ∈ xs,x<=1000000)/\(xs ≠ []->∃b off cs,ao = some ⟨b,off,none⟩/\w.heap[b]? = some (.cells cs tNn (0,0))/\∀k x,xs[k]? = some x->cs[off + k]? = some (.int .i64 (x : Nat)))
theorem NatsAt.nil (w : World) (ao : Option Addr) : NatsAt w ao []:=⟨by simp,fun h=>absurd rfl h⟩
theorem NatsAt.block {w w' : World} {ao : Option Addr} {xs : List Nat} (h : NatsAt w ao xs) (e : ∀b off,ao = some ⟨b,off,none⟩->b < w.heap.size->w'.heap[b]? = w.heap[b]?) : NatsAt w' ao xs:=
 ⟨h.1,fun hn=>by
  obtain ⟨b,off,cs,h1,h2,h3⟩:=h.2 hn
  exact ⟨b,off,cs,h1,(e b off h1 (Array.getElem?_eq_some_iff.1 h2).1).trans h2,h3⟩⟩
theorem NatsAt.below {w w' : World} {ao : Option Addr} {xs : List Nat} (h : NatsAt w ao xs) (e : Below w.heap.size w w') : NatsAt w' ao xs:=h.block fun b _ _ hb=>e.block b hb
theorem NatsAt.take {w : World} {ao : Option Addr} {xs : List Nat} (h : NatsAt w ao xs) (k : Nat) : NatsAt w ao (xs.take k):=
 ⟨fun x hx=>h.1 x (List.mem_of_mem_take hx),fun hn=>by
  obtain ⟨b,off,cs,h1,h2,h3⟩:=h.2 (by rintro rfl; simp at hn)
  refine ⟨b,off,cs,h1,h2,fun j x hj=>h3 j x ?_⟩
  rw [List.getElem?_take] at hj
  split at hj
  ·exact hj
  ·cases hj⟩
theorem NatsAt.drop {w : World} {b off : Nat} {xs : List Nat} (h : NatsAt w (some ⟨b,off,none⟩) xs) (k : Nat) : NatsAt w (some ⟨b,off + k,none⟩) (xs.drop k):=
 ⟨fun x hx=>h.1 x (List.mem_of_mem_drop hx),fun hn=>by
  obtain ⟨b',off',cs,h1,h2,h3⟩:=h.2 (by rintro rfl; simp at hn)
  injection h1 with h1
  injection h1 with h1 h4
  subst h1
  subst h4
  refine ⟨_,_,cs,rfl,h2,fun j x hj=>?_⟩
  rw [List.getElem?_drop] at hj
  rw [Nat.add_assoc]
  exact h3 _ x hj⟩
def OwnN (w : World) (base : Nat) (v : Value) (xs : List Nat) : Prop:=(∀x ∈ xs,x<=1000000)/\w.ownsRow base tNn 1 v xs.length (xs.map fun n=>Value.int .i64 (n : Nat))
theorem OwnN.at_ {w : World} {base : Nat} {v : Value} {xs : List Nat} (h : OwnN w base v xs) :
  ∃ao cap,v = .slice ao xs.length cap/\xs.length<=cap/\cap<=9223372036854775807/\NatsAt w ao xs:=by
 obtain ⟨hl,h1,h2⟩:=h
 rcases h2 with ⟨rfl,h0⟩ | ⟨g,cap,cur,rfl,hg,hh,hn,hc,hs,ht⟩
 ·have : xs = []:=List.eq_nil_of_length_eq_zero h0
  subst this
  exact ⟨none,0,rfl,by simp,by omega,NatsAt.nil _ _⟩
 ·refine ⟨some ⟨g,0,none⟩,cap,rfl,hn,hc,hl,fun _=>⟨g,0,cur,rfl,hh,fun k x hk=>?_⟩⟩
  have hk' : (xs.map fun n=>Value.int .i64 (n : Nat))[k]? = some (.int .i64 (x : Nat)):=by simp [hk]
  rw [<-ht,List.getElem?_take] at hk'
  split at hk'
  ·simpa using hk'
  ·cases hk'
theorem OwnN.own {w : World} {base : Nat} {v : Value} {xs : List Nat} (h : OwnN w base v xs) : ∀g,v.ownBlock = some g->base<=g/\g < w.heap.size:=h.2.lt
theorem OwnN.empty (w : World) (base : Nat) (h : base<=w.heap.size) : OwnN (w.alloc (.cells #[] tNn)) base (.slice (some ⟨w.heap.size,0,none⟩) 0 0) []:=
 ⟨by simp,by simp,.inr ⟨w.heap.size,0,#[],rfl,h,heap_alloc_new w _,Nat.le_refl _,by simp [maxLen],rfl,rfl⟩⟩
theorem OwnN.alloc {w : World} {base : Nat} {v : Value} {xs : List Nat} (h : OwnN w base v xs) (o : Obj) : OwnN (w.alloc o) base v xs:=⟨h.1,h.2.alloc o⟩
theorem OwnN.below {w w' : World} {base : Nat} {v : Value} {xs : List Nat} (h : OwnN w base v xs) (hb : Below w.heap.size w w') : OwnN w' base v xs:=
 ⟨h.1,h.2.kept (row:=none) ⟨hb.os,hb.tape,hb.output,hb.size,fun k hk _=>hb.block k hk⟩ (by cases hv : v.ownBlock <;> simp)⟩
variable {P : Program} {l : List Oper} {Q : Exit->Act->World->Prop}
def chainC (ops : Array Oper) (n : Nat) : Bool:=
 (List.range ops.size).all fun t=>decide (t<=n) || (List.range t).any fun k=>decide (n<=k) && Region.waitsFor .any ops t k
def headA (l : List Oper) (n : Nat) : Bool:=
 decide (n < l.length) && edgesBack l.toArray && Region.sinkB .any l.toArray n && chainC l.toArray n
theorem tail_waitsA {ops : Array Oper} {n : Nat} {listed : Array Bool} (hs : Region.sinkB .any ops n = true) (hc : chainC ops n = true) (hn : n < ops.size) (inv : HeadInv .any ops n listed) :
  ∀(d i : Nat),n - i = d->i < n->listed.getD i true = false->∀t,n<=t->t ∉ Region.ready .any ops listed:=by
 intro d
 induction d using Nat.strongRecOn with
 | _ d ih=>
  intro i hd hi hun t ht hr
  obtain ⟨_,ot,hot,hall⟩:=mem_ready.1 hr
  have htlt : t < ops.size:=(Array.getElem?_eq_some_iff.1 hot).1
  by_cases htn : t = n
  ·subst htn
   have h1:=List.all_eq_true.1 hs i (List.mem_range.2 hi)
   obtain ⟨j,hj,hj2⟩:=List.any_eq_true.1 h1
   simp only [Bool.and_eq_true,decide_eq_true_eq] at hj2
   obtain ⟨oj,hoj,e,he,hb,hon⟩:=Region.waitsFor_spec hj2.2
   have hjle : j<=t:=by have:=List.mem_range.1 hj; omega
   by_cases hjt : j = t
   ·subst hjt
    have : oj = ot:=Option.some.inj (hoj.symm.trans hot)
    subst this
    have h2:=hall e he hb
    rw [hon,getD_both hun] at h2
    cases h2
   ·cases hl : listed.getD j false with
    | true=>
     have h2:=inv.closed j oj hoj hl e he hb
     rw [hon,getD_both hun] at h2
     cases h2
    | false=>
     have hjs : j < listed.size:=by rw [inv.size]; omega
     exact ih (t - j) oM j rfl oM (getD_in hjs hl) t (Nat.le_refl _) hr
  ·have h1:=List.all_eq_true.1 hc t (List.mem_range.2 htlt)
   simp only [Bool.or_eq_true,decide_eq_true_eq] at h1
   rcases h1 with h1 | h1
   ·omega
   ·obtain ⟨k,hk,hk2⟩:=List.any_eq_true.1 h1
    simp only [Bool.and_eq_true,decide_eq_true_eq] at hk2
    have hkt:=List.mem_range.1 hk
    obtain ⟨o',ho',e,he,hb,hon⟩:=Region.waitsFor_spec hk2.2
    have : o' = ot:=Option.some.inj (ho'.symm.trans hot)
    subst this
    have h2:=hall e he hb
    rw [hon,getD_both (inv.tail k oM oM)] at h2
    cases h2
theorem wpAny_headA {n : Nat} {I : Array Bool->Array Value->World->Prop} {ds : List Deferred} (hB : headA l n = true)
  (hstep : ∀i o,l[i]? = some o->i < n->StepAt P l.toArray Q ds I i o)
  (hend : ∀T w,I (headL n l.length) T w->wpAny P .any l.toArray Q (l.length - n) (headL n l.length) ⟨T,ds⟩ w) :
  ∀(f : Nat) (L : Array Bool) (T : Array Value) (w : World),HeadInv .any l.toArray n L->left L = f + (l.length - n)->ClosedL l.toArray L->I L T w->wpAny P .any l.toArray Q (f + (l.length - n)) L ⟨T,ds⟩ w:=by
 unfold headA at hB
 simp only [Bool.and_eq_true,decide_eq_true_eq] at hB
 obtain ⟨⟨⟨hn,hb⟩,hsk⟩,hch⟩:=hB
 have htl : ∀{L : Array Bool},HeadInv .any l.toArray n L->∀t,n<=t->t < L.size->L[t]? = some false:=by
  intro L inv t ht hts
  have:=inv.tail t ht (by have:=inv.size; omega)
  rw [Array.getElem?_eq_getElem hts]
  simpa [hts] using this
 intro f
 induction f with
 | zero=>
  intro L T w inv hl hcl hI
  have hsz : L.size = l.length:=by simpa using inv.size
  have hL : L = headL n l.length:=by
   have:=left_tail (L:=L) (n:=n) oM (htl inv) (by rw [hl,hsz]; omega)
   rwa [hsz] at this
  subst hL
  rw [Nat.zero_add]
  exact hend T w hI
 | succ f ih=>
  intro L T w inv hl hcl hI
  have hsz : L.size = l.length:=by simpa using inv.size
  rw [show f + 1 + (l.length - n) = (f + (l.length - n)) + 1 by omega]
  have hex : ∃i,i < n/\L[i]? = some false:=by
   refine Classical.byContradiction fun hno=>?_
   have hall : ∀i,i < n->L[i]? = some true:=by
    intro i hi
    have hi' : i < L.size:=by omega
    cases hc : L[i] with
    | true=>rw [Array.getElem?_eq_getElem hi',hc]
    | false=>exact absurd ⟨i,hi,by rw [Array.getElem?_eq_getElem hi',hc]⟩ hno
   have hLe : L = headL n l.length:=by
    apply Array.ext_getElem?
    intro j
    unfold headL
    rcases Nat.lt_or_ge j n with hj | hj
    ·rw [hall j hj]; simp [List.getElem?_append,hj]
    ·rcases Nat.lt_or_ge j L.size with hj2 | hj2
     ·rw [htl inv j hj hj2]
      have : j - n < l.length - n:=by omega
      simp [List.getElem?_append,Nat.not_lt.2 hj,this]
     ·rw [Array.getElem?_eq_none hj2]
      symm
      simp
      try omega
   rw [hLe] at hl
   unfold left headL at hl
   simp [List.count_replicate] at hl
  obtain ⟨i0,hi0,hun⟩:=hex
  have hun' : L.getD i0 true = false:=by
   obtain ⟨h1,h2⟩:=Array.getElem?_eq_some_iff.1 hun
   simp [h1,h2]
  refine ⟨fun hr=>?_,?_⟩
  ·have:=ready_nil_listed hb inv.size hr i0 (by simp; omega)
   rw [this] at hun
   cases hun
  ·intro i hi
   have hin : i < n:=by
    rcases Nat.lt_or_ge i n with h | h
    ·exact h
    ·exact absurd hi (tail_waitsA hsk hch (by simpa using hn) inv _ i0 rfl hi0 hun' i h)
   obtain ⟨h0,o,ho,hall⟩:=mem_ready.1 hi
   have hio : i < l.length:=by have:=(Array.getElem?_eq_some_iff.1 ho).1; simpa using this
   have hiL : i < L.size:=by omega
   have hLi : L[i]? = some false:=by
    rw [Array.getElem?_eq_getElem hiL]
    simpa [hiL] using h0
   have hdep : ∀k,waits o k = true->L[k]? = some true:=by
    intro k hk
    unfold waits at hk
    rw [<-Array.any_toList,List.any_eq_true] at hk
    obtain ⟨e,he,hk⟩:=hk
    have he:=Array.mem_toList_iff.1 he
    simp only [Bool.and_eq_true,beq_iff_eq] at hk
    obtain ⟨hbd,hon⟩:=hk
    subst hon
    have hlt:=edgesBack_spec hb ho e he hbd
    have h1:=hall e he hbd
    have h2 : e.on < L.size:=by omega
    rw [Array.getElem?_eq_getElem h2]
    simpa [h2] using h1
   have hls:=left_set hLi
   refine wpOp_step ho (fun K' hK=>?_)
   exact hstep i o (by simpa using ho) hin L T w hLi hdep hcl hI K' (fun T' w' hI'=>hK ⟨T',ds⟩ w' (ih _ _ _ (inv.set hi hin) oM (hcl.set ho hdep) hI'))
theorem wp_region_headedA {id : Nat} {T0 : Array Value} {ds : List Deferred} {w : World} (n : Nat) (hm : P.follows .mixedOrders = true) (I : Array Bool->Array Value->World->Prop) (hB : headA l n = true)
  (h0 : I (Array.replicate l.length false) T0 w.drew)
  (hend : ∀T w,I (headL n l.length) T w->wpAny P .any l.toArray Q (l.length - n) (headL n l.length) ⟨T,ds⟩ w)
  (hstep : EachOp (StepAt P l.toArray Q ds I) 0 (l.take n)) : (Code.region id l.toArray true).wp P Q ⟨T0,ds⟩ w:=by
 have hn : n < l.length:=by
  unfold headA at hB
  simp only [Bool.and_eq_true,decide_eq_true_eq] at hB
  exact hB.1.1.1
 have hst : ∀i o,l[i]? = some o->i < n->StepAt P l.toArray Q ds I i o:=by
  intro i o ho hi
  have:=hstep.get i o (by rw [List.getElem?_take_of_lt hi]; exact ho)
  rw [Nat.zero_add] at this
  exact this
 have inv0 : HeadInv .any l.toArray n (Array.replicate l.toArray.size false):=
  ⟨by simp,fun j oj _ hl=>(by rw [getD_replicate_false] at hl; cases hl),fun t _ ht=>getD_in (by simpa using ht) (getD_replicate_false _ _)⟩
 have H:=wpAny_headA hB hst hend n (Array.replicate l.toArray.size false) T0 w.drew inv0 (by unfold left; rw [Array.toList_replicate,List.count_replicate]; simp; omega) ClosedL.start (by simpa using h0)
 refine wp_region_any hm ?_
 rw [show n + (l.length - n) = l.toArray.size by simp; omega] at H
 exact H
variable {W : World}
theorem wp_serHA {id : Nat} {T0 : Array Value} {ds : List Deferred} (n : Nat) (pl : Plan) (h : ser P l.toArray W (fun w=>Below W.heap.size W w) (fun a w=>wpAny P .any l.toArray Q (l.length - n) (headL n l.length) a w) 0 pl (l.take n) [] [] [] ⟨T0,ds⟩) (hH : headA l n = true:=by kernel_rfl) (hB : serB l.toArray n T0.size pl = true:=by kernel_rfl)
  (hl : LastsPl W.heap.size pl pl:=by repeat' (first | exact trivial | assumption | exact fun _ _ _ _ h=>h | exact fun _ _ _ b h=>h.below b | exact fun _ _ _ b h=>h.ext (lx b) | (refine lastsB_of ?_; assumption) | exact fun _ _ _ _ _ _ _ _ _ h=>h | exact lastsW_of dE (lasts_int _) | exact lastsW_of dE (by assumption) | refine ⟨?_,?_⟩)) (hE : noEs pl = true:=by rfl) (hm : P.follows .mixedOrders = true:=by rfl) : (Code.region id l.toArray true).wp P Q ⟨T0,ds⟩ W:=by
 have he:=esOk_no (W:=W) hE
 have g:=good_of hB hl (esOk_of he).2
 have hp : planAsc n 0 pl = true:=by unfold serB at hB; simp only [Bool.and_eq_true] at hB; exact hB.1.2
 have hn : n < l.length:=by
  unfold headA at hH
  simp only [Bool.and_eq_true,decide_eq_true_eq] at hH
  exact hH.1.1.1
 refine wp_region_headedA n hm _ hH (SI.start (below_no hE) g he (Nat.le_of_lt hn) hp h) (fun T w hI=>SI.fin hI fun j hj=>by unfold headL; simp [List.getElem?_append,hj]) (eachOp_of fun i o ho=>?_)
 rw [Nat.zero_add]
 have hi:=(List.getElem?_eq_some_iff.1 ho).1
 rw [List.length_take] at hi
 rw [List.getElem?_take_of_lt oM] at ho
 exact SI.step g (by simpa using ho) oM
end Go.Proofs.YtjdemlfceaikgaaGreat
