/- torsionlaw29.InducedValid: whatever the input, it returns true, and the input reads as it did. No conditions. -/
import Derived.Test.YtjdemlfceaikgaaGreatRows
import Derived.Test.YtjdemlfceaikgaaGreatK22
import Derived.Test.YtjdemlfceaikgaaGreatK25
import Derived.Test.YtjdemlfceaikgaaGreatK26
import Derived.Test.YtjdemlfceaikgaaGreatK27
set_option linter.unusedVariables false
set_option linter.unusedSimpArgs false
set_option linter.unusedSectionVars false
namespace Go.Proofs.YtjdemlfceaikgaaGreat
open Go.RowKit
end Go.Proofs.YtjdemlfceaikgaaGreat

namespace Go.Proofs.YtjdemlfceaikgaaGreat
open Go.RowKit Go.Maps
structure VmS (a b : Cx) (m : Mp) (e : Nat) : Prop where
 ca : CxI 4 a
 cb : CxI 4 b
 val : ValM a b m
 sz : ∀g ∈ m,nrm g.2<=2 ^ e
theorem VmS.mps {a b : Cx} {m : Mp} {e : Nat} (h : VmS a b m e) : MpS m e:=h.val.mps h.ca h.cb oM h.sz
theorem MdS.vms {a b : Cx} {m : Mp} (h : MdS a b m) : VmS a b m (eB + 20):=⟨h.ca,h.cb,h.val,h.sz⟩
theorem append_types {P : Program} {t t2 ty e e2 : TypeId} (ht : P.underlying t = some (.slice e)) (ht2 : P.underlying t2 = some (.slice e2)) (v x : Value) (w : World) : (Builtin.append_ #[t,t2] ty #[v,x]).run P w = (Builtin.append_ #[t,t] ty #[v,x]).run P w:=by
 unfold Builtin.append_
 cases v <;> simp [Sem.run_bind,run_underlying ht,run_underlying ht2,Result.andThen]
set_option maxRecDepth 20000 in
theorem appF2 {w : World} {ops : Array Oper} {rest : List Oper} {o : Oper} {a : Act} {Q : Exit->Act->World->Prop} (hgd : o.guard = none) (s x : Operand) (t t2 : TypeId) (ht : Tryz.prog.underlying t = some (.slice tFc)) (ht2 : Tryz.prog.underlying t2 = some (.slice tFc))
  (ho : o.op = .call { callee:=.builtin .append,args:=#[s,x],argTypes:=#[t,t2] })
  (base : Nat) (v : Value) (xs : Ch) (hs : a.eval s = v) (hown : ChnO w base v xs) (yv : Value) (ys : Ch) (hx : a.eval x = yv) (hy : ChnV w yv ys) (hlen : xs.length + ys.length<=10000000) (hbase : base<=w.heap.size)
  (h : ∀v' w',ChnO w' base v' (xs ++ ys)->w.grownBy w' v.ownBlock->TE [tU] w w'->wpList Tryz.prog ops Q rest (a.put o.dst v') w') : wpList Tryz.prog ops Q (o :: rest) a w:=by
 obtain ⟨i0,hi,hz0,hz1,hz2⟩:=info_parts Tryz.infoF
 refine wpList_plain hgd fun _ hK=>?_
 obtain ⟨v',w',hr,h1,h2,h3⟩:=run_appLs (P:=Tryz.prog) faceE t o.type ht hi hz0 hz1 hz2 rfl dE hown hy oM hbase
 rw [<-append_types ht ht2] at hr
 unfold Oper.wp execOp
 simp only [ho,resolve,invoke,builtin,Sem.run_bind,Sem.run_pure,Result.andThen_ok,List.map_toArray,List.map_cons,List.map_nil,hs,hx,hr]
 exact hK _ _ (h v' w' h1 h2 h3)
set_option maxHeartbeats 8000000 in
set_option maxRecDepth 20000 in
theorem faces1_any (g : Nat) (p q : Int) (w : World) (h0 : w.cell? ⟨g,0,none⟩ = some (.int .i8 p)) (h1 : w.cell? ⟨g,1,none⟩ = some (.int .i8 q)) (hg : g < w.heap.size) (hp : -128<=p/\p<=127) (hq : -128<=q/\q<=127) :
  Calls Tryz.prog 64 #[.slice (some ⟨g,0,none⟩) 1 1] w fun e w'=>∃u,∃f : Int × Int,e = .returned u/\ChnO w' w.heap.size u [f]/\(0<=f.1/\f.1<=9)/\f.2.natAbs<=3/\Below w.heap.size w w':=by
 obtain ⟨pu,hpu⟩ : ∃t,IntKind.u8.wrap p = t:=⟨_,rfl⟩
 have hpb : 0<=pu/\pu<=255:=by rw [<-hpu,IntKind.wrap_u8]; omega
 obtain ⟨fi,hfi⟩ : ∃t,pu.tmod 10 = t:=⟨_,rfl⟩
 have hfb : 0<=fi/\fi<=9:=by rw [<-hfi,Int.tmod_eq_emod_of_nonneg hpb.1]; omega
 obtain ⟨fk,hfk⟩ : ∃t,q.tmod 4 = t:=⟨_,rfl⟩
 have hkb : -3<=fk/\fk<=3:=by
  rw [<-hfk]
  rcases Int.lt_or_le q 0 with hz0 | hz0
  ·have h1 : q.tmod 4 = -((-q) % 4):=by rw [<-Int.neg_neg q,Int.neg_tmod,Int.tmod_eq_emod_of_nonneg oM,Int.neg_neg]
   omega
  ·rw [Int.tmod_eq_emod_of_nonneg hz0]; omega
 have hw1 : IntKind.u8.wrap fi = fi:=IntWalk.u8_in _ oM
 have hw2 : IntKind.i64.wrap fi = fi:=IntWalk.i64_in _ oM
 have hw3 : IntKind.i8.wrap fk = fk:=IntWalk.i8_in _ oM
 have hw4 : IntKind.i64.wrap fk = fk:=IntWalk.i64_in _ oM
 have HW:=HidS.mk (And.intro hpu (And.intro hfi (And.intro hfk (And.intro hw1 (And.intro hw2 (And.intro hw3 hw4))))))
 have HC:=HidS.mk (And.intro h0 h1)
 clear hpu hfi hfk hw1 hw2 hw3 hw4 h0 h1
 go_enter Tryz.func64,Tryz.ntmps64
 have hO : HidS (ChnO (w.alloc (.cells #[] tFc)) w.heap.size (.slice (some ⟨w.heap.size,0,none⟩) 0 0) (([(fi,fk)] : Ch).take 0)):=⟨LsO.made faceE w (Nat.le_refl _)⟩
 have hal:=(Below.refl w.heap.size w).alloc (Nat.le_refl _) (.cells #[] tFc)
 go_wp2
 go_loopw [3,4] (fun u iv wr=>∃i : Nat,i<=1/\iv = .int .i64 i/\HidS (ChnO wr w.heap.size u (([(fi,fk)] : Ch).take i))/\Below w.heap.size w wr) (fun _ iv _=>1 - (intOf iv).toNat)
 case atStart=>exact ⟨0,by omega,rfl,hO,hal⟩
 case round=>
  clear hO hal
  obtain ⟨i,hi,rfl,hO,hB⟩:=hrel
  obtain ⟨uo,uc,rfl⟩:=LsO.shape hO.out
  rcases (by omega : i = 0 ∨ i = 1) with rfl | rfl
  ·obtain ⟨hpu,hfi,hfk,hw1,hw2,hw3,hw4⟩:=HW.out
   have c0:=(hB.cell (p:=⟨g,0,none⟩) hg).trans HC.out.1
   have c1:=(hB.cell (p:=⟨g,1,none⟩) hg).trans HC.out.2
   have h00 : ((0 : Nat) : Int) = 0:=rfl
   rw [h00]
   rw [show (([(fi,fk)] : Ch).take 0).length = 0 from rfl] at hO ⊢
   have hl1:=lasts_int fk
   have hl2:=lastsB_ls faceE [(fi,fk)]
   go_upto_region 5 with (fail)
   refine wp_serH 19 [pcD 16 [] (fun w v=>IntV w v fk),pcD 18 [16] (fun w v=>ChnV w v [(fi,fk)])] ?_
   refine sRd ?_
   refine sRc (fun wS hI Gk hG=>by go_simp; exact ck hG (r1of_any fk wS oM oM)) (fun _ hv=>?_)
   obtain ⟨_,-,s5,a5,l5,k5,_,rfl,-⟩:=hv
   refine sRd ?_
   refine sRc (fun wS hI h7 Gk hG=>?_) (fun v9 hv9=>?_)
   ·have hal:=(Below.refl wS.heap.size wS).alloc (Nat.le_refl _) (.cells #[.int .i64 fi,.bool s5,.slice a5 l5 k5] tFc)
    go_simp
    exact hG _ _ (ChnV.one (Blk.new _ _ _) (IntV.ext h7 (lx hal)))
   obtain ⟨_,-,hv9⟩:=hv9
   obtain ⟨x1,x2,x3,rfl⟩ : ∃o m q,v9 = .slice o m q:=(LsV.shape hv9).elim fun o h=>h.elim fun q h=>⟨o,_,q,h.1⟩
   clear hv9
   refine sRe ?_
   intro w9 hb9 _ h9
   have H9:=HidS.mk (show ChnV w9 (.slice x1 x2 x3) [(fi,fk)] from h9)
   have HO9:=HidS.mk (LsO.below hO.out hb9)
   have hB9:=nx hB hb9
   have hsz:=hB9.size
   clear h9 c0 c1 hpu hfi hfk hw1 hw2 hw3 hw4
   go_wp2_with (at_builtin; go_loud (refine appF2 rfl _ _ 47 47 Tryz.underlying47 Tryz.underlying47 rfl w.heap.size _ [] rfl HO9.out _ [(fi,fk)] rfl H9.out sI hsz ?_; intro v10 w10 hown10 hgr10 hte10))
   have hB10 : Below w.heap.size w w10:=hB9.grown hgr10 hsz (fun g hg=>by have:=HO9.out.own g hg; omega)
   have hO10 : HidS (ChnO w10 w.heap.size v10 (([(fi,fk)] : Ch).take 1)):=⟨hown10⟩
   clear hown10 hgr10 hte10
   go_roundw
   case rel=>exact ⟨1,by omega,by simp,hO10,hB10⟩
   case measure=>simp [intOf]
  ·have h11 : ((1 : Nat) : Int) = 1:=rfl
   rw [h11]
   go_wp2
   go_ret
   exact ⟨_,(fi,fk),rfl,hO.out,hfb,by show fk.natAbs<=3; omega,hB⟩
section
variable {α : Type} {e : El α} {w : World} {xs ys : List α} {base : Nat}
theorem LsV.put {b n cap i j0 : Nat} {x x' : α} {u : Value} (h : LsV e w (.slice (some ⟨b,0,none⟩) n cap) xs) (hi : xs[i]? = some x) (hj : j0 < e.k)
  (hE : ∀vs,e.E w vs x->e.E (w.setCell ⟨b,i * e.k + j0,none⟩ u) (vs.set j0 u) x') : LsV e (w.setCell ⟨b,i * e.k + j0,none⟩ u) (.slice (some ⟨b,0,none⟩) n cap) (xs.set i x'):=by
 obtain ⟨ao',n',cap',h1,h2,h3,h4,h5⟩:=h
 cases h1
 have hne : xs ≠ []:=by rintro rfl; simp at hi
 obtain ⟨b',cs,e4,e5,e6⟩:=h5 hne
 cases e4
 have hB : Blk w b e.T cs:=e5
 have hS:=hB.set_ (i * e.k + j0) u
 have hT : TE e.ts w (w.setCell ⟨b,i * e.k + j0,none⟩ u):=TE.setCell hB e.nt _ _
 have hil:=(List.getElem?_eq_some_iff.1 hi).1
 refine ⟨_,_,_,rfl,by rw [List.length_set]; exact h2,h3,h4,fun _=>⟨b,_,rfl,hS,fun i' y hy=>?_⟩⟩
 have hdis : ∀{i' j : Nat},i' ≠ i->j < e.k->i' * e.k + j ≠ i * e.k + j0:=fun {i' j} hne hjk=>by
  rcases Nat.lt_or_gt_of_ne hne with h | h
  ·have:=Nat.mul_le_mul_right e.k h
   rw [Nat.succ_mul] at this
   omega
  ·have:=Nat.mul_le_mul_right e.k h
   rw [Nat.succ_mul] at this
   omega
 by_cases hii : i' = i
 ·subst hii
  obtain ⟨vs,e7,e8⟩:=e6 _ _ hi
  rw [List.getElem?_set_self hil] at hy
  cases hy
  refine ⟨vs.set j0 u,fun j v hv=>?_,hE vs e8⟩
  by_cases hjj : j = j0
  ·subst hjj
   have hvl : j < vs.length:=by rw [e.len e8]; exact hj
   rw [List.getElem?_set_self hvl] at hv
   have hcl:=(List.getElem?_eq_some_iff.1 (show vs[j]? = some vs[j] from List.getElem?_eq_getElem hvl)).1
   have h9:=e7 j _ (List.getElem?_eq_getElem hvl)
   have hsz:=(Array.getElem?_eq_some_iff.1 h9).1
   rw [<-hv]
   simp [hsz]
  ·rw [List.getElem?_set_ne (Ne.symm hjj)] at hv
   rw [Array.getElem?_setIfInBounds_ne oM]
   exact e7 j v hv
 ·rw [List.getElem?_set_ne (Ne.symm hii)] at hy
  obtain ⟨vs,e7,e8⟩:=e6 _ _ hy
  refine ⟨vs,fun j v hv=>?_,e.st hT e8⟩
  have hjk : j < e.k:=by rw [<-e.len e8]; exact (List.getElem?_eq_some_iff.1 hv).1
  rw [Array.getElem?_setIfInBounds_ne (fun h=>hdis hii hjk h.symm)]
  exact e7 j v hv
theorem LsO.take {ao : Option Addr} {n cap m : Nat} (h : LsO e w base (.slice ao n cap) xs) (hm : m<=xs.length) : LsO e w base (.slice ao m cap) (xs.take m):=by
 obtain ⟨L,l1,l2,l3,l4⟩:=h.chunks
 have hl : (L.take m).flatten.length = m * e.k:=by
  rw [flat_len (k:=e.k) (fun l hl=>l4 l (List.mem_of_mem_take hl)),List.length_take]
  congr 1
  omega
 have hf : (L.take m).flatten = L.flatten.take (m * e.k):=by
  have h1 : L.flatten = (L.take m).flatten ++ (L.drop m).flatten:=by rw [<-List.flatten_append,List.take_append_drop]
  rw [h1,List.take_append_of_le_length (by rw [hl]; exact Nat.le_refl _)]
  exact (List.take_of_length_le (by rw [hl]; exact Nat.le_refl _)).symm
 refine ⟨L.take m,⟨by rw [hl,List.length_take]; congr 1; omega,?_⟩,by rw [List.length_take,List.length_take]; omega,fun i vs x g1 g2=>?_⟩
 ·rcases l1.2 with ⟨h1,h2⟩ | ⟨g,cap',cur,h1,k1,k2,k3,k4,k5,k6⟩
  ·cases h1
   have : m = 0:=by omega
   subst this
   exact .inl ⟨rfl,by simp⟩
  ·cases h1
   refine .inr ⟨g,cap,cur,by rw [List.length_take]; congr 1; omega,k1,k2,by rw [List.length_take]; omega,k4,k5,?_⟩
   rw [hf,<-k6,List.take_take,List.length_take]
   congr 1
   have:=Nat.mul_le_mul_right e.k hm
   rw [Nat.min_eq_left hm,Nat.min_eq_left this]
 ·rw [List.getElem?_take] at g1 g2
  split at g1
  ·rename_i hlt
   rw [if_pos hlt] at g2
   exact l3 i vs x g1 g2
  ·cases g1
theorem run_appDrop {P : Program} (e : El α) (t ty : TypeId) {i0 : TypeInfo} {z : Value} {bytes : Nat} (ht : P.underlying t = some (.slice e.T)) (hi : P.info? e.T = some i0) (hz : i0.zero = some z) (hsz : i0.size = e.k) (hby : i0.bytes = bytes) (hzs : z.cells.size = e.k) (hb : bytes<=100)
  {b n cap i j c : Nat} (hown : LsO e w base (.slice (some ⟨b,0,none⟩) n cap) xs) (hij : i<=xs.length) (hj : j<=xs.length) (hlen : xs.length<=100000000) (hbase : base<=w.heap.size) :
  ∃v' w',(Builtin.append_ #[t,t] ty #[.slice (some ⟨b,0,none⟩) i cap,.slice (some ⟨b,j * e.k,none⟩) (xs.length - j) c]).run P w = .ok v' w'/\LsO e w' base v' (xs.take i ++ xs.drop j)/\w.grownBy w' (some b)/\TE e.ts w w':=by
 have htk:=hown.take hij
 by_cases h0 : xs.length - j = 0
 ·have h1 : xs.drop j = []:=List.drop_eq_nil_of_le oM
  rw [h0,h1,List.append_nil]
  exact ⟨_,w,run_append_none P w t ty e.T i0 ht hi _ i cap (fun h=>by cases h) (by have:=htk.vs.len.2.1; exact this) _ _,htk,⟨rfl,rfl,rfl,Nat.le_refl _,fun _ _ _=>rfl⟩,TE.refl _ _⟩
 ·obtain ⟨b',M,e1,m1,m2,m3,m4⟩:=hown.vs.chunks (by rintro rfl; simp at h0)
  cases e1
  obtain ⟨L,l1,l2,l3,l4⟩:=htk.chunks
  have d3 : ∀l ∈ M.drop j,l.length = e.k:=fun l hl=>m3 l (List.mem_of_mem_drop hl)
  have hli : (xs.take i).length = i:=by rw [List.length_take]; omega
  have hp : (i + (xs.length - j)) * bytes<=200000000 * 100:=Nat.mul_le_mul oM hb
  rw [hli] at l1
  obtain ⟨v',w',hr,k1,k2,-⟩:=run_append_own (P:=P) w base t ty e.T i0 z e.k bytes ht hi hz hsz hby hzs e.pos _ i _ l1 ⟨b,j * e.k,none⟩ (xs.length - j) c (M.drop j).flatten (by rw [flat_len d3,List.length_drop,m1]) (fun q u hq=>by
   obtain ⟨i1,j1,l,rfl,h7,h8⟩:=flat_inv e.pos d3 hq
   rw [List.getElem?_drop] at h7
   have h9:=m4 _ u (flat_at m3 h7 h8)
   rw [Addr.add_lit]
   rw [show (j + i1) * e.k + j1 = j * e.k + (i1 * e.k + j1) by rw [Nat.add_mul]; omega] at h9
   exact h9) (fun u hu=>by
   obtain ⟨l,hl,hu⟩:=List.mem_flatten.1 hu
   obtain ⟨i1,hi1,rfl⟩:=List.getElem_of_mem (List.mem_of_mem_drop hl)
   exact e.one (m2 i1 _ _ (List.getElem?_eq_getElem hi1) (List.getElem?_eq_getElem oM)) u hu) (by simp [maxLen]; omega) oM hbase
  have hT:=TE.grown l1 e.nt k2
  have hl2 : (L ++ M.drop j).length = (xs.take i ++ xs.drop j).length:=by rw [List.length_append,List.length_append,l2,List.length_drop,List.length_drop,m1]
  refine ⟨v',w',hr,⟨L ++ M.drop j,by rw [List.flatten_append,List.length_append,hli,List.length_drop]; exact k1,hl2,fun i1 vs x g1 g2=>?_⟩,k2,hT⟩
  rcases Nat.lt_or_ge i1 L.length with g | g
  ·rw [List.getElem?_append_left g] at g1
   rw [List.getElem?_append_left oM] at g2
   exact e.st hT (l3 i1 vs x g1 g2)
  ·rw [List.getElem?_append_right g,List.getElem?_drop] at g1
   rw [List.getElem?_append_right oM,<-l2,List.getElem?_drop] at g2
   exact e.st hT (m2 _ vs x g1 g2)
end
set_option maxRecDepth 20000 in
theorem appImDrop {w : World} {ops : Array Oper} {rest : List Oper} {o : Oper} {a : Act} {Q : Exit->Act->World->Prop} (hgd : o.guard = none) (s x : Operand)
  (ho : o.op = .call { callee:=.builtin .append,args:=#[s,x],argTypes:=#[33,33] })
  (base : Nat) (xs : Mp) (b n cap i j c : Nat) (hown : MapO w base (.slice (some ⟨b,0,none⟩) n cap) xs) (hij : i<=xs.length) (hj : j<=xs.length) (hs : a.eval s = .slice (some ⟨b,0,none⟩) i cap) (hx : a.eval x = .slice (some ⟨b,j * 2,none⟩) (xs.length - j) c) (hlen : xs.length<=10000000) (hbase : base<=w.heap.size)
  (h : ∀v' w',MapO w' base v' (xs.take i ++ xs.drop j)->w.grownBy w' (some b)->TE [tFc,tU] w w'->wpList Tryz.prog ops Q rest (a.put o.dst v') w') : wpList Tryz.prog ops Q (o :: rest) a w:=by
 obtain ⟨i0,hi,hz0,hz1,hz2⟩:=info_parts Tryz.infoIm
 refine wpList_plain hgd fun _ hK=>?_
 obtain ⟨v',w',hr,h1,h2,h3⟩:=run_appDrop (P:=Tryz.prog) imgE 33 o.type (c:=c) Tryz.underlying33 hi hz0 hz1 hz2 rfl dE hown hij hj oM hbase
 rw [show imgE.k = 2 from rfl] at hr
 unfold Oper.wp execOp
 simp only [ho,resolve,invoke,builtin,Sem.run_bind,Sem.run_pure,Result.andThen_ok,List.map_toArray,List.map_cons,List.map_nil,hs,hx,hr]
 exact hK _ _ (h v' w' h1 h2 h3)
structure NS (m : Mp) (e : Nat) : Prop where
 sz : ∀g ∈ m,nrm g.2<=2 ^ e + 3
 ln : ∀g ∈ m,g.2.length<=12
 id : ∀g ∈ m,∀p ∈ g.2,I64 p.1
 n12 : m.length<=12
structure NS0 (m : Mp) (e : Nat) : Prop where
 sz : ∀g ∈ m,nrm g.2<=2 ^ e
 ln : ∀g ∈ m,g.2.length<=11
 id : ∀g ∈ m,∀p ∈ g.2,I64 p.1
 n11 : m.length<=11
theorem NS0.ns {m : Mp} {e : Nat} (h : NS0 m e) : NS m e:=⟨fun g hg=>by have:=h.sz g hg; omega,fun g hg=>by have:=h.ln g hg; omega,h.id,by have:=h.n11; omega⟩
theorem NS.set {m : Mp} {e i : Nat} {q : Int × Ch} (h : NS m e) (h1 : nrm q.2<=2 ^ e + 3) (h2 : q.2.length<=12) (h3 : ∀p ∈ q.2,I64 p.1) : NS (m.set i q) e:=by
 have key : ∀g ∈ m.set i q,g ∈ m ∨ g = q:=fun g hg=>List.mem_or_eq_of_mem_set hg
 refine ⟨fun g hg=>?_,fun g hg=>?_,fun g hg=>?_,by rw [List.length_set]; exact h.n12⟩
 ·rcases key g hg with k | rfl
  ·exact h.sz g k
  ·exact h1
 ·rcases key g hg with k | rfl
  ·exact h.ln g k
  ·exact h2
 ·rcases key g hg with k | rfl
  ·exact h.id g k
  ·exact h3
theorem NS0.app {m : Mp} {e : Nat} {z : Int} (h : NS0 m e) : NS (m ++ [(z,[])]) e:=by
 have key : ∀g ∈ m ++ [(z,([] : Ch))],g ∈ m ∨ g = (z,[]):=fun g hg=>by
  rcases List.mem_append.1 hg with k | k
  ·exact .inl k
  ·exact .inr (List.mem_singleton.1 k)
 refine ⟨fun g hg=>?_,fun g hg=>?_,fun g hg=>?_,by rw [List.length_append]; have:=h.n11; simp; omega⟩
 ·rcases key g hg with k | rfl
  ·exact h.ns.sz g k
  ·exact Nat.zero_le _
 ·rcases key g hg with k | rfl
  ·exact h.ns.ln g k
  ·exact Nat.zero_le _
 ·rcases key g hg with k | rfl
  ·exact h.id g k
  ·intro p hp; cases hp
theorem NS0.drop {m : Mp} {e i : Nat} (h : NS0 m e) : NS (m.take i ++ m.drop (i + 1)) e:=by
 have key : ∀g ∈ m.take i ++ m.drop (i + 1),g ∈ m:=fun g hg=>by
  rcases List.mem_append.1 hg with k | k
  ·exact List.mem_of_mem_take k
  ·exact List.mem_of_mem_drop k
 refine ⟨fun g hg=>h.ns.sz g (key g hg),fun g hg=>h.ns.ln g (key g hg),fun g hg=>h.id g (key g hg),?_⟩
 have:=h.n11
 rw [List.length_append,List.length_take,List.length_drop]
 omega
structure FaS (x : Ch) (ff : Int × Int) (e : Nat) : Prop where
 s1 : SmN (nrm [ff])
 s2 : SmN (nrm x + (1 : Int).natAbs * nrm (makC [ff]))/\SmN (1 : Int).natAbs/\SmN (nrm (makC [ff]))/\x.length + (makC [ff]).length<=1000000
 p1 : nrm (plusC x (makC [ff]) 1)<=2 ^ e + 3
 p2 : (plusC x (makC [ff]) 1).length<=12
 p3 : ∀p ∈ plusC x (makC [ff]) 1,I64 p.1
 a1 : nrm (x ++ [ff])<=2 ^ e + 3
 a2 : (x ++ [ff]).length<=12
 a3 : ∀p ∈ x ++ [ff],I64 p.1
theorem fas_ok {x : Ch} {ff : Int × Int} {e : Nat} (he : e<=10000000) (h1 : nrm x<=2 ^ e) (h2 : x.length<=11) (h3 : ∀p ∈ x,I64 p.1) (hi : 0<=ff.1/\ff.1<=9) (hk : ff.2.natAbs<=3) : FaS x ff e:=by
 have n1 : nrm [ff]<=3:=by simp only [nrm]; omega
 have n2:=nrm_mak_from (l:=[ff]) (a:=[])
 have n3:=mak_len (l:=[ff]) (a:=[])
 have n4 : nrm (makC [ff])<=3:=by unfold makC; simp only [nrm] at n1 n2 ⊢; omega
 have n5 : (makC [ff]).length<=1:=by unfold makC; simp at n3 ⊢; exact n3
 have n6:=nrm_add (a:=x) (b:=makC [ff]) (k:=1)
 have n7:=addC_len (a:=x) (b:=makC [ff]) (k:=1)
 have n8 : (1 : Int).natAbs = 1:=rfl
 rw [n8,Nat.one_mul] at n6
 have hff : I64 ff.1:=by unfold I64; omega
 have p0 : 1<=2 ^ e:=Nat.pow_pos dE
 have p2 : 2 ^ (e + 2) = 2 ^ e * 4:=Nat.pow_add 2 e 2
 have sm : ∀{k : Nat},k<=2 ^ e + 3->SmN k:=fun hk=>two_pow_le (e:=e + 2) oM (by unfold LIM; omega)
 refine ⟨sm oM,⟨sm (by rw [n8,Nat.one_mul]; omega),sm (by rw [n8]; omega),sm oM,by omega⟩,by omega,by omega,fun p hp=>?_,by rw [nrm_app]; omega,by rw [List.length_append]; simp; omega,fun p hp=>?_⟩
 ·rcases addC_mem hp with ⟨q,h4,h5⟩ | ⟨q,h4,h5⟩
  ·rw [<-h5]; exact h3 q h4
  ·rcases makC_mem h4 with ⟨t,h6,-⟩ | ⟨t,h6,h7⟩
   ·cases h6
   ·rw [<-h5,<-h7,List.mem_singleton.1 h6]; exact hff
 ·rcases List.mem_append.1 hp with h4 | h4
  ·exact h3 p h4
  ·rw [List.mem_singleton.1 h4]; exact hff
set_option maxHeartbeats 16000000 in
set_option maxRecDepth 20000 in
theorem spoilt_any (va : Value) (m : Mp) (x y : Nat) (f0 f1 : Int) (e9 : Nat) (w : World) (hm : MapV w va m) (hN : NS0 m e9) (he : e9<=10000000) (hx : x<=255) (hy : y<=255) (hf0 : -128<=f0/\f0<=127) (hf1 : -128<=f1/\f1<=127) :
  Calls Tryz.prog 21 #[va,.agg #[.int .u8 x,.int .u8 y,.int .i8 f0,.int .i8 f1]] w fun e w'=>∃u n,e = .returned u/\MapV w' u n/\NS n e9/\Below w.heap.size w w':=by
 obtain ⟨mo,mc,rfl,-,-⟩:=id hm.shape
 obtain ⟨n,hmn⟩ : ∃n,m.length = n:=⟨_,rfl⟩
 have hn11 : n<=11:=by have:=hN.n11; omega
 rw [hmn] at hm ⊢
 have HM:=HidS.mk hm
 have HMN:=HidS.mk hmn
 have HNS:=HidS.mk hN
 have HE:=HidS.mk he
 have hwy : IntKind.i64.wrap (y : Int) = (y : Int):=IntWalk.i64_in _ oM
 clear hm hmn hN he
 go_enter Tryz.func21,Tryz.ntmps21
 go_upto_region 1 with (fail)
 refine wp_world ?_
 intro W0 hW0
 obtain ⟨hB0,T4,hs0⟩:=world1 hW0
 have HT4:=HidS.mk T4
 have hal:=(Below.refl W0.heap.size W0).alloc (Nat.le_refl _) (.cells #[] tIm)
 have HO0 : HidS (MapO (W0.alloc (.cells #[] tIm)) W0.heap.size (.slice (some ⟨W0.heap.size,0,none⟩) 0 0) []):=⟨LsO.made imgE W0 (Nat.le_refl _)⟩
 have HM0:=HidS.mk ((HM.out.below hB0).below hal)
 have hB1:=nx hB0 hal
 have hs1:=hal.size
 clear hW0 T4
 go_upto_region 2 with (at_builtin; go_loud (refine appIm rfl _ _ rfl W0.heap.size _ [] rfl HO0.out _ m rfl HM0.out (by rw [HMN.out]; simp; omega) hs1 ?_; intro v2 w2 hown2 hgr2 hte2))
 obtain ⟨o2,k2,rfl⟩:=LsO.shape hown2
 have hb2 : Below W0.heap.size W0 w2:=hal.grown hgr2 hs1 (fun g hg=>by have:=HO0.out.own g hg; omega)
 have hB2:=nx hB0 hb2
 rw [List.nil_append,HMN.out] at hown2
 rw [show ([] ++ m : Mp).length = n from HMN.out]
 have HO2:=HidS.mk hown2
 have hs2:=hb2.size
 have T4:=HT4.out.below hb2
 have HT4:=HidS.mk T4
 clear hown2 hgr2 hte2 hal hb2 hB1 T4 hs1
 by_cases hn0 : n = 0
 ·subst hn0
  have d1:=HT4.out.cell 1
  simp at d1
  have hal:=(Below.refl w2.heap.size w2).alloc (Nat.le_refl _) (.cells #[.int .i64 y,.slice none 0 0] tIm)
  have HN:=HidS.mk (im_one (i:=(y : Int)) (LsV.nil faceE w2 none 0 (Nat.zero_le _)))
  have HO3:=HidS.mk (HO2.out.below hal)
  have hB3:=nx hB2 hal
  have hs3:=hal.size
  clear hal
  go_wp2_with (at_builtin; go_loud (refine appIm rfl _ _ rfl W0.heap.size _ m rfl HO3.out _ [((y : Int),[])] rfl HN.out (by rw [HMN.out]; simp) (by simp; omega) ?_; intro v9 w9 hown9 hgr9 hte9))
  obtain ⟨o9,k9,rfl⟩:=LsO.shape hown9
  have hs0':=hB0.size
  have hB9 : Below w.heap.size w w9:=hB3.grown hgr9 hB3.size (fun g hg=>by have:=HO3.out.own g hg; omega)
  have H9:=HidS.mk hown9.vs
  clear hown9 hgr9 hte9
  go_wp2
  go_ret
  exact ⟨_,_,rfl,H9.out,HNS.out.app,hB9⟩
 ·obtain ⟨i,hi⟩ : ∃i,y % n = i:=⟨_,rfl⟩
  have hin : i < n:=by rw [<-hi]; exact Nat.mod_lt _ oM
  have hrm : (y : Int).tmod (n : Int) = (i : Int):=by rw [<-hi]; rfl
  have hwi : IntKind.i64.wrap (i : Int) = (i : Int):=IntWalk.i64_in _ oM
  have hnI : ¬ ((n : Int) = 0):=by omega
  have hnB : ((n : Int) == 0) = false:=by simpa using hnI
  obtain ⟨f,hf⟩:=lt_get HMN.out hin
  have HF:=HidS.mk hf
  have T4:=HT4.out
  have d0:=T4.cell 0
  have d1:=T4.cell 1
  have d2:=T4.cell 2
  have d3:=T4.cell 3
  simp at d0 d1 d2 d3
  clear hf T4 hi
  go_wp2_with fail
  have hal:=(Below.refl w2.heap.size w2).alloc (Nat.le_refl _) (.cells #[.int .i8 f0,.int .i8 f1] 56)
  have TA:=Blk.new w2 56 #[.int .i8 f0,.int .i8 f1]
  refine (faces1_any w2.heap.size f0 f1 _ sI sI sI hf0 hf1).mono ?_
  rintro e w3 ⟨u3,ff,rfl,h3,hfi,hfk,hb3⟩
  obtain ⟨fo,fc,rfl⟩:=LsO.shape h3
  rw [show ([ff] : Ch).length = 1 from rfl] at h3 ⊢
  have hb23:=nx hal hb3
  have HFC:=HidS.mk h3.vs
  have HO3:=HidS.mk (HO2.out.below hb23)
  have HT3:=HidS.mk (HT4.out.below hb23)
  have hB3:=nx hB2 hb23
  have hs3 : W0.heap.size<=w3.heap.size:=by have:=hb23.size; omega
  have hw0:=hB0.size
  have HFF:=HidS.mk (And.intro hfi hfk)
  clear hal TA h3 hb3 hb23 d0 d1 d2 d3 hfi hfk hnI hnB hwi hrm
  obtain ⟨b,o4,k4,rfl,hbl,g1,g2,hv4⟩:=HO3.out.vs.img HF.out
  obtain ⟨cs,hcs⟩ : ∃cs,Blk w3 b tIm cs:=by
   obtain ⟨_,_,_,e1,-,-,-,e5⟩:=HO3.out.vs
   cases e1
   obtain ⟨_,cs,e6,e7,-⟩:=e5 (by rintro rfl; have:=HF.out; simp at this)
   cases e6
   exact ⟨cs,e7⟩
  have hz0:=hcs.frozen (i * 2)
  have hz1:=hcs.frozen (i * 2 + 1)
  have hbw : w.heap.size<=b:=by have:=(HO3.out.own b rfl).1; omega
  have HV4:=HidS.mk hv4
  have HCS:=HidS.mk hcs
  have T4:=HT3.out
  have d0:=T4.cell 0
  have d2:=T4.cell 2
  have d3:=T4.cell 3
  simp at d0 d2 d3
  have HNF:=HidS.mk (And.intro (HNS.out.sz f (List.mem_of_getElem? HF.out)) (And.intro (HNS.out.ln f (List.mem_of_getElem? HF.out)) (HNS.out.id f (List.mem_of_getElem? HF.out))))
  clear hv4 hcs T4
  have HFS:=HidS.mk (fas_ok HE.out HNF.out.1 HNF.out.2.1 HNF.out.2.2 HFF.out.1 HFF.out.2)
  obtain ⟨r,hr⟩ : ∃r,x % 6 = r:=⟨_,rfl⟩
  have hr6 : r < 6:=by omega
  have hrx : (x : Int).tmod 6 = (r : Int):=by rw [<-hr]; rfl
  have hwr : IntKind.u8.wrap (r : Int) = (r : Int):=IntWalk.u8_in _ oM
  clear hr
  rcases (by omega : r = 0 ∨ r = 1 ∨ r = 2 ∨ r = 3 ∨ r = 4 ∨ r = 5) with rfl | rfl | rfl | rfl | rfl | rfl
  ·have h55 : ((0 : Nat) : Int) = 0:=rfl
   rw [h55] at hrx hwr
   have hl1:=lastsB_ls faceE (makC [ff])
   have hl2:=lasts_int 1
   have hl3:=lastsB_ls faceE (plusC f.2 (makC [ff]) 1)
   go_upto_region 9 with (fail)
   refine wp_serH 11 [pcD 8 [] (fun w v=>ChnV w v (makC [ff])),pcD 9 [] (fun w v=>IntV w v 1),pcD 10 [8,9] (fun w v=>ChnV w v (plusC f.2 (makC [ff]) 1))] ?_
   refine sRd ?_
   refine sRc (fun wS hI Gk hG=>by go_simp; exact ck hG (cmake_any _ [ff] wS (HFC.out.below hI.bel) HFS.out.s1 sI)) (fun _ hv=>?_)
   obtain ⟨_,-,hv⟩:=hv
   obtain ⟨o8,k8,rfl,-,-⟩:=LsV.shape hv
   clear hv
   refine sRc (fun wS hI Gk hG=>by go_simp; exact ck hG (r1of_any 1 wS oM oM)) (fun _ hv=>?_)
   obtain ⟨_,-,s9,a9,l9,k9,_,rfl,-⟩:=hv
   refine sRc (fun wS hI h8 h9 Gk hG=>by go_simp; exact ck hG (cadd_any _ _ _ f.2 (makC [ff]) 1 wS (HV4.out.below hI.bel) h8 h9 HFS.out.s2.1 HFS.out.s2.2.1 HFS.out.s2.2.2.1 HFS.out.s2.2.2.2)) (fun _ hv=>?_)
   obtain ⟨_,-,hv⟩:=hv
   obtain ⟨o10,k10,rfl,-,-⟩:=LsV.shape hv
   clear hv
   refine sRe ?_
   intro w5 hb5 _ _ h10
   have H10:=HidS.mk (show ChnV w5 _ (plusC f.2 (makC [ff]) 1) from h10)
   have hc5:=HCS.out.below hb5
   have hz5:=hc5.frozen (i * 2 + 1)
   have g5:=(hb5.cell (p:=⟨b,i * 2 + 1,none⟩) hbl).trans g2
   have hB5:=nx hB3 hb5
   have HP:=HidS.mk (LsV.put (j0:=1) (x':=(f.1,plusC f.2 (makC [ff]) 1)) (u:=.slice o10 (plusC f.2 (makC [ff]) 1).length k10) (HO3.out.below hb5).vs HF.out dE (fun vs ⟨v,h1,h2⟩=>⟨_,by rw [h1]; rfl,LsV.te H10.out (TE.setCell hc5 dE _ _)⟩))
   clear h10 g1 g2 hz0 hz1 hc5 d0 d2 d3
   go_wp2
   go_ret
   exact ⟨_,_,rfl,HP.out,HNS.out.ns.set HFS.out.p1 HFS.out.p2 HFS.out.p3,bset hB5 hbw _ _⟩
  ·have h55 : ((1 : Nat) : Int) = 1:=rfl
   rw [h55] at hrx hwr
   obtain ⟨q2,hq2⟩ : ∃t,f1.tmod 2 = t:=⟨_,rfl⟩
   have hqb : -1<=q2/\q2<=1:=by
    rw [<-hq2]
    rcases Int.lt_or_le f1 0 with hz0 | hz0
    ·have h1 : f1.tmod 2 = -((-f1) % 2):=by rw [<-Int.neg_neg f1,Int.neg_tmod,Int.tmod_eq_emod_of_nonneg oM,Int.neg_neg]
     omega
    ·rw [Int.tmod_eq_emod_of_nonneg hz0]; omega
   have hw82 : IntKind.i8.wrap q2 = q2:=IntWalk.i8_in _ oM
   have hw642 : IntKind.i64.wrap q2 = q2:=IntWalk.i64_in _ oM
   obtain ⟨z,hz⟩ : ∃t,IntKind.i64.wrap (f.1 + q2) = t:=⟨_,rfl⟩
   have HZ:=HidS.mk hz
   go_upto_region 11 with (fail)
   refine wp_serH 11 [pcD 10 [] (fun _ v=>v = .int .i64 z)] ?_
   refine sRd ?_
   refine sRc (fun wS hI Gk hG=>by go_simp; exact ⟨hG _ _ rfl,Below.refl _ _⟩) (fun va3 hv3=>?_)
   obtain ⟨_,-,hv3⟩:=hv3
   obtain rfl : va3 = .int .i64 z:=hv3
   refine sRe ?_
   intro w5 hb5 _
   have hc5:=HCS.out.below hb5
   have hz5:=hc5.frozen (i * 2)
   have g5:=(hb5.cell (p:=⟨b,i * 2,none⟩) hbl).trans g1
   have hB5:=nx hB3 hb5
   have HP:=HidS.mk (LsV.put (j0:=0) (x':=(z,f.2)) (u:=.int .i64 z) (HO3.out.below hb5).vs HF.out dE (fun vs ⟨v,h1,h2⟩=>⟨v,by rw [h1]; rfl,LsV.te h2 (TE.setCell hc5 dE _ _)⟩))
   clear g1 g2 hz0 hz1 hc5 d0 d2 d3 hq2 hw82 hw642 hz
   go_wp2
   go_ret
   exact ⟨_,_,rfl,HP.out,HNS.out.ns.set (by show nrm f.2<=_; have:=HNF.out.1; omega) (by show f.2.length<=_; have:=HNF.out.2.1; omega) HNF.out.2.2,bset hB5 hbw _ _⟩
  ·have h55 : ((2 : Nat) : Int) = 2:=rfl
   rw [h55] at hrx hwr
   obtain ⟨j,hj⟩ : ∃t,i + 1 = t:=⟨_,rfl⟩
   have hjI : (i : Int) + 1 = (j : Int):=by omega
   have hwj : IntKind.i64.wrap (j : Int) = (j : Int):=IntWalk.i64_in _ oM
   have hjn : (j : Int)<=(n : Int):=by omega
   have hjn2 : j<=n:=by omega
   have hiI : (i : Int)<=(n : Int):=by omega
   have hiI2 : i<=n:=by omega
   have hcap:=HO3.out.vs.len.2
   have hik : i<=k2:=by omega
   have hikI : (i : Int)<=(k2 : Int):=by omega
   have hnk : (n : Int)<=(k2 : Int):=by omega
   have HJ:=HidS.mk hj
   clear hj
   by_cases hkj : k2 = j
   ·have HKJ:=HidS.mk hkj
    clear hkj
    go_upto_region 13 with (fail)
    refine wp_serH 7 [pcD 2 [] (fun _ v=>v = .slice (some ⟨b,0,none⟩) i k2),pcD 5 [] (fun _ v=>v = .int .i64 j),pcD 6 [5] (fun _ v=>∃c,v = .slice (some ⟨b,0,none⟩) (n - j) c/\c<=9223372036854775807)] ?_
    refine sRd ?_
    refine sRc (fun wS hI Gk hG=>by go_simp; exact ⟨hG _ _ rfl,Below.refl _ _⟩) (fun _ hv=>?_)
    obtain ⟨_,-,rfl⟩:=hv
    refine sRd ?_
    refine sRc (fun wS hI Gk hG=>by go_simp; exact ⟨hG _ _ rfl,Below.refl _ _⟩) (fun _ hv=>?_)
    obtain ⟨_,-,rfl⟩:=hv
    refine sRc (fun wS hI h5 Gk hG=>by
     go_simp
     first
      | exact ⟨hG _ _ ⟨_,rfl,by have:=hcap; omega⟩,Below.refl _ _⟩
      | (rw [if_pos HKJ.out]; exact ⟨hG _ _ ⟨_,rfl,by have:=hcap; omega⟩,Below.refl _ _⟩)) (fun _ hv=>?_)
    obtain ⟨_,-,c6,rfl,hc6⟩:=hv
    refine sRe ?_
    intro w5 hb5 _ _ _
    have HO5:=HidS.mk (HO3.out.below hb5)
    have hs5:=hb5.size
    clear g1 g2 hz0 hz1 d0 d2 d3 hjI hwj
    have HNJ : HidS (n - j = 0):=⟨by have:=HKJ.out; omega⟩
    have HTK : HidS (MapO w5 W0.heap.size (.slice (some ⟨b,0,none⟩) i k2) (m.take i)):=⟨HO5.out.take (by rw [HMN.out]; exact hiI2)⟩
    have HDR : HidS (NS (m.take i) e9):=⟨by
     have h1:=HNS.out.drop (i:=i)
     rw [List.drop_eq_nil_of_le (by rw [HMN.out]; have:=HJ.out; have:=HNJ.out; omega),List.append_nil] at h1
     exact h1⟩
    go_wp2_with (at_builtin; go_loud (refine appIm rfl _ _ rfl W0.heap.size _ (m.take i) rfl HTK.out _ [] rfl (by rw [HNJ.out]; exact LsV.nil _ _ _ _ hc6) (by rw [List.length_take,HMN.out]; simp; omega) oM ?_; intro v9 w9 hown9 hgr9 hte9))
    rw [List.append_nil] at hown9
    obtain ⟨o9,k9,rfl⟩:=LsO.shape hown9
    obtain ⟨l9,hl9⟩ : ∃t,List.length (m.take i) = t:=⟨_,rfl⟩
    rw [hl9] at hown9 ⊢
    have hB9 : Below w.heap.size w w9:=(nx hB3 hb5).grown hgr9 (nx hB3 hb5).size (fun g hg=>by cases hg; exact hbw)
    have HR:=HidS.mk hown9.vs
    clear hown9 hgr9 hte9
    go_wp2
    go_ret
    first | exact ⟨_,rfl,_,HR.out,HDR.out,hB9⟩ | exact ⟨_,_,rfl,HR.out,HDR.out,hB9⟩
   ·have HKJ:=HidS.mk hkj
    clear hkj
    go_upto_region 13 with (fail)
    refine wp_serH 7 [pcD 2 [] (fun _ v=>v = .slice (some ⟨b,0,none⟩) i k2),pcD 5 [] (fun _ v=>v = .int .i64 j),pcD 6 [5] (fun _ v=>∃c,v = .slice (some ⟨b,j * 2,none⟩) (n - j) c)] ?_
    refine sRd ?_
    refine sRc (fun wS hI Gk hG=>by go_simp; exact ⟨hG _ _ rfl,Below.refl _ _⟩) (fun _ hv=>?_)
    obtain ⟨_,-,rfl⟩:=hv
    refine sRd ?_
    refine sRc (fun wS hI Gk hG=>by go_simp; exact ⟨hG _ _ rfl,Below.refl _ _⟩) (fun _ hv=>?_)
    obtain ⟨_,-,rfl⟩:=hv
    refine sRc (fun wS hI h5 Gk hG=>by
     go_simp
     first
      | exact ⟨hG _ _ ⟨_,rfl⟩,Below.refl _ _⟩
      | (rw [if_neg HKJ.out]; exact ⟨hG _ _ ⟨_,rfl⟩,Below.refl _ _⟩)) (fun _ hv=>?_)
    obtain ⟨_,-,c6,rfl⟩:=hv
    refine sRe ?_
    intro w5 hb5 _ _ _
    have HO5:=HidS.mk (HO3.out.below hb5)
    have hs5:=hb5.size
    clear g1 g2 hz0 hz1 d0 d2 d3 hjI hwj
    go_wp2_with (at_builtin; go_loud (refine appImDrop rfl _ _ rfl W0.heap.size m b n k2 i j c6 HO5.out (by rw [HMN.out]; exact hiI2) (by rw [HMN.out]; exact hjn2) rfl (by rw [HMN.out]; rfl) (by rw [HMN.out]; omega) oM ?_; intro v9 w9 hown9 hgr9 hte9))
    have hj:=HJ.out
    subst hj
    obtain ⟨o9,k9,rfl⟩:=LsO.shape hown9
    obtain ⟨l9,hl9⟩ : ∃t,List.length (m.take i ++ m.drop (i + 1)) = t:=⟨_,rfl⟩
    rw [hl9] at hown9 ⊢
    have hB9 : Below w.heap.size w w9:=(nx hB3 hb5).grown hgr9 (nx hB3 hb5).size (fun g hg=>by cases hg; exact hbw)
    have HR:=HidS.mk hown9.vs
    clear hown9 hgr9 hte9
    go_wp2
    go_ret
    first | exact ⟨_,rfl,_,HR.out,HNS.out.drop,hB9⟩ | exact ⟨_,_,rfl,HR.out,HNS.out.drop,hB9⟩
  ·have h55 : ((3 : Nat) : Int) = 3:=rfl
   rw [h55] at hrx hwr
   have hal:=(Below.refl w3.heap.size w3).alloc (Nat.le_refl _) (.cells #[] tFc)
   have HE0 : HidS (ChnO (w3.alloc (.cells #[] tFc)) w3.heap.size (.slice (some ⟨w3.heap.size,0,none⟩) 0 0) []):=⟨LsO.made faceE w3 (Nat.le_refl _)⟩
   have HV5:=HidS.mk (HV4.out.below hal)
   go_wp2_with (at_builtin; first
    | (refine appF2 rfl _ _ 48 48 Tryz.underlying48 Tryz.underlying48 rfl w3.heap.size _ [] rfl HE0.out _ f.2 rfl HV5.out (by have:=HNF.out.2.1; simp; omega) sI ?_; intro v6 w6 hown6 hgr6 hte6; rw [List.nil_append] at hown6; obtain ⟨o6,k6,rfl⟩:=LsO.shape hown6; have hb6 : Below w3.heap.size w3 w6:=hal.grown hgr6 sI (fun g hg=>by have:=HE0.out.own g hg; omega); have HO6:=HidS.mk hown6; have HF6:=HidS.mk (HFC.out.below hb6); have hs6:=hb6.size; clear hown6 hgr6 hte6)
    | (refine appF2 rfl _ _ 48 47 Tryz.underlying48 Tryz.underlying47 rfl w3.heap.size _ f.2 rfl HO6.out _ [ff] rfl HF6.out (by have:=HNF.out.2.1; simp; omega) hs6 ?_; intro v7 w7 hown7 hgr7 hte7; obtain ⟨o7,k7,rfl⟩:=LsO.shape hown7; obtain ⟨l7,hl7⟩ : ∃t,(f.2 ++ [ff]).length = t:=⟨_,rfl⟩; rw [hl7] at hown7 ⊢; have hb7 : Below w3.heap.size w3 w7:=hb6.grown hgr7 hs6 (fun g hg=>by have:=HO6.out.own g hg; omega); have HO7:=HidS.mk hown7; have hc7:=HCS.out.below hb7; have hz7:=hc7.frozen (i * 2 + 1); have g7:=(hb7.cell (p:=⟨b,i * 2 + 1,none⟩) hbl).trans g2; clear hown7 hgr7 hte7))
   have HP:=HidS.mk (LsV.put (j0:=1) (x':=(f.1,f.2 ++ [ff])) (u:=.slice o7 l7 k7) (HO3.out.below hb7).vs HF.out dE (fun vs ⟨v,h1,h2⟩=>⟨_,by rw [h1]; rfl,LsV.te HO7.out.vs (TE.setCell hc7 dE _ _)⟩))
   have hB7:=nx hB3 hb7
   go_ret
   first | exact ⟨_,rfl,_,HP.out,HNS.out.ns.set HFS.out.a1 HFS.out.a2 HFS.out.a3,bset hB7 hbw _ _⟩ | exact ⟨_,_,rfl,HP.out,HNS.out.ns.set HFS.out.a1 HFS.out.a2 HFS.out.a3,bset hB7 hbw _ _⟩ | exact ⟨_,HP.out,HNS.out.ns.set HFS.out.a1 HFS.out.a2 HFS.out.a3,bset hB7 hbw _ _⟩
  ·have h55 : ((4 : Nat) : Int) = 4:=rfl
   rw [h55] at hrx hwr
   obtain ⟨p,hp⟩ : ∃p,n = p + 1:=⟨n - 1,by omega⟩
   have hpn : p < n:=by omega
   obtain ⟨fp,hfp⟩:=lt_get HMN.out hpn
   obtain ⟨b',o5,k5,eb,hbl',e1,e2,-⟩:=HO3.out.vs.img hfp
   cases eb
   have hpI : (n : Int) - 1 = (p : Int):=by omega
   have hwp : IntKind.i64.wrap (p : Int) = (p : Int):=IntWalk.i64_in _ oM
   obtain ⟨q3,hq3⟩ : ∃t,f1.tmod 3 = t:=⟨_,rfl⟩
   have hqb : -2<=q3/\q3<=2:=by
    rw [<-hq3]
    rcases Int.lt_or_le f1 0 with hz0 | hz0
    ·have h1 : f1.tmod 3 = -((-f1) % 3):=by rw [<-Int.neg_neg f1,Int.neg_tmod,Int.tmod_eq_emod_of_nonneg oM,Int.neg_neg]
     omega
    ·rw [Int.tmod_eq_emod_of_nonneg hz0]; omega
   have hw83 : IntKind.i8.wrap q3 = q3:=IntWalk.i8_in _ oM
   have hw643 : IntKind.i64.wrap q3 = q3:=IntWalk.i64_in _ oM
   obtain ⟨z,hz⟩ : ∃t,IntKind.i64.wrap (fp.1 + q3) = t:=⟨_,rfl⟩
   have hl1:=lastsB_newIm (z,([] : Ch))
   clear hp hfp
   go_upto_region 17 with (fail)
   refine wp_serH 16 [pcD 4 [] (fun _ v=>v = .int .i64 p),pcD 13 [] (fun _ v=>v = .int .i64 z),pcD 15 [13] (NewIm (z,[]))] ?_
   refine sRd ?_
   refine sRc (fun wS hI Gk hG=>by go_simp; exact ⟨hG _ _ rfl,Below.refl _ _⟩) (fun _ hv=>?_)
   obtain ⟨_,-,rfl⟩:=hv
   refine sRd ?_
   refine sRc (fun wS hI Gk hG=>by go_simp; exact ⟨hG _ _ rfl,Below.refl _ _⟩) (fun _ hv=>?_)
   obtain ⟨_,-,rfl⟩:=hv
   refine sRd ?_
   refine sRc (fun wS hI h13 Gk hG=>?_) (fun _ hv=>?_)
   ·go_simp
    exact ⟨hG _ _ (im_one (i:=z) (LsV.nil faceE wS none 0 (Nat.zero_le _))),(Below.refl _ _).alloc (Nat.le_refl _) _⟩
   obtain ⟨_,-,hv⟩:=hv
   obtain ⟨o15,k15,rfl,-,-⟩:=LsV.shape hv
   clear hv
   refine sRe ?_
   intro w5 hb5 _ _ h15
   have H15:=HidS.mk (show MapV w5 _ [(z,[])] from h15)
   have HO5:=HidS.mk (HO3.out.below hb5)
   have hs5:=hb5.size
   clear g1 g2 hz0 hz1 d0 d2 d3 h15 hpI hwp hq3 hw83 hw643 hz e1 e2
   go_wp2_with (at_builtin; go_loud (refine appIm rfl _ _ rfl W0.heap.size _ m rfl HO5.out _ [(z,[])] rfl H15.out (by rw [HMN.out]; simp; omega) oM ?_; intro v9 w9 hown9 hgr9 hte9))
   obtain ⟨o9,k9,rfl⟩:=LsO.shape hown9
   obtain ⟨l9,hl9⟩ : ∃t,List.length (m ++ [(z,[])]) = t:=⟨_,rfl⟩
   rw [hl9] at hown9 ⊢
   have hB9 : Below w.heap.size w w9:=(nx hB3 hb5).grown hgr9 (nx hB3 hb5).size (fun g hg=>by cases hg; exact hbw)
   have HR:=HidS.mk hown9.vs
   clear hown9 hgr9 hte9
   go_wp2
   go_ret
   first | exact ⟨_,rfl,_,HR.out,HNS.out.app,hB9⟩ | exact ⟨_,_,rfl,HR.out,HNS.out.app,hB9⟩
  ·have h55 : ((5 : Nat) : Int) = 5:=rfl
   rw [h55] at hrx hwr
   have HP:=HidS.mk (LsV.put (j0:=1) (x':=(f.1,[])) (u:=.slice none 0 0) HO3.out.vs HF.out dE (fun vs ⟨v,h1,h2⟩=>⟨.slice none 0 0,by rw [h1]; rfl,LsV.nil _ _ _ _ (Nat.zero_le _)⟩))
   go_wp2
   go_ret
   exact ⟨_,_,rfl,HP.out,HNS.out.ns.set (Nat.zero_le _) (Nat.zero_le _) (fun p hp=>by cases hp),bset hB3 hbw _ _⟩
theorem act_gen {F : Int->Ch} {x : Ch} {d e k : Nat} (hF : ∀i,nrm (F i)<=2 ^ e) (hl : ∀i,(F i).length<=k) (hx : nrm x<=2 ^ d) (hn : x.length<=1000) (hk : k<=100) (hd : d<=10000000) (he : e<=10000000) : ActOk F x/\lenA F x<=900000:=by
 have hlen:=lenA_le (F:=F) (x:=x) hl
 have h1 : x.length * k<=1000 * 100:=Nat.mul_le_mul hn hk
 refine ⟨⟨?_,fun f hf=>⟨two_pow_le (Nat.le_trans (nrm_le hf) hx) (by unfold LIM; omega),two_pow_le (hF f.1) (by unfold LIM; omega)⟩,by omega⟩,by omega⟩
 refine two_pow_le (e:=d + e) (Nat.le_trans (nrmA_le hF) ?_) (by unfold LIM; omega)
 rw [Nat.pow_add]
 exact Nat.mul_le_mul_right _ hx
theorem NS.big {m : Mp} {e : Nat} (h : NS m e) : ∀g ∈ m,nrm g.2<=2 ^ (e + 2):=fun g hg=>by
 have h1:=h.sz g hg
 have p0 : 1<=2 ^ e:=Nat.pow_pos dE
 have p2 : 2 ^ (e + 2) = 2 ^ e * 4:=Nat.pow_add 2 e 2
 omega
theorem NS.vl {a b : Cx} {m : Mp} {e : Nat} (h : NS m e) (ha : CxI 4 a) (hb : CxI 4 b) (he : e<=1000000) : VlOk a b m:=by
 have hg:=h.big
 have h1 : ∀i,nrm (imgM m i)<=2 ^ (e + 2):=imgM_of (P:=fun x=>nrm x<=2 ^ (e + 2)) (Nat.zero_le _) hg
 have h2 : ∀i,(imgM m i).length<=12:=imgM_of (P:=fun x=>x.length<=12) (Nat.zero_le _) h.ln
 have h3:=fun i=>(hb.bof oM i)
 refine ⟨ha.val,hb.val,ha.i64 oM,hb.i64 oM,h.id,by have:=ha.l16 oM; omega,by have:=hb.l16 oM; omega,fun g hg'=>by have:=h.ln g hg'; omega,fun g hg'=>two_pow_le (hg g hg') (by unfold LIM; omega),fun g hg'=>?_,fun f hf=>?_⟩
 ·exact act_gen (fun i=>(h3 i).1) (fun i=>(h3 i).2) (hg g hg') (by have:=h.ln g hg'; omega) oM oM dE
 ·have h4:=ha.bof oM f.1
  rw [bOf_at ha.val hf] at h4
  exact act_gen h1 h2 h4.1 oM oM dE oM
theorem VmS.ns0 {a b : Cx} {m : Mp} {e : Nat} (h : VmS a b m e) : NS0 m e:=by
 have h1:=congrArg List.length h.val.ids
 rw [List.length_map,List.length_map] at h1
 exact ⟨h.sz,fun g hg=>by rw [<-(h.val.get hg).1]; exact h.mps.len _,h.mps.ok.img,by have:=h.ca.l16 oM; omega⟩
set_option maxHeartbeats 16000000 in
set_option maxRecDepth 20000 in
theorem inducedValid_any (s A : Nat) (N : Int) (v lv : Value) (x y : Nat) (f0 f1 : Int) (L : List Q4) (l : List Int) (w : World) (hs : s<=255) (hA : A<=255) (hN : -128<=N/\N<=127) (h : QdV w v L) (hl : I8V w lv l) (hx : x<=255) (hy : y<=255) (hf0 : -128<=f0/\f0<=127) (hf1 : -128<=f1/\f1<=127) :
  Calls Tryz.prog 4 #[.agg #[.int .u8 s,v,.int .u8 A,.int .i8 N,lv],.agg #[.int .u8 x,.int .u8 y,.int .i8 f0,.int .i8 f1]] w fun e w'=>e = .returned (.bool true)/\Below w.heap.size w w':=by
 obtain ⟨qo,qn,qc,rfl,-⟩:=id h
 obtain ⟨lo,ln,lc,rfl,-⟩:=id hl
 have H:=HidS.mk h
 have HL:=HidS.mk hl
 clear h hl
 go_enter Tryz.func4,Tryz.ntmps4
 go_upto_region 1 with (fail)
 refine wp_world ?_
 intro W0 hW0
 obtain ⟨hB0,T5,T6,hs0⟩:=world2 hW0
 have HT5:=HidS.mk T5
 have HT6:=HidS.mk T6
 have H:=HidS.mk (H.out.below hB0)
 have HL:=HidS.mk (HL.out.below hB0)
 clear hW0 T5 T6
 go_wp2_with fail
 refine (sanity29_any W0).mono ?_
 rintro e w1 ⟨rfl,hb1⟩
 have H:=HidS.mk (H.out.below hb1)
 have HL:=HidS.mk (HL.out.below hb1)
 have HT6:=HidS.mk (HT6.out.below hb1)
 have T5:=HT5.out.below hb1
 have d0:=T5.cell 0
 have d1:=T5.cell 1
 have d2:=T5.cell 2
 have d3:=T5.cell 3
 have d4:=T5.cell 4
 simp at d0 d1 d2 d3 d4
 clear T5
 go_wp2_with fail
 refine (md29_any s A N _ _ L l w1 hs hA hN H.out HL.out).mono ?_
 rintro e w2 ⟨_,rfl,⟨a,b,m,va,vb,vm,rfl,hP,ha,hb,hm⟩,hb2⟩
 have HMD:=HidS.mk hP.mds.vms
 obtain ⟨ao,ac,rfl,-,-⟩:=LsV.shape ha
 obtain ⟨bo,bc,rfl,-,-⟩:=LsV.shape hb
 obtain ⟨mo,mc,rfl,-,-⟩:=LsV.shape hm
 have HAV:=HidS.mk ha
 have HBV:=HidS.mk hb
 have HMV:=HidS.mk hm
 have hBB:=nx (nx hB0 hb1) hb2
 have HT6:=HidS.mk (HT6.out.below hb2)
 have T6:=HT6.out
 clear d0 d1 d2 d3 d4 hP ha hb hm H HL HT5
 have e0:=T6.cell 0
 have e1:=T6.cell 1
 have e2:=T6.cell 2
 have e3:=T6.cell 3
 simp at e0 e1 e2 e3
 clear T6
 go_wp2_with fail
 refine (spoilt_any _ m x y f0 f1 (eB + 20) w2 HMV.out HMD.out.ns0 dE hx hy hf0 hf1).mono ?_
 rintro e w3 ⟨u3,n,rfl,h3,hns,hb3⟩
 obtain ⟨no,nc,rfl,-,-⟩:=LsV.shape h3
 have HNV:=HidS.mk h3
 have HNS:=HidS.mk hns
 have HVL:=HidS.mk (hns.vl HMD.out.ca HMD.out.cb dE)
 have HVB:=HidS.mk (HMD.out.ns0.ns.vl HMD.out.cb HMD.out.ca dE)
 have hB3:=hb3
 clear h3 hns hb3 e0 e1 e2 e3
 go_wp2_with fail
 refine (val29_any _ _ _ a b n w3 (HAV.out.below hB3) (HBV.out.below hB3) HNV.out (fun g hg=>(HVL.out.ob g hg).1) (fun f hf=>(HVL.out.oa f hf).1)).mono ?_
 rintro e w4 ⟨q1,rfl,hq1,hb4⟩
 have HNV:=HidS.mk (HNV.out.below hb4)
 have hB4:=nx hB3 hb4
 have HQ1:=HidS.mk hq1
 clear hq1 hb4
 go_wp2_with fail
 refine (ivalid_any _ _ _ a b n w4 (HAV.out.below hB4) (HBV.out.below hB4) HNV.out HVL.out).mono ?_
 rintro e w5 ⟨q2,rfl,hq2,hb5⟩
 obtain rfl : q2 = q1:=Bool.eq_iff_iff.2 (hq2.trans HQ1.out.symm)
 have HNV:=HidS.mk (HNV.out.below hb5)
 have hB5:=nx hB4 hb5
 have hqq : (q2 != q2) = false:=by simp
 clear hq2 hb5
 go_wp2_with fail
 refine (ivalid_any _ _ _ b a m w5 (HBV.out.below hB5) (HAV.out.below hB5) (HMV.out.below hB5) HVB.out).mono ?_
 rintro e w6 ⟨q3,rfl,hq3,hb6⟩
 have HQ3:=HidS.mk hq3
 have HNV:=HidS.mk (HNV.out.below hb6)
 have hB6:=nx hB5 hb6
 clear hq3 hb6
 go_wp2_with fail
 refine (val29_any _ _ _ b a m w6 (HBV.out.below hB6) (HAV.out.below hB6) (HMV.out.below hB6) (fun g hg=>(HVB.out.ob g hg).1) (fun f hf=>(HVB.out.oa f hf).1)).mono ?_
 rintro e w7 ⟨q4,rfl,hq4,hb7⟩
 obtain rfl : q4 = q3:=Bool.eq_iff_iff.2 (hq4.trans HQ3.out.symm)
 have hqq2 : (q4 != q4) = false:=by simp
 have HNV:=HidS.mk (HNV.out.below hb7)
 have hB7:=nx hB6 hb7
 clear hq4 hb7
 go_wp2_with fail
 refine (proper_any _ n w7 HNV.out).mono ?_
 rintro e w8 ⟨q5,rfl,hq5,hb8⟩
 have HNV:=HidS.mk (HNV.out.below hb8)
 have hB8:=nx hB7 hb8
 clear hq5 hb8 hqq hqq2
 cases q5
 ·have hBZ:=nx hBB hB8
  go_wp2
  go_ret
  exact ⟨rfl,hBZ⟩
 ·obtain ⟨r,hr⟩ : ∃r,y % 4 = r:=⟨_,rfl⟩
  have hr4 : r < 4:=by omega
  have hrm : (y : Int).tmod 4 = (r : Int):=by rw [<-hr]; rfl
  have hwr : IntKind.u8.wrap (r : Int) = (r : Int):=IntWalk.u8_in _ oM
  have hwi : IntKind.i64.wrap (r : Int) = (r : Int):=IntWalk.i64_in _ oM
  have e1:=(HT6.out.below hB8).cell 1
  simp at e1
  clear hr
  go_wp2_with fail
  refine (imatrix_any _ _ _ a b n r w8 (HAV.out.below hB8) (HBV.out.below hB8) HNV.out HVL.out).mono ?_
  rintro e w9 ⟨ok,hok,⟨_,rfl,R9,C9,o9,n9,k9,rfl,-⟩,hb9⟩
  obtain rfl : ok = q2:=Bool.eq_iff_iff.2 (hok.trans HQ1.out.symm)
  obtain ⟨er,her⟩ : ∃t : Int,(if ok = true then 0 else 290) = t:=⟨_,rfl⟩
  rw [her]
  have HER:=HidS.mk her
  clear her
  have HNV:=HidS.mk (HNV.out.below hb9)
  have hB9:=nx hB8 hb9
  clear hok hb9 e1 hrm hwr hwi
  go_upto_region 10 with (fail)
  refine wp_world ?_
  intro W10 hW10
  obtain ⟨hb10,-,hs10⟩:=world1 hW10
  have HNV:=HidS.mk (HNV.out.below hb10)
  have hB10:=nx hB9 hb10
  clear hW10 hb10
  have HAC:=HidS.mk (fun (g : Int × Ch) (hg : g ∈ n)=>act_gen (d:=eB + 20 + 2) HMD.out.mps.sz HMD.out.mps.len (HNS.out.big g hg) (by have:=HNS.out.ln g hg; omega) oM dE dE)
  obtain ⟨ce,hce⟩ : ∃t,coE n m = t:=⟨_,rfl⟩
  obtain ⟨cc,hcc⟩ : ∃t,coC n m = t:=⟨_,rfl⟩
  have HCE:=HidS.mk (And.intro hce hcc)
  clear hce hcc
  go_wp2_with fail
  refine (icompose_any _ _ n m W10 HNV.out (HMV.out.below hB10) HMD.out.mps.ok (by have:=HNS.out.n12; omega) HNS.out.id HAC.out).mono ?_
  rintro e w11 ⟨_,rfl,⟨o11,n11,k11,rfl,h11⟩,hb11⟩
  rw [HCE.out.2] at h11
  rw [HCE.out.1]
  have HP:=HidS.mk h11
  have HNV:=HidS.mk (HNV.out.below hb11)
  have hB11:=nx hB10 hb11
  clear h11 hb11
  go_wp2_with fail
  refine (compose29_any _ _ n m w11 HNV.out (HMV.out.below hB11) (fun g hg=>(HAC.out g hg).1) (by have:=HNS.out.n12; omega)).mono ?_
  rintro e w13 ⟨_,rfl,⟨o13,n13,k13,rfl,h13⟩,hb13⟩
  rw [HCE.out.2] at h13
  rw [HCE.out.1]
  have HQ:=HidS.mk h13
  have HP:=HidS.mk (HP.out.below hb13)
  have hB13:=nx hB11 hb13
  clear h13 hb13
  cases ok
  ·obtain rfl : (290 : Int) = er:=HER.out
   go_wp2_with fail
   refine (msame_any _ _ _ _ w13 HP.out HQ.out).mono ?_
   rintro e w14 ⟨rfl,hb14⟩
   rw [decide_eq_true rfl]
   have hBZ:=nx hBB (nx hB13 hb14)
   clear hb14
   go_wp2
   go_ret
   exact ⟨rfl,hBZ⟩
  ·obtain rfl : (0 : Int) = er:=HER.out
   go_wp2_with fail
   refine (msame_any _ _ _ _ w13 HP.out HQ.out).mono ?_
   rintro e w14 ⟨rfl,hb14⟩
   rw [decide_eq_true rfl]
   have hBZ:=nx hBB (nx hB13 hb14)
   clear hb14
   go_wp2
   go_ret
   exact ⟨rfl,hBZ⟩
end Go.Proofs.YtjdemlfceaikgaaGreat

namespace Go.Proofs.YtjdemlfceaikgaaGreat
open Go.ChangeShapes Go.WideShapes Go.ChangeAt Go.RowKit
set_option maxRecDepth 100000 in
theorem open_pair8c {H : Type} {enc : TypeId × Value->H} {w : World} {f : Nat} {cs : List Value} {y : DataW H × List MemPlace} (hf : DataW.trod enc Tryz.prog w 0 (fun _=>true) true f 56 cs = some y) :
  ∃a b : Int,cs = [.int .i8 a,.int .i8 b]/\(-128<=a/\a<=127)/\(-128<=b/\b<=127):=by
 obtain ⟨xs,m,-,-,h1,h2,h3⟩:=DataW.trod_array Tryz.underlying56 hf
 have c2 : Tryz.prog.cellsOf 56 = 2:=by kernel_rfl
 have c1 : Tryz.prog.cellsOf 25 = 1:=by kernel_rfl
 rw [c2] at h1
 have e0:=h3 0 oM
 have e1:=h3 1 oM
 rw [c1] at e0 e1
 rw [List.getElem?_eq_getElem oM] at e0 e1
 obtain ⟨a,ha,-,wa⟩:=DataW.trod_int Tryz.underlying25 e0
 obtain ⟨b,hb,-,wb⟩:=DataW.trod_int Tryz.underlying25 e1
 match cs,h1 with
 | [k0,k1],_=>
  simp at ha hb
  subst ha
  subst hb
  exact ⟨a,b,rfl,bounds_i8 wa,bounds_i8 wb⟩
set_option maxRecDepth 100000 in
theorem open_spoil {H : Type} {enc : TypeId × Value->H} {w : World} {b0 : Nat} {r : Reach} {v : Value} {d : DataW H} {ps : List MemPlace} (hval : Value.okWide Tryz.prog w r b0 58 v)
  (h : DataW.Trod enc Tryz.prog w 0 (fun _=>true) true 58 v d ps) : ∃(x y : Nat) (f g : Int),v = .agg #[.int .u8 x,.int .u8 y,.int .i8 f,.int .i8 g]/\x<=255/\y<=255/\(-128<=f/\f<=127)/\(-128<=g/\g<=127):=by
 simp only [Value.okWide,Tryz.underlying58] at hval
 obtain ⟨cs,rfl,hsz,-⟩:=hval
 obtain ⟨fuel,hf⟩:=h
 obtain ⟨xs,m,h0,h1,h2,h3,h4⟩:=DataW.trod_struct Tryz.underlying58 hf
 have c0 : Tryz.prog.cellsOf 58 = 4:=by kernel_rfl
 have c2 : Tryz.prog.cellsOf 56 = 2:=by kernel_rfl
 have g0 : DataW.trod enc Tryz.prog w 0 (fun _=>true) true m 5 (List.take (Tryz.prog.cellsOf 5) (List.drop 0 (Value.agg cs).cells.toList)) = xs[0]?:=h4 0 _ rfl
 have g1 : DataW.trod enc Tryz.prog w 0 (fun _=>true) true m 5 (List.take (Tryz.prog.cellsOf 5) (List.drop 1 (Value.agg cs).cells.toList)) = xs[1]?:=h4 1 _ rfl
 have g2 : DataW.trod enc Tryz.prog w 0 (fun _=>true) true m 56 (List.take (Tryz.prog.cellsOf 56) (List.drop 2 (Value.agg cs).cells.toList)) = xs[2]?:=h4 2 _ rfl
 rw [c0] at h2
 rw [cells5] at g0 g1
 rw [c2] at g2
 simp only [Value.cells] at g0 g1 g2 h2
 obtain ⟨cl⟩:=cs
 match xs,h3 with
 | [y0,y1,y2],_=>
  match cl,h2 with
  | [k0,k1,k2,k3],_=>
   simp at g0 g1 g2
   obtain ⟨a,ha,-,wa⟩:=DataW.trod_int Tryz.underlying5 g0
   obtain ⟨b,hb,-,wb⟩:=DataW.trod_int Tryz.underlying5 g1
   obtain ⟨p,q,e,hp,hq⟩:=open_pair8c g2
   simp at ha hb e
   obtain ⟨rfl,rfl⟩:=e
   subst ha
   subst hb
   have wa:=bounds_u8 wa
   have wb:=bounds_u8 wb
   exact ⟨a.toNat,b.toNat,p,q,by rw [Int.toNat_of_nonneg wa.1,Int.toNat_of_nonneg wb.1],by omega,by omega,hp,hq⟩
set_option maxRecDepth 100000 in
theorem inducedValid_lifted (os : Os) (started : os.Started) (H : Type) (enc : TypeId × Value->H) :
  ReturnsInHanded {} Tryz.checked os 4 .any (Rows.inducedValidSpec.pre6 enc Tryz.prog Tryz.f4 Rows.inducedValidRow.domain false) (Rows.inducedValidSpec.post enc Tryz.prog Tryz.f4 false true false false):=by
 refine returnsInHanded_of_change (C:=Tryz.checked) Tryz.own started kR Tryz.func4
  (ChangeSpec.witness6 (enc:=enc) (C:=Tryz.checked) false ⟨#[],#[.agg #[.int .u8 0,.slice none 0 0,.int .u8 0,.int .i8 0,.slice none 0 0],.agg #[.int .u8 0,.int .u8 0,.int .i8 0,.int .i8 0]],[]⟩ 8 kR kR kR kR) ?_
 intro W base args ds gs before hval0 hW hcnd _
 have hval : ∀(j : Nat) t v,Tryz.f4.params[j]? = some t->args[j]? = some v->Value.okWide Tryz.prog W .any base t v:=hval0
 have hW':=hW
 obtain ⟨p,q,hA0,hV,rfl,hfz,hnd⟩:=hW
 have hA : DataW.TrodAll enc Tryz.prog W 0 (fun _=>true) true Tryz.f4.params.toList args.toList ds p:=hA0
 rw [Tryz.params4] at hA hval
 obtain ⟨v0,v1,d0,d1,p0,p1,rfl,rfl,rfl,h0,h1⟩:=trodAll_two hA
 obtain ⟨rfl,rfl⟩:=trodVars_none hV
 clear hA0 hval0
 simp only [List.append_nil] at hW'
 have hlt0 : ∀x ∈ p0,x.block < W.heap.size:=fun x hx=>hW'.lt x (by simp [hx])
 have hlt1 : ∀x ∈ p1,x.block < W.heap.size:=fun x hx=>hW'.lt x (by simp [hx])
 obtain ⟨s,A,N,sv,lv,L,l,rfl,hs9,hA9,hN9,hI9,hl9⟩:=open_raw29 (hval 0 28 v0 rfl rfl) h0 hlt0
 obtain ⟨x1,y1,f1,g1,rfl,hx1,hy1,hf1,hg1⟩:=open_spoil (hval 1 58 v1 rfl rfl) h1
 refine (inducedValid_any s A N sv lv x1 y1 f1 g1 L l W hs9 hA9 hN9 hI9 hl9 hx1 hy1 hf1 hg1).mono fun e W' ⟨he,hB⟩=>?_
 subst he
 refine ⟨_,rfl,_,_,_,[],p0 ++ p1,[],hW',?_,?_,rfl,hB.frame _,fun h=>by cases h⟩
 ·exact trodAll_mk1 (shut_bool Tryz.underlying4 true)
 ·exact trodAll_mk2 (Below.trod Tryz.laidOut kR (of_decide_eq_true kR) h0 hB hlt0) (Below.trod Tryz.laidOut kR (of_decide_eq_true kR) h1 hB hlt1)
theorem inducedValid_j1 : (Rows.inducedValidRow.inPlace == Tryz.pinned.checked.prog.inPlace 4) = true:=by kernel_rfl
theorem inducedValid_j2 : (Rows.inducedValidRow.unfollowed == Tryz.pinned.checked.prog.unfollowed 4) = true:=by kernel_rfl
theorem inducedValid_j3 : (Rows.inducedValidRow.recurses == Tryz.pinned.checked.prog.recurses 4) = true:=by kernel_rfl
theorem inducedValid_j4 : (Rows.inducedValidRow.named == Tryz.pinned.checked.prog.varsNamed 4) = true:=by kernel_rfl
theorem inducedValid_joined : joinedFacts Tryz.pinned.checked.prog 4 Tryz.f4 Rows.inducedValidSpec Rows.inducedValidRow = true:=by
 unfold joinedFacts
 rw [inducedValid_j1,inducedValid_j2,inducedValid_j3,inducedValid_j4]
 kernel_rfl
theorem inducedValid_holds : Rows.InducedValidSaid:=
 OpenClaim.holds_of_wide 4 Tryz.f4 rfl rfl rfl rfl rfl rfl rfl ⟨rfl,rfl,rfl,rfl,rfl⟩ rfl rfl rfl rfl rfl kR Tryz.func4 inducedValid_joined
  (of_decide_eq_true kR) (by unfold Func.isWrapper; first | (rw [if_pos (by decide +kernel)]; kernel_rfl) | (rw [if_neg (by decide +kernel)]; exact ⟨rfl,rfl⟩))
  (fun os started H enc _=>inducedValid_lifted os started H enc)
end Go.Proofs.YtjdemlfceaikgaaGreat
