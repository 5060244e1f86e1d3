/- Slices of int: their own rows, append; torsionref05.Range. torsionref05.inside. torsionref05.Pick. Plain: the minors of Laplace's expansion as picked matrices. -/
import Derived.Test.YtnocgagoaldfnaaGreatD04
import Derived.Test.YtnocgagoaldfnaaGreatD11
import Derived.Test.YtnocgagoaldfnaaGreatD17
import Derived.Test.YtnocgagoaldfnaaGreatD19
import Derived.Test.YtnocgagoaldfnaaGreatD25
set_option linter.unusedVariables false
set_option linter.unusedSimpArgs false
set_option linter.unusedSectionVars false
namespace Go.Proofs.YtnocgagoaldfnaaGreat
open Go.RowKit
abbrev tNn : TypeId:=3
theorem Tryz.infoNn : (Tryz.prog.info? tNn).map (fun i=>(i.zero,i.size,i.bytes)) = some (some (.int .i64 0),1,8):=by kernel_rfl
def NatsAt (w : World) (ao : Option Addr) (xs : List Nat) : Prop:=
 (∀x ∈ xs,x<=1000000)/\(xs ≠ []->∃b off cs,ao = some ⟨b,off,none⟩/\w.heap[b]? = some (.cells cs tNn (0,0))/\∀k x,xs[k]? = some x->cs[off + k]? = some (.int .i64 (x : Nat)))
theorem NatsAt.nil (w : World) (ao : Option Addr) : NatsAt w ao []:=⟨by simp,fun h=>absurd rfl h⟩
theorem NatsAt.block {w w' : World} {ao : Option Addr} {xs : List Nat} (h : NatsAt w ao xs) (e : ∀b off,ao = some ⟨b,off,none⟩->b < w.heap.size->w'.heap[b]? = w.heap[b]?) : NatsAt w' ao xs:=
 ⟨h.1,fun hn=>by
  obtain ⟨b,off,cs,h1,h2,h3⟩:=h.2 hn
  exact ⟨b,off,cs,h1,(e b off h1 (Array.getElem?_eq_some_iff.1 h2).1).trans h2,h3⟩⟩
theorem NatsAt.below {w w' : World} {ao : Option Addr} {xs : List Nat} (h : NatsAt w ao xs) (e : Below w.heap.size w w') : NatsAt w' ao xs:=h.block fun b _ _ hb=>e.block b hb
theorem NatsAt.take {w : World} {ao : Option Addr} {xs : List Nat} (h : NatsAt w ao xs) (k : Nat) : NatsAt w ao (xs.take k):=
 ⟨fun x hx=>h.1 x (List.mem_of_mem_take hx),fun hn=>by
  obtain ⟨b,off,cs,h1,h2,h3⟩:=h.2 (by rintro rfl; simp at hn)
  refine ⟨b,off,cs,h1,h2,fun j x hj=>h3 j x ?_⟩
  rw [List.getElem?_take] at hj
  split at hj
  ·exact hj
  ·cases hj⟩
theorem NatsAt.drop {w : World} {b off : Nat} {xs : List Nat} (h : NatsAt w (some ⟨b,off,none⟩) xs) (k : Nat) : NatsAt w (some ⟨b,off + k,none⟩) (xs.drop k):=
 ⟨fun x hx=>h.1 x (List.mem_of_mem_drop hx),fun hn=>by
  obtain ⟨b',off',cs,h1,h2,h3⟩:=h.2 (by rintro rfl; simp at hn)
  injection h1 with h1
  injection h1 with h1 h4
  subst h1
  subst h4
  refine ⟨_,_,cs,rfl,h2,fun j x hj=>?_⟩
  rw [List.getElem?_drop] at hj
  rw [Nat.add_assoc]
  exact h3 _ x hj⟩
def OwnN (w : World) (base : Nat) (v : Value) (xs : List Nat) : Prop:=(∀x ∈ xs,x<=1000000)/\w.ownsRow base tNn 1 v xs.length (xs.map fun n=>Value.int .i64 (n : Nat))
theorem OwnN.at_ {w : World} {base : Nat} {v : Value} {xs : List Nat} (h : OwnN w base v xs) :
  ∃ao cap,v = .slice ao xs.length cap/\xs.length<=cap/\cap<=9223372036854775807/\NatsAt w ao xs:=by
 obtain ⟨hl,h1,h2⟩:=h
 rcases h2 with ⟨rfl,h0⟩ | ⟨g,cap,cur,rfl,hg,hh,hn,hc,hs,ht⟩
 ·have : xs = []:=List.eq_nil_of_length_eq_zero h0
  subst this
  exact ⟨none,0,rfl,by simp,by omega,NatsAt.nil _ _⟩
 ·refine ⟨some ⟨g,0,none⟩,cap,rfl,hn,hc,hl,fun _=>⟨g,0,cur,rfl,hh,fun k x hk=>?_⟩⟩
  have hk' : (xs.map fun n=>Value.int .i64 (n : Nat))[k]? = some (.int .i64 (x : Nat)):=by simp [hk]
  rw [<-ht,List.getElem?_take] at hk'
  split at hk'
  ·simpa using hk'
  ·cases hk'
theorem OwnN.own {w : World} {base : Nat} {v : Value} {xs : List Nat} (h : OwnN w base v xs) : ∀g,v.ownBlock = some g->base<=g/\g < w.heap.size:=h.2.lt
theorem OwnN.empty (w : World) (base : Nat) (h : base<=w.heap.size) : OwnN (w.alloc (.cells #[] tNn)) base (.slice (some ⟨w.heap.size,0,none⟩) 0 0) []:=
 ⟨by simp,by simp,.inr ⟨w.heap.size,0,#[],rfl,h,heap_alloc_new w _,Nat.le_refl _,by simp [maxLen],rfl,rfl⟩⟩
theorem OwnN.alloc {w : World} {base : Nat} {v : Value} {xs : List Nat} (h : OwnN w base v xs) (o : Obj) : OwnN (w.alloc o) base v xs:=⟨h.1,h.2.alloc o⟩
theorem OwnN.below {w w' : World} {base : Nat} {v : Value} {xs : List Nat} (h : OwnN w base v xs) (hb : Below w.heap.size w w') : OwnN w' base v xs:=
 ⟨h.1,h.2.kept (row:=none) ⟨hb.os,hb.tape,hb.output,hb.size,fun k hk _=>hb.block k hk⟩ (by cases hv : v.ownBlock <;> simp)⟩
set_option maxRecDepth 20000 in
theorem wpN {o : Oper} {a : Act} {K : Act->World->Prop} {Q : Exit->Act->World->Prop} {w : World} (s x : Operand)
  (ho : o.op = .call { callee:=.builtin .append,args:=#[s,x],argTypes:=#[103,103] })
  (base : Nat) (v : Value) (xs : List Nat) (hs : a.eval s = v) (hown : OwnN w base v xs) (ao : Option Addr) (m c : Nat) (ys : List Nat) (hx : a.eval x = .slice ao m c) (hy : NatsAt w ao ys) (hm : ys.length = m)
  (hlen : xs.length + m<=17592186044416) (hbase : base<=w.heap.size)
  (h : ∀v' w',OwnN w' base v' (xs ++ ys)->w.grownBy w' v.ownBlock->K (a.put o.dst v') w') : Oper.wp Tryz.prog o a w K Q:=by
 obtain ⟨i0,hi,hz0,hz1,hz2⟩:=info_parts Tryz.infoNn
 have hall : ∀x ∈ xs ++ ys,x<=1000000:=fun x hx=>(List.mem_append.1 hx).elim (hown.1 x) (hy.1 x)
 by_cases hy0 : ys = []
 ·subst hy0
  simp at hm
  subst hm
  have hrun : (Builtin.append_ #[103,103] o.type #[v,.slice ao 0 c]).run Tryz.prog w = .ok v w:=by
   cases ao with
   | none=>
    rcases hown.2.2 with ⟨rfl,h0⟩ | ⟨g,cap,cur,rfl,_,_,hnc,_⟩
    ·simp [Builtin.append_,run_underlying Tryz.underlying103,sizeOf,typeInfo,hi,Builtin.lenOf,Builtin.firstCells,h0]
    ·simp [Builtin.append_,run_underlying Tryz.underlying103,sizeOf,typeInfo,hi,Builtin.lenOf,Builtin.firstCells,hnc,storeCells]
   | some ad=>
    have hf:=run_firstCells_some (P:=Tryz.prog) w i0.size 0 ad 0 c [] sI sI
    rcases hown.2.2 with ⟨rfl,h0⟩ | ⟨g,cap,cur,rfl,_,_,hnc,_⟩
    ·simp [Builtin.append_,run_underlying Tryz.underlying103,sizeOf,typeInfo,hi,Builtin.lenOf,hf,h0]
    ·simp [Builtin.append_,run_underlying Tryz.underlying103,sizeOf,typeInfo,hi,Builtin.lenOf,hf,hnc,storeCells]
  unfold Oper.wp
  simp only [execOp,ho,resolve,invoke,builtin,Sem.run_bind,Sem.run_pure,Result.andThen_ok,List.map_toArray,List.map_cons,List.map_nil,hs,hx,hrun]
  exact h v w (by simpa using hown) (World.grownBy.refl w _)
 ·obtain ⟨b,off,cs,rfl,h2,h3⟩:=hy.2 hy0
  refine wp_append_own w s x 103 ho base tNn i0 _ 1 8 Tryz.underlying103 hi hz0 hz1 hz2 rfl oM v xs.length _ hs hown.2 ⟨b,off,none⟩ m c (ys.map fun n=>Value.int .i64 (n : Nat)) hx (by simp [hm]) ?_ ?_ (by simp [maxLen]; omega) oM hbase ?_
  ·intro j u hj
   simp only [List.getElem?_map,Option.map_eq_some_iff] at hj
   obtain ⟨x',hj,rfl⟩:=hj
   rw [Addr.add_lit,cell_of_row w b (off + j) cs tNn _ h2]
   exact h3 j x' hj
  ·intro u hu
   simp only [List.mem_map] at hu
   obtain ⟨x',_,rfl⟩:=hu
   rfl
  ·intro v' w' h1 h2 _
   refine h v' w' ⟨hall,?_⟩ h2
   simpa [hm] using h1
theorem appN {w : World} {ops : Array Oper} {rest : List Oper} {o : Oper} {a : Act} {Q : Exit->Act->World->Prop} (hgd : o.guard = none) (s x : Operand)
  (ho : o.op = .call { callee:=.builtin .append,args:=#[s,x],argTypes:=#[103,103] })
  (base : Nat) (v : Value) (xs : List Nat) (hs : a.eval s = v) (hown : OwnN w base v xs) (ao : Option Addr) (m c : Nat) (ys : List Nat) (hx : a.eval x = .slice ao m c) (hy : NatsAt w ao ys) (hm : ys.length = m)
  (hlen : xs.length + m<=17592186044416) (hbase : base<=w.heap.size)
  (h : ∀v' w',OwnN w' base v' (xs ++ ys)->w.grownBy w' v.ownBlock->wpList Tryz.prog ops Q rest (a.put o.dst v') w') : wpList Tryz.prog ops Q (o :: rest) a w:=
 wpList_plain hgd fun _ hK=>wpN s x ho base v xs hs hown ao m c ys hx hy hm hlen hbase fun v' w' h1 h2=>hK _ _ (h v' w' h1 h2)
theorem range_any (n : Nat) (w : World) (hn : n<=1000000) :
  Calls Tryz.prog 111 #[.int .i64 n] w fun e w'=>∃v,e = .returned v/\OwnN w' w.heap.size v (List.range n)/\Below w.heap.size w w':=by
 go_enter Tryz.func111,Tryz.ntmps111
 go_upto_region 1 with (fail)
 go_wp2
 have ho:=OwnN.empty w w.heap.size (Nat.le_refl _)
 have hb : Below w.heap.size w (w.alloc (.cells #[] tNn)):=(Below.refl _ _).alloc (Nat.le_refl _) _
 go_loopw [3,4] (fun u iv wr=>∃i : Nat,iv = .int .i64 i/\i<=n/\OwnN wr w.heap.size u (List.range i)/\Below w.heap.size w wr) (fun _ iv _=>n - (intOf iv).toNat)
 case atStart=>exact ⟨0,rfl,by omega,ho,hb⟩
 case round=>
  clear ho hb
  obtain ⟨i,rfl,hi,ho,hb⟩:=hrel
  by_cases hlt : i < n
  ·have hys : ∀w' : World,NatsAt (w'.alloc (.cells #[.int .i64 i] tNn)) (some ⟨w'.heap.size,0,none⟩) [i]:=fun w'=>⟨by simp; omega,fun _=>⟨_,0,_,rfl,heap_alloc_new w' _,fun k x hk=>by
    match k with
    | 0=>simp at hk; subst hk; rfl
    | k + 1=>simp at hk⟩⟩
   go_wp2_with (at_builtin; refine appN rfl _ _ rfl w.heap.size u3 (List.range i) rfl (ho.alloc _) (some ⟨wr.heap.size,0,none⟩) 1 1 [i] rfl (hys wr) rfl (by simp; omega) (by have:=hb.size; simp; omega) ?_; intro v' w' hown hgr)
   have hgr : World.grownBy (wr.alloc (.cells #[.int .i64 i] tNn)) w' (Value.ownBlock u3):=hgr
   have hB9 : Below w.heap.size w w':=(hb.alloc hb.size _).grown hgr (by have:=hb.size; simp; omega) (fun g hg=>(ho.own g hg).1)
   go_roundw
   case rel=>exact ⟨i + 1,by simp,by omega,by rw [List.range_succ]; exact hown,hB9⟩
   case measure=>simp [intOf]; omega
  ·obtain rfl : i = n:=by omega
   go_wp2
   go_ret
   exact ⟨_,rfl,ho,hb⟩
theorem NatsAt.cell {w : World} {ao : Option Addr} {xs : List Nat} (h : NatsAt w ao xs) {k : Nat} (hk : k < xs.length) :
  ∃b off x,ao = some ⟨b,off,none⟩/\b < w.heap.size/\xs[k]? = some x/\w.cell? ⟨b,off + k,none⟩ = some (.int .i64 (x : Nat))/\x<=1000000:=by
 obtain ⟨b,off,cs,e1,e2,e3⟩:=h.2 (by rintro rfl; simp at hk)
 have hx:=List.getElem?_eq_getElem hk
 exact ⟨b,off,_,e1,(Array.getElem?_eq_some_iff.1 e2).1,hx,by rw [cell_of_row w b (off + k) cs tNn _ e2]; exact e3 k _ hx,h.1 _ (List.mem_of_getElem? hx)⟩
theorem inside_any (ao : Option Addr) (m cap n : Nat) (xs : List Nat) (w : World) (hm : xs.length = m) (hc : m<=1000000) (h : NatsAt w ao xs) (hlt : ∀x ∈ xs,x < n) (hn : n<=1000000) :
  Calls Tryz.prog 110 #[.slice ao m cap,.int .i64 n] w fun e w'=>e = .returned (.bool true)/\Below w.heap.size w w':=by
 have HM:=Lib.hid hm
 have HL : HidS (∀k x,xs[k]? = some x->x < n):=⟨fun k x hk=>hlt x (List.mem_of_getElem? hk)⟩
 clear hm hlt
 go_enter Tryz.func110,Tryz.ntmps110
 go_upto_region 1 with (fail)
 go_wp2
 go_loopw [5] (fun iv wr=>∃i : Nat,iv = .int .i64 i/\i<=m/\wr = w) (fun iv _=>m - (intOf iv).toNat)
 case atStart=>exact ⟨0,rfl,by omega,rfl⟩
 case round=>
  obtain ⟨i,rfl,hi,rfl⟩:=hrel
  by_cases hlt : i < m
  ·obtain ⟨b,off,x,rfl,hb,hx,hcell,hx1⟩:=h.cell (k:=i) (by rw [HM.out]; exact hlt)
   have hxn:=HL.out i x hx
   clear hx
   go_wp2
   go_roundw
   case rel=>exact ⟨i + 1,by simp,by omega,trivial⟩
   case measure=>simp [intOf]; omega
  ·go_wp2
   go_ret
   exact ⟨rfl,Below.refl _ _⟩
def pickF (M : List (List Int)) (xs ys : List Nat) : Nat->Nat->Int:=fun a b=>ent M (xs.getD a 0) (ys.getD b 0)
set_option maxHeartbeats 8000000 in
set_option maxRecDepth 20000 in
theorem pick_any (v : Value) (R C : Nat) (M : List (List Int)) (a1 a2 : Option Addr) (m k cp1 cp2 : Nat) (xs ys : List Nat) (w : World) (h : MatV w v R C M) (hF : Fits R C M) (hR : R<=1000000) (hC : C<=1000000)
  (hx : NatsAt w a1 xs) (hy : NatsAt w a2 ys) (hm : xs.length = m) (hk : ys.length = k) (hm1 : m<=1000000) (hk1 : k<=1000000) (hxR : ∀x ∈ xs,x < R) (hyC : ∀y ∈ ys,y < C) :
  Calls Tryz.prog 79 #[v,.slice a1 m cp1,.slice a2 k cp2] w fun e w'=>∃v bs,e = .returned (.tuple #[v,.int .i64 0])/\MatO w' w.heap.size v m k bs (genM m k (pickF M xs ys))/\Below w.heap.size w w':=by
 obtain ⟨A,rfl,h⟩:=h
 obtain ⟨ao,n,cap,rfl,e2,e3,e4,-⟩:=id h
 obtain rfl : R = n:=by rw [<-e2,hF.1]
 have HF:=HidS.mk hF
 obtain ⟨f,hf⟩ : ∃f : Nat->Nat->Int,pickF M xs ys = f:=⟨_,rfl⟩
 rw [hf]
 have HFE : HidS (∀a b x y,xs[a]? = some x->ys[b]? = some y->f a b = ent M x y):=⟨fun a b x y h1 h2=>by rw [<-hf]; simp [pickF,List.getD_eq_getElem?_getD,h1,h2]⟩
 have HX:=Lib.hid e2
 have HM:=Lib.hid hm
 have HK:=Lib.hid hk
 have HXR : HidS (∀k x,xs[k]? = some x->x < R):=⟨fun k x hk=>hxR x (List.mem_of_getElem? hk)⟩
 have HYC : HidS (∀k x,ys[k]? = some x->x < C):=⟨fun k x hk=>hyC x (List.mem_of_getElem? hk)⟩
 have HI1 : HidS (∀w',Below w.heap.size w w'->Calls Tryz.prog 110 #[.slice a1 m cp1,.int .i64 R] w' fun e w2=>e = .returned (.bool true)/\Below w'.heap.size w' w2):=⟨fun w' hb=>inside_any a1 m cp1 R xs w' hm hm1 (hx.below hb) hxR hR⟩
 have HI2 : HidS (∀w',Below w.heap.size w w'->Calls Tryz.prog 110 #[.slice a2 k cp2,.int .i64 C] w' fun e w2=>e = .returned (.bool true)/\Below w'.heap.size w' w2):=⟨fun w' hb=>inside_any a2 k cp2 C ys w' hk hk1 (hy.below hb) hyC hC⟩
 clear hf hF e2 hm hk hxR hyC
 go_enter Tryz.func79,Tryz.ntmps79
 go_upto_region 1 with (fail)
 refine wp_world ?_
 intro W0 hW0
 obtain ⟨hB0,bx1,br,hs0⟩:=world2 hW0
 obtain ⟨c1,c2,c3,c4,c5,c6⟩:=bx1.three
 go_wp2_with fail
 refine (HI1.out W0 hB0).mono ?_
 rintro e w1 ⟨rfl,hb1⟩
 have hB:=nx hB0 hb1
 have bx1:=bx1.below hb1
 have br:=br.below hb1
 have q1:=hb1.size
 clear c1 c2 c3 c4 c5 c6
 obtain ⟨c1,c2,c3,c4,c5,c6⟩:=bx1.three
 go_wp2_with fail
 refine (HI2.out w1 hB).mono ?_
 rintro e w2 ⟨rfl,hb2⟩
 have hB:=nx hB hb2
 have bx1:=bx1.below hb2
 have br:=br.below hb2
 have q2:=hb2.size
 clear c1 c2 c3 c4 c5 c6
 go_wp2_with fail
 refine (r5new_any m k w2 oM oM).mono ?_
 rintro e w4 ⟨u,bs,rfl,⟨hbl,A2,rfl,ho⟩,hb4⟩
 obtain ⟨oo,on,oc,rfl,-,-,-,-⟩:=id ho.rows
 have hlts:=ho.lts
 go_upto_region 4 with (fail)
 refine wp_world ?_
 intro W3 hW3
 obtain ⟨hB3,T8,hs3⟩:=world1 hW3
 have br:=(br.below hb4).below hB3
 have bx1:=(bx1.below hb4).below hB3
 have ho:=ho.below hB3
 rw [upTo_start m k f] at ho
 have hBt:=nx (nx hB hb4) hB3
 have q4:=hb4.size
 clear hW3 hW0 HI1 HI2
 go_wp2
 go_loopw [9] (fun iv wr=>∃i : Nat,i<=m/\iv = .int .i64 i/\Below w.heap.size w wr/\Blk wr w.heap.size 28 #[.int .i64 R,.int .i64 C,.slice ao R cap]/\Blk wr (w.heap.size + 1) 28 #[.int .i64 0,.int .i64 0,.slice none 0 0]/\Blk wr w4.heap.size 28 #[.int .i64 m,.int .i64 k,.slice oo on oc]/\RowsO wr w2.heap.size (.slice oo on oc) k bs (genM m k (upTo f i 0))) (fun iv _=>m - (intOf iv).toNat)
 case atStart=>exact ⟨0,by omega,rfl,hBt,bx1,br,T8,ho⟩
 case round=>
  clear bx1 br T8 ho hBt
  obtain ⟨i,hi,rfl,hb,bx1,br,T8,ho⟩:=hrel
  by_cases hlt : i < m
  ·go_wp2
   go_loopw [10] (fun jv wr=>∃j : Nat,j<=k/\jv = .int .i64 j/\Below w.heap.size w wr/\Blk wr w.heap.size 28 #[.int .i64 R,.int .i64 C,.slice ao R cap]/\Blk wr (w.heap.size + 1) 28 #[.int .i64 0,.int .i64 0,.slice none 0 0]/\Blk wr w4.heap.size 28 #[.int .i64 m,.int .i64 k,.slice oo on oc]/\RowsO wr w2.heap.size (.slice oo on oc) k bs (genM m k (upTo f i j))) (fun jv _=>k - (intOf jv).toNat)
   case atStart=>exact ⟨0,by omega,rfl,hb,bx1,br,T8,ho⟩
   case round=>
    clear bx1 br T8 ho hb
    obtain ⟨j,hj,rfl,hb,bx1,br,T8,ho⟩:=hrel
    by_cases hjc : j < k
    ·obtain ⟨xb,xo,x,rfl,hxb,hxi,cx,hx1⟩:=hx.cell (k:=i) (by rw [HM.out]; exact hlt)
     obtain ⟨yb,yo,y,rfl,hyb,hyj,cy,hy1⟩:=hy.cell (k:=j) (by rw [HK.out]; exact hjc)
     have cx:=(hb.cell (p:=⟨xb,xo + i,none⟩) hxb).trans cx
     have cy:=(hb.cell (p:=⟨yb,yo + j,none⟩) hyb).trans cy
     have hxr:=HXR.out i x hxi
     have hyc:=HYC.out j y hyj
     obtain ⟨c1,c2,c3,c4,c5,c6⟩:=bx1.three
     obtain ⟨b,ra,rn,rc,zs,rfl,hbl1,hz,p1,hv⟩:=(h.below hb).row (k:=x) (by rw [HX.out]; exact hxr)
     have hzl:=HF.out.2 zs (List.mem_of_getElem? hz)
     have hvl:=hv.len
     obtain rfl : rn = C:=by omega
     obtain ⟨b',z,s,a,l,c,rfl,hbl',hzk,q1,q2',hzv⟩:=hv.cell (k:=y) oM
     have hent:=Lib.hid ((HFE.out i j x y hxi hyj).trans (ent_of hz hzk))
     clear hz hzk hzl hxi hyj
     obtain ⟨g,bo,rfl,hg,hbo,hbo2,o1,ho3⟩:=ho.at_ (i:=i) oM
     obtain ⟨f1,f2,f3,f4,f5,f6⟩:=T8.three
     have hio : i < on:=by omega
     have HO3:=Lib.hid ho3
     clear ho3
     have lt1:=bx1.lt
     have lt8:=T8.lt
     go_upto_region 10 with (fail)
     refine wp_region_headed 21 rfl (RI wr (wr.heap.size) _ 45
       [⟨0,41,fun _ v=>v = .pointer (some ⟨w4.heap.size,2,none⟩)⟩,⟨1,42,fun _ v=>v = .slice (some ⟨g,0,none⟩) on oc⟩,⟨2,43,fun _ v=>v = .int .i64 i⟩,⟨3,44,fun _ v=>v = .pointer (some ⟨g,i,none⟩)⟩,⟨4,45,fun _ v=>v = .slice (some ⟨bo,0,none⟩) k k⟩,⟨5,46,fun _ v=>v = .int .i64 j⟩,⟨6,47,fun _ v=>v = .pointer (some ⟨w.heap.size,2,none⟩)⟩,⟨7,48,fun _ v=>v = .slice (some ⟨b,0,none⟩) R cap⟩,⟨8,49,fun _ v=>v = .slice (some ⟨xb,xo,none⟩) m cp1⟩,⟨9,50,fun _ v=>v = .int .i64 i⟩,⟨10,51,fun _ v=>v = .pointer (some ⟨xb,xo + i,none⟩)⟩,⟨11,52,fun _ v=>v = .int .i64 x⟩,⟨12,53,fun _ v=>v = .pointer (some ⟨b,x,none⟩)⟩,⟨13,54,fun _ v=>v = .slice (some ⟨b',0,none⟩) rn rc⟩,⟨14,55,fun _ v=>v = .slice (some ⟨yb,yo,none⟩) k cp2⟩,⟨15,56,fun _ v=>v = .int .i64 j⟩,⟨16,57,fun _ v=>v = .pointer (some ⟨yb,yo + j,none⟩)⟩,⟨17,58,fun _ v=>v = .int .i64 y⟩,⟨18,59,fun _ v=>v = .pointer (some ⟨b',y * 2,none⟩)⟩,⟨19,60,fun _ v=>v = .agg #[.bool s,.slice a l c]⟩,⟨20,61,fun _ v=>v = .pointer (some ⟨bo,j * 2,none⟩)⟩]
       [] []) kR RI.start ?fin1 ?steps1
     case steps1=>
      refine ⟨?_,?_,?_,?_,?_,?_,?_,?_,?_,?_,?_,?_,?_,?_,?_,?_,?_,?_,?_,?_,?_,trivial⟩ <;> (intro L T wS hL hd hcl hI K hK; try refine step_wanted rfl ?_)
      ·have zt : T[8]? = some (.pointer (some ⟨w4.heap.size,0,none⟩)):=hI.keep 8 sI sI
       go_simp
       exact hK _ _ (hI.y mm0 rfl)
      ·obtain ⟨v0,zt0,rfl⟩:=hI.v mm0 (hd 0)
       have cc0:=hI.cell f3 oM nom
       go_simp
       exact hK _ _ (hI.y mm1 rfl)
      ·have zt : T[9]? = some (.int .i64 i):=hI.keep 9 sI sI
       go_simp
       exact hK _ _ (hI.y mm2 rfl)
      ·obtain ⟨v1,zt1,rfl⟩:=hI.v mm1 (hd 1)
       obtain ⟨v2,zt2,rfl⟩:=hI.v mm2 (hd 2)
       go_simp
       exact hK _ _ (hI.y mm3 rfl)
      ·obtain ⟨v3,zt3,rfl⟩:=hI.v mm3 (hd 3)
       have cc0:=hI.cell o1 oM nom
       go_simp
       exact hK _ _ (hI.y mm4 rfl)
      ·have zt : T[10]? = some (.int .i64 j):=hI.keep 10 sI sI
       go_simp
       exact hK _ _ (hI.y mm5 rfl)
      ·have zt : T[3]? = some (.pointer (some ⟨w.heap.size,0,none⟩)):=hI.keep 3 sI sI
       go_simp
       exact hK _ _ (hI.y mm6 rfl)
      ·obtain ⟨v6,zt6,rfl⟩:=hI.v mm6 (hd 6)
       have cc0:=hI.cell c3 oM nom
       go_simp
       exact hK _ _ (hI.y mm7 rfl)
      ·have zt : T[1]? = some (.slice (some ⟨xb,xo,none⟩) m cp1):=hI.keep 1 sI sI
       go_simp
       exact hK _ _ (hI.y mm8 rfl)
      ·have zt : T[9]? = some (.int .i64 i):=hI.keep 9 sI sI
       go_simp
       exact hK _ _ (hI.y mm9 rfl)
      ·obtain ⟨v8,zt8,rfl⟩:=hI.v mm8 (hd 8)
       obtain ⟨v9,zt9,rfl⟩:=hI.v mm9 (hd 9)
       go_simp
       exact hK _ _ (hI.y mm10 rfl)
      ·obtain ⟨v10,zt10,rfl⟩:=hI.v mm10 (hd 10)
       have cc0:=hI.cell cx oM nom
       go_simp
       exact hK _ _ (hI.y mm11 rfl)
      ·obtain ⟨v7,zt7,rfl⟩:=hI.v mm7 (hd 7)
       obtain ⟨v11,zt11,rfl⟩:=hI.v mm11 (hd 11)
       go_simp
       exact hK _ _ (hI.y mm12 rfl)
      ·obtain ⟨v12,zt12,rfl⟩:=hI.v mm12 (hd 12)
       have cc0:=hI.cell p1 oM nom
       go_simp
       exact hK _ _ (hI.y mm13 rfl)
      ·have zt : T[2]? = some (.slice (some ⟨yb,yo,none⟩) k cp2):=hI.keep 2 sI sI
       go_simp
       exact hK _ _ (hI.y mm14 rfl)
      ·have zt : T[10]? = some (.int .i64 j):=hI.keep 10 sI sI
       go_simp
       exact hK _ _ (hI.y mm15 rfl)
      ·obtain ⟨v14,zt14,rfl⟩:=hI.v mm14 (hd 14)
       obtain ⟨v15,zt15,rfl⟩:=hI.v mm15 (hd 15)
       go_simp
       exact hK _ _ (hI.y mm16 rfl)
      ·obtain ⟨v16,zt16,rfl⟩:=hI.v mm16 (hd 16)
       have cc0:=hI.cell cy oM nom
       go_simp
       exact hK _ _ (hI.y mm17 rfl)
      ·obtain ⟨v13,zt13,rfl⟩:=hI.v mm13 (hd 13)
       obtain ⟨v17,zt17,rfl⟩:=hI.v mm17 (hd 17)
       go_simp
       exact hK _ _ (hI.y mm18 rfl)
      ·obtain ⟨v18,zt18,rfl⟩:=hI.v mm18 (hd 18)
       have cc0:=hI.cell q1 oM nom
       have cc1:=hI.cell q2' oM nom
       go_simp
       exact hK _ _ (hI.y mm19 rfl)
      ·obtain ⟨v4,zt4,rfl⟩:=hI.v mm4 (hd 4)
       obtain ⟨v5,zt5,rfl⟩:=hI.v mm5 (hd 5)
       go_simp
       exact hK _ _ (hI.y mm20 rfl)
     intro T w9 hI
     obtain ⟨va0,q0,rfl⟩:=hI.v mm0 rfl
     obtain ⟨va1,q1,rfl⟩:=hI.v mm1 rfl
     obtain ⟨va2,q2,rfl⟩:=hI.v mm2 rfl
     obtain ⟨va3,q3,rfl⟩:=hI.v mm3 rfl
     obtain ⟨va4,q4,rfl⟩:=hI.v mm4 rfl
     obtain ⟨va5,q5,rfl⟩:=hI.v mm5 rfl
     obtain ⟨va6,q6,rfl⟩:=hI.v mm6 rfl
     obtain ⟨va7,q7,rfl⟩:=hI.v mm7 rfl
     obtain ⟨va8,q8,rfl⟩:=hI.v mm8 rfl
     obtain ⟨va9,q9,rfl⟩:=hI.v mm9 rfl
     obtain ⟨va10,q10,rfl⟩:=hI.v mm10 rfl
     obtain ⟨va11,q11,rfl⟩:=hI.v mm11 rfl
     obtain ⟨va12,q12,rfl⟩:=hI.v mm12 rfl
     obtain ⟨va13,q13,rfl⟩:=hI.v mm13 rfl
     obtain ⟨va14,q14,rfl⟩:=hI.v mm14 rfl
     obtain ⟨va15,q15,rfl⟩:=hI.v mm15 rfl
     obtain ⟨va16,q16,rfl⟩:=hI.v mm16 rfl
     obtain ⟨va17,q17,rfl⟩:=hI.v mm17 rfl
     obtain ⟨va18,q18,rfl⟩:=hI.v mm18 rfl
     obtain ⟨va19,q19,rfl⟩:=hI.v mm19 rfl
     obtain ⟨va20,q20,rfl⟩:=hI.v mm20 rfl
     have hT:=tmps_set [(41,.pointer (some ⟨w4.heap.size,2,none⟩)),(42,.slice (some ⟨g,0,none⟩) on oc),(43,.int .i64 i),(44,.pointer (some ⟨g,i,none⟩)),(45,.slice (some ⟨bo,0,none⟩) k k),(46,.int .i64 j),(47,.pointer (some ⟨w.heap.size,2,none⟩)),(48,.slice (some ⟨b,0,none⟩) R cap),(49,.slice (some ⟨xb,xo,none⟩) m cp1),(50,.int .i64 i),(51,.pointer (some ⟨xb,xo + i,none⟩)),(52,.int .i64 x),(53,.pointer (some ⟨b,x,none⟩)),(54,.slice (some ⟨b',0,none⟩) rn rc),(55,.slice (some ⟨yb,yo,none⟩) k cp2),(56,.int .i64 j),(57,.pointer (some ⟨yb,yo + j,none⟩)),(58,.int .i64 y),(59,.pointer (some ⟨b',y * 2,none⟩)),(60,.agg #[.bool s,.slice a l c]),(61,.pointer (some ⟨bo,j * 2,none⟩))]
      (fun j hj=>hI.keep j (by simp only [List.forall_mem_cons] at hj ⊢; simp [hj]) (by simp only [List.forall_mem_cons] at hj ⊢; simp [hj]))
      (by simp only [List.forall_mem_cons]; simp [q0,q1,q2,q3,q4,q5,q6,q7,q8,q9,q10,q11,q12,q13,q14,q15,q16,q17,q18,q19,q20]) hI.size
     have hlw9:=hI.lext
     have hbw9:=hI.bel (wr.heap.size) oM nom
     have holdw9:=hI.old
     clear hI
     simp only [List.foldl_cons,List.foldl_nil,List.setIfInBounds_toArray,List.set_cons_zero,List.set_cons_succ,ptr] at hT
     subst hT
     clear q0 q1 q2 q3 q4 q5 q6 q7 q8 q9 q10 q11 q12 q13 q14 q15 q16 q17 q18 q19 q20
     simp only [List.drop_succ_cons,List.drop_zero]
     have ho9:=ho.below hbw9
     obtain ⟨sn,sa,sl,sc,z1,z2,z3,z4,-⟩:=ho9.cellAt hbo hjc
     have hbolt:=hlts i bo hbo
     have hset:=ho9.set hbo hjc (hzv.ext hlw9)
     go_wp2
     go_roundw
     case rel=>
      rw [<-hent.out,upTo_step hlt hjc] at hset
      exact ⟨j + 1,by omega,by simp,bset (bset (nx hb hbw9) oM _ _) oM _ _,(set2_old _ _ _ _ _ _ _ oM).trans (bx1.below hbw9),(set2_old _ _ _ _ _ _ _ oM).trans (br.below hbw9),(set2_old _ _ _ _ _ _ _ oM).trans (T8.below hbw9),hset.1⟩
     case measure=>simp [intOf]; omega
    ·obtain rfl : j = k:=by omega
     rw [upTo_row] at ho
     go_wp2
     go_roundw
     case rel=>exact ⟨i + 1,by omega,by simp,hb,bx1,br,T8,ho⟩
     case measure=>simp [intOf]; omega
  ·obtain rfl : i = m:=by omega
   rw [upTo_end] at ho
   obtain ⟨f1,f2,f3,f4,f5,f6⟩:=T8.three
   obtain ⟨r1,r2,r3,r4,r5,r6⟩:=br.three
   have q1:=hB0.size
   go_wp2
   refine bodyPost_ret (results_mt rfl _ rfl (br.put3 _ _ _) rfl) rfl ⟨_,bs,rfl,⟨hbl,_,rfl,?_⟩,bset (bset (bset hb oM 0 _) oM 1 _) oM 2 _⟩
   exact (ho.keep (fun k hk=>set3_old _ _ k _ _ _ oM) (br.lext3 dE _ _ _)).mono oM
def skipL (n k : Nat) : List Nat:=(List.range n).take k ++ (List.range n).drop (k + 1)
theorem skipL_len {n k : Nat} (hk : k < n + 1) : (skipL (n + 1) k).length = n:=by
 unfold skipL
 rw [List.length_append,List.length_take,List.length_drop,List.length_range]
 omega
theorem skipL_lt {n k : Nat} : ∀x ∈ skipL n k,x < n:=fun x hx=>by
 rcases List.mem_append.1 hx with h | h
 ·exact List.mem_range.1 (List.mem_of_mem_take h)
 ·exact List.mem_range.1 (List.mem_of_mem_drop h)
theorem skipL_at {n k b : Nat} (hk : k < n + 1) (hb : b < n) : (skipL (n + 1) k)[b]? = some (sk k b):=by
 unfold skipL sk
 have hl : ((List.range (n + 1)).take k).length = k:=by rw [List.length_take,List.length_range]; omega
 by_cases h : b < k
 ·rw [if_pos h,List.getElem?_append_left oM,List.getElem?_take,if_pos h,List.getElem?_range oM]
 ·rw [if_neg h,List.getElem?_append_right oM,hl,List.getElem?_drop,List.getElem?_range oM]
  congr 1
  omega
theorem dropL_at {n a : Nat} (ha : a < n) : ((List.range (n + 1)).drop 1)[a]? = some (sk 0 a):=by
 rw [List.getElem?_drop,List.getElem?_range oM,sk_zero]
 congr 1
 omega
theorem pick_minor {M : List (List Int)} {n k a b : Nat} (hk : k < n + 1) (ha : a < n) (hb : b < n) :
  pickF M ((List.range (n + 1)).drop 1) (skipL (n + 1) k) a b = mnr (ent M) 0 k a b:=by
 unfold pickF mnr
 rw [List.getD_eq_getElem?_getD,List.getD_eq_getElem?_getD,dropL_at ha,skipL_at hk hb]
 rfl
theorem det_pick {M : List (List Int)} {n k : Nat} (hk : k < n + 1) :
  det n (ent (genM n n (pickF M ((List.range (n + 1)).drop 1) (skipL (n + 1) k)))) = det n (mnr (ent M) 0 k):=
 det_congr fun a ha b hb=>by rw [ent_genM ha hb,pick_minor hk ha hb]
theorem pick_leM {h R C m k : Nat} {M : List (List Int)} {xs ys : List Nat} (hA : leM h R C (ent M)) (hx : ∀x ∈ xs,x < R) (hy : ∀x ∈ ys,x < C) (hm : xs.length = m) (hk : ys.length = k) : leM h m k (ent (genM m k (pickF M xs ys))):=fun a ha b hb=>by
 rw [ent_genM ha hb]
 unfold pickF
 have h1 : xs[a]? = some (xs[a]'oM):=List.getElem?_eq_getElem _
 have h2 : ys[b]? = some (ys[b]'oM):=List.getElem?_eq_getElem _
 rw [List.getD_eq_getElem?_getD,List.getD_eq_getElem?_getD,h1,h2]
 exact hA _ (hx _ (List.getElem_mem _)) _ (hy _ (List.getElem_mem _))
def lap (n : Nat) (M : List (List Int)) (j : Nat) : Int:=sumN j fun t=>sg1 t * (ent M 0 t * det n (mnr (ent M) 0 t))
theorem lap_even {n j : Nat} {M : List (List Int)} (h : j % 2 = 0) : lap n M j + ent M 0 j * det n (mnr (ent M) 0 j) = lap n M (j + 1):=by
 show _ = lap n M j + sg1 j * _
 unfold sg1
 rw [if_pos h,Int.one_mul]
theorem lap_odd {n j : Nat} {M : List (List Int)} (h : j % 2 = 1) : lap n M j + - (ent M 0 j * det n (mnr (ent M) 0 j)) = lap n M (j + 1):=by
 show _ = lap n M j + sg1 j * _
 unfold sg1
 rw [if_neg oM,Int.neg_mul,Int.one_mul]
theorem det_small {k : Nat} {F : Nat->Nat->Int} (hk : k<=3) (h : leM 1048576 k k F) : (det k F).natAbs<=6 * 1048576 ^ 3:=by
 refine Nat.le_trans (det_natAbs h) ?_
 match k,hk with
 | 0,_=>decide
 | 1,_=>decide
 | 2,_=>decide
 | 3,_=>decide
theorem leM_mnr {h n k : Nat} {F : Nat->Nat->Int} (hF : leM h (n + 1) (n + 1) F) : leM h n n (mnr F 0 k):=fun a ha b hb=>hF _ (sk_lt ha) _ (sk_lt hb)
theorem term_small {n k : Nat} {M : List (List Int)} (hn : n<=3) (hk : k < n + 1) (h : leM 1048576 (n + 1) (n + 1) (ent M)) : (ent M 0 k * det n (mnr (ent M) 0 k)).natAbs<=6 * 1048576 ^ 4:=by
 rw [Int.natAbs_mul]
 have:=Nat.mul_le_mul (h 0 oM k hk) (det_small hn (leM_mnr (k:=k) h))
 exact Nat.le_trans this dE
theorem lap_small {n j : Nat} {M : List (List Int)} (hn : n<=3) (hj : j<=n + 1) (h : leM 1048576 (n + 1) (n + 1) (ent M)) : (lap n M j).natAbs<=24 * 1048576 ^ 4:=by
 have:=sumN_natAbs (n:=j) (f:=fun t=>sg1 t * (ent M 0 t * det n (mnr (ent M) 0 t))) (B:=6 * 1048576 ^ 4) fun i hi=>by
  rw [sg1_abs]
  exact term_small hn oM h
 refine Nat.le_trans this (Nat.le_trans (Nat.mul_le_mul_right _ (Nat.le_trans hj (Nat.succ_le_succ hn))) dE)
theorem small24_smd {z : Int} (h : z.natAbs<=24 * 1048576 ^ 4) : Smd z:=⟨Nat.lt_of_le_of_lt h (Nat.lt_of_lt_of_le (show 24 * 1048576 ^ 4 < B32 ^ 4 by decide) (pow_mono (by rw [DLIM_eq]; omega)))⟩
end Go.Proofs.YtnocgagoaldfnaaGreat
