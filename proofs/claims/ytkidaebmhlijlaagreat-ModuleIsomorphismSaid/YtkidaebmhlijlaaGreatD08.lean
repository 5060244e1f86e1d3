/- Joined. -/
import Derived.Test.YtkidaebmhlijlaaGreatD04
set_option linter.unusedVariables false
set_option linter.unusedSimpArgs false
set_option linter.unusedSectionVars false
set_option maxHeartbeats 16000000
set_option maxRecDepth 100000
variable{xs:List Nat}{base:Nat}{o:Go.Oper}{v:Go.Value}{w:Go.World}
namespace Go.Proofs.YtkidaebmhlijlaaGreat
open Go.RowKit
abbrev tNn:TypeId:=3
theorem Tryz.infoNn:(Tryz.prog.info? tNn).map (fun i=>(i.zero,i.size,i.bytes))=some (some (niq 0),1,8):=by kernel_rfl
def zIX(w:World)(ao:Option Addr)(xs:List Nat):Prop:=
 (∀x∈xs,x<=1000000)/\(xs≠ []->∃b off cs,ao=some ⟨b,off,none⟩/\w.heap[b]?=some (.cells cs tNn (0,0))/\∀k x,xs[k]?=some x->cs[off+k]?=some (niq (x:Nat)))
theorem zIX.nil(w:World)(ao:Option Addr):zIX w ao []:=⟨by simp,fun h=>absurd rfl h⟩
def zFq(w:World)(base:Nat)(v:Value)(xs:List Nat):Prop:=(∀x∈xs,x<=1000000)/\w.ownsRow base tNn 1 v xs.length (xs.map fun n=>Value.int .i64 (n:Nat))
theorem zFq.at_(h:zFq w base v xs):
  ∃ao cap,v= .slice ao xs.length cap/\xs.length<=cap/\cap<=9223372036854775807/\zIX w ao xs:=by
 obtain⟨hl,h1,h2⟩:=h;rcases h2 with⟨rfl,h0⟩|⟨g,cap,cur,rfl,hg,hh,hn,hc,hs,ht⟩
 ·have:xs= []:=qE h0
  subst this;exact⟨none,0,rfl,by simp,oM,zIX.nil _ _⟩
 refine⟨some ⟨g,0,none⟩,cap,rfl,hn,hc,hl,fun _=>⟨g,0,cur,rfl,hh,fun k x hk=>?_⟩⟩;have hk':(xs.map fun n=>Value.int .i64 (n:Nat))[k]?=some (.int .i64 (x:Nat)):=by simp[hk]
 rw[<-ht,List.getElem?_take]at hk';split at hk';simpa using hk';cases hk'
theorem zFq.own(h:zFq w base v xs):∀g,v.ownBlock=some g->base<=g/\g<w.heap.size:=h.2.lt
theorem zFq.alloc(h:zFq w base v xs)(o:Obj):zFq (w.alloc o) base v xs:=⟨h.1,h.2.alloc o⟩
theorem zFq.below{w':World}(h:zFq w base v xs)(hb:BWq w w'):zFq w' base v xs:=
 ⟨h.1,h.2.kept (row:=none) ⟨hb.os,hb.tape,hb.output,hb.size,fun k hk _=>hb.block k hk⟩ (by cases hv:v.ownBlock<;>simp)⟩
theorem wpN{o:Oper}{a:Act}{K:Act->World->Prop}{Q:Exit->Act->World->Prop}{w:World}(s x:Operand)
  (ho:o.op= .call {callee:=.builtin .append,args:=#[s,x],argTypes:=#[96,96]})
  (base:Nat) (v:Value) (xs:List Nat) (hs:a.eval s=v) (hown:zFq w base v xs) (ao:Option Addr) (m c:Nat) (ys:List Nat) (hx:a.eval x= .slice ao m c) (hy:zIX w ao ys) (hm:ys.length=m)
  (hlen:xs.length+m<=17592186044416) (hbase:base<=w.heap.size)
  (h:∀v' w',zFq w' base v' (xs++ys)->w.grownBy w' v.ownBlock->K (a.put o.dst v') w'):Oper.wp Tryz.prog o a w K Q:=by
 obtain⟨i0,hi,hz0,hz1,hz2⟩:=info_parts Tryz.infoNn;have hall:∀x∈xs++ys,x<=1000000:=fun x hx=>(List.mem_append.1 hx).elim (hown.1 x) (hy.1 x)
 by_cases hy0:ys= []
 ·subst hy0
  simp at hm;subst hm;have hrun:(Builtin.append_ #[96,96] o.type #[v,.slice ao 0 c]).run Tryz.prog w= .ok v w:=by
   cases ao with
   |none=>
    rcases hown.2.2 with⟨rfl,h0⟩|⟨g,cap,cur,rfl,_,_,hnc,_⟩
    simp[Builtin.append_,run_underlying Tryz.underlying96,sizeOf,typeInfo,hi,Builtin.lenOf,Builtin.firstCells,h0];simp[Builtin.append_,run_underlying Tryz.underlying96,sizeOf,typeInfo,hi,Builtin.lenOf,Builtin.firstCells,hnc,storeCells]
   |some ad=>
    have hf:=run_firstCells_some (P:=Tryz.prog) w i0.size 0 ad 0 c [] sI sI;rcases hown.2.2 with⟨rfl,h0⟩|⟨g,cap,cur,rfl,_,_,hnc,_⟩
    simp[Builtin.append_,run_underlying Tryz.underlying96,sizeOf,typeInfo,hi,Builtin.lenOf,hf,h0];simp[Builtin.append_,run_underlying Tryz.underlying96,sizeOf,typeInfo,hi,Builtin.lenOf,hf,hnc,storeCells]
  unfold Oper.wp;simp only[execOp,ho,resolve,invoke,builtin,Sem.run_bind,Sem.run_pure,Result.andThen_ok,List.map_toArray,List.map_cons,List.map_nil,hs,hx,hrun];exact h v w (by simpa using hown) (World.grownBy.refl w _)
 obtain⟨b,off,cs,rfl,h2,h3⟩:=hy.2 hy0;refine wp_append_own w s x 96 ho base tNn i0 _ 1 8 Tryz.underlying96 hi hz0 hz1 hz2 rfl oM v xs.length _ hs hown.2 ⟨b,off,none⟩ m c (ys.map fun n=>Value.int .i64 (n:Nat)) hx (by simp[hm]) ?_ ?_ (by simp[maxLen];omega) oM hbase ?_
 ·intro j u hj
  simp only[List.getElem?_map,Option.map_eq_some_iff]at hj;obtain⟨x',hj,rfl⟩:=hj;rw[zAL,cell_of_row w b (off+j) cs tNn _ h2];exact h3 j x' hj
 ·intro u hu
  simp only[List.mem_map]at hu;obtain⟨x',_,rfl⟩:=hu;rfl
 intro v' w' h1 h2 _;refine h v' w' ⟨hall,?_⟩ h2;simpa[hm]using h1
theorem zZ1{w:World}{ops:Array Oper}{rest:List Oper}{a:Act}{Q:Exit->Act->World->Prop}(hgd:o.guard=none)(s x:Operand)
  (ho:o.op= .call {callee:=.builtin .append,args:=#[s,x],argTypes:=#[96,96]})
  (base:Nat) (v:Value) (xs:List Nat) (hs:a.eval s=v) (hown:zFq w base v xs) (ao:Option Addr) (m c:Nat) (ys:List Nat) (hx:a.eval x= .slice ao m c) (hy:zIX w ao ys) (hm:ys.length=m)
  (hlen:xs.length+m<=17592186044416) (hbase:base<=w.heap.size)
  (h:∀v' w',zFq w' base v' (xs++ys)->w.grownBy w' v.ownBlock->wpList Tryz.prog ops Q rest (a.put o.dst v') w'):wpList Tryz.prog ops Q (o::rest) a w:=
 wpList_plain hgd fun _ hK=>wpN s x ho base v xs hs hown ao m c ys hx hy hm hlen hbase fun v' w' h1 h2=>hK _ _ (h v' w' h1 h2)

end Go.Proofs.YtkidaebmhlijlaaGreat
