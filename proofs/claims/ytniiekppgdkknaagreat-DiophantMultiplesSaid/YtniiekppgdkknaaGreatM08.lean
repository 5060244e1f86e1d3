/- Joined. -/
import Derived.Test.YtniiekppgdkknaaGreatM06
set_option linter.unusedVariables false
set_option linter.unusedSimpArgs false
set_option linter.unusedSectionVars false
set_option maxHeartbeats 16000000
set_option maxRecDepth 100000
variable{xs:List Nat}{base:Nat}{o:Go.Oper}{ao:Option Go.Addr}{v:Go.Value}{w w':Go.World}
namespace Go.Proofs.YtniiekppgdkknaaGreat
open Go.RowKit
abbrev tNn:TypeId:=3
theorem Tryz.infoNn:(Tryz.prog.info? tNn).map (fun i=>(i.zero,i.size,i.bytes))=some (some (niq 0),1,8):=by kernel_rfl
def zBI(w:World)(ao:Option Addr)(xs:List Nat):Prop:=
 (∀x∈xs,x<=1000000)/\(xs≠ []->∃b off cs,ao=some ⟨b,off,none⟩/\w.heap[b]?=some (.cells cs tNn (0,0))/\∀k x,xs[k]?=some x->cs[off+k]?=some (niq (x:Nat)))
theorem zBI.nil(w:World)(a:Option Addr):zBI w a []:=⟨by simp,fun h=>absurd rfl h⟩
theorem zBI.block(h:zBI w ao xs)(e:∀b a,ao=some ⟨b,a,none⟩->b<w.heap.size->w'.heap[b]?=w.heap[b]?):zBI w' ao xs:=
 ⟨h.1,fun i=>by
  obtain⟨b,a,f,c,d,g⟩:=h.2 i;exact⟨b,a,f,c,(e b a c (Array.getElem?_eq_some_iff.1 d).1).trans d,g⟩⟩
theorem zBI.I(h:zBI w ao xs)(e:BWq w w'):zBI w' ao xs:=h.block fun b _ _ a=>e.block b a
def zDV(w:World)(base:Nat)(v:Value)(xs:List Nat):Prop:=(∀x∈xs,x<=1000000)/\w.ownsRow base tNn 1 v xs.length (xs.map fun n=>Value.int .i64 (n:Nat))
theorem zDV.at_(h:zDV w base v xs):
  ∃ao a,v= .slice ao xs.length a/\xs.length<=a/\a<=9223372036854775807/\zBI w ao xs:=by
 obtain⟨l,p,e⟩:=h;rcases e with⟨rfl,d⟩|⟨g,a,c,rfl,q,i,m,f,r,o⟩
 .have:xs= []:=zY d
  subst this;exact⟨none,0,rfl,by simp,oM,zBI.nil _ _⟩
 refine⟨some ⟨g,0,none⟩,a,rfl,m,f,l,fun _=>⟨g,0,c,rfl,i,fun k x j=>?_⟩⟩;have b:(xs.map fun n=>Value.int .i64 (n:Nat))[k]?=some (.int .i64 (x:Nat)):=by simp[j]
 rw[<-o,List.getElem?_take]at b;split at b;simpa using b;cases b
theorem zDV.own(h:zDV w base v xs):∀g,v.ownBlock=some g->base<=g/\g<w.heap.size:=h.2.lt
theorem zDV.empty(w:World)(base:Nat)(h:base<=w.heap.size):zDV (w.alloc (.cells #[] tNn)) base (slq w.heap.size 0 0) []:=
 ⟨by simp,by simp,.inr ⟨w.heap.size,0,#[],rfl,h,heap_alloc_new w _,xgf _,by simp[maxLen],rfl,rfl⟩⟩
theorem zDV.alloc(h:zDV w base v xs)(o:Obj):zDV (w.alloc o) base v xs:=⟨h.1,h.2.alloc o⟩
theorem zDV.I(h:zDV w base v xs)(a:BWq w w'):zDV w' base v xs:=
 ⟨h.1,h.2.kept (row:=none) ⟨a.os,a.tape,a.output,a.size,fun k b _=>a.block k b⟩ (by cases c:v.ownBlock<;>simp)⟩
theorem wpN{o:Oper}{a:Act}{K:Act->World->Prop}{Q:Exit->Act->World->Prop}{w:World}(s x:Operand)
  (z:o.op= .call {callee:=.builtin .append,args:=#[s,x],argTypes:=#[34,34]})
  (base:Nat) (v:Value) (xs:List Nat) (A:a.eval s=v) (e:zDV w base v xs) (f:Option Addr) (m c:Nat) (ys:List Nat) (l:a.eval x= .slice f m c) (C:zBI w f ys) (k:ys.length=m)
  (W:xs.length+m<=17592186044416) (R:base<=w.heap.size)
  (h:∀p w',zDV w' base p (xs++ys)->w.grownBy w' v.ownBlock->K (a.put o.dst p) w'):Oper.wp Tryz.prog o a w K Q:=by
 obtain⟨E,d,T,U,V⟩:=info_parts Tryz.infoNn;have O:∀x∈xs++ys,x<=1000000:=fun x l=>(List.mem_append.1 l).elim (e.1 x) (C.1 x)
 by_cases D:ys= []
 .subst D
  simp at k;subst k;have S:(Builtin.append_ #[34,34] o.type #[v,.slice f 0 c]).run Tryz.prog w= .ok v w:=by
   cases f with
   |none=>
    rcases e.2.2 with⟨rfl,q⟩|⟨g,I,L,rfl,_,_,t,_⟩
    simp[Builtin.append_,run_underlying Tryz.underlying34,sizeOf,typeInfo,d,Builtin.lenOf,Builtin.firstCells,q];simp[Builtin.append_,run_underlying Tryz.underlying34,sizeOf,typeInfo,d,Builtin.lenOf,Builtin.firstCells,t,storeCells]
   |some H=>
    have y:=run_firstCells_some (P:=Tryz.prog) w E.size 0 H 0 c [] sI sI;rcases e.2.2 with⟨rfl,q⟩|⟨g,I,L,rfl,_,_,t,_⟩
    simp[Builtin.append_,run_underlying Tryz.underlying34,sizeOf,typeInfo,d,Builtin.lenOf,y,q];simp[Builtin.append_,run_underlying Tryz.underlying34,sizeOf,typeInfo,d,Builtin.lenOf,y,t,storeCells]
  unfold Oper.wp;simp only[execOp,z,resolve,invoke,builtin,Sem.run_bind,Sem.run_pure,Result.andThen_ok,List.map_toArray,List.map_cons,List.map_nil,A,l,S];exact h v w (by simpa using e) (World.grownBy.refl w _)
 obtain⟨b,F,J,rfl,r,N⟩:=C.2 D;refine wp_append_own w s x 34 z base tNn E _ 1 8 Tryz.underlying34 d T U V rfl oM v xs.length _ A e.2 ⟨b,F,none⟩ m c (ys.map fun n=>Value.int .i64 (n:Nat)) l (by simp[k]) ?_ ?_ (by simp[maxLen];omega) oM R ?_
 .intro j u i
  simp only[List.getElem?_map,Option.map_eq_some_iff]at i;obtain⟨G,i,rfl⟩:=i;rw[jI,cell_of_row w b (F+j) J tNn _ r];exact N j G i
 .intro u B
  simp only[List.mem_map]at B;obtain⟨G,_,rfl⟩:=B;rfl
 intro p w' M r _;refine h p w' ⟨O,?_⟩ r;simpa[k]using M
theorem zV9{w:World}{ops:Array Oper}{rest:List Oper}{a:Act}{Q:Exit->Act->World->Prop}(i:o.guard=none)(s x:Operand)
  (l:o.op= .call {callee:=.builtin .append,args:=#[s,x],argTypes:=#[34,34]})
  (base:Nat) (v:Value) (xs:List Nat) (p:a.eval s=v) (n:zDV w base v xs) (d:Option Addr) (m c:Nat) (ys:List Nat) (q:a.eval x= .slice d m c) (r:zBI w d ys) (k:ys.length=m)
  (j:xs.length+m<=17592186044416) (g:base<=w.heap.size)
  (h:∀b w',zDV w' base b (xs++ys)->w.grownBy w' v.ownBlock->wpList Tryz.prog ops Q rest (a.put o.dst b) w'):wpList Tryz.prog ops Q (o::rest) a w:=
 wpList_plain i fun _ hK=>wpN s x l base v xs p n d m c ys q r k j g fun b w' e f=>hK _ _ (h b w' e f)
theorem zBI.cell(h:zBI w ao xs){k:Nat}(d:k<xs.length):
  ∃b off x,ao=some ⟨b,off,none⟩/\b<w.heap.size/\xs[k]?=some x/\w.cell? ⟨b,off+k,none⟩=some (niq (x:Nat))/\x<=1000000:=by
 obtain⟨b,off,e,f,c,g⟩:=h.2 (by rintro rfl;simp at d);have a:=xga d;exact⟨b,off,_,f,(Array.getElem?_eq_some_iff.1 c).1,a,by rw[cell_of_row w b (off+k) e tNn _ c];exact g k _ a,h.1 _ (xgd a)⟩
theorem zI4(d:Option Addr)(m o n:Nat)(xs:List Nat)(w:World)(f:xs.length=m)(hc:m<=1000000)(h:zBI w d xs)(a:∀x∈xs,x<n)(t:n<=1000000):
  CPq 26 #[.slice d m o,niq n] w fun e w'=>e= .returned (.bool true)/\BWq w w':=by
 have l:=xgw f;have j:qS (∀k x,xs[k]?=some x->x<n):=⟨fun k x p=>a x (xgd p)⟩;clear f a;go_enter Tryz.func26,Tryz.ntmps26;go_upto_region 1 with(fail)
 go_wp2;go_loopw [5] (fun c wr=>∃i:Nat,c=niq i/\i<=m/\wr=w) (fun c _=>m-(intOf c).toNat)
 case atStart=>exact⟨0,rfl,oM,rfl⟩
 obtain⟨i,rfl,s,rfl⟩:=hrel;by_cases a:i<m
 .obtain⟨b,y,x,rfl,q,g,r,u⟩:=h.cell (k:=i) (by rw[l.out];exact a)
  have v:=j.out i x g;clear g;go_wp2;go_roundw
  case rel=>exact⟨i+1,by simp,oM,trivial⟩
  case measure=>exact meq
 go_wp2;go_ret;exact⟨rfl,zB _ _⟩
end Go.Proofs.YtniiekppgdkknaaGreat
