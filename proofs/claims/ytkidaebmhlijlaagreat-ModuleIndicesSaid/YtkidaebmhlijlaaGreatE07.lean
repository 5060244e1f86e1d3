/- Joined. -/
import Derived.Test.YtkidaebmhlijlaaGreatE05
set_option linter.unusedVariables false
set_option linter.unusedSimpArgs false
set_option linter.unusedSectionVars false
set_option maxHeartbeats 16000000
set_option maxRecDepth 100000
variable{xs:List Nat}{base:Nat}{o:Go.Oper}{v:Go.Value}{w:Go.World}
namespace Go.Proofs.YtkidaebmhlijlaaGreat
open Go.RowKit
abbrev tNn:TypeId:=3
theorem Tryz.infoNn:(Tryz.prog.info? tNn).map (fun i=>(i.zero,i.size,i.bytes))=some (some (niq 0),1,8):=by kernel_rfl
def zIi(w:World)(ao:Option Addr)(xs:List Nat):Prop:=
 (∀x∈xs,x<=1000000)/\(xs≠ []->∃b off cs,ao=some ⟨b,off,none⟩/\w.heap[b]?=some (.cells cs tNn (0,0))/\∀k x,xs[k]?=some x->cs[off+k]?=some (niq (x:Nat)))
theorem zIi.nil(w:World)(a:Option Addr):zIi w a []:=⟨by simp,fun h=>absurd rfl h⟩
def zFz(w:World)(base:Nat)(v:Value)(xs:List Nat):Prop:=(∀x∈xs,x<=1000000)/\w.ownsRow base tNn 1 v xs.length (xs.map fun n=>Value.int .i64 (n:Nat))
theorem zFz.at_(h:zFz w base v xs):
  ∃c a,v= .slice c xs.length a/\xs.length<=a/\a<=9223372036854775807/\zIi w c xs:=by
 obtain⟨m,q,f⟩:=h;rcases f with⟨rfl,e⟩|⟨g,a,d,rfl,r,j,o,i,s,p⟩
 .have:xs= []:=qL e
  subst this;exact⟨none,0,rfl,by simp,oM,zIi.nil _ _⟩
 refine⟨some ⟨g,0,none⟩,a,rfl,o,i,m,fun _=>⟨g,0,d,rfl,j,fun k x l=>?_⟩⟩;have b:(xs.map fun n=>Value.int .i64 (n:Nat))[k]?=some (.int .i64 (x:Nat)):=by simp[l]
 rw[<-p,List.getElem?_take]at b;split at b;simpa using b;cases b
theorem zFz.own(h:zFz w base v xs):∀g,v.ownBlock=some g->base<=g/\g<w.heap.size:=h.2.lt
theorem zFz.alloc(h:zFz w base v xs)(o:Obj):zFz (w.alloc o) base v xs:=⟨h.1,h.2.alloc o⟩
theorem zFz.I{w':World}(h:zFz w base v xs)(a:BWq w w'):zFz w' base v xs:=
 ⟨h.1,h.2.kept (row:=none) ⟨a.os,a.tape,a.output,a.size,fun k b _=>a.block k b⟩ (by cases c:v.ownBlock<;>simp)⟩
theorem wpN{o:Oper}{a:Act}{K:Act->World->Prop}{Q:Exit->Act->World->Prop}{w:World}(s x:Operand)
  (A:o.op= .call {callee:=.builtin .append,args:=#[s,x],argTypes:=#[96,96]})
  (base:Nat) (v:Value) (xs:List Nat) (B:a.eval s=v) (e:zFz w base v xs) (i:Option Addr) (m c:Nat) (ys:List Nat) (p:a.eval x= .slice i m c) (D:zIi w i ys) (l:ys.length=m)
  (X:xs.length+m<=17592186044416) (S:base<=w.heap.size)
  (h:∀q f,zFz f base q (xs++ys)->w.grownBy f v.ownBlock->K (a.put o.dst q) f):Oper.wp Tryz.prog o a w K Q:=by
 obtain⟨F,d,U,V,W⟩:=info_parts Tryz.infoNn;have R:∀x∈xs++ys,x<=1000000:=fun x p=>(List.mem_append.1 p).elim (e.1 x) (D.1 x)
 by_cases E:ys= []
 .subst E
  simp at l;subst l;have T:(Builtin.append_ #[96,96] o.type #[v,.slice i 0 c]).run Tryz.prog w= .ok v w:=by
   cases i with
   |none=>
    rcases e.2.2 with⟨rfl,r⟩|⟨g,J,M,rfl,_,_,y,_⟩
    simp[Builtin.append_,run_underlying Tryz.underlying96,sizeOf,typeInfo,d,Builtin.lenOf,Builtin.firstCells,r];simp[Builtin.append_,run_underlying Tryz.underlying96,sizeOf,typeInfo,d,Builtin.lenOf,Builtin.firstCells,y,storeCells]
   |some I=>
    have z:=run_firstCells_some (P:=Tryz.prog) w F.size 0 I 0 c [] sI sI;rcases e.2.2 with⟨rfl,r⟩|⟨g,J,M,rfl,_,_,y,_⟩
    simp[Builtin.append_,run_underlying Tryz.underlying96,sizeOf,typeInfo,d,Builtin.lenOf,z,r];simp[Builtin.append_,run_underlying Tryz.underlying96,sizeOf,typeInfo,d,Builtin.lenOf,z,y,storeCells]
  unfold Oper.wp;simp only[execOp,A,resolve,invoke,builtin,Sem.run_bind,Sem.run_pure,Result.andThen_ok,List.map_toArray,List.map_cons,List.map_nil,B,p,T];exact h v w (by simpa using e) (World.grownBy.refl w _)
 obtain⟨b,G,L,rfl,t,O⟩:=D.2 E;refine wp_append_own w s x 96 A base tNn F _ 1 8 Tryz.underlying96 d U V W rfl oM v xs.length _ B e.2 ⟨b,G,none⟩ m c (ys.map fun n=>Value.int .i64 (n:Nat)) p (by simp[l]) ?_ ?_ (by simp[maxLen];omega) oM S ?_
 .intro j u k
  simp only[List.getElem?_map,Option.map_eq_some_iff]at k;obtain⟨H,k,rfl⟩:=k;rw[zAg,cell_of_row w b (G+j) L tNn _ t];exact O j H k
 .intro u C
  simp only[List.mem_map]at C;obtain⟨H,_,rfl⟩:=C;rfl
 intro q f N t _;refine h q f ⟨R,?_⟩ t;simpa[l]using N
theorem qA8{w:World}{ops:Array Oper}{rest:List Oper}{a:Act}{Q:Exit->Act->World->Prop}(j:o.guard=none)(s x:Operand)
  (n:o.op= .call {callee:=.builtin .append,args:=#[s,x],argTypes:=#[96,96]})
  (base:Nat) (v:Value) (xs:List Nat) (q:a.eval s=v) (p:zFz w base v xs) (e:Option Addr) (m c:Nat) (ys:List Nat) (r:a.eval x= .slice e m c) (t:zIi w e ys) (l:ys.length=m)
  (k:xs.length+m<=17592186044416) (i:base<=w.heap.size)
  (h:∀d b,zFz b base d (xs++ys)->w.grownBy b v.ownBlock->wpList Tryz.prog ops Q rest (a.put o.dst d) b):wpList Tryz.prog ops Q (o::rest) a w:=
 wpList_plain j fun _ hK=>wpN s x n base v xs q p e m c ys r t l k i fun d b f g=>hK _ _ (h d b f g)

end Go.Proofs.YtkidaebmhlijlaaGreat
