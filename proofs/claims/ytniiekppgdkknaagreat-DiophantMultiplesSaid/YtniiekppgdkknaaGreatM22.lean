/- Joined. -/
import Derived.Test.YtniiekppgdkknaaGreatM16
import Derived.Test.YtniiekppgdkknaaGreatM19
set_option linter.unusedVariables false
set_option linter.unusedSimpArgs false
set_option linter.unusedSectionVars false
set_option maxHeartbeats 16000000
set_option maxRecDepth 100000
variable{w:Go.World}
namespace Go.Proofs.YtniiekppgdkknaaGreat
open Go.RowKit
instance (B R C Cu Cw:Nat) (z:W5):Decidable (okW B R C Cu Cw z):=by unfold okW;infer_instance
def zWa(B:Nat)(M:List (List Int)):Bool:=M.all fun r=>r.all fun z=>decide (z.natAbs<B)
def zWq(B:Nat)(X Y:List (List Int))(R m C:Nat):Prop:=∀i,i<R->∀j,j<C->∀k,k<m->(ent X i k).natAbs<B/\(ent Y k j).natAbs<B/\(ent X i k*ent Y k j).natAbs<B/\(zGK X Y k i j).natAbs<B
instance (B:Nat) (X Y:List (List Int)) (R m C:Nat):Decidable (zWq B X Y R m C):=by unfold zWq;infer_instance
theorem nxa{W a:World}{o:Obj}(h:BWq w W)(b:Below (W.alloc o).heap.size (W.alloc o) a):BWq w a:=nx (h.alloc h.size o) b
def zNC(ls:List Int):Array Value:=(ls.map (Value.int .i64)).toArray
theorem zEt.new(W:World)(a:List Int)(b:(a.all fun z=>decide (-9223372036854775808<=z/\z<=9223372036854775807))=true)(e:a.length<=1000):
  zEt (W.alloc (.cells (zNC a) 2)) (slq W.heap.size a.length a.length) a:=by
 refine⟨_,_,_,rfl,rfl,xgf _,oM,fun z d=>jM (zW.1 b z d),fun _=>⟨W.heap.size,_,rfl,heap_alloc_new W _,fun k z c=>?_⟩⟩;simp[zNC,c]
theorem zDe(a:List Int):zAA (fun w v=>zEt w v a):=fun _ _ _ x h=>h.I x
theorem zRx(v:Value)(a:List Int)(R C:Nat)(r c:Int)(M:List (List Int))(w:World)(h:zEt w v a)(n:r=R)(hc:c=C)(l:a.length=R*C)(f:R<=1000)(b:C<=1000)(d:yV R C (fun i j=>a.getD (i*C+j) 0)=M):
  CPq 15 #[niq r,niq c,v] w fun e w'=>∃v,e= .returned v/\zAo w' v R C M/\BWq w w':=by
 subst n;subst hc;subst d;exact(zRy v R C a w h l f b).mono fun e w' ⟨v,o,k,m,g⟩=>⟨v,k,m.mat.1,g⟩
theorem zXX(R C:Nat)(r c:Int)(w:World)(h:r=R)(hc:c=C)(b:R<=1000000)(a:C<=1000000):
  CPq 17 #[niq r,niq c] w fun e w'=>∃v,e= .returned v/\zAo w' v R C (zCn R C)/\BWq w w':=by
 subst h;subst hc;exact(zDk R C w b a).mono fun e w' ⟨v,i,f,g,d⟩=>⟨v,f,g.mat.1,d⟩
theorem zAo.agg{v:Value}{R C:Int}{M:List (List Int)}(h:zAo w v R C M):∃o n k,v= .agg #[niq R,niq C,.slice o n k]:=by
 obtain⟨A,rfl,a,n,b,rfl,-⟩:=h;exact⟨_,_,_,rfl⟩
end Go.Proofs.YtniiekppgdkknaaGreat
