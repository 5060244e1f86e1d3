/- Joined. -/
import Derived.Test.YtniiekppgdkknaaGreatM25
import Derived.Test.YtniiekppgdkknaaGreatM26
set_option linter.unusedVariables false
set_option linter.unusedSimpArgs false
set_option linter.unusedSectionVars false
set_option maxHeartbeats 16000000
set_option maxRecDepth 100000
namespace Go.Proofs.YtniiekppgdkknaaGreat
open Go.RowKit
def ZsV(w:World)(v:Value)(ys:List Int):Prop:=
 ∃ao n c,v= .slice ao n c/\ys.length=n/\(ys≠ []->∃b off cells,ao=some ⟨b,off,none⟩/\cells.length=n*2/\zTB w cells ys/\∀j u,cells[j]?=some u->w.cell? ⟨b,off+j,none⟩=some u)
theorem zW8{w:World}{n:Bool}{a:Option Addr}{l c:Nat}{z:Int}(h:yA w (.agg #[.bool n,.slice a l c]) z):ZsV (w.alloc (.cells #[.bool n,.slice a l c] tI)) (slq w.heap.size 1 1) [z]:=by
 refine⟨_,1,1,rfl,rfl,fun _=>⟨_,0,[.bool n,.slice a l c],rfl,rfl,fun k y b=>?_,fun j u d=>?_⟩⟩
 .have e:k=0:=by
   have:=(xge.1 b).1;simp at this;omega
  subst e;simp at b;subst b;exact⟨n,a,l,c,rfl,rfl,h.ext (lx ((zB _ _).alloc (xgf _) _))⟩
 rw[jC,(yJ w tI #[Value.bool n,.slice a l c]).cell];simpa using d
end Go.Proofs.YtniiekppgdkknaaGreat
