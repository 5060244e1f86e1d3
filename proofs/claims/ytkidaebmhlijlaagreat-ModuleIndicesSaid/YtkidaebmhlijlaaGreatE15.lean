/- Joined. -/
import Derived.Test.YtkidaebmhlijlaaGreatE11
set_option linter.unusedVariables false
set_option linter.unusedSimpArgs false
set_option linter.unusedSectionVars false
set_option maxHeartbeats 16000000
set_option maxRecDepth 100000
namespace Go.Proofs.YtkidaebmhlijlaaGreat
open Go.RowKit
theorem zNH(n:Nat)(w:World)(v:n<=1000000):
  CPq 64 #[niq n] w fun e w'=>e= .returned (slq w.heap.size n n)/\Blk w' w.heap.size tN (zBo n (fun t=>(t:Int)))/\BWq w w':=by
 have q:=fun W=>mkN (n:Int) n rfl oM W
 obtain⟨f,b⟩:∃f:Nat->Int,(fun t:Nat=>(t:Int))=f:=⟨_,rfl⟩;have j:∀i:Nat,(i:Int)=f i:=fun i=>congrFun b i
 rw[b];have l:=xgv j;clear b j;go_enter Tryz.func64,Tryz.ntmps64;go_upto_region 2 with(fail)
 refine zF ?_;intro s g;obtain⟨m,a,x⟩:=qJ g;have k:zBo n (fun _=>0)=zBo n (zIc f 0):=zEL fun t _=>by unfold zIc;rw[zA oM]
 rw[k]at a;clear g q k;go_wp2;go_loopw [9] (fun c wr=>∃i:Nat,i<=n/\c=niq i/\BWq w wr/\Blk wr w.heap.size tN (zBo n (zIc f i))) (fun c _=>n-(intOf c).toNat)
 case atStart=>exact⟨0,oM,rfl,m,a⟩
 obtain⟨i,u,rfl,d,a⟩:=hrel;by_cases p:i<n
 .have y:=(a.cell i).trans (zEe p)
  have z:=a.frozen i;have h:=a.set_ i (niq (f i));rw[zK2,zLu,<-l.out]at h;go_wp2;go_roundw
  case rel=>exact⟨i+1,oM,by simp,yB d (xgf _) _ _,by simpa using h⟩
  case measure=>exact meq
 obtain rfl:i=n:=oM;have o:zBo i (zIc f i)=zBo i f:=zEL fun t r=>by unfold zIc;rw[zB r]
 rw[o]at a;go_wp2;go_ret;exact⟨rfl,a,d⟩
theorem zRw(i m b:Nat)(w:World)(c:Blk w b 3 #[niq m])(d:i<m):
  CPq 106 #[niq i,ptq b 0] w fun e w'=>e= .returned (.bool false)/\BWq w w':=by
 have f:=c.cell 0;go_enter Tryz.func106,Tryz.ntmps106;go_wp2;go_ret;refine⟨?_,zC _ _⟩;have a:decide ((i:Int) ≥ (m:Int))=false:=zT oM;simp[a];try omega
theorem zNj(m:Nat)(w:World):
  CPq 105 #[niq m] w fun e w'=>e= .returned (.func (.func 106) #[] #[ptq w.heap.size 0])/\Blk w' w.heap.size 3 #[niq m]/\BWq w w':=by
 have h:∀(b:Fn) (first a:Array Value) (w:World),(Instr.makeFunc b first a).run Tryz.prog w= .ok (.func b first a) w:=fun _ _ _ _=>rfl
 go_enter Tryz.func105,Tryz.ntmps105;go_upto_region 1 with(fail)
 refine zF ?_;intro g c;obtain⟨f,d,i⟩:=qJ c;clear c;go_wp2;go_ret;exact⟨rfl,d,f⟩
theorem zVx(n m g b:Nat)(w:World)(h:Blk w g tN (zBo n (fun t=>(t:Int))))(d:Blk w b 3 #[niq m])(p:n<=m)(o:m<=1000000):
  CPq 152 #[slq g n n,.func (.func 106) #[] #[ptq b 0]] w fun e w'=>e= .returned (niq (-1))/\BWq w w':=by
 go_enter Tryz.func152,Tryz.ntmps152;go_wp2;go_loopw [8] (fun c wr=>∃i:Nat,i<=n/\c=niq i/\BWq w wr) (fun c _=>n-(intOf c).toNat)
 case atStart=>exact⟨0,oM,rfl,zC _ _⟩
 obtain⟨i,l,rfl,a⟩:=hrel;by_cases j:i<n
 .have k:=((h.I a).cell i).trans (zEe j)
  go_wp2_with fail
  refine(zRw i m b _ (d.I a) oM).mono ?_;rintro e q ⟨rfl,f⟩;have a:=nx a f;clear k;go_wp2;go_roundw
  case rel=>exact⟨i+1,oM,by simp,a⟩
  case measure=>exact meq
 obtain rfl:i=n:=oM;go_wp2;go_ret;exact⟨rfl,a⟩
theorem zNE(n m g b:Nat)(w:World)(c:Blk w g tN (zBo n (fun t=>(t:Int))))(a:Blk w b 3 #[niq m])(h:n<=m)(f:m<=1000000):
  CPq 107 #[slq g n n,.func (.func 106) #[] #[ptq b 0]] w fun e w'=>e= .returned (.bool false)/\BWq w w':=by
 have H:=xgv c;have HB:=xgv a;clear c a;go_enter Tryz.func107,Tryz.ntmps107;go_wp2_with fail
 refine(zVx n m g b w H.out HB.out h f).mono ?_;rintro e i ⟨rfl,d⟩;go_wp2;go_ret;exact⟨rfl,d⟩
end Go.Proofs.YtkidaebmhlijlaaGreat
