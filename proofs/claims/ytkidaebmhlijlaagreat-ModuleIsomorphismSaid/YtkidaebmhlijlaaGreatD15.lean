/- Joined. -/
import Derived.Test.YtkidaebmhlijlaaGreatD11
set_option linter.unusedVariables false
set_option linter.unusedSimpArgs false
set_option linter.unusedSectionVars false
set_option maxHeartbeats 16000000
set_option maxRecDepth 100000
namespace Go.Proofs.YtkidaebmhlijlaaGreat
open Go.RowKit
theorem zMW(n:Nat)(w:World)(hn:n<=1000000):
  CPq 64 #[niq n] w fun e w'=>e= .returned (slq w.heap.size n n)/\Blk w' w.heap.size tN (zBg n (fun t=>(t:Int)))/\BWq w w':=by
 have hmk:=fun W=>mkN (n:Int) n rfl oM W
 obtain⟨f,hf⟩:∃f:Nat->Int,(fun t:Nat=>(t:Int))=f:=⟨_,rfl⟩;have hfi:∀i:Nat,(i:Int)=f i:=fun i=>congrFun hf i
 rw[hf];have HF:=xgv hfi;clear hf hfi;go_enter Tryz.func64,Tryz.ntmps64;go_upto_region 2 with(fail)
 refine zD ?_;intro W0 hW0;obtain⟨hB0,bA,hs0⟩:=qL hW0;have hst:zBg n (fun _=>0)=zBg n (zIU f 0):=zD5 fun t _=>by unfold zIU;rw[if_neg oM]
 rw[hst]at bA;clear hW0 hmk hst;go_wp2;go_loopw [9] (fun iv wr=>∃i:Nat,i<=n/\iv=niq i/\BWq w wr/\Blk wr w.heap.size tN (zBg n (zIU f i))) (fun iv _=>n-(intOf iv).toNat)
 case atStart=>exact⟨0,oM,rfl,hB0,bA⟩
 obtain⟨i,hi,rfl,hB,bA⟩:=hrel;by_cases hlt:i<n
 ·have k1:=(bA.cell i).trans (zER hlt)
  have k2:=bA.frozen i;have hbs:=bA.set_ i (niq (f i));rw[zKT,zLF,<-HF.out]at hbs;go_wp2;go_roundw
  case rel=>exact⟨i+1,oM,by simp,yJ hB (xgf _) _ _,by simpa using hbs⟩
  case measure=>exact meq
 obtain rfl:i=n:=oM;have he:zBg i (zIU f i)=zBg i f:=zD5 fun t ht=>by unfold zIU;rw[if_pos ht]
 rw[he]at bA;go_wp2;go_ret;exact⟨rfl,bA,hB⟩
theorem zQx(i m b:Nat)(w:World)(hb:Blk w b 3 #[niq m])(hi:i<m):
  CPq 106 #[niq i,ptq b 0] w fun e w'=>e= .returned (.bool false)/\BWq w w':=by
 have q1:=hb.cell 0;go_enter Tryz.func106,Tryz.ntmps106;go_wp2;go_ret;refine⟨?_,zA _ _⟩;have h1:decide ((i:Int) ≥ (m:Int))=false:=decide_eq_false oM;simp[h1];try omega
theorem zMy(m:Nat)(w:World):
  CPq 105 #[niq m] w fun e w'=>e= .returned (.func (.func 106) #[] #[ptq w.heap.size 0])/\Blk w' w.heap.size 3 #[niq m]/\BWq w w':=by
 have hmf:∀(fn:Fn) (first cap:Array Value) (w:World),(Instr.makeFunc fn first cap).run Tryz.prog w= .ok (.func fn first cap) w:=fun _ _ _ _=>rfl
 go_enter Tryz.func105,Tryz.ntmps105;go_upto_region 1 with(fail)
 refine zD ?_;intro W0 hW0;obtain⟨hB0,bx,hs0⟩:=qL hW0;clear hW0;go_wp2;go_ret;exact⟨rfl,bx,hB0⟩
theorem zUx(n m g b:Nat)(w:World)(hg:Blk w g tN (zBg n (fun t=>(t:Int))))(hb:Blk w b 3 #[niq m])(hn:n<=m)(hm:m<=1000000):
  CPq 152 #[slq g n n,.func (.func 106) #[] #[ptq b 0]] w fun e w'=>e= .returned (niq (-1))/\BWq w w':=by
 go_enter Tryz.func152,Tryz.ntmps152;go_wp2;go_loopw [8] (fun iv wr=>∃i:Nat,i<=n/\iv=niq i/\BWq w wr) (fun iv _=>n-(intOf iv).toNat)
 case atStart=>exact⟨0,oM,rfl,zA _ _⟩
 obtain⟨i,hi,rfl,hB⟩:=hrel;by_cases hlt:i<n
 ·have q1:=((hg.below hB).cell i).trans (zER hlt)
  go_wp2_with fail
  refine(zQx i m b _ (hb.below hB) oM).mono ?_;rintro e w1 ⟨rfl,hb1⟩;have hB:=nx hB hb1;clear q1;go_wp2;go_roundw
  case rel=>exact⟨i+1,oM,by simp,hB⟩
  case measure=>exact meq
 obtain rfl:i=n:=oM;go_wp2;go_ret;exact⟨rfl,hB⟩
theorem zMS(n m g b:Nat)(w:World)(hg:Blk w g tN (zBg n (fun t=>(t:Int))))(hb:Blk w b 3 #[niq m])(hn:n<=m)(hm:m<=1000000):
  CPq 107 #[slq g n n,.func (.func 106) #[] #[ptq b 0]] w fun e w'=>e= .returned (.bool false)/\BWq w w':=by
 have H:=xgv hg;have HB:=xgv hb;clear hg hb;go_enter Tryz.func107,Tryz.ntmps107;go_wp2_with fail
 refine(zUx n m g b w H.out HB.out hn hm).mono ?_;rintro e w1 ⟨rfl,hb1⟩;go_wp2;go_ret;exact⟨rfl,hb1⟩
end Go.Proofs.YtkidaebmhlijlaaGreat
