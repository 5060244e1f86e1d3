/- Package bareiss: exchange. Package bareiss: step. Lists of rows: append. Package bareiss: run. Package bareiss: run. Package bareiss: the equations of Solve. -/
import Derived.Scope
import Derived.Test.YtnbmaipobhppcaaGreatD09
import Derived.Test.YtnbmaipobhppcaaGreatD11
import Derived.Test.YtnbmaipobhppcaaGreatD14
import Derived.Test.YtnbmaipobhppcaaGreatD16
import Derived.Test.YtnbmaipobhppcaaGreatD17
import Derived.Test.YtnbmaipobhppcaaGreatD18
import Derived.Test.YtnbmaipobhppcaaGreatD24
set_option linter.unusedVariables false
set_option linter.unusedSimpArgs false
set_option linter.unusedSectionVars false
set_option maxHeartbeats 16000000
set_option maxRecDepth 100000
namespace Go.Proofs.YtnbmaipobhppcaaGreat
open Go.RowKit
def zCQ(w:World)(b n m:Nat)(E:Nat->Nat->Int):Prop:=∃cs:Array Value,Blk w b tR cs/\n<=cs.size/\∀i,i<n->∃o c,cs[i]?=some (.slice o m c)/\qT w (.slice o m c) (zM m (E i))
theorem zCQ.lt{w:World}{b n m:Nat}{E:Nat->Nat->Int}(h:zCQ w b n m E):b<w.heap.size:=by
 obtain⟨cs,h1,-⟩:=h;exact h1.lt
theorem zCQ.below{w w':World}{b n m:Nat}{E:Nat->Nat->Int}(h:zCQ w b n m E)(hb:Below w.heap.size w w'):zCQ w' b n m E:=by
 obtain⟨cs,h1,h2,h3⟩:=h;refine⟨cs,h1.below hb,h2,fun i hi=>?_⟩;obtain⟨o,c,e1,e2⟩:=h3 i hi;exact⟨o,c,e1,e2.below hb⟩
theorem qT.gone{w w':World}{v:Value}{zs:List Int}{b:Nat}{T:TypeId}{cs:Array Value}(h:qT w v zs)(hb:Blk w b T cs)(hT:¬ T=tI)(ho:∀k,k<w.heap.size->k≠b->w'.heap[k]?=w.heap[k]?)(hx:yO w w'):qT w' v zs:=by
 obtain⟨ao,n,cap,h1,h2,h3,h4,h5⟩:=h;refine⟨ao,n,cap,h1,h2,h3,h4,fun hn=>?_⟩;obtain⟨g,e1,e2⟩:=h5 hn;refine⟨g,e1,e2.old (ho g e2.lt fun e=>?_) hx⟩;subst e;obtain⟨cs',e3,-⟩:=e2;unfold Blk at hb;rw[e3]at hb;injection hb with hb
 injection hb with _ ht
 exact hT ht.symm
theorem zCQ.put{w:World}{b n m k:Nat}{E:Nat->Nat->Int}{x:Nat->Int}{o:Option Addr}{c:Nat}(h:zCQ w b n m E)(hk:k<n)(hv:qT w (.slice o m c) (zM m x)):
  zCQ (w.setCell ⟨b,k,none⟩ (.slice o m c)) b n m (fun i=>if i=k then x else E i)/\yO w (w.setCell ⟨b,k,none⟩ (.slice o m c))/\∀g,g≠b->(w.setCell ⟨b,k,none⟩ (.slice o m c)).heap[g]?=w.heap[g]?:=by
 obtain⟨cs,h1,h2,h3⟩:=h;have hx:=h1.lext (by decide:tR≠tU) k (.slice o m c);have ho:∀g,g≠b->(w.setCell ⟨b,k,none⟩ (.slice o m c)).heap[g]?=w.heap[g]?:=fun g hg=>zV w b k g _ hg
 refine⟨⟨cs.setIfInBounds k (.slice o m c),h1.set_ k _,by simpa using h2,fun i hi=>?_⟩,hx,ho⟩;by_cases e:i=k
 ·subst e
  refine⟨o,c,Array.getElem?_setIfInBounds_self_of_lt oM,?_⟩;show qT _ _ (zM m (if i=i then x else E i));rw[if_pos rfl];exact hv.gone h1 dE (fun g _ hg=>ho g hg) hx
 ·obtain⟨o',c',e1,e2⟩:=h3 i hi
  refine⟨o',c',by rw[xgc (Ne.symm e)];exact e1,?_⟩;show qT _ _ (zM m (if i=k then x else E i));rw[if_neg e];exact e2.gone h1 dE (fun g _ hg=>ho g hg) hx
theorem zCQ.row{w:World}{b n m i:Nat}{E:Nat->Nat->Int}(h:zCQ w b n m E)(hi:i<n):∃o c,w.cell? ⟨b,i,none⟩=some (.slice o m c)/\w.frozen? ⟨b,i,none⟩=false/\qT w (.slice o m c) (zM m (E i)):=by
 obtain⟨cs,h1,h2,h3⟩:=h;obtain⟨o,c,e1,e2⟩:=h3 i hi;exact⟨o,c,(h1.cell i).trans e1,h1.frozen i,e2⟩
theorem zCQ.congr{w:World}{b n m:Nat}{E F:Nat->Nat->Int}(h:zCQ w b n m E)(e:∀i,i<n->∀j,j<m->E i j=F i j):zCQ w b n m F:=by
 obtain⟨cs,h1,h2,h3⟩:=h;refine⟨cs,h1,h2,fun i hi=>?_⟩;obtain⟨o,c,e1,e2⟩:=h3 i hi;exact⟨o,c,e1,by rw[zP fun j hj=>(e i hi j hj).symm];exact e2⟩
theorem zIL{w:World}{b k:Nat}{T:TypeId}{cs:Array Value}(h:Blk w b T cs)(hk:k<cs.size):∃u,w.cell? ⟨b,k,none⟩=some u:=⟨_,(h.cell k).trans (Array.getElem?_eq_getElem hk)⟩
theorem zNq{E:Nat->Nat->Int}{k:Nat}:bx E k k=E:=by
 funext a
 unfold bx;by_cases e:a=k
 ·rw[if_pos e,e]
 ·rw[if_neg e,if_neg e]
theorem zJ3(be bh n m i k cap:Nat)(E:Nat->Nat->Int)(ln od:Bool)(la:Option Addr)(ll lc:Nat)(pv:Value)(w:World)(hb:Blk w be tBe #[.slice (some ⟨bh,0,none⟩) n cap,.bool ln,.slice la ll lc,.bool od,pv])(hr:zCQ w bh n m E)(hi:i<n)(hk:k<n)(hne:be≠bh):
  Calls Tryz.prog 269 #[.pointer (some ⟨be,0,none⟩),.int .i64 i,.int .i64 k] w fun e w'=>(∃u,e= .returned u)/\yC [be,bh] w w'/\zCQ w' bh n m (bx E i k)/\Blk w' be tBe #[.slice (some ⟨bh,0,none⟩) n cap,.bool ln,.slice la ll lc,.bool (od^^decide (i≠k)),pv]:=by
 by_cases hik:i=k
 ·subst hik
  have hdk:(od^^decide (i≠i))=od:=by simp
  rw[hdk,zNq];go_enter Tryz.func269,Tryz.ntmps269;go_wp2;exact bodyPost_end (results_none rfl _ _ _) rfl ⟨⟨_,rfl⟩,yC.refl _ _,hr,hb⟩
 ·have hdk:(od^^decide (i≠k))= !od:=by simp[hik]
  rw[hdk];obtain⟨oi,ci,p1,p2,hvi⟩:=hr.row hi;obtain⟨ok,ck,p3,p4,hvk⟩:=hr.row hk;obtain⟨cs,hbh,hcs,-⟩:=id hr;have HR:=xgv hr;have VI:=xgv hvi;have VK:=xgv hvk;have HB:=xgv hb;have lb:=hb.lt;have lh:=hbh.lt;have c1:=hb.cell 0;have c2:=hb.cell 3;have c3:=hb.frozen 3;have hcast:((i:Int)=(k:Int))=False:=by simp;omega
  have hcast':((i:Int) !=(k:Int))=true:=by simp;omega
  have HCS:=xgv hcs;have HBH:=xgv hbh;clear hr hvi hvk hb hdk hcs hbh;go_enter Tryz.func269,Tryz.ntmps269;go_upto_region 1 with(fail)
  refine zE rfl (RIS w (w.heap.size) _ 35
    [⟨0,9,fun _ v=>v= .pointer (some ⟨be,0,none⟩)⟩,⟨1,10,fun _ v=>v= .pointer (some ⟨be,0,none⟩)⟩,⟨2,11,fun _ v=>v= .pointer (some ⟨be,0,none⟩)⟩,⟨3,12,fun _ v=>v= .slice (some ⟨bh,0,none⟩) n cap⟩,⟨4,13,fun _ v=>v= .int .i64 i⟩,⟨5,14,fun _ v=>v= .pointer (some ⟨be,0,none⟩)⟩,⟨6,15,fun _ v=>v= .pointer (some ⟨be,0,none⟩)⟩,⟨7,16,fun _ v=>v= .pointer (some ⟨be,0,none⟩)⟩,⟨8,17,fun _ v=>v= .slice (some ⟨bh,0,none⟩) n cap⟩,⟨9,18,fun _ v=>v= .int .i64 k⟩,⟨10,19,fun _ v=>v= .pointer (some ⟨be,0,none⟩)⟩,⟨11,20,fun _ v=>v= .pointer (some ⟨be,0,none⟩)⟩,⟨12,21,fun _ v=>v= .pointer (some ⟨be,0,none⟩)⟩,⟨13,22,fun _ v=>v= .slice (some ⟨bh,0,none⟩) n cap⟩,⟨14,23,fun _ v=>v= .int .i64 k⟩,⟨15,24,fun _ v=>v= .pointer (some ⟨bh,k,none⟩)⟩,⟨16,25,fun _ v=>v= .slice ok m ck⟩,⟨17,26,fun _ v=>v= .pointer (some ⟨be,0,none⟩)⟩,⟨18,27,fun _ v=>v= .pointer (some ⟨be,0,none⟩)⟩,⟨19,28,fun _ v=>v= .pointer (some ⟨be,0,none⟩)⟩,⟨20,29,fun _ v=>v= .slice (some ⟨bh,0,none⟩) n cap⟩,⟨21,30,fun _ v=>v= .int .i64 i⟩,⟨22,31,fun _ v=>v= .pointer (some ⟨bh,i,none⟩)⟩,⟨23,32,fun _ v=>v= .slice oi m ci⟩,⟨24,33,fun _ v=>v= .pointer (some ⟨bh,i,none⟩)⟩,⟨26,34,fun _ v=>v= .pointer (some ⟨bh,k,none⟩)⟩]
    [] [] 25 27 (fun w=>w.setCell ⟨bh,i,none⟩ (.slice ok m ck)) (fun _ w=>w.setCell ⟨bh,k,none⟩ (.slice oi m ci))) kR (RIS.start RI.start) ?fin1 ?steps1
  case steps1=>
   refine⟨?_,?_,?_,?_,?_,?_,?_,?_,?_,?_,?_,?_,?_,?_,?_,?_,?_,?_,?_,?_,?_,?_,?_,?_,?_,?_,?_,?_,trivial⟩
   ·refine zF.lift kR kR dE ?_
    intro L T wS hL hd hcl hI K hK;try refine zA rfl ?_
    have zt:T[0]?=some (.pointer (some ⟨be,0,none⟩)):=hI.keep 0 sI sI;go_simp;exact hK _ _ (hI.y mm0 rfl)
   ·refine zF.lift kR kR dE ?_
    intro L T wS hL hd hcl hI K hK;try refine zA rfl ?_
    obtain⟨v0,zt0,rfl⟩:=hI.v mm0 (hd 0);go_simp;exact hK _ _ (hI.y mm1 rfl)
   ·refine zF.lift kR kR dE ?_
    intro L T wS hL hd hcl hI K hK;try refine zA rfl ?_
    obtain⟨v1,zt1,rfl⟩:=hI.v mm1 (hd 1);go_simp;exact hK _ _ (hI.y mm2 rfl)
   ·refine zF.lift kR kR dE ?_
    intro L T wS hL hd hcl hI K hK;try refine zA rfl ?_
    obtain⟨v2,zt2,rfl⟩:=hI.v mm2 (hd 2);have cc0:=hI.cell c1 oM aU;go_simp;exact hK _ _ (hI.y mm3 rfl)
   ·refine zF.lift kR kR dE ?_
    intro L T wS hL hd hcl hI K hK;try refine zA rfl ?_
    have zt:T[1]?=some (.int .i64 i):=hI.keep 1 sI sI;go_simp;exact hK _ _ (hI.y mm4 rfl)
   ·refine zF.lift kR kR dE ?_
    intro L T wS hL hd hcl hI K hK;try refine zA rfl ?_
    have zt:T[0]?=some (.pointer (some ⟨be,0,none⟩)):=hI.keep 0 sI sI;go_simp;exact hK _ _ (hI.y mm5 rfl)
   ·refine zF.lift kR kR dE ?_
    intro L T wS hL hd hcl hI K hK;try refine zA rfl ?_
    obtain⟨v5,zt5,rfl⟩:=hI.v mm5 (hd 5);go_simp;exact hK _ _ (hI.y mm6 rfl)
   ·refine zF.lift kR kR dE ?_
    intro L T wS hL hd hcl hI K hK;try refine zA rfl ?_
    obtain⟨v6,zt6,rfl⟩:=hI.v mm6 (hd 6);go_simp;exact hK _ _ (hI.y mm7 rfl)
   ·refine zF.lift kR kR dE ?_
    intro L T wS hL hd hcl hI K hK;try refine zA rfl ?_
    obtain⟨v7,zt7,rfl⟩:=hI.v mm7 (hd 7);have cc0:=hI.cell c1 oM aU;go_simp;exact hK _ _ (hI.y mm8 rfl)
   ·intro L T wS hL hd hcl hI K hK
    try refine zA rfl ?_
    have zt:T[2]?=some (.int .i64 k):=hI.keep sI sI;go_simp;exact hK _ _ (hI.value hcl kR hL dE ⟨9,18,_⟩ mm9 rfl (fun _=>rfl))
   ·refine zF.lift kR kR dE ?_
    intro L T wS hL hd hcl hI K hK;try refine zA rfl ?_
    have zt:T[0]?=some (.pointer (some ⟨be,0,none⟩)):=hI.keep 0 sI sI;go_simp;exact hK _ _ (hI.y zAC rfl)
   ·refine zF.lift kR kR dE ?_
    intro L T wS hL hd hcl hI K hK;try refine zA rfl ?_
    obtain⟨v10,zt10,rfl⟩:=hI.v zAC (hd 10);go_simp;exact hK _ _ (hI.y zAJ rfl)
   ·refine zF.lift kR kR dE ?_
    intro L T wS hL hd hcl hI K hK;try refine zA rfl ?_
    obtain⟨v11,zt11,rfl⟩:=hI.v zAJ (hd 11);go_simp;exact hK _ _ (hI.y zAo rfl)
   ·refine zF.lift kR kR dE ?_
    intro L T wS hL hd hcl hI K hK;try refine zA rfl ?_
    obtain⟨v12,zt12,rfl⟩:=hI.v zAo (hd 12);have cc0:=hI.cell c1 oM aU;go_simp;exact hK _ _ (hI.y zCF rfl)
   ·refine zF.lift kR kR dE ?_
    intro L T wS hL hd hcl hI K hK;try refine zA rfl ?_
    have zt:T[2]?=some (.int .i64 k):=hI.keep 2 sI sI;go_simp;exact hK _ _ (hI.y zBp rfl)
   ·refine zF.lift kR kR dE ?_
    intro L T wS hL hd hcl hI K hK;try refine zA rfl ?_
    obtain⟨v13,zt13,rfl⟩:=hI.v zCF (hd 13);obtain⟨v14,zt14,rfl⟩:=hI.v zBp (hd 14);go_simp;exact hK _ _ (hI.y zCS rfl)
   ·refine zF.lift kR kR dE ?_
    intro L T wS hL hd hcl hI K hK;try refine zA rfl ?_
    obtain⟨v15,zt15,rfl⟩:=hI.v zCS (hd 15);have cc0:=hI.cell p3 oM aU;go_simp;exact hK _ _ (hI.y zDs rfl)
   ·refine zF.lift kR kR dE ?_
    intro L T wS hL hd hcl hI K hK;try refine zA rfl ?_
    have zt:T[0]?=some (.pointer (some ⟨be,0,none⟩)):=hI.keep 0 sI sI;go_simp;exact hK _ _ (hI.y zEs rfl)
   ·refine zF.lift kR kR dE ?_
    intro L T wS hL hd hcl hI K hK;try refine zA rfl ?_
    obtain⟨v17,zt17,rfl⟩:=hI.v zEs (hd 17);go_simp;exact hK _ _ (hI.y zCT rfl)
   ·refine zF.lift kR kR dE ?_
    intro L T wS hL hd hcl hI K hK;try refine zA rfl ?_
    obtain⟨v18,zt18,rfl⟩:=hI.v zCT (hd 18);go_simp;exact hK _ _ (hI.y zEt rfl)
   ·refine zF.lift kR kR dE ?_
    intro L T wS hL hd hcl hI K hK;try refine zA rfl ?_
    obtain⟨v19,zt19,rfl⟩:=hI.v zEt (hd 19);have cc0:=hI.cell c1 oM aU;go_simp;exact hK _ _ (hI.y zEZ rfl)
   ·refine zF.lift kR kR dE ?_
    intro L T wS hL hd hcl hI K hK;try refine zA rfl ?_
    have zt:T[1]?=some (.int .i64 i):=hI.keep 1 sI sI;go_simp;exact hK _ _ (hI.y zEa rfl)
   ·refine zF.lift kR kR dE ?_
    intro L T wS hL hd hcl hI K hK;try refine zA rfl ?_
    obtain⟨v20,zt20,rfl⟩:=hI.v zEZ (hd 20);obtain⟨v21,zt21,rfl⟩:=hI.v zEa (hd 21);go_simp;exact hK _ _ (hI.y zFT rfl)
   ·refine zF.lift kR kR dE ?_
    intro L T wS hL hd hcl hI K hK;try refine zA rfl ?_
    obtain⟨v22,zt22,rfl⟩:=hI.v zFT (hd 22);have cc0:=hI.cell p1 oM aU;go_simp;exact hK _ _ (hI.y zFU rfl)
   ·refine zF.lift kR kR dE ?_
    intro L T wS hL hd hcl hI K hK;try refine zA rfl ?_
    obtain⟨v3,zt3,rfl⟩:=hI.v mm3 (hd 3);obtain⟨v4,zt4,rfl⟩:=hI.v mm4 (hd 4);go_simp;exact hK _ _ (hI.y zHM rfl)
   ·intro L T wS hL hd hcl hI K hK
    try refine zA rfl ?_
    obtain⟨hI0,hIS⟩:=hI.first hcl kR hL dE sI sI sI
    obtain⟨_,zt24,rfl⟩:=hI0.v zHM (hd 24);obtain⟨_,zt16,rfl⟩:=hI0.v zDs (hd 16);have hh:=hI0.old bh oM sI;have cc1:=(zJ9 hh).trans p1;have cc3:=(zHd hh).trans p2;clear hh;go_simp;exact hK _ _ hIS
   ·intro L T wS hL hd hcl hI K hK
    try refine zA rfl ?_
    obtain⟨v8,zt8,hz8⟩:=hI.val mm8 (hd 8) (fun _ _ _ h=>h);replace hz8:v8= .slice (some ⟨bh,0,none⟩) n cap:=hz8 wS;subst hz8;obtain⟨v9,zt9,hz9⟩:=hI.val mm9 (hd 9) (fun _ _ _ h=>h);replace hz9:v9= .int .i64 k:=hz9 wS;subst hz9;go_simp;exact hK _ _ (hI.value hcl kR hL dE ⟨26,34,_⟩ zEu rfl (fun _=>rfl))
   ·intro L T wS hL hd hcl hI K hK
    try refine zA rfl ?_
    obtain⟨w0,rfl,hI0,hIS⟩:=hI.second (hd 25) hL sI sI sI;obtain⟨_,zt26,rfl⟩:=hI0.v zEu (hd 26);obtain⟨_,zt23,rfl⟩:=hI0.v zFU (hd 23);have hh:Blk w0 bh tR cs:=(hI0.old bh oM sI).trans HBH.out;have cc3:=(hh.set_ i (.slice ok m ck)).frozen k;obtain⟨u,cc1⟩:=zIL (hh.set_ i (.slice ok m ck)) (k:=k) (by have:=HCS.out;simp;omega);clear hh;go_simp;exact hK _ _ hIS
  intro T wf1 hIS;obtain⟨w1,hI,hwfa⟩:=hIS.fin dE;obtain⟨va0,q0,rfl⟩:=hI.v mm0 rfl;obtain⟨va1,q1,rfl⟩:=hI.v mm1 rfl;obtain⟨va2,q2,rfl⟩:=hI.v mm2 rfl;obtain⟨va3,q3,rfl⟩:=hI.v mm3 rfl;obtain⟨va4,q4,rfl⟩:=hI.v mm4 rfl;obtain⟨va5,q5,rfl⟩:=hI.v mm5 rfl;obtain⟨va6,q6,rfl⟩:=hI.v mm6 rfl;obtain⟨va7,q7,rfl⟩:=hI.v mm7 rfl;obtain⟨va8,q8,rfl⟩:=hI.v mm8 rfl;obtain⟨va9,q9,rfl⟩:=hI.v mm9 rfl;obtain⟨va10,q10,rfl⟩:=hI.v zAC rfl;obtain⟨va11,q11,rfl⟩:=hI.v zAJ rfl;obtain⟨va12,q12,rfl⟩:=hI.v zAo rfl;obtain⟨va13,q13,rfl⟩:=hI.v zCF rfl;obtain⟨va14,q14,rfl⟩:=hI.v zBp rfl;obtain⟨va15,q15,rfl⟩:=hI.v zCS rfl;obtain⟨va16,q16,rfl⟩:=hI.v zDs rfl;obtain⟨va17,q17,rfl⟩:=hI.v zEs rfl;obtain⟨va18,q18,rfl⟩:=hI.v zCT rfl;obtain⟨va19,q19,rfl⟩:=hI.v zEt rfl;obtain⟨va20,q20,rfl⟩:=hI.v zEZ rfl;obtain⟨va21,q21,rfl⟩:=hI.v zEa rfl;obtain⟨va22,q22,rfl⟩:=hI.v zFT rfl;obtain⟨va23,q23,rfl⟩:=hI.v zFU rfl;obtain⟨va24,q24,rfl⟩:=hI.v zHM rfl;obtain⟨va26,q26,rfl⟩:=hI.v zEu rfl;have hT:=zAH [(9,.pointer (some ⟨be,0,none⟩)),(10,.pointer (some ⟨be,0,none⟩)),(11,.pointer (some ⟨be,0,none⟩)),(12,.slice (some ⟨bh,0,none⟩) n cap),(13,.int .i64 i),(14,.pointer (some ⟨be,0,none⟩)),(15,.pointer (some ⟨be,0,none⟩)),(16,.pointer (some ⟨be,0,none⟩)),(17,.slice (some ⟨bh,0,none⟩) n cap),(18,.int .i64 k),(19,.pointer (some ⟨be,0,none⟩)),(20,.pointer (some ⟨be,0,none⟩)),(21,.pointer (some ⟨be,0,none⟩)),(22,.slice (some ⟨bh,0,none⟩) n cap),(23,.int .i64 k),(24,.pointer (some ⟨bh,k,none⟩)),(25,.slice ok m ck),(26,.pointer (some ⟨be,0,none⟩)),(27,.pointer (some ⟨be,0,none⟩)),(28,.pointer (some ⟨be,0,none⟩)),(29,.slice (some ⟨bh,0,none⟩) n cap),(30,.int .i64 i),(31,.pointer (some ⟨bh,i,none⟩)),(32,.slice oi m ci),(33,.pointer (some ⟨bh,i,none⟩)),(34,.pointer (some ⟨bh,k,none⟩))]
   (fun j hj=>hI.keep j (by simp only[xgm]at hj ⊢;simp[hj]) (by simp only[xgm]at hj ⊢;simp[hj]))
   (by simp only[xgm];simp[q0,q1,q2,q3,q4,q5,q6,q7,q8,q9,q10,q11,q12,q13,q14,q15,q16,q17,q18,q19,q20,q21,q22,q23,q24,q26]) hI.size
  have hlw1:=hI.lext;have hbw1:=hI.bel (w.heap.size) oM aU;have holdw1:=hI.old;clear hI;simp only[List.foldl_cons,List.foldl_nil,xgh,xgi,xgj,ptr]at hT;subst hT;clear q0 q1 q2 q3 q4 q5 q6 q7 q8 q9 q10 q11 q12 q13 q14 q15 q16 q17 q18 q19 q20 q21 q22 q23 q24 q26;have hwf:wf1=(w1.setCell ⟨bh,i,none⟩ (.slice ok m ck)).setCell ⟨bh,k,none⟩ (.slice oi m ci):=hwfa;subst hwf;clear hwfa c1 c2 c3 p1 p2 p3 p4;have HR1:=HR.out.below hbw1;have hbh1:=HBH.out.below hbw1;obtain⟨g1,g2,g3⟩:=HR1.put hi (VK.out.below hbw1);obtain⟨g4,g5,g6⟩:=g1.put hk ((VI.out.below hbw1).gone hbh1 dE (fun g _ hg=>g3 g hg) g2);have hold:∀g,g<w.heap.size->g≠bh->((w1.setCell ⟨bh,i,none⟩ (.slice ok m ck)).setCell ⟨bh,k,none⟩ (.slice oi m ci)).heap[g]?=w.heap[g]?:=fun g hg hn=>((g6 g hn).trans (g3 g hn)).trans (hbw1.block g hg)
  have hbe:Blk ((w1.setCell ⟨bh,i,none⟩ (.slice ok m ck)).setCell ⟨bh,k,none⟩ (.slice oi m ci)) be tBe #[.slice (some ⟨bh,0,none⟩) n cap,.bool ln,.slice la ll lc,.bool od,pv]:=(hold be lb hne).trans HB.out;have hO:yC [be,bh] w ((w1.setCell ⟨bh,i,none⟩ (.slice ok m ck)).setCell ⟨bh,k,none⟩ (.slice oi m ci)):=
   ⟨zT (zT (hbw1.mono (Nat.zero_le _)) (Nat.zero_le _) _ _) (Nat.zero_le _) _ _,((lx hbw1).trans g2).trans g5,fun g hg hn=>hold g hg fun e=>hn (by rw[e];simp)⟩
  have hS:=g4.congr (F:=bx E i k) fun a ha j hj=>by
   show(if a=k then E i else if a=i then E k else E a) j=(if a=i then E k else if a=k then E i else E a) j;by_cases e1:a=k
   ·rw[if_pos e1,if_neg oM,if_pos e1]
   ·rw[if_neg e1]
    by_cases e2:a=i
    ·rw[if_pos e2,if_pos e2]
    ·rw[if_neg e2,if_neg e2,if_neg e1]
  generalize (w1.setCell ⟨bh,i,none⟩ (.slice ok m ck)).setCell ⟨bh,k,none⟩ (.slice oi m ci)=W2 at hO hS hbe ⊢
  clear g1 g2 g3 g4 g5 g6 hold hbh1 HR1;have c2:=hbe.cell 3;have c3:=hbe.frozen 3;go_wp2;have hx:=hbe.lext (by decide:tBe≠tU) 3 (.bool (!od));obtain⟨cs2,f1,f2,f3⟩:=hS;refine bodyPost_end (results_none rfl _ _ _) rfl ⟨⟨_,rfl⟩,hO.trans ⟨zT (Below.refl _ _) (Nat.zero_le _) _ _,hx,fun g hg hn=>zV _ be 3 g _ fun e=>hn (by rw[e];simp)⟩,⟨cs2,(zV _ be 3 bh _ (Ne.symm hne)).trans f1,f2,fun a ha=>?_⟩,by simpa using hbe.set_ 3 (.bool (!od))⟩;obtain⟨o,c,e1,e2⟩:=f3 a ha;exact⟨o,c,e1,e2.gone hbe dE (fun g _ hg=>zV _ be 3 g _ hg) hx⟩
theorem qT.keepO{w w':World}{v:Value}{zs:List Int}{b:Nat}{T:TypeId}{cs:Array Value}(h:qT w v zs)(ho:yC [b] w w')(hb:Blk w b T cs)(hT:¬ T=tI):qT w' v zs:=
 h.gone hb hT (fun k hk hn=>ho.old k hk (by simpa using hn)) ho.lext
def RpV(m:Nat)(x:Nat->Int):World->Value->Prop:=fun w v=>∃b,v= .slice (some ⟨b,0,none⟩) m m/\qC w b (zM m x)
theorem zJE(m:Nat)(x:Nat->Int):qS (RpV m x):=fun _ _ _ hb ⟨b,h1,h2⟩=>⟨b,h1,h2.below hb⟩
theorem zJ7{e:Nat}(be bh n m k c cap:Nat)(Ef:Nat->Nat->Int)(q:Int)(ln od:Bool)(la:Option Addr)(ll lc:Nat)(pv:Value)(w:World)(hb:Blk w be tBe #[.slice (some ⟨bh,0,none⟩) n cap,.bool ln,.slice la ll lc,.bool od,pv])(hr:zCQ w bh n m Ef)(hq:zH w (.agg #[.bool ln,.slice la ll lc]) q)(hk:k<n)(hc:c<m)(hm:m<=1000000)(hn:n<=1000000)(hne:be≠bh)
  (hq0:q≠0) (he:2*e+1<=1000000) (hqe:q.natAbs<2^e) (hE:∀i,i<n->∀j,j<m->(Ef i j).natAbs<2^e):
  Calls Tryz.prog 270 #[.pointer (some ⟨be,0,none⟩),.int .i64 k,.int .i64 c,.bool true] w fun e w'=>(∃u,e= .returned u)/\yC [be,bh] w w'/\zCQ w' bh n m (yQ Ef k c q)/\∃s a l t,zH w' (.agg #[.bool s,.slice a l t]) (Ef k c)/\Blk w' be tBe #[.slice (some ⟨bh,0,none⟩) n cap,.bool s,.slice a l t,.bool od,pv]:=by
 obtain⟨po,pc,c2,c3,hvp⟩:=hr.row hk;obtain⟨cs,hbh,-⟩:=id hr;have VQP:=xgv hvp;have HB:=xgv hb;have HQ:=xgv hq;have HE:=xgv (And.intro hq0 (And.intro he (And.intro hqe hE)));have HLT:qF (be<w.heap.size/\bh<w.heap.size):=⟨hb.lt,hbh.lt⟩;have HBH:=xgv hbh;have c1:=hb.cell 0;have hr0:zCQ w bh n m (fun a=>if a<0 then yQ Ef k c q a else Ef a):=hr.congr fun a _ j _=>by show _=(if a<0 then _ else Ef a) j;rw[if_neg oM]
 have hl1:∀i:Nat,qS (RpV m fun j=>(Ef k c*Ef i j-Ef i c*Ef k j)/q):=fun i=>zJE _ _
 clear hvp hb hq hq0 he hqe hE hbh hr;go_enter Tryz.func270,Tryz.ntmps270;go_wp2;clear c1 c2 c3;go_loopw [23] (fun iv wr=>∃i:Nat,i<=n/\iv= .int .i64 i/\yC [bh] w wr/\zCQ wr bh n m (fun a=>if a<i then yQ Ef k c q a else Ef a)) (fun iv _=>n-(intOf iv).toNat)
 case atStart=>exact⟨0,by omega,rfl,yC.refl _ _,hr0⟩
 case round=>
  clear hr0;obtain⟨i,hi,rfl,ho,hr⟩:=hrel;by_cases hlt:i<n
  ·have hla:=hl1 i
   by_cases hik:i=k
   ·subst hik
    obtain⟨ro,rc,p1,p2,hvr⟩:=hr.row hlt;have hrr:=hr.congr (F:=fun a=>if a<i+1 then yQ Ef i c q a else Ef a) fun a ha j hj=>by
     show(if a<i then yQ Ef i c q a else Ef a) j=(if a<i+1 then yQ Ef i c q a else Ef a) j;by_cases e2:a<i
     ·rw[if_pos e2,if_pos oM]
     ·rw[if_neg e2]
      by_cases e3:a=i
      ·rw[if_pos oM,e3];unfold yQ;rw[if_pos rfl]
      ·rw[if_neg oM]
    clear hvr hr;go_wp2;go_roundw
    case rel=>exact⟨i+1,by omega,by simp,ho,hrr⟩
    case measure=>simp[intOf];omega
   ·rcases Nat.lt_or_gt_of_ne hik with hl|hg
    ·have hl':(i:Int)<k:=by omega
     obtain⟨ro,rc,p1,p2,hvr⟩:=hr.row hlt;have hFi:zM m ((fun a=>if a<i then yQ Ef k c q a else Ef a) i)=zM m (Ef i):=by
      show zM m (if i<i then _ else Ef i)=_;rw[if_neg (Nat.lt_irrefl _)]
     rw[hFi]at hvr;have VR:=xgv hvr;have VQP:=xgv (VQP.out.keepO ho HBH.out dE);have hbr:Blk wr be tBe #[.slice (some ⟨bh,0,none⟩) n cap,.bool ln,.slice la ll lc,.bool od,pv]:=(ho.old be HLT.out.1 (by simp;exact hne)).trans HB.out;have HQ:=xgv (HQ.out.ext ho.lext);have HR:=xgv hr;have c1:=hbr.cell 0;have lth:=hr.lt;have HBR:=xgv hbr;have HRP:=xgv (fun(W:World) (h:Below wr.heap.size wr W)=>zDx (e:=e) be m c ro po rc pc (.slice (some ⟨bh,0,none⟩) n cap) pv ln od la ll lc (Ef i) (Ef k) q W (HBR.out.below h) (HQ.out.ext (lx h)) (VR.out.below h) (VQP.out.below h) hc hm HE.out.1 HE.out.2.1 HE.out.2.2.1 (HE.out.2.2.2 i hlt) (HE.out.2.2.2 k hk));clear hvr hbr hr hFi;go_upto_region 5 with(fail)
     refine zC 10 rfl (RV wr _ [VP 0 39 be 0,VP 1 40 be 0,VP 2 41 be 0,VSl 3 42 bh n cap,VN 4 43 i,VP 5 44 be 0,E 6 45 (.slice ro m rc),E 7 46 (.slice po m pc),VN 8 47 c,⟨9,48,RpV m (fun j=>(Ef k c*Ef i j-Ef i c*Ef k j)/q)⟩]) kR RV.start (RV.fin kR ?fin1) ?steps1
     case steps1=>
      refine⟨?_,?_,?_,?_,?_,?_,?_,?_,?_,?_,trivial⟩<;>(intro L T wS hL hd hcl hI K hK;try refine zA rfl ?_)
      ·exact xgs (hI.k 0 rfl kR)
      ·exact xgs (hI.e mm0 (hd 0))
      ·exact xgs (hI.e mm1 (hd 1))
      ·have zt2:=hI.e mm2 (hd 2)
       have cc0:=hI.cell c1;exact xgu
      ·exact xgs (hI.k 9 rfl kR)
      ·exact xgs (hI.k 0 rfl kR)
      ·exact xgs (hI.k 10 rfl kR)
      ·exact xgs (hI.k 8 rfl kR)
      ·exact xgs (hI.k 2 rfl kR)
      ·obtain⟨_,zt5,rfl⟩:=hI.v mm5 (hd 5)
       obtain⟨_,zt6,rfl⟩:=hI.v mm6 (hd 6);obtain⟨_,zt7,rfl⟩:=hI.v mm7 (hd 7);obtain⟨_,zt8,rfl⟩:=hI.v mm8 (hd 8);go_simp;refine(HRP.out wS hI.bel).mono ?_;rintro e wa ⟨rfl,hv,hba⟩;exact hK _ _ ((hI.world hba).y mm9 ⟨_,rfl,hv⟩)
     intro wx hbwx T hT;simp only[Fin,E,EI,VP,VSl,VN,xgg,xgh,xgi,xgj]at hT;obtain⟨va9,ha9,rfl⟩:=hT;simp only[xgl,xgk];obtain⟨rb,rfl,hrow⟩:=(show RpV m _ _ _ from ha9);have HRW:=xgv hrow;have HRX:=HR.out.below hbwx;obtain⟨ro2,rc2,p3,p4,-⟩:=HRX.row hlt;have HRX:=xgv HRX;clear hrow ha9 c1 p1 p2 HRP;go_wp2;obtain⟨g1,g2,g3⟩:=HRX.out.put hlt (HRW.out.vec (zD _ _) (xgf _) oM:qT _ (.slice (some ⟨rb,0,none⟩) m m) _);have hon:yC [bh] w (wx.setCell ⟨bh,i,none⟩ (.slice (some ⟨rb,0,none⟩) m m)):=((ho.trans (yC.of [bh] hbwx))).trans ⟨zT (Below.refl _ _) (Nat.zero_le _) _ _,g2,fun g _ hg=>g3 g (by simpa using hg)⟩;have hgr:=g1.congr (F:=fun a=>if a<i+1 then yQ Ef k c q a else Ef a) fun a ha j hj=>by
      show(if a=i then fun j=>(Ef k c*Ef i j-Ef i c*Ef k j)/q else if a<i then yQ Ef k c q a else Ef a) j=(if a<i+1 then yQ Ef k c q a else Ef a) j;by_cases e1:a=i
      ·rw[if_pos e1,if_pos oM,e1]
       unfold yQ;rw[if_neg hik]
      ·rw[if_neg e1]
       by_cases e2:a<i
       ·rw[if_pos e2,if_pos oM]
       ·rw[if_neg e2,if_neg oM]
     go_roundw
     case rel=>exact⟨i+1,by omega,by simp,hon,hgr⟩
     case measure=>simp[intOf];omega
    ·have hg':(k:Int)<i:=by omega
     obtain⟨ro,rc,p1,p2,hvr⟩:=hr.row hlt;have hFi:zM m ((fun a=>if a<i then yQ Ef k c q a else Ef a) i)=zM m (Ef i):=by
      show zM m (if i<i then _ else Ef i)=_;rw[if_neg (Nat.lt_irrefl _)]
     rw[hFi]at hvr;have VR:=xgv hvr;have VQP:=xgv (VQP.out.keepO ho HBH.out dE);have hbr:Blk wr be tBe #[.slice (some ⟨bh,0,none⟩) n cap,.bool ln,.slice la ll lc,.bool od,pv]:=(ho.old be HLT.out.1 (by simp;exact hne)).trans HB.out;have HQ:=xgv (HQ.out.ext ho.lext);have HR:=xgv hr;have c1:=hbr.cell 0;have lth:=hr.lt;have HBR:=xgv hbr;have HRP:=xgv (fun(W:World) (h:Below wr.heap.size wr W)=>zDx (e:=e) be m c ro po rc pc (.slice (some ⟨bh,0,none⟩) n cap) pv ln od la ll lc (Ef i) (Ef k) q W (HBR.out.below h) (HQ.out.ext (lx h)) (VR.out.below h) (VQP.out.below h) hc hm HE.out.1 HE.out.2.1 HE.out.2.2.1 (HE.out.2.2.2 i hlt) (HE.out.2.2.2 k hk));clear hvr hbr hr hFi;go_upto_region 5 with(fail)
     refine zC 10 rfl (RV wr _ [VP 0 39 be 0,VP 1 40 be 0,VP 2 41 be 0,VSl 3 42 bh n cap,VN 4 43 i,VP 5 44 be 0,E 6 45 (.slice ro m rc),E 7 46 (.slice po m pc),VN 8 47 c,⟨9,48,RpV m (fun j=>(Ef k c*Ef i j-Ef i c*Ef k j)/q)⟩]) kR RV.start (RV.fin kR ?fin2) ?steps2
     case steps2=>
      refine⟨?_,?_,?_,?_,?_,?_,?_,?_,?_,?_,trivial⟩<;>(intro L T wS hL hd hcl hI K hK;try refine zA rfl ?_)
      ·exact xgs (hI.k 0 rfl kR)
      ·exact xgs (hI.e mm0 (hd 0))
      ·exact xgs (hI.e mm1 (hd 1))
      ·have zt2:=hI.e mm2 (hd 2)
       have cc0:=hI.cell c1;exact xgu
      ·exact xgs (hI.k 9 rfl kR)
      ·exact xgs (hI.k 0 rfl kR)
      ·exact xgs (hI.k 10 rfl kR)
      ·exact xgs (hI.k 8 rfl kR)
      ·exact xgs (hI.k 2 rfl kR)
      ·obtain⟨_,zt5,rfl⟩:=hI.v mm5 (hd 5)
       obtain⟨_,zt6,rfl⟩:=hI.v mm6 (hd 6);obtain⟨_,zt7,rfl⟩:=hI.v mm7 (hd 7);obtain⟨_,zt8,rfl⟩:=hI.v mm8 (hd 8);go_simp;refine(HRP.out wS hI.bel).mono ?_;rintro e wa ⟨rfl,hv,hba⟩;exact hK _ _ ((hI.world hba).y mm9 ⟨_,rfl,hv⟩)
     intro wx hbwx T hT;simp only[Fin,E,EI,VP,VSl,VN,xgg,xgh,xgi,xgj]at hT;obtain⟨va9,ha9,rfl⟩:=hT;simp only[xgl,xgk];obtain⟨rb,rfl,hrow⟩:=(show RpV m _ _ _ from ha9);have HRW:=xgv hrow;have HRX:=HR.out.below hbwx;obtain⟨ro2,rc2,p3,p4,-⟩:=HRX.row hlt;have HRX:=xgv HRX;clear hrow ha9 c1 p1 p2 HRP;go_wp2;obtain⟨g1,g2,g3⟩:=HRX.out.put hlt (HRW.out.vec (zD _ _) (xgf _) oM:qT _ (.slice (some ⟨rb,0,none⟩) m m) _);have hon:yC [bh] w (wx.setCell ⟨bh,i,none⟩ (.slice (some ⟨rb,0,none⟩) m m)):=((ho.trans (yC.of [bh] hbwx))).trans ⟨zT (Below.refl _ _) (Nat.zero_le _) _ _,g2,fun g _ hg=>g3 g (by simpa using hg)⟩;have hgr:=g1.congr (F:=fun a=>if a<i+1 then yQ Ef k c q a else Ef a) fun a ha j hj=>by
      show(if a=i then fun j=>(Ef k c*Ef i j-Ef i c*Ef k j)/q else if a<i then yQ Ef k c q a else Ef a) j=(if a<i+1 then yQ Ef k c q a else Ef a) j;by_cases e1:a=i
      ·rw[if_pos e1,if_pos oM,e1]
       unfold yQ;rw[if_neg hik]
      ·rw[if_neg e1]
       by_cases e2:a<i
       ·rw[if_pos e2,if_pos oM]
       ·rw[if_neg e2,if_neg oM]
     go_roundw
     case rel=>exact⟨i+1,by omega,by simp,hon,hgr⟩
     case measure=>simp[intOf];omega
  ·obtain rfl:i=n:=by omega
   have hbr:Blk wr be tBe #[.slice (some ⟨bh,0,none⟩) i cap,.bool ln,.slice la ll lc,.bool od,pv]:=(ho.old be HLT.out.1 (by simp;exact hne)).trans HB.out;have hrF:=hr.congr (F:=yQ Ef k c q) fun a ha j hj=>by
    show(if a<i then yQ Ef k c q a else Ef a) j=_;rw[if_pos ha]
   have hvp:=VQP.out.keepO ho HBH.out dE;obtain⟨zb,z,s,a,l,t,rfl,zl,hz,z1,z2,hzv⟩:=hvp.cell (k:=c) (by rw[zD];exact hc);rw[zO hc]at hz;injection hz with hz
   subst hz;have HZ:=xgv hzv;have HBR:=xgv hbr;have HRF:=xgv hrF;have c1:=hbr.cell 1;have c2:=hbr.cell 2;have c3:=hbr.frozen 1;have c4:=hbr.frozen 2;clear hbr hrF hvp hzv hr;go_wp2;have hx:=(HBR.out.lext (by decide:tBe≠tU) 1 (.bool s)).trans ((HBR.out.set_ 1 (.bool s)).lext (by decide:tBe≠tU) 2 (.slice a l t));have hold:=fun g (hg:g≠be)=>zR wr be 1 2 g (.bool s) (.slice a l t) hg
   obtain⟨cs2,f1,f2,f3⟩:=HRF.out;refine bodyPost_end (results_none rfl _ _ _) rfl ⟨⟨_,rfl⟩,⟨zT (zT ho.bel (Nat.zero_le _) _ _) (Nat.zero_le _) _ _,ho.lext.trans hx,fun g hg hn=>(hold g fun e=>hn (by rw[e];simp)).trans (ho.old g hg fun e=>hn (by simp at e;rw[e];simp))⟩,⟨cs2,(hold bh (Ne.symm hne)).trans f1,f2,fun a ha=>?_⟩,s,a,l,t,HZ.out.ext hx,by simpa using(HBR.out.set_ 1 (.bool s)).set_ 2 (.slice a l t)⟩;obtain⟨o,c,e1,e2⟩:=f3 a ha;exact⟨o,c,e1,e2.gone HBR.out dE (fun g _ hg=>hold g hg) hx⟩
def RsO(w:World)(base:Nat)(v:Value)(M:List (List Int)):Prop:=
 ∃rvs,w.ownsRow base tR 1 v M.length rvs/\rvs.length=M.length/\∀(k:Nat) (rv:Value) (zs:List Int),rvs[k]?=some rv->M[k]?=some zs->qT w rv zs
theorem zB7(P:Program)(w:World)(t ty e:TypeId)(i:TypeInfo)(ht:P.underlying t=some (.slice e))(hi:P.info? e=some i)
  (g:Option Addr) (n cap:Nat) (hg:g=none->n=0/\cap=0) (hn:n<=cap) (ao:Option Addr) (c:Nat):
  (Builtin.append_ #[t,t] ty #[.slice g n cap,.slice ao 0 c]).run P w= .ok (.slice g n cap) w:=by
 cases g with
 |none=>
  obtain⟨rfl,rfl⟩:=hg rfl;cases ao<;>simp[Builtin.append_,run_underlying ht,sizeOf,typeInfo,hi,Builtin.lenOf,Builtin.firstCells,loadCells,loadCellsFrom]
 |some g=>
  cases ao<;>simp[Builtin.append_,run_underlying ht,sizeOf,typeInfo,hi,Builtin.lenOf,Builtin.firstCells,loadCells,loadCellsFrom,storeCells,hn]
theorem qT.sameB{w w':World}{v:Value}{zs:List Int}(h:qT w v zs)(e:∀b,qC w b zs->w'.heap[b]?=w.heap[b]?)(x:yO w w'):qT w' v zs:=by
 obtain⟨ao,n,cap,h1,h2,h3,h4,h5⟩:=h;exact⟨ao,n,cap,h1,h2,h3,h4,fun hn=>(h5 hn).elim fun b h=>⟨b,h.1,h.2.old (e b h.2) x⟩⟩
theorem zPx{w:World}{ops:Array Oper}{rest:List Oper}{o:Oper}{a:Act}{Q:Exit->Act->World->Prop}(hgd:o.guard=none)(s x:Operand)
  (ho:o.op= .call {callee:=.builtin .append,args:=#[s,x],argTypes:=#[26,26]})
  (base:Nat) (v:Value) (M:List (List Int)) (hs:a.eval s=v) (hown:RsO w base v M) (xv:Value) (N:List (List Int)) (hx:a.eval x=xv) (hy:jB w xv N)
  (hlen:M.length+N.length<=1099511627776) (hbase:base<=w.heap.size)
  (h:∀v' w',RsO w' base v' (M++N)->w.grownBy w' v.ownBlock->yO w w'->wpList Tryz.prog ops Q rest (a.put o.dst v') w'):wpList Tryz.prog ops Q (o::rest) a w:=by
 obtain⟨i0,hi,hz0,hz1,hz2⟩:=info_parts Tryz.infoR;obtain⟨ao,n,c,rfl,hn,hnc,hcc,hcell⟩:=hy;by_cases h0:N= []
 ·subst h0
  obtain rfl:0=n:=by simpa using hn
  have hr:(Builtin.append_ #[26,26] o.type #[v,.slice ao 0 c]).run Tryz.prog w= .ok v w:=by
   obtain⟨cells,h1,-⟩:=hown;rcases h1.2 with⟨rfl,h0⟩|⟨g,cap,cur,rfl,e2,e3,e4,-⟩
   ·exact zB7 Tryz.prog w _ o.type tR i0 Tryz.underlying26 hi none 0 0 (fun _=>⟨rfl,rfl⟩) (xgf _) ao c
   ·exact zB7 Tryz.prog w _ o.type tR i0 Tryz.underlying26 hi _ _ cap (fun e=>by cases e) e4 ao c
  have h:=h v w (by rwa[List.append_nil]) ⟨rfl,rfl,rfl,xgf _,fun _ _ _=>rfl⟩ (lx (Below.refl _ _));refine wpList_plain hgd fun K hK=>?_
  unfold Oper.wp execOp;simp only[ho,resolve,invoke,builtin,Sem.run_bind,Sem.run_pure,Result.andThen_ok,List.map_toArray,List.map_cons,List.map_nil,hs,hx,hr];exact hK _ _ h
 ·obtain⟨b,cs,rfl,hbl,hrow⟩:=hcell h0
  obtain⟨rvs,h1,h2,h3⟩:=hown;have hsz:n<=cs.size:=by
   have hp:0<N.length:=List.length_pos_iff.2 h0;obtain⟨rv,q,-⟩:=hrow (N.length-1) _ (xga oM);have:=(Array.getElem?_eq_some_iff.1 q).1;omega
  have hnews:∀(k:Nat) (u:Value),(cs.toList.take n)[k]?=some u->k<n/\cs[k]?=some u:=fun k u hk=>by
   rw[List.getElem?_take]at hk;split at hk
   ·exact⟨by assumption,by simpa using hk⟩
   ·cases hk
  refine wpList_append_own w hgd s x 26 ho base tR i0 _ 1 24 Tryz.underlying26 hi hz0 hz1 hz2 rfl oM v M.length _ hs h1 ⟨b,0,none⟩ n c (cs.toList.take n) hx (by simp;omega) ?_ ?_ (by simp[maxLen];omega) oM hbase ?_
  ·intro j u hj
   rw[Addr.add_lit,Nat.zero_add,cell_of_row w b j cs tR _ hbl];exact(hnews j u hj).2
  ·intro u hu
   obtain⟨k,hk⟩:=List.getElem?_of_mem hu;obtain⟨hkn,hk2⟩:=hnews k u hk;obtain⟨rv,q,_,_,_,rfl,-⟩:=hrow k _ (xga (by omega:k<N.length));rw[q]at hk2;injection hk2 with hk2
   subst hk2;rfl
  ·intro v' w' k1 k2 _
   have hxg:=zAM h1 dE k2;have hkeep:∀u zs,qT w u zs->qT w' u zs:=fun u zs hu=>qT.sameB hu (fun b hq=>k2.block b hq.lt (zDA h1 hq)) hxg
   refine h v' w' ⟨rvs++cs.toList.take n,by rw[List.length_append,hn];exact k1,by simp[h2,hn];omega,?_⟩ k2 hxg;intro k u zs hg hq;rcases Nat.lt_or_ge k rvs.length with hlt|hge
   ·rw[List.getElem?_append_left hlt]at hg
    rw[List.getElem?_append_left oM]at hq;exact hkeep _ _ (h3 k u zs hg hq)
   ·rw[List.getElem?_append_right hge]at hg
    rw[List.getElem?_append_right oM,<-h2]at hq;obtain⟨hkn,hk2⟩:=hnews _ u hg;obtain⟨rv,q1,q2⟩:=hrow _ zs hq;rw[q1]at hk2;injection hk2 with hk2
    subst hk2;exact hkeep _ _ q2
theorem zCQ.rows{w:World}{b n m:Nat}{E:Nat->Nat->Int}(h:zCQ w b n m E){cap:Nat}(h1:n<=cap)(h2:cap<=9223372036854775807):jB w (.slice (some ⟨b,0,none⟩) n cap) (zX n m E):=by
 obtain⟨cs,g1,g2,g3⟩:=h;refine⟨some ⟨b,0,none⟩,n,cap,rfl,by simp[zX],h1,h2,fun _=>⟨b,cs,rfl,g1,fun k zs hk=>?_⟩⟩;have hkn:k<n:=by
  have:=(xge.1 hk).1;simpa[zX]using this
 obtain⟨o,c,e1,e2⟩:=g3 k hkn;have:zs=zM m (E k):=by
  rw[zAW n m E hkn]at hk;injection hk with hk
  exact hk.symm
 rw[this];exact⟨_,e1,e2⟩
theorem zCQ.of_own{w:World}{base n m:Nat}{v:Value}{E:Nat->Nat->Int}(h:RsO w base v (zX n m E))(hv:v≠ .slice none 0 0):∃b cap,v= .slice (some ⟨b,0,none⟩) n cap/\base<=b/\n<=cap/\cap<=9223372036854775807/\zCQ w b n m E:=by
 obtain⟨rvs,h1,h2,h3⟩:=h;rcases h1.2 with⟨rfl,h0⟩|⟨g,cap,cur,rfl,e2,e3,e4,e5,e6,e7⟩
 ·exact absurd rfl hv
 ·have hl:(zX n m E).length=n:=by simp[zX]
  rw[hl]at e4 e7 h2;rw[hl];have hcs:n<=cur.size:=by
   have:=congrArg List.length e7;rw[List.length_take,h2]at this;simp at this;omega
  refine⟨g,cap,rfl,e2,e4,e5,cur,e3,hcs,fun i hi=>?_⟩;obtain⟨rv,hr⟩:∃rv,rvs[i]?=some rv:=⟨_,xga oM⟩;have hv2:=h3 i rv _ hr (zAW n m E hi);obtain⟨o,k,c,rfl,hk,-⟩:=id hv2;obtain rfl:m=k:=by rw[<-hk];simp
  refine⟨o,c,?_,hv2⟩;rw[<-e7,List.getElem?_take_of_lt oM]at hr;simpa using hr
theorem zI5(b n m cap:Nat)(E:Nat->Nat->Int)(w:World)(h:zCQ w b n m E)(h1:n<=cap)(h2:cap<=9223372036854775807)(hn:n<=1000000)(hn1:1<=n):
  Calls Tryz.prog 268 #[.slice (some ⟨b,0,none⟩) n cap] w fun e w'=>∃g c,e= .returned (.slice (some ⟨g,0,none⟩) n c)/\w.heap.size<=g/\n<=c/\c<=9223372036854775807/\zCQ w' g n m E/\Below w.heap.size w w':=by
 have hR:=xgv (h.rows h1 h2);have hl:qF ((zX n m E).length=n):=⟨by simp[zX]⟩;have heq:=fun W=>Lib.run_eql_slice_nil (P:=Tryz.prog) W 26 tR (some ⟨b,0,none⟩) n cap 0 0 Tryz.underlying26
 have hBw:Below w.heap.size w (w.alloc (.cells #[] tR)):=(Below.refl _ _).alloc (xgf _) _;go_enter Tryz.func268,Tryz.ntmps268;go_wp2_with (at_builtin;refine zPx rfl _ _ rfl w.heap.size (.slice (some ⟨w.heap.size,0,none⟩) 0 0) [] rfl ⟨[],World.ownsRow_made w #[] 0 (xgf _) (Nat.zero_le _) rfl,rfl,fun k _ _ h=>by simp at h⟩ (.slice (some ⟨b,0,none⟩) n cap) (zX n m E) rfl (hR.out.below hBw) (by rw[hl.out,List.length_nil];omega) sI ?_;intro v' w' hown hgr hxx)
 rw[List.nil_append]at hown;obtain⟨g,c,rfl,g1,g2,g3,g4⟩:=zCQ.of_own hown (fun e=>by
  obtain⟨rvs,f1,f2,-⟩:=hown;rcases f1.2 with⟨-,h0⟩|⟨g,cap,cur,e2,-⟩
  ·rw[hl.out]at h0;omega
  ·rw[e]at e2;cases e2)
 have hB:Below w.heap.size w w':=hBw.grown hgr sI (fun k hk=>by simp[Value.ownBlock]at hk;omega);go_ret;exact⟨g,c,rfl,g1,g2,g3,g4,hB⟩
theorem zBe.onlyS{w w':World}{base:Nat}{v:Value}{xs:List Nat}{S:List Nat}(h:zBe w base v xs)(ho:yC S w w')(hA:∀g,v.ownBlock=some g->g ∉ S):zBe w' base v xs:=by
 obtain⟨h0,h1,h2⟩:=h;refine⟨h0,h1,?_⟩;rcases h2 with h3|⟨g,cap,cur,e1,e2,e3,e4⟩
 ·exact .inl h3
 ·exact .inr ⟨g,cap,cur,e1,e2,(ho.old g (Array.getElem?_eq_some_iff.1 e3).1 (hA g (by rw[e1];rfl))).trans e3,e4⟩
theorem zBe.neB{w:World}{base:Nat}{v:Value}{xs:List Nat}{b:Nat}{T:TypeId}{cs:Array Value}(h:zBe w base v xs)(hb:Blk w b T cs)(hT:T≠tNn):∀g,v.ownBlock=some g->g≠b:=by
 rintro g hg rfl;rcases h.2.2 with⟨rfl,-⟩|⟨g',cap,cur,rfl,-,e3,-⟩
 ·cases hg
 ·simp only[Value.ownBlock,Option.some.injEq]at hg
  subst hg;unfold Blk at hb;rw[e3]at hb;injection hb with hb
  injection hb with _ ht
  exact hT ht.symm
theorem zCQ.onlyS{w w':World}{b n m:Nat}{E:Nat->Nat->Int}{S:List Nat}(h:zCQ w b n m E)(ho:yC S w w')(h1:b ∉ S)(h2:∀g zs,qC w g zs->g ∉ S):zCQ w' b n m E:=by
 obtain⟨cs,g1,g2,g3⟩:=h;refine⟨cs,(ho.old b g1.lt h1).trans g1,g2,fun i hi=>?_⟩;obtain⟨o,c,e1,e2⟩:=g3 i hi;exact⟨o,c,e1,e2.sameB (fun g hg=>ho.old g hg.lt (h2 g _ hg)) ho.lext⟩
structure BeV(w:World)(base be n m:Nat)(s:BE):Prop where
 ex:∃bh cap ln la ll lc pv,Blk w be tBe #[.slice (some ⟨bh,0,none⟩) n cap,.bool ln,.slice la ll lc,.bool s.odd,pv]/\n<=cap/\cap<=9223372036854775807/\base<=be/\base<=bh/\be≠bh/\zCQ w bh n m s.E/\zH w (.agg #[.bool ln,.slice la ll lc]) s.last/\zBe w base pv s.pv
theorem BeV.below{w w':World}{base be n m:Nat}{s:BE}(h:BeV w base be n m s)(hb:Below w.heap.size w w'):BeV w' base be n m s:=by
 obtain⟨bh,cap,ln,la,ll,lc,pv,h1,h2,h3,h4,h5,h6,h7,h8,h9⟩:=h.ex;exact⟨bh,cap,ln,la,ll,lc,pv,h1.below hb,h2,h3,h4,h5,h6,h7.below hb,h8.ext (lx hb),h9.below hb⟩
theorem zGV{n:Nat}{L:Nat->Nat->Int}{c:Nat}(h:¬ (zAg n L c).pv.length<n):∀d,zAg n L (c+d)=zAg n L c
 |0=>rfl
 |d+1=>by
  show zGR n (c+d) (zAg n L (c+d))=_;rw[zGV h d];unfold zGR;rw[if_neg fun h2=>h h2.1]
theorem zNp{n c i:Nat}{s:BE}(h1:s.pv.length<=i)(h2:i<n)(h3:s.E i c≠0)(h4:∀j,s.pv.length<=j->j<i->s.E j c=0):zEr n c s=i:=by
 unfold zEr;exact zBz h1 oM (by simpa using h3) fun j hj1 hj2=>by simpa using h4 j hj1 hj2
theorem zI3{n c i:Nat}{s:BE}(h1:s.pv.length<=i)(h2:i<n)(h3:s.E i c≠0)(h4:∀j,s.pv.length<=j->j<i->s.E j c=0):
  zGR n c s=⟨yQ (bx s.E i s.pv.length) s.pv.length c s.last,bx s.E i s.pv.length s.pv.length c,s.odd^^decide (i≠s.pv.length),s.pv++ [c]⟩:=by
 unfold zGR;rw[zNp h1 h2 h3 h4,if_pos ⟨by omega,h2⟩]
theorem zJ2{n c:Nat}{s:BE}(h1:s.pv.length<=n)(h4:∀j,s.pv.length<=j->j<n->s.E j c=0):zGR n c s=s:=by
 unfold zGR;rw[if_neg fun h=>?_];have:=zBA (fun i=>decide (s.E i c≠0)) s.pv.length (n-s.pv.length) (by have:=h.2;unfold zEr at this;omega);rw[decide_eq_true_eq]at this;exact this (h4 _ (zBB _ _ _).1 (by have:=h.2;unfold zEr at this;exact this))
theorem zL1{e:Nat}(b n m cap cols:Nat)(L:Nat->Nat->Int)(w:World)(h:zCQ w b n m L)(h1:n<=cap)(h2:cap<=9223372036854775807)(hn:n<=1000000)(hn1:1<=n)(hm:m<=1000000)(hcm:cols<=m)(he:2*e+1<=1000000)
  (hS:∀c,c<=cols->(zAg n L c).pv.length<=n/\(zAg n L c).last≠0/\(zAg n L c).last.natAbs<2^e/\∀i,i<n->∀j,j<m->((zAg n L c).E i j).natAbs<2^e):
  Calls Tryz.prog 230 #[.slice (some ⟨b,0,none⟩) n cap,.int .i64 cols,.bool true] w fun e w'=>∃be,e= .returned (.pointer (some ⟨be,0,none⟩))/\BeV w' w.heap.size be n m (zAg n L cols)/\Below w.heap.size w w':=by
 have HS:=xgv hS;have H:=xgv h;clear hS h;go_enter Tryz.func230,Tryz.ntmps230;go_wp2;refine wp_scope_straight ?_;go_wp2_with fail
 refine(zI5 b n m cap L w H.out h1 h2 hn hn1).mono ?_;rintro e' w1 ⟨bh,cap',rfl,g1,g2,g3,g4,hb1⟩;have HG:=xgv g4;clear g4;go_wp2_with fail
 refine(zBF 1 w1 dE dE).mono ?_;rintro e' w2 ⟨o,rfl,ho,hb2⟩;obtain⟨ln,la,ll,lc,rfl⟩:=ho.parts;have HO:=xgv ho;have hB:=nx hb1 hb2;have HG:=xgv (HG.out.below hb2);clear ho;go_upto_region 2 with(fail)
 refine zB ?_;intro W3 hW3;obtain⟨hB3,T7,hs3⟩:=zK hW3;have q1:=hb1.size;have q2:=hb2.size;have q3:=HG.out.lt;have hbe0:BeV W3 w.heap.size w2.heap.size n m (zAg n L 0):=⟨bh,cap',ln,la,ll,lc,_,T7,g2,g3,by omega,g1,by omega,HG.out.below hB3,HO.out.ext (lx hB3),⟨by simp[zAg],World.ownsRow_nil _ _ _ _⟩⟩;have hB:=nx hB hB3;clear hW3;obtain⟨be,hbe⟩:∃be,w2.heap.size=be:=⟨_,rfl⟩;rw[hbe]at hbe0 ⊢
 clear hbe T7;go_wp2;refine wp_label ?_;go_wp2;go_loopw [8] (fun cv wr=>∃c:Nat,c<=cols/\cv= .int .i64 c/\Below w.heap.size w wr/\BeV wr w.heap.size be n m (zAg n L c)) (fun cv _=>cols-(intOf cv).toNat)
 case atStart=>exact⟨0,by omega,rfl,hB,hbe0⟩
 case round=>
  clear hB hbe0;obtain⟨c,hc,rfl,hB,hbe⟩:=hrel;obtain⟨bh,cap,ln,la,ll,lc,pv,h1,h2,h3,h4,h5,h6,h7,h8,h9⟩:=hbe.ex;obtain⟨po,pcap,rfl,p1,p2,p3⟩:=h9.at_;have HBE:=xgv hbe;have c1:=h1.cell 0;have c5:=h1.cell 4;obtain⟨f1,f2,f3,f4⟩:=HS.out c hc;clear hbe;by_cases hcl:c<cols
  ·obtain⟨k,hk⟩:∃k,(zAg n L c).pv.length=k:=⟨_,rfl⟩
   have HK:=xgv hk;rw[hk]at f1 c5;by_cases hkn:k<n
   ·have hkn':(k:Int)<n:=by omega
    go_upto_region 3 with(fail)
    refine zE rfl (RV wr _ [VN 0 17 c,VN 1 18 cols,E 2 19 (.bool true),E 3 20 (.bool true),VP 4 21 be 0,VP 5 22 be 0,VP 6 23 be 4,E 7 24 (.slice po k pcap),VN 8 25 k,VP 9 26 be 0,VP 10 27 be 0,VP 11 28 be 0,VP 12 29 be 0,VSl 13 30 bh n cap,VN 14 31 n,E 15 32 (.bool true),E 16 33 (.bool true)]) kR RV.start (RV.fin kR ?fin1) ?steps1
    case steps1=>
     refine⟨?_,?_,?_,?_,?_,?_,?_,?_,?_,?_,?_,?_,?_,?_,?_,?_,?_,trivial⟩<;>(intro L T wS hL hd hcl hI K hK;try refine zA rfl ?_)
     ·exact xgs (hI.k 8 rfl kR)
     ·exact xgs (hI.k 1 rfl kR)
     ·exact xgt (hI.e mm0 (hd 0)) (hI.e mm1 (hd 1))
     ·exact xgs (hI.e mm2 (hd 2))
     ·have zg:=hI.e mm3 (hd 3)
      refine zA xgp ?_;exact xgs (hI.k 7 rfl kR)
     ·have zg:=hI.e mm3 (hd 3)
      refine zA xgp ?_;exact xgs (hI.e mm4 (hd 4))
     ·have zg:=hI.e mm3 (hd 3)
      refine zA xgp ?_;exact xgs (hI.e mm5 (hd 5))
     ·have zg:=hI.e mm3 (hd 3)
      refine zA xgp ?_;have zt6:=hI.e mm6 (hd 6);have cc0:=hI.cell c5;exact xgu
     ·have zg:=hI.e mm3 (hd 3)
      refine zA xgp ?_;exact xgs (hI.e mm7 (hd 7))
     ·have zg:=hI.e mm3 (hd 3)
      refine zA xgp ?_;exact xgs (hI.k 7 rfl kR)
     ·have zg:=hI.e mm3 (hd 3)
      refine zA xgp ?_;exact xgs (hI.e mm9 (hd 9))
     ·have zg:=hI.e mm3 (hd 3)
      refine zA xgp ?_;exact xgs (hI.e zAC (hd 10))
     ·have zg:=hI.e mm3 (hd 3)
      refine zA xgp ?_;exact xgs (hI.e zAJ (hd 11))
     ·have zg:=hI.e mm3 (hd 3)
      refine zA xgp ?_;have zt12:=hI.e zAo (hd 12);have cc0:=hI.cell c1;exact xgu
     ·have zg:=hI.e mm3 (hd 3)
      refine zA xgp ?_;exact xgs (hI.e zCF (hd 13))
     ·have zg:=hI.e mm3 (hd 3)
      refine zA xgp ?_;exact xgt (hI.e mm8 (hd 8)) (hI.e zBp (hd 14))
     ·exact xgt (hI.e mm3 (hd 3)) (hI.e zCS (hd 15))
    intro w4 hbw4 T hT;simp only[Fin,E,EI,VP,VSl,VN,xgg,xgh,xgi,xgj]at hT;subst hT;have hB:=nx hB hbw4;have HBE:=xgv (HBE.out.below hbw4);have c5:=zI c5 hbw4;clear c1 h1 h7 h8 h9 p3;go_wp2;clear c5;go_loopw [10] (fun iv wt=>∃i:Nat,k<=i/\i<=n/\iv= .int .i64 i/\Below w.heap.size w wt/\BeV wt w.heap.size be n m (zAg n L c)/\qF (∀j,k<=j->j<i->(zAg n L c).E j c=0)) (fun iv _=>n-(intOf iv).toNat)
    case atStart=>exact⟨k,xgf _,by omega,rfl,hB,HBE.out,⟨fun j h1 h2=>by omega⟩⟩
    case round=>
     rename World=>wt
     clear hB HBE;obtain⟨i,hki,hin,rfl,hB,hbe,hz⟩:=hrel;by_cases hlt:i<n
     ·obtain⟨bh,cap,ln,la,ll,lc,pv,h1,h2,h3,h4,h5,h6,h7,h8,h9⟩:=hbe.ex
      obtain⟨ro,rc,r1,r2,hvr⟩:=h7.row hlt;obtain⟨zb,z,s1,a1,l1,t1,rfl,zl,hze,z1,z2,hzv⟩:=hvr.cell (k:=c) (by rw[zD];omega);rw[zO oM]at hze;injection hze with hze
      have HBE:=xgv hbe;have HZV:=xgv hzv;have HZE:=xgv hze;have c1:=h1.cell 0;obtain⟨kz,hkz⟩:∃k,qJ z 0=k:=⟨_,rfl⟩;have HSG:qF (∀(v:Value) (w:World),zH w v z->Calls Tryz.prog 160 #[v] w fun e w'=>e= .returned (.int .i64 kz)/\Below w.heap.size w w'):=⟨fun v w hv=>hkz ▸ qU v z w hv.weak⟩;have HKZ:qF (kz=0↔z=0):=⟨by rw[<-hkz];exact zCw⟩;clear hbe hzv hze hkz hvr h1 h7 h8 h9;go_wp2_with fail
      refine(HSG.out _ wt HZV.out).mono ?_;rintro e' w5 ⟨rfl,hb5⟩;have hB:=nx hB hb5;have HBE:=xgv (HBE.out.below hb5);clear c1 r1 r2 z1 z2 HSG HZV;by_cases hz0:z=0
      ·have hk0:=HKZ.out.2 hz0
       subst hk0;have hzz:qF (∀j,k<=j->j<i+1->(zAg n L c).E j c=0):=⟨fun j g1 g2=>by
        rcases Nat.lt_or_ge j i with h|h
        ·exact hz.out j g1 h
        ·obtain rfl:j=i:=by omega
         exact HZE.out.trans hz0⟩
       clear hz0 HKZ;go_wp2;go_roundw
       case rel=>exact⟨i+1,by omega,by omega,by simp,hB,HBE.out,hzz⟩
       case measure=>simp[intOf];omega
      ·have hk0:kz≠0:=fun h=>hz0 (HKZ.out.1 h)
       have hk0':(kz !=0)=true:=by simpa using hk0
       have HF:=xgv (zI3 (n:=n) (c:=c) (i:=i) (s:=zAg n L c) (by rw[HK.out];exact hki) hlt (by rw[HZE.out];exact hz0) (by rw[HK.out];exact hz.out));obtain⟨bh,cap,ln,la,ll,lc,pv,h1,h2,h3,h4,h5,h6,h7,h8,h9⟩:=HBE.out.ex;rw[HK.out]at HF;have HSX:=xgv (HS.out c hc);obtain⟨S,hSe⟩:∃S,zAg n L c=S:=⟨_,rfl⟩;have HSe:=xgv hSe;rw[hSe]at h1 h7 h8 h9 HF HSX HK;have H7:=xgv h7;have H8:=xgv h8;have H9:=xgv h9;have H1:=xgv h1;have lbe:=h1.lt;have lbh:=h7.lt;clear hz0 HKZ HZE hz HBE hSe h1 h7 h8 h9;go_wp2_with fail
       refine(zJ3 be bh n m i k cap S.E ln S.odd la ll lc pv w5 H1.out H7.out hlt hkn h6).mono ?_;rintro e' w6 ⟨⟨u6,rfl⟩,ho6,hr6,hb6⟩;have hB6:Below w.heap.size w w6:=Below.only hB ho6 (xgf _) (fun g hg=>by simp at hg;omega);have H9:=xgv (H9.out.onlyS ho6 (fun g hg=>by
        have n1:=H9.out.neB H1.out dE g hg;have n2:=H9.out.neB (H7.out).choose_spec.1 dE g hg;simp;omega))
       have H8:=xgv (H8.out.ext ho6.lext);have H1:=xgv hb6;have H7:=xgv hr6;clear hb6 hr6 ho6;go_wp2_with fail
       refine(zJ7 (e:=e) be bh n m k c cap (bx S.E i k) S.last ln _ la ll lc pv w6 H1.out H7.out H8.out hkn oM hm hn h6 HSX.out.2.1 he HSX.out.2.2.1 (fun a ha j hj=>by
        unfold bx;split
        ·exact HSX.out.2.2.2 k hkn j hj
        ·split
         ·exact HSX.out.2.2.2 i hlt j hj
         ·exact HSX.out.2.2.2 a ha j hj)).mono ?_
       rintro e' w7 ⟨⟨u7,rfl⟩,ho7,hr7,s7,a7,l7,t7,hq7,hb7⟩;have q6:=hB6.size;have lbe6:=H1.out.lt;have hB7:Below w.heap.size w w7:=Below.only hB6 ho7 (xgf _) (fun g hg=>by simp at hg;omega);have H9:=xgv (H9.out.onlyS ho7 (fun g hg=>by
        have n1:=H9.out.neB H1.out dE g hg;have n2:=H9.out.neB (H7.out).choose_spec.1 dE g hg;simp;omega))
       have H1:=xgv hb7;have H7:=xgv hr7;have H8:=xgv hq7;have c5:=hb7.cell 4;have c6:=hb7.frozen 4;have q7:=hB7.size;have hys:∀w':World,zAy (w'.alloc (.cells #[.int .i64 c] tNn)) (some ⟨w'.heap.size,0,none⟩) [c]:=fun w'=>⟨by simp;omega,fun _=>⟨_,0,_,rfl,heap_alloc_new w' _,fun k x hk=>by
        match k with
        |0=>simp at hk;subst hk;rfl
        |k+1=>simp at hk⟩⟩
       clear hb7 hr7 ho7 hq7;have hal:Below w7.heap.size w7 (w7.alloc (.cells #[.int .i64 c] tNn)):=(Below.refl _ _).alloc (xgf _) _;have HN1:=xgv (H9.out.neB H1.out dE);have HN2:=xgv (H9.out.neB (H7.out).choose_spec.1 dE);have hpl:S.pv.length+1<=17592186044416:=by have:=HSX.out.1;omega
       have qa:=hal.size;have lb1:=H1.out.lt;have lb2:=H7.out.lt;clear hk0 hk0';go_wp2_with (at_builtin;refine zPw rfl _ _ rfl w.heap.size pv S.pv rfl (H9.out.below hal) (some ⟨w7.heap.size,0,none⟩) 1 1 [c] rfl (hys w7) rfl hpl (by simp;omega) ?_;intro v' w' hown hgr;have hb8:Blk w' be tBe _:=(hgr.block be (by simp;omega) (fun e=>HN1.out be e.symm rfl)).trans (H1.out.below hal);have d5:=hb8.cell 4;have d6:=hb8.frozen 4;obtain⟨vo,vc,rfl,-,-,-⟩:=hown.at_)
       have hxa:=zAM (H9.out.below hal).2 dE hgr;have hoG:yC pv.ownBlock.toList w7 w':=(yC.of _ hal).trans (zFV hgr hxa);have hx8:=hb8.lext (by decide:tBe≠tU) 4 (.slice vo (S.pv.length+1) vc);have hr8:=H7.out.onlyS hoG (by simpa using fun e=>HN2.out bh e rfl) (fun g zs hg=>by
        obtain⟨cs,hcs,-⟩:=hg;simpa using fun e=>H9.out.neB (T:=tI) (cs:=cs) hcs dE g e rfl)
       have hoB:yC [be] w' (w'.setCell ⟨be,4,none⟩ (.slice vo (S.pv.length+1) vc)):=⟨zT (Below.refl _ _) (Nat.zero_le _) _ _,hx8,fun g _ hg=>zV w' be 4 g _ (by simpa using hg)⟩;have hB8:Below w.heap.size w w':=Below.only hB7 hoG (xgf _) (fun g hg=>(H9.out.own g (by simpa using hg)).1);go_roundw
       case rel=>
        refine⟨c+1,by omega,by simp,zT hB8 h4 _ _,?_⟩;show BeV _ _ _ _ _ (zGR n c (zAg n L c));rw[HSe.out,HF.out];refine⟨bh,cap,s7,a7,l7,t7,.slice vo (S.pv.length+1) vc,by simpa using hb8.set_ 4 (.slice vo (S.pv.length+1) vc),h2,h3,h4,h5,h6,hr8.onlyS hoB (by simp;omega) (fun g zs hg=>by
         obtain⟨cs,hcs,-⟩:=hg;simp only[List.mem_singleton];rintro rfl;unfold Blk at hb8;rw[hcs]at hb8;injection hb8 with hb8
         injection hb8 with _ ht
         exact absurd ht dE),(H8.out.ext (hoG.lext.trans hx8)),?_⟩
        have:=hown.onlyS hoB (fun g hg=>by simpa using hown.neB hb8 dE g hg);simpa using this
       case measure=>simp[intOf];omega
     ·obtain rfl:i=n:=by omega
      have hcn:=zJ2 (c:=c) (by rw[HK.out];exact hki) (by rw[HK.out];exact hz.out);have hbn:BeV wt w.heap.size be i m (zAg i L (c+1)):=by
       show BeV _ _ _ _ _ (zGR i c (zAg i L c));rw[hcn];exact hbe
      clear hcn hbe hz;obtain⟨bh,cap,ln,la,ll,lc,pv,h1,h2,h3,h4,h5,h6,h7,h8,h9⟩:=hbn.ex;have c1:=h1.cell 0;have HBN:=xgv hbn;clear hbn h7 h8 h9 h1;go_wp2;go_roundw
      case rel=>exact⟨c+1,by omega,by simp,hB,HBN.out⟩
      case measure=>simp[intOf];omega
   ·obtain rfl:k=n:=by omega
    have hfu:=zGV (n:=k) (L:=L) (c:=c) (by rw[HK.out];omega) (cols-c);rw[show c+(cols-c)=cols by omega]at hfu;go_upto_region 3 with(fail)
    refine zE rfl (RV wr _ [VN 0 17 c,VN 1 18 cols,E 2 19 (.bool true),E 3 20 (.bool true),VP 4 21 be 0,VP 5 22 be 0,VP 6 23 be 4,E 7 24 (.slice po k pcap),VN 8 25 k,VP 9 26 be 0,VP 10 27 be 0,VP 11 28 be 0,VP 12 29 be 0,VSl 13 30 bh k cap,VN 14 31 k,E 15 32 (.bool false),E 16 33 (.bool false)]) kR RV.start (RV.fin kR ?fin2) ?steps2
    case steps2=>
     refine⟨?_,?_,?_,?_,?_,?_,?_,?_,?_,?_,?_,?_,?_,?_,?_,?_,?_,trivial⟩<;>(intro L T wS hL hd hcl hI K hK;try refine zA rfl ?_)
     ·exact xgs (hI.k 8 rfl kR)
     ·exact xgs (hI.k 1 rfl kR)
     ·exact xgt (hI.e mm0 (hd 0)) (hI.e mm1 (hd 1))
     ·exact xgs (hI.e mm2 (hd 2))
     ·have zg:=hI.e mm3 (hd 3)
      refine zA xgp ?_;exact xgs (hI.k 7 rfl kR)
     ·have zg:=hI.e mm3 (hd 3)
      refine zA xgp ?_;exact xgs (hI.e mm4 (hd 4))
     ·have zg:=hI.e mm3 (hd 3)
      refine zA xgp ?_;exact xgs (hI.e mm5 (hd 5))
     ·have zg:=hI.e mm3 (hd 3)
      refine zA xgp ?_;have zt6:=hI.e mm6 (hd 6);have cc0:=hI.cell c5;exact xgu
     ·have zg:=hI.e mm3 (hd 3)
      refine zA xgp ?_;exact xgs (hI.e mm7 (hd 7))
     ·have zg:=hI.e mm3 (hd 3)
      refine zA xgp ?_;exact xgs (hI.k 7 rfl kR)
     ·have zg:=hI.e mm3 (hd 3)
      refine zA xgp ?_;exact xgs (hI.e mm9 (hd 9))
     ·have zg:=hI.e mm3 (hd 3)
      refine zA xgp ?_;exact xgs (hI.e zAC (hd 10))
     ·have zg:=hI.e mm3 (hd 3)
      refine zA xgp ?_;exact xgs (hI.e zAJ (hd 11))
     ·have zg:=hI.e mm3 (hd 3)
      refine zA xgp ?_;have zt12:=hI.e zAo (hd 12);have cc0:=hI.cell c1;exact xgu
     ·have zg:=hI.e mm3 (hd 3)
      refine zA xgp ?_;exact xgs (hI.e zCF (hd 13))
     ·have zg:=hI.e mm3 (hd 3)
      refine zA xgp ?_;exact xgt (hI.e mm8 (hd 8)) (hI.e zBp (hd 14))
     ·exact xgt (hI.e mm3 (hd 3)) (hI.e zCS (hd 15))
    intro w4 hbw4 T hT;simp only[Fin,E,EI,VP,VSl,VN,xgg,xgh,xgi,xgj]at hT;subst hT;have hB:=nx hB hbw4;have HBE:=xgv (HBE.out.below hbw4);go_wp2;unfold Exit.noGoto;go_ret;exact⟨be,rfl,by rw[hfu];exact HBE.out,hB⟩
  ·obtain rfl:c=cols:=by omega
   go_upto_region 3 with(fail)
   refine zE rfl (RV wr _ [VN 0 17 c,VN 1 18 c,E 2 19 (.bool false),E 3 20 (.bool false),E 4 21 (undef),E 5 22 (undef),E 6 23 (undef),E 7 24 (undef),E 8 25 (undef),E 9 26 (undef),E 10 27 (undef),E 11 28 (undef),E 12 29 (undef),E 13 30 (undef),E 14 31 (undef),E 15 32 (undef),E 16 33 (.bool false)]) kR RV.start (RV.fin kR ?fin3) ?steps3
   case steps3=>
    refine⟨?_,?_,?_,?_,?_,?_,?_,?_,?_,?_,?_,?_,?_,?_,?_,?_,?_,trivial⟩<;>(intro L T wS hL hd hcl hI K hK;try refine zA rfl ?_)
    ·exact xgs (hI.k 8 rfl kR)
    ·exact xgs (hI.k 1 rfl kR)
    ·exact xgt (hI.e mm0 (hd 0)) (hI.e mm1 (hd 1))
    ·exact xgs (hI.e mm2 (hd 2))
    ·have zg:=hI.e mm3 (hd 3)
     refine qD xgp ?_;exact hK _ _ (hI.y mm4 rfl)
    ·have zg:=hI.e mm3 (hd 3)
     refine qD xgp ?_;exact hK _ _ (hI.y mm5 rfl)
    ·have zg:=hI.e mm3 (hd 3)
     refine qD xgp ?_;exact hK _ _ (hI.y mm6 rfl)
    ·have zg:=hI.e mm3 (hd 3)
     refine qD xgp ?_;exact hK _ _ (hI.y mm7 rfl)
    ·have zg:=hI.e mm3 (hd 3)
     refine qD xgp ?_;exact hK _ _ (hI.y mm8 rfl)
    ·have zg:=hI.e mm3 (hd 3)
     refine qD xgp ?_;exact hK _ _ (hI.y mm9 rfl)
    ·have zg:=hI.e mm3 (hd 3)
     refine qD xgp ?_;exact hK _ _ (hI.y zAC rfl)
    ·have zg:=hI.e mm3 (hd 3)
     refine qD xgp ?_;exact hK _ _ (hI.y zAJ rfl)
    ·have zg:=hI.e mm3 (hd 3)
     refine qD xgp ?_;exact hK _ _ (hI.y zAo rfl)
    ·have zg:=hI.e mm3 (hd 3)
     refine qD xgp ?_;exact hK _ _ (hI.y zCF rfl)
    ·have zg:=hI.e mm3 (hd 3)
     refine qD xgp ?_;exact hK _ _ (hI.y zBp rfl)
    ·have zg:=hI.e mm3 (hd 3)
     refine qD xgp ?_;exact hK _ _ (hI.y zCS rfl)
    ·exact xgt (hI.e mm3 (hd 3)) (hI.e zCS (hd 15))
   intro w4 hbw4 T hT;simp only[Fin,E,EI,VP,VSl,VN,xgg,xgh,xgi,xgj]at hT;subst hT;have hB:=nx hB hbw4;have HBE:=xgv (HBE.out.below hbw4);go_wp2;unfold Exit.noGoto;go_ret;exact⟨be,rfl,HBE.out,hB⟩
def zIH(w:World)(b j n m:Nat)(E:Nat->Nat->Int):Prop:=∃cs:Array Value,Blk w b tR cs/\n<=cs.size/\∀i,i<j->∃o c,cs[i]?=some (.slice o m c)/\qT w (.slice o m c) (zM m (E i))
theorem zIH.lt{w:World}{b j n m:Nat}{E:Nat->Nat->Int}(h:zIH w b j n m E):b<w.heap.size:=by
 obtain⟨cs,h1,-⟩:=h;exact h1.lt
theorem zIH.below{w w':World}{b j n m:Nat}{E:Nat->Nat->Int}(h:zIH w b j n m E)(hb:Below w.heap.size w w'):zIH w' b j n m E:=by
 obtain⟨cs,h1,h2,h3⟩:=h;refine⟨cs,h1.below hb,h2,fun i hi=>?_⟩;obtain⟨o,c,e1,e2⟩:=h3 i hi;exact⟨o,c,e1,e2.below hb⟩
theorem zIH.full{w:World}{b n m:Nat}{E:Nat->Nat->Int}(h:zIH w b n n m E):zCQ w b n m E:=by
 obtain⟨cs,h1,h2,h3⟩:=h;exact⟨cs,h1,h2,h3⟩
theorem zIH.facts{w:World}{b j n m:Nat}{E:Nat->Nat->Int}(h:zIH w b j n m E)(hj:j<n):(∃u,w.cell? ⟨b,j,none⟩=some u)/\w.frozen? ⟨b,j,none⟩=false:=by
 obtain⟨cs,h1,h2,-⟩:=h;exact⟨zIL h1 oM,h1.frozen j⟩
theorem zIH.put{w:World}{b j n m:Nat}{E:Nat->Nat->Int}{o:Option Addr}{c:Nat}(h:zIH w b j n m E)(hj:j<n)(hv:qT w (.slice o m c) (zM m (E j))):zIH (w.setCell ⟨b,j,none⟩ (.slice o m c)) b (j+1) n m E/\yO w (w.setCell ⟨b,j,none⟩ (.slice o m c)):=by
 obtain⟨cs,h1,h2,h3⟩:=h;have hx:=h1.lext (by decide:tR≠tU) j (.slice o m c);have ho:∀g,g≠b->(w.setCell ⟨b,j,none⟩ (.slice o m c)).heap[g]?=w.heap[g]?:=fun g hg=>zV w b j g _ hg
 refine⟨⟨cs.setIfInBounds j (.slice o m c),h1.set_ j _,by simpa using h2,fun i hi=>?_⟩,hx⟩;by_cases e:i=j
 ·subst e
  exact⟨o,c,Array.getElem?_setIfInBounds_self_of_lt oM,hv.gone h1 dE (fun g _ hg=>ho g hg) hx⟩
 ·obtain⟨o',c',e1,e2⟩:=h3 i oM
  exact⟨o',c',by rw[xgc (Ne.symm e)];exact e1,e2.gone h1 dE (fun g _ hg=>ho g hg) hx⟩
theorem zMe{R C j:Nat}{A:Nat->Nat->Int}{y:Nat->Int}(hj:j<C):((zM (R+1+C) (qA (fun i=>A i j) (fun _=>0) R)).set R (y j)).set (R+1+j) 1=zM (R+1+C) (eqL R A y j):=by
 rw[zAi,zAi];refine zP fun t ht=>?_
 unfold eqL qA;by_cases e1:t<R
 ·rw[if_neg oM,if_neg oM,if_pos e1,if_pos e1]
 ·by_cases e2:t=R
  ·rw[if_neg oM,if_pos e2,if_neg e1,if_pos e2]
  ·rw[if_neg e2,if_neg e1,if_neg e2,if_neg e1]
end Go.Proofs.YtnbmaipobhppcaaGreat
