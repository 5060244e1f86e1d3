/- torsionlaw14.sanity. Appending a whole slice of integers. torsionref12: the work of a run, as a value. -/
import Derived.Test.YtnbmaipobhppcaaGreatD13
import Derived.Test.YtnbmaipobhppcaaGreatD17
import Derived.Test.YtnbmaipobhppcaaGreatD21
import Derived.Test.YtnbmaipobhppcaaGreatD22
import Derived.Test.YtnbmaipobhppcaaGreatD24
import Derived.Test.YtnbmaipobhppcaaGreatD26
import Derived.Test.YtnbmaipobhppcaaGreatD28
set_option linter.unusedVariables false
set_option linter.unusedSimpArgs false
set_option linter.unusedSectionVars false
set_option maxHeartbeats 16000000
set_option maxRecDepth 100000
namespace Go.Proofs.YtnbmaipobhppcaaGreat
open Go.RowKit
def lf(l:List Int)(j:Nat):Int:=l.getD j 0
theorem zHe{l:List Int}{n:Nat}(h:l.length=n):zM n (lf l)=l:=by
 subst h;exact zGi l
theorem zMc{l:List Int}{h:Nat}(hl:(l.all fun z=>decide (z.natAbs<=h))=true)(j:Nat):(lf l j).natAbs<=h:=by
 unfold lf;rw[xgb];rcases hj:l[j]? with _|z
 ·exact Nat.zero_le _
 ·exact of_decide_eq_true (List.all_eq_true.1 hl z (xgd hj))
def zFg(f:Bool)(R C:Nat)(A:Nat->Nat->Int)(y:Nat->Int)(w:World)(v:Value):Prop:=∃o n k o' n' k',v= .agg #[.bool f,.slice o n k,.slice o' n' k']/\zGH R C A y w v
def zLu(f:Bool)(R C:Nat)(A:Nat->Nat->Int)(y:Nat->Int)(w:World)(v:Value):Prop:=∃u,v= .tuple #[u,.int .i64 0]/\zFg f R C A y w u
theorem zFg.below{f:Bool}{R C:Nat}{A:Nat->Nat->Int}{y:Nat->Int}{w w':World}{v:Value}(h:zFg f R C A y w v)(hb:Below w.heap.size w w'):zFg f R C A y w' v:=by
 obtain⟨o,n,k,o',n',k',e,h1⟩:=h;exact⟨o,n,k,o',n',k',e,h1.below hb⟩
theorem zCg(f:Bool)(R C:Nat)(A:Nat->Nat->Int)(y:Nat->Int):qS (zFg f R C A y):=fun _ _ _ e h=>h.below e
theorem zCh(f:Bool)(R C:Nat)(A:Nat->Nat->Int)(y:Nat->Int):qS (zLu f R C A y):=fun _ _ _ e ⟨u,h1,h2⟩=>⟨u,h1,h2.below e⟩
theorem zGH.off3{R C:Nat}{A:Nat->Nat->Int}{y:Nat->Int}{w:World}{u:Value}(h:zGH R C A y w u){b:Nat}{T:TypeId}{cs:Array Value}(hb:Blk w b T cs)(hT:¬ T=tQ)(hI:¬ T=tI)(hU:T≠tU)(x1 x2 x3:Value):zGH R C A y (((w.setCell ⟨b,0,none⟩ x1).setCell ⟨b,1,none⟩ x2).setCell ⟨b,2,none⟩ x3) u:=by
 rcases h with⟨xv,x,e,h1,h2⟩|⟨yv,q,e,h1,h2⟩
 ·exact .inl ⟨xv,x,e,h1.off3 hb hI hU _ _ _,h2⟩
 ·exact .inr ⟨yv,q,e,h1.off3 hb hT hU _ _ _,h2⟩
theorem zGH.kind{f:Bool}{R C:Nat}{A:Nat->Nat->Int}{y:Nat->Int}{w:World}{u:Value}(h:zGH R C A y w u)(hf:f=true↔∃x,zJz R C A y x):zFg f R C A y w u:=by
 rcases id h with⟨xv,x,rfl,hx,h1,-⟩|⟨yv,q,rfl,hp,h1,-⟩
 ·obtain rfl:f=true:=hf.2 ⟨x,h1⟩
  obtain⟨o,n,k,rfl,-⟩:=id hx;exact⟨_,_,_,_,_,_,rfl,h⟩
 ·obtain rfl:f=false:=by
   cases f
   ·rfl
   ·obtain⟨x,hx⟩:=hf.1 rfl
    exact(zIv hx h1).elim
  obtain⟨o,n,k,rfl,-⟩:=id hp;exact⟨_,_,_,_,_,_,rfl,h⟩
theorem zFr(f:Bool)(ls:List Int)(v bv:Value)(R C:Nat)(M:List (List Int))(w:World)(hm:yP w v R C M)(hF:jK R C M)(hb:qT w bv ls)(hl:ls.length=C)(hR:R<=4)(hC:C<=4)(hA:leM 9 R C (ent M))(hy:(ls.all fun z=>decide (z.natAbs<=1000000))=true)(hf:f=true↔∃x,zJz R C (ent M) (lf ls) x):
  Calls Tryz.prog 18 #[v,bv] w fun e w'=>∃u,e= .returned u/\zLu f R C (ent M) (lf ls) w' u/\Below w.heap.size w w':=
 (zFH v bv R C M (lf ls) w hm hF (by rw[zHe hl];exact hb) hR hC hA fun j _=>zMc hy j).mono fun e w' ⟨u,he,hs,hb⟩=>⟨_,he,⟨u,rfl,hs.kind hf⟩,hb⟩
theorem zPa(f:Nat->Int):qE 1 f=f 0:=by simp[qE]
theorem zOi(f:Nat->Int):qE 2 f=f 0+f 1:=by simp[qE]
theorem zQA(f:Nat->Int):qE 3 f=f 0+f 1+f 2:=by simp[qE]
theorem zKB{r:Nat}{c:Nat->Nat}{H U V:Nat->Nat->Int}(h:zBf 3 1 r c (ent [[6],[10],[15]]) H U V):leM 644972544 3 1 H:=fun i hi j hj=>by
 obtain rfl:j=0:=by omega
 have hr:r<=1:=h.hnf.ech.le;by_cases g:r<=i
 ·rw[h.hnf.zero i g hi 0 dE]
  decide
 ·obtain rfl:i=0:=by omega
  have h1:=h.back 0 dE 0 dE;rw[zQA,h.hnf.zero 1 hr dE 0 dE,h.hnf.zero 2 oM dE 0 dE,show ent [[6],[10],[15]] 0 0=6 from rfl]at h1;have h2:H 0 0∣6:=⟨V 0 0,by rw[h1,Int.mul_comm];omega⟩;have h3:=Nat.le_of_dvd dE (Int.natAbs_dvd_natAbs.2 h2);have h4:(6:Int).natAbs=6:=rfl;omega
theorem zNw(v bv:Value)(w:World)(hm:yP w v (3:Nat) (1:Nat) [[6],[10],[15]])(hb:qT w bv [1]):
  Calls Tryz.prog 18 #[v,bv] w fun e w'=>∃u,e= .returned u/\zLu true 3 1 (ent [[6],[10],[15]]) (lf [1]) w' u/\Below w.heap.size w w':=
 (zFJ (M0:=15) dE dE v bv 3 1 [[6],[10],[15]] (lf [1]) w hm ⟨rfl,by simp⟩ hb dE dE (zDV dE ⟨rfl,by simp⟩) (fun r c H U V h=>zKB h) fun j _=>zMc dE j).mono fun e w' ⟨u,he,hs,hb⟩=>⟨_,he,⟨u,rfl,hs.kind ⟨fun _=>⟨lf [-14,7,1],fun j hj=>by
  obtain rfl:j=0:=by omega
  decide⟩,fun _=>rfl⟩⟩,hb⟩
theorem zPG:true=true↔∃x,zJz 2 2 (ent [[2,0],[0,3]]) (lf [4,3]) x:=⟨fun _=>⟨lf [2,1],show ∀j,j<2->_ by decide⟩,fun _=>rfl⟩
theorem zPH:false=true↔∃x,zJz 2 2 (ent [[2,0],[0,3]]) (lf [1,0]) x:=⟨nofun,fun⟨x,h⟩=>by
 have h0:=h 0 dE;rw[zOi,show lf [1,0] 0=1 from rfl,show ent [[2,0],[0,3]] 0 0=2 from rfl,show ent [[2,0],[0,3]] 1 0=0 from rfl]at h0;omega⟩
theorem zPI:false=true↔∃x,zJz 1 2 (ent [[1,1]]) (lf [1,2]) x:=⟨nofun,fun⟨x,h⟩=>by
 have h0:=h 0 dE;have h1:=h 1 dE;rw[zPa,show lf [1,2] 0=1 from rfl,show ent [[1,1]] 0 0=1 from rfl]at h0;rw[zPa,show lf [1,2] 1=2 from rfl,show ent [[1,1]] 0 1=1 from rfl]at h1;omega⟩
theorem zPJ:true=true↔∃x,zJz 0 0 (ent []) (lf []) x:=⟨fun _=>⟨lf [],fun j hj=>by omega⟩,fun _=>rfl⟩
theorem zFg.vec{w:World}{o o':Option Addr}{n k n' k':Nat}(h:zFg true 2 2 (ent [[2,0],[0,3]]) (lf [4,3]) w (.agg #[.bool true,.slice o n k,.slice o' n' k'])):qT w (.slice o n k) [2,1]:=by
 obtain⟨-,-,-,-,-,-,-,h⟩:=h;rcases h with⟨xv,x,e,hx,h1,-⟩|⟨yv,q,e,-⟩
 ·obtain rfl:xv= .slice o n k:=by
   injection e with e
   injection e with e
   injection e with e1 e
   injection e with e2 e
   exact e2.symm
  have h0:=h1 0 dE;have h2:=h1 1 dE;rw[zOi,show lf [4,3] 0=4 from rfl,show ent [[2,0],[0,3]] 0 0=2 from rfl,show ent [[2,0],[0,3]] 1 0=0 from rfl]at h0;rw[zOi,show lf [4,3] 1=3 from rfl,show ent [[2,0],[0,3]] 0 1=0 from rfl,show ent [[2,0],[0,3]] 1 1=3 from rfl]at h2;have e1:zM 2 x= [x 0,x 1]:=rfl;rw[e1,show x 0=2 by omega,show x 1=1 by omega]at hx;exact hx
 ·injection e with e
  injection e with e
  injection e with e1 e
  injection e1 with e1
  cases e1
theorem zM5(v1 v2:Value)(xs:List Int)(w:World)(h1:qT w v1 xs)(h2:qT w v2 xs):
  Calls Tryz.prog 65 #[v1,v2] w fun e w'=>∃u,e= .returned u/\u= .bool true/\Below w.heap.size w w':=
 (zCp v1 v2 xs xs w h1 h2).mono fun e w' ⟨h,hb⟩=>⟨_,h,by rw[decide_eq_true rfl],hb⟩
theorem zOY{w:World}{b:Nat}{s1 s2 s3 s4:Bool}{a1 a2 a3 a4:Option Addr}{l1 l2 l3 l4 k1 k2 k3 k4:Nat}{p q:Rat}(hb:Blk w b tQ #[.bool s1,.slice a1 l1 k1,.bool s2,.slice a2 l2 k2,.bool s3,.slice a3 l3 k3,.bool s4,.slice a4 l4 k4])
  (h1:jW w (.agg #[.bool s1,.slice a1 l1 k1,.bool s2,.slice a2 l2 k2]) p) (h2:jW w (.agg #[.bool s3,.slice a3 l3 k3,.bool s4,.slice a4 l4 k4]) q):zAn w (.slice (some ⟨b,0,none⟩) 2 2) [prQ p,prQ q]:=by
 obtain⟨_,_,_,_,_,_,_,_,e1,i1,i2⟩:=h1;obtain⟨_,_,_,_,_,_,_,_,e2,i3,i4⟩:=h2;cases e1;cases e2;refine⟨_,2,2,rfl,rfl,xgf _,by decide,fun _=>⟨b,rfl,_,hb,fun k r hk=>?_⟩⟩;rcases k with _|_|k
 ·obtain rfl:prQ p=r:=by simpa using hk
  exact⟨_,_,_,_,_,_,_,_,rfl,rfl,rfl,rfl,i1,i2⟩
 ·obtain rfl:prQ q=r:=by simpa using hk
  exact⟨_,_,_,_,_,_,_,_,rfl,rfl,rfl,rfl,i3,i4⟩
 ·simp at hk
theorem zMI: [prQ (Rat.divInt 1 2),prQ ((0:Int):Rat)]= [(1,2),(0,1)]:=by decide+kernel
theorem zHV(ans:Bool)(ls:List Int)(ps:List (Int × Int))(mv bv yv:Value)(w:World)(hm:yP w mv (2:Nat) (2:Nat) [[2,0],[0,3]])(hb:qT w bv ls)(hl:ls.length=2)(hp:zAn w yv ps)(hps:(ps.all fun p=>decide (p.1.natAbs<2^20/\p.2.natAbs<2^20))=true)(hy:(ls.all fun z=>decide (z.natAbs<=1000000))=true)(ha:zO6 false 2 2 (ent [[2,0],[0,3]]) (lf ls) [] ps=ans):
  Calls Tryz.prog 20 #[mv,bv,.agg #[.bool false,.slice none 0 0,yv]] w fun e w'=>∃u,e= .returned u/\u= .bool ans/\Below w.heap.size w w':=
 ha ▸ zI7 (e:=20) (h:=20) false mv bv (.slice none 0 0) yv 2 2 _ (lf ls) [] ps w hm ⟨rfl,by simp⟩ (by rw[zHe hl];exact hb) (qT.nil w) hp dE dE (fun h=>absurd h dE) (fun p hp=>of_decide_eq_true (List.all_eq_true.1 hps p hp)) dE (fun j _=>zPN (zMc hy j)) dE dE
theorem zMJ:zO6 false 2 2 (ent [[2,0],[0,3]]) (lf [1,0]) [] [(1,2),(0,1)]=true:=by decide+kernel
theorem zN7:zO6 false 2 2 (ent [[2,0],[0,3]]) (lf [2,0]) [] [(1,2),(0,1)]=false:=by decide+kernel
theorem zOS:zO6 false 2 2 (ent [[2,0],[0,3]]) (lf [4,3]) [] []=false:=by decide+kernel
theorem zQR(R C:Nat)(M:List (List Int))(ls:List Int)(mv bv u:Value)(w:World)(hs:zFg false R C (ent M) (lf ls) w u)(hm:yP w mv R C M)(hF:jK R C M)(hb:qT w bv ls)(hl:ls.length=C)(hR:R<=4)(hC:C<=4)(hA:leM 1000 R C (ent M))(hy:(ls.all fun z=>decide (z.natAbs<=1000000))=true):
  Calls Tryz.prog 19 #[mv,bv,u] w fun e w'=>∃u,e= .returned u/\u= .bool true/\Below w.heap.size w w':=by
 obtain⟨-,-,-,-,-,-,-,hs⟩:=hs;exact zIw mv bv u R C M (lf ls) w hs hm hF (by rw[zHe hl];exact hb) hR hC hA fun j _=>zMc hy j
theorem zBG{W w:World}(h:yC [] W w):Below W.heap.size W w:=⟨h.bel.os,h.bel.tape,h.bel.output,h.bel.size,fun k hk=>h.old k hk sI⟩
theorem zFb{f:Bool}{R C:Nat}{A:Nat->Nat->Int}{y:Nat->Int}{w:World}{v:Value}(h:zLu f R C A y w v):∃o n k o' n' k',v= .tuple #[.agg #[.bool f,.slice o n k,.slice o' n' k'],.int .i64 0]/\zFg f R C A y w (.agg #[.bool f,.slice o n k,.slice o' n' k']):=by
 obtain⟨u,rfl,o,n,k,o',n',k',rfl,h⟩:=h;exact⟨o,n,k,o',n',k',rfl,o,n,k,o',n',k',rfl,h⟩
theorem zG4(w:World):Calls Tryz.prog 14 #[] w fun e w'=>e= .returned (.bool true)/\Below w.heap.size w w':=by
 go_enter Tryz.func14,Tryz.ntmps14;have hB:=Below.refl w.heap.size w;go_wp2_with fail
 refine(zMT _ [2,0,0,3] 2 2 _ _ [[2,0],[0,3]] _ (zBu.new _ [2,0,0,3] dE dE) (by rfl) (by rfl) (by rfl) oM oM (by rfl)).mono ?_;rintro e wa ⟨v1,rfl,hm,hb1⟩;have hB:=nxa hB hb1;obtain⟨wao,wan,wak,rfl⟩:=hm.agg;have HM:=xgv hm;clear hm;go_wp2_with fail
 refine(zMT _ [1,1] 1 2 _ _ [[1,1]] _ (zBu.new _ [1,1] dE dE) (by rfl) (by rfl) (by rfl) oM oM (by rfl)).mono ?_;rintro e wb ⟨v1,rfl,hm,hb1⟩;have hB:=nxa hB hb1;obtain⟨wbo,wbn,wbk,rfl⟩:=hm.agg;have hb1:=nxd hb1;have HM:=xgv (HM.out.below hb1);have HL:=xgv hm;clear hm;go_upto_region 2 with(fail)
 refine zB ?_;intro W1 hW1;obtain⟨hB1,b1,b2,hsW1⟩:=qI hW1;have hB:=nx hB hB1;have HM:=xgv (HM.out.below hB1);have HL:=xgv (HL.out.below hB1);clear hW1;have hl43:=zAw [4,3];have hl10:=zAw [1,0];have hl12:=zAw [1,2];have hv43:=qW [4,3];have hv10:=qW [1,0];have hv12:=qW [1,2];have hP2:=zCh true 2 2 (ent [[2,0],[0,3]]) (lf [4,3]);have hG2:=zCg true 2 2 (ent [[2,0],[0,3]]) (lf [4,3]);have hN2:=zBV 39 W1.heap.size #[.bool false,.slice none 0 0,.slice none 0 0];obtain⟨c1,c2,c3,-,-,-⟩:=b1.three;have ltb:=b1.lt;refine zC 9 rfl (RAS ([]) 99 W1 _ [⟨0,23,fun _ v=>v= .agg #[.int .i64 (2:Nat),.int .i64 (2:Nat),.slice wao wan wak]⟩,⟨1,24,fun w v=>zBu w v [4,3]⟩,⟨2,25,fun w v=>qT w v [4,3]⟩,⟨3,26,zLu true 2 2 (ent [[2,0],[0,3]]) (lf [4,3])⟩,⟨4,22,zLu true 2 2 (ent [[2,0],[0,3]]) (lf [4,3])⟩,⟨5,27,zFg true 2 2 (ent [[2,0],[0,3]]) (lf [4,3])⟩,⟨6,28,fun _ v=>v= .int .i64 0⟩,⟨7,3,zNi 39 W1.heap.size #[.bool false,.slice none 0 0,.slice none 0 0]⟩] 8 (put3 3 27)) kR (RAS.start (RA.start kR (by repeat' (first|exact yJ _|exact jD _|exact yR _ _ _|exact qW _|assumption|refine xgm.2 ⟨?_,?_⟩|exact xgn _)))) ?fin1 ?steps1
 case steps1=>
  refine⟨?_,?_,?_,?_,?_,?_,?_,?_,?_,trivial⟩
  ·refine zF.liftA kR dE ?_
   intro L T wS hL hd hcl hI K hK;try refine zA rfl ?_
   have zt:T[1]?=some (.pointer (some ⟨wb.heap.size,0,none⟩)):=hI.keep 1 sI;have cc0:=hI.cell (sI) oM c1;have cc1:=hI.cell (sI) oM c2;have cc2:=hI.cell (sI) oM c3;go_simp;exact hK _ _ (hI.y mm0 rfl)
  ·refine zF.liftA kR dE ?_
   intro L T wS hL hd hcl hI K hK;try refine zA rfl ?_
   go_simp;exact hK _ _ ((hI.world ((Below.refl _ _).alloc (xgf _) _)).y mm1 (zBu.new _ [4,3] dE dE))
  ·refine zF.liftA kR dE ?_
   intro L T wS hL hd hcl hI K hK;try refine zA rfl ?_
   obtain⟨z1,zt1,hz1⟩:=hI.v mm1 (hd 1);go_simp;refine(jQ _ [4,3] _ hz1 dE).mono ?_;rintro e wa ⟨v,rfl,hv,hba⟩;exact hK _ _ ((hI.world hba).y mm2 hv)
  ·refine zF.liftA kR dE ?_
   intro L T wS hL hd hcl hI K hK;try refine zA rfl ?_
   obtain⟨_,zt0,rfl⟩:=hI.v mm0 (hd 0);obtain⟨z2,zt2,hz2⟩:=hI.v mm2 (hd 2);have hbS:=zBG hI.onl;go_simp;refine(zFr true [4,3] _ _ 2 2 [[2,0],[0,3]] _ (HM.out.below hbS) ⟨rfl,by simp⟩ hz2 rfl dE dE (zDV dE ⟨rfl,by simp⟩) dE zPG).mono ?_;rintro e wa ⟨v,rfl,hv,hba⟩;exact hK _ _ ((hI.world hba).y mm3 hv)
  ·refine zF.liftA kR dE ?_
   intro L T wS hL hd hcl hI K hK;try refine zA rfl ?_
   obtain⟨z3,zt3,hz3⟩:=hI.v mm3 (hd 3);go_simp;exact hK _ _ (hI.y mm4 hz3)
  ·refine zF.liftA kR dE ?_
   intro L T wS hL hd hcl hI K hK;try refine zA rfl ?_
   obtain⟨z4,zt4,hz4⟩:=hI.v mm4 (hd 4);obtain⟨u,rfl,hu⟩:=hz4;go_simp;exact hK _ _ (hI.y mm5 hu)
  ·intro L T wS hL hd hcl hI K hK
   try refine zA rfl ?_
   obtain⟨w0,hJ,-,-⟩:=id hI;obtain⟨z4,zt4,hz4⟩:=hJ.val _ mm4 (hd 4);obtain⟨u,rfl,hu⟩:=hz4;go_simp;exact hK _ _ (hI.pure ⟨6,28,_⟩ mm6 rfl (fun _=>rfl) dE (fun _=>zD8 dE dE))
  ·refine zF.liftA kR dE ?_
   intro L T wS hL hd hcl hI K hK;try refine zA rfl ?_
   go_simp;exact hK _ _ ((hI.world ((Below.refl _ _).alloc (xgf _) _)).y mm7 ⟨_,rfl,hI.onl.bel.size,Blk.new _ _ _⟩)
  ·intro L T wS hL hd hcl hI K hK
   try refine zA rfl ?_
   replace hI:=hI.here hL;obtain⟨z11,zt11,hz11⟩:=hI.v mm5 (hd 5);obtain⟨z13,zt13,hz13⟩:=hI.v mm7 (hd 7);obtain⟨vo,vn,vc,uo,un,uc,rfl,-⟩:=hz11;obtain⟨b7,rfl,-,T7⟩:=hz13;obtain⟨f1,f2,f3,f4,f5,f6⟩:=T7.three;go_simp;exact hK _ _ (RAS.store hI hL (by repeat' (first|exact xgn _|refine xgm.2 ⟨by dsimp only;decide,?_⟩)) dE (zB3 zt13 zt11).symm)
 intro T x2f hJ;obtain⟨x2,hI,-,hstx2⟩:=hJ;replace hstx2:=hstx2 kR;obtain⟨va0,q0,rfl⟩:=hI.v mm0 rfl;obtain⟨va1,q1,ha1⟩:=hI.v mm1 rfl;obtain⟨va2,q2,ha2⟩:=hI.v mm2 rfl;obtain⟨va3,q3,ha3⟩:=hI.v mm3 rfl;obtain⟨va4,q4,ha4⟩:=hI.v mm4 rfl;obtain⟨va5,q5,ha5⟩:=hI.v mm5 rfl;obtain⟨va6,q6,rfl⟩:=hI.v mm6 rfl;obtain⟨va7,q7,ha7⟩:=hI.v mm7 rfl;have hT:=zAH [(23,.agg #[.int .i64 (2:Nat),.int .i64 (2:Nat),.slice wao wan wak]),(24,va1),(25,va2),(26,va3),(22,va4),(27,va5),(28,.int .i64 0),(3,va7)]
  (fun j hj=>hI.keep j (by simp only[xgm]at hj ⊢;simp[hj]))
  (by simp only[xgm];simp[q0,q1,q2,q3,q4,q5,q6,q7]) hI.size
 have hox2:=hI.onl;clear hI;simp only[List.foldl_cons,List.foldl_nil,xgh,xgi,xgj,ptr]at hT;subst hT;clear q0 q1 q2 q3 q4 q5 q6 q7;simp only[xgl,xgk];have hbw2:=zBG hox2;replace ha5:zFg true 2 2 (ent [[2,0],[0,3]]) (lf [4,3]) x2 va5:=ha5;obtain⟨o2,n2,k2,o2',n2',k2',rfl,hs2⟩:=id ha5;obtain⟨g2,rfl,hg2,T2⟩:=ha7;have q2:=hbw2.size;have hw2:=hstx2.trans (zB3 rfl rfl);have b2x:Blk x2f g2 39 #[.bool true,.slice o2 n2 k2,.slice o2' n2' k2']:=by rw[hw2];exact T2.put3 _ _ _
 have hbf2:Below W1.heap.size W1 x2f:=by
  rw[hw2];exact zT (zT (zT hbw2 oM 0 _) oM 1 _) oM 2 _
 have hs2:zGH 2 2 (ent [[2,0],[0,3]]) (lf [4,3]) x2f (.agg #[.bool true,.slice o2 n2 k2,.slice o2' n2' k2']):=by
  rw[hw2];exact hs2.off3 T2 dE dE dE _ _ _
 have HA:=xgv (show zFg true 2 2 (ent [[2,0],[0,3]]) (lf [4,3]) x2f (.agg #[.bool true,.slice o2 n2 k2,.slice o2' n2' k2']) from⟨_,_,_,_,_,_,rfl,hs2⟩);have hB:=nx hB hbf2;have HM:=xgv (HM.out.below hbf2);have HL:=xgv (HL.out.below hbf2);have b1:=b1.below hbf2;have b2:=b2.below hbf2;clear c1 c2 c3 ha5 T2 hw2 hstx2 hox2 hbw2 hs2 hP2 hG2 hN2;go_upto_region 3 with(fail)
 have hP3:=zCh false 2 2 (ent [[2,0],[0,3]]) (lf [1,0]);have hG3:=zCg false 2 2 (ent [[2,0],[0,3]]) (lf [1,0]);have hN3:=zBV 39 x2f.heap.size #[.bool false,.slice none 0 0,.slice none 0 0];obtain⟨c1,c2,c3,-,-,-⟩:=b1.three;have ltb:=b1.lt;refine zC 9 rfl (RAS ([]) 99 x2f _ [⟨0,30,fun _ v=>v= .agg #[.int .i64 (2:Nat),.int .i64 (2:Nat),.slice wao wan wak]⟩,⟨1,31,fun w v=>zBu w v [1,0]⟩,⟨2,32,fun w v=>qT w v [1,0]⟩,⟨3,33,zLu false 2 2 (ent [[2,0],[0,3]]) (lf [1,0])⟩,⟨4,29,zLu false 2 2 (ent [[2,0],[0,3]]) (lf [1,0])⟩,⟨5,34,zFg false 2 2 (ent [[2,0],[0,3]]) (lf [1,0])⟩,⟨6,35,fun _ v=>v= .int .i64 0⟩,⟨7,5,zNi 39 x2f.heap.size #[.bool false,.slice none 0 0,.slice none 0 0]⟩] 8 (put3 5 34)) kR (RAS.start (RA.start kR (by repeat' (first|exact yJ _|exact jD _|exact yR _ _ _|exact qW _|assumption|refine xgm.2 ⟨?_,?_⟩|exact xgn _)))) ?fin2 ?steps2
 case steps2=>
  refine⟨?_,?_,?_,?_,?_,?_,?_,?_,?_,trivial⟩
  ·refine zF.liftA kR dE ?_
   intro L T wS hL hd hcl hI K hK;try refine zA rfl ?_
   have zt:T[1]?=some (.pointer (some ⟨wb.heap.size,0,none⟩)):=hI.keep 1 sI;have cc0:=hI.cell (sI) oM c1;have cc1:=hI.cell (sI) oM c2;have cc2:=hI.cell (sI) oM c3;go_simp;exact hK _ _ (hI.y mm0 rfl)
  ·refine zF.liftA kR dE ?_
   intro L T wS hL hd hcl hI K hK;try refine zA rfl ?_
   go_simp;exact hK _ _ ((hI.world ((Below.refl _ _).alloc (xgf _) _)).y mm1 (zBu.new _ [1,0] dE dE))
  ·refine zF.liftA kR dE ?_
   intro L T wS hL hd hcl hI K hK;try refine zA rfl ?_
   obtain⟨z1,zt1,hz1⟩:=hI.v mm1 (hd 1);go_simp;refine(jQ _ [1,0] _ hz1 dE).mono ?_;rintro e wa ⟨v,rfl,hv,hba⟩;exact hK _ _ ((hI.world hba).y mm2 hv)
  ·refine zF.liftA kR dE ?_
   intro L T wS hL hd hcl hI K hK;try refine zA rfl ?_
   obtain⟨_,zt0,rfl⟩:=hI.v mm0 (hd 0);obtain⟨z2,zt2,hz2⟩:=hI.v mm2 (hd 2);have hbS:=zBG hI.onl;go_simp;refine(zFr false [1,0] _ _ 2 2 [[2,0],[0,3]] _ (HM.out.below hbS) ⟨rfl,by simp⟩ hz2 rfl dE dE (zDV dE ⟨rfl,by simp⟩) dE zPH).mono ?_;rintro e wa ⟨v,rfl,hv,hba⟩;exact hK _ _ ((hI.world hba).y mm3 hv)
  ·refine zF.liftA kR dE ?_
   intro L T wS hL hd hcl hI K hK;try refine zA rfl ?_
   obtain⟨z3,zt3,hz3⟩:=hI.v mm3 (hd 3);go_simp;exact hK _ _ (hI.y mm4 hz3)
  ·refine zF.liftA kR dE ?_
   intro L T wS hL hd hcl hI K hK;try refine zA rfl ?_
   obtain⟨z4,zt4,hz4⟩:=hI.v mm4 (hd 4);obtain⟨u,rfl,hu⟩:=hz4;go_simp;exact hK _ _ (hI.y mm5 hu)
  ·intro L T wS hL hd hcl hI K hK
   try refine zA rfl ?_
   obtain⟨w0,hJ,-,-⟩:=id hI;obtain⟨z4,zt4,hz4⟩:=hJ.val _ mm4 (hd 4);obtain⟨u,rfl,hu⟩:=hz4;go_simp;exact hK _ _ (hI.pure ⟨6,35,_⟩ mm6 rfl (fun _=>rfl) dE (fun _=>zD8 dE dE))
  ·refine zF.liftA kR dE ?_
   intro L T wS hL hd hcl hI K hK;try refine zA rfl ?_
   go_simp;exact hK _ _ ((hI.world ((Below.refl _ _).alloc (xgf _) _)).y mm7 ⟨_,rfl,hI.onl.bel.size,Blk.new _ _ _⟩)
  ·intro L T wS hL hd hcl hI K hK
   try refine zA rfl ?_
   replace hI:=hI.here hL;obtain⟨z11,zt11,hz11⟩:=hI.v mm5 (hd 5);obtain⟨z13,zt13,hz13⟩:=hI.v mm7 (hd 7);obtain⟨vo,vn,vc,uo,un,uc,rfl,-⟩:=hz11;obtain⟨b7,rfl,-,T7⟩:=hz13;obtain⟨f1,f2,f3,f4,f5,f6⟩:=T7.three;go_simp;exact hK _ _ (RAS.store hI hL (by repeat' (first|exact xgn _|refine xgm.2 ⟨by dsimp only;decide,?_⟩)) dE (zB3 zt13 zt11).symm)
 intro T x3f hJ;obtain⟨x3,hI,-,hstx3⟩:=hJ;replace hstx3:=hstx3 kR;obtain⟨va0,q0,rfl⟩:=hI.v mm0 rfl;obtain⟨va1,q1,ha1⟩:=hI.v mm1 rfl;obtain⟨va2,q2,ha2⟩:=hI.v mm2 rfl;obtain⟨va3,q3,ha3⟩:=hI.v mm3 rfl;obtain⟨va4,q4,ha4⟩:=hI.v mm4 rfl;obtain⟨va5,q5,ha5⟩:=hI.v mm5 rfl;obtain⟨va6,q6,rfl⟩:=hI.v mm6 rfl;obtain⟨va7,q7,ha7⟩:=hI.v mm7 rfl;have hT:=zAH [(30,.agg #[.int .i64 (2:Nat),.int .i64 (2:Nat),.slice wao wan wak]),(31,va1),(32,va2),(33,va3),(29,va4),(34,va5),(35,.int .i64 0),(5,va7)]
  (fun j hj=>hI.keep j (by simp only[xgm]at hj ⊢;simp[hj]))
  (by simp only[xgm];simp[q0,q1,q2,q3,q4,q5,q6,q7]) hI.size
 have hox3:=hI.onl;clear hI;simp only[List.foldl_cons,List.foldl_nil,xgh,xgi,xgj,ptr]at hT;subst hT;clear q0 q1 q2 q3 q4 q5 q6 q7;simp only[xgl,xgk];have hbw3:=zBG hox3;replace ha5:zFg false 2 2 (ent [[2,0],[0,3]]) (lf [1,0]) x3 va5:=ha5;obtain⟨o3,n3,k3,o3',n3',k3',rfl,hs3⟩:=id ha5;obtain⟨g3,rfl,hg3,T3⟩:=ha7;have q3:=hbw3.size;have hw3:=hstx3.trans (zB3 rfl rfl);have b3x:Blk x3f g3 39 #[.bool false,.slice o3 n3 k3,.slice o3' n3' k3']:=by rw[hw3];exact T3.put3 _ _ _
 have hbf3:Below x2f.heap.size x2f x3f:=by
  rw[hw3];exact zT (zT (zT hbw3 oM 0 _) oM 1 _) oM 2 _
 have hs3:zGH 2 2 (ent [[2,0],[0,3]]) (lf [1,0]) x3f (.agg #[.bool false,.slice o3 n3 k3,.slice o3' n3' k3']):=by
  rw[hw3];exact hs3.off3 T3 dE dE dE _ _ _
 have HB:=xgv (show zFg false 2 2 (ent [[2,0],[0,3]]) (lf [1,0]) x3f (.agg #[.bool false,.slice o3 n3 k3,.slice o3' n3' k3']) from⟨_,_,_,_,_,_,rfl,hs3⟩);have hB:=nx hB hbf3;have HM:=xgv (HM.out.below hbf3);have HL:=xgv (HL.out.below hbf3);have b1:=b1.below hbf3;have b2:=b2.below hbf3;have HA:=xgv (HA.out.below hbf3);have b2x:=b2x.below hbf3;clear c1 c2 c3 ha5 T3 hw3 hstx3 hox3 hbw3 hs3 hP3 hG3 hN3;go_wp2_with fail
 refine(zMT _ [6,10,15] 3 1 _ _ [[6],[10],[15]] _ (zBu.new _ [6,10,15] dE dE) (by rfl) (by rfl) (by rfl) oM oM (by rfl)).mono ?_;rintro e wc ⟨v1,rfl,hm,hb1⟩;have hB:=nxa hB hb1;obtain⟨wco,wcn,wck,rfl⟩:=hm.agg;have hb1:=nxd hb1;have HM:=xgv (HM.out.below hb1);have HL:=xgv (HL.out.below hb1);have b1:=b1.below hb1;have b2:=b2.below hb1;have HA:=xgv (HA.out.below hb1);have b2x:=b2x.below hb1;have HB:=xgv (HB.out.below hb1);have b3x:=b3x.below hb1;have HC:=xgv hm;clear hm;go_wp2_with fail
 refine(jQ _ [1] _ (zBu.new _ [1] dE dE) dE).mono ?_;rintro e wd ⟨v1,rfl,hv,hb1⟩;have hB:=nxa hB hb1;have hb1:=nxd hb1;have HM:=xgv (HM.out.below hb1);have HL:=xgv (HL.out.below hb1);have b1:=b1.below hb1;have b2:=b2.below hb1;have HA:=xgv (HA.out.below hb1);have b2x:=b2x.below hb1;have HB:=xgv (HB.out.below hb1);have b3x:=b3x.below hb1;have HC:=xgv (HC.out.below hb1);have HV:=xgv hv;clear hv;go_wp2_with fail
 refine(zNw _ _ wd HC.out HV.out).mono ?_;rintro e we ⟨_,rfl,hs,hb1⟩;obtain⟨co,cn,ck,co',cn',ck',rfl,-⟩:=zFb hs;have hB:=nx hB hb1;have HM:=xgv (HM.out.below hb1);have HL:=xgv (HL.out.below hb1);have b1:=b1.below hb1;have b2:=b2.below hb1;have HA:=xgv (HA.out.below hb1);have b2x:=b2x.below hb1;have HB:=xgv (HB.out.below hb1);have b3x:=b3x.below hb1;clear hs HV HC;go_upto_region 5 with(fail)
 refine zB ?_;intro W4 hW4;obtain⟨hB4,b4x,hsW4⟩:=zK hW4;have hB:=nx hB hB4;have HM:=xgv (HM.out.below hB4);have HL:=xgv (HL.out.below hB4);have b1:=b1.below hB4;have b2:=b2.below hB4;have HA:=xgv (HA.out.below hB4);have b2x:=b2x.below hB4;have HB:=xgv (HB.out.below hB4);have b3x:=b3x.below hB4;clear hW4;have hP5:=zCh false 1 2 (ent [[1,1]]) (lf [1,2]);have hG5:=zCg false 1 2 (ent [[1,1]]) (lf [1,2]);have hN5:=zBV 39 W4.heap.size #[.bool false,.slice none 0 0,.slice none 0 0];obtain⟨c1,c2,c3,-,-,-⟩:=b2.three;have ltb:=b2.lt;refine zC 9 rfl (RAS ([]) 99 W4 _ [⟨0,45,fun _ v=>v= .agg #[.int .i64 (1:Nat),.int .i64 (2:Nat),.slice wbo wbn wbk]⟩,⟨1,46,fun w v=>zBu w v [1,2]⟩,⟨2,47,fun w v=>qT w v [1,2]⟩,⟨3,48,zLu false 1 2 (ent [[1,1]]) (lf [1,2])⟩,⟨4,44,zLu false 1 2 (ent [[1,1]]) (lf [1,2])⟩,⟨5,49,zFg false 1 2 (ent [[1,1]]) (lf [1,2])⟩,⟨6,50,fun _ v=>v= .int .i64 0⟩,⟨7,9,zNi 39 W4.heap.size #[.bool false,.slice none 0 0,.slice none 0 0]⟩] 8 (put3 9 49)) kR (RAS.start (RA.start kR (by repeat' (first|exact yJ _|exact jD _|exact yR _ _ _|exact qW _|assumption|refine xgm.2 ⟨?_,?_⟩|exact xgn _)))) ?fin3 ?steps3
 case steps3=>
  refine⟨?_,?_,?_,?_,?_,?_,?_,?_,?_,trivial⟩
  ·refine zF.liftA kR dE ?_
   intro L T wS hL hd hcl hI K hK;try refine zA rfl ?_
   have zt:T[2]?=some (.pointer (some ⟨wb.heap.size+1,0,none⟩)):=hI.keep 2 sI;have cc0:=hI.cell (sI) oM c1;have cc1:=hI.cell (sI) oM c2;have cc2:=hI.cell (sI) oM c3;go_simp;exact hK _ _ (hI.y mm0 rfl)
  ·refine zF.liftA kR dE ?_
   intro L T wS hL hd hcl hI K hK;try refine zA rfl ?_
   go_simp;exact hK _ _ ((hI.world ((Below.refl _ _).alloc (xgf _) _)).y mm1 (zBu.new _ [1,2] dE dE))
  ·refine zF.liftA kR dE ?_
   intro L T wS hL hd hcl hI K hK;try refine zA rfl ?_
   obtain⟨z1,zt1,hz1⟩:=hI.v mm1 (hd 1);go_simp;refine(jQ _ [1,2] _ hz1 dE).mono ?_;rintro e wa ⟨v,rfl,hv,hba⟩;exact hK _ _ ((hI.world hba).y mm2 hv)
  ·refine zF.liftA kR dE ?_
   intro L T wS hL hd hcl hI K hK;try refine zA rfl ?_
   obtain⟨_,zt0,rfl⟩:=hI.v mm0 (hd 0);obtain⟨z2,zt2,hz2⟩:=hI.v mm2 (hd 2);have hbS:=zBG hI.onl;go_simp;refine(zFr false [1,2] _ _ 1 2 [[1,1]] _ (HL.out.below hbS) ⟨rfl,by simp⟩ hz2 rfl dE dE (zDV dE ⟨rfl,by simp⟩) dE zPI).mono ?_;rintro e wa ⟨v,rfl,hv,hba⟩;exact hK _ _ ((hI.world hba).y mm3 hv)
  ·refine zF.liftA kR dE ?_
   intro L T wS hL hd hcl hI K hK;try refine zA rfl ?_
   obtain⟨z3,zt3,hz3⟩:=hI.v mm3 (hd 3);go_simp;exact hK _ _ (hI.y mm4 hz3)
  ·refine zF.liftA kR dE ?_
   intro L T wS hL hd hcl hI K hK;try refine zA rfl ?_
   obtain⟨z4,zt4,hz4⟩:=hI.v mm4 (hd 4);obtain⟨u,rfl,hu⟩:=hz4;go_simp;exact hK _ _ (hI.y mm5 hu)
  ·intro L T wS hL hd hcl hI K hK
   try refine zA rfl ?_
   obtain⟨w0,hJ,-,-⟩:=id hI;obtain⟨z4,zt4,hz4⟩:=hJ.val _ mm4 (hd 4);obtain⟨u,rfl,hu⟩:=hz4;go_simp;exact hK _ _ (hI.pure ⟨6,50,_⟩ mm6 rfl (fun _=>rfl) dE (fun _=>zD8 dE dE))
  ·refine zF.liftA kR dE ?_
   intro L T wS hL hd hcl hI K hK;try refine zA rfl ?_
   go_simp;exact hK _ _ ((hI.world ((Below.refl _ _).alloc (xgf _) _)).y mm7 ⟨_,rfl,hI.onl.bel.size,Blk.new _ _ _⟩)
  ·intro L T wS hL hd hcl hI K hK
   try refine zA rfl ?_
   replace hI:=hI.here hL;obtain⟨z11,zt11,hz11⟩:=hI.v mm5 (hd 5);obtain⟨z13,zt13,hz13⟩:=hI.v mm7 (hd 7);obtain⟨vo,vn,vc,uo,un,uc,rfl,-⟩:=hz11;obtain⟨b7,rfl,-,T7⟩:=hz13;obtain⟨f1,f2,f3,f4,f5,f6⟩:=T7.three;go_simp;exact hK _ _ (RAS.store hI hL (by repeat' (first|exact xgn _|refine xgm.2 ⟨by dsimp only;decide,?_⟩)) dE (zB3 zt13 zt11).symm)
 intro T x5f hJ;obtain⟨x5,hI,-,hstx5⟩:=hJ;replace hstx5:=hstx5 kR;obtain⟨va0,q0,rfl⟩:=hI.v mm0 rfl;obtain⟨va1,q1,ha1⟩:=hI.v mm1 rfl;obtain⟨va2,q2,ha2⟩:=hI.v mm2 rfl;obtain⟨va3,q3,ha3⟩:=hI.v mm3 rfl;obtain⟨va4,q4,ha4⟩:=hI.v mm4 rfl;obtain⟨va5,q5,ha5⟩:=hI.v mm5 rfl;obtain⟨va6,q6,rfl⟩:=hI.v mm6 rfl;obtain⟨va7,q7,ha7⟩:=hI.v mm7 rfl;have hT:=zAH [(45,.agg #[.int .i64 (1:Nat),.int .i64 (2:Nat),.slice wbo wbn wbk]),(46,va1),(47,va2),(48,va3),(44,va4),(49,va5),(50,.int .i64 0),(9,va7)]
  (fun j hj=>hI.keep j (by simp only[xgm]at hj ⊢;simp[hj]))
  (by simp only[xgm];simp[q0,q1,q2,q3,q4,q5,q6,q7]) hI.size
 have hox5:=hI.onl;clear hI;simp only[List.foldl_cons,List.foldl_nil,xgh,xgi,xgj,ptr]at hT;subst hT;clear q0 q1 q2 q3 q4 q5 q6 q7;simp only[xgl,xgk];have hbw5:=zBG hox5;replace ha5:zFg false 1 2 (ent [[1,1]]) (lf [1,2]) x5 va5:=ha5;obtain⟨o5,n5,k5,o5',n5',k5',rfl,hs5⟩:=id ha5;obtain⟨g5,rfl,hg5,T5⟩:=ha7;have q5:=hbw5.size;have hw5:=hstx5.trans (zB3 rfl rfl);have b5x:Blk x5f g5 39 #[.bool false,.slice o5 n5 k5,.slice o5' n5' k5']:=by rw[hw5];exact T5.put3 _ _ _
 have hbf5:Below W4.heap.size W4 x5f:=by
  rw[hw5];exact zT (zT (zT hbw5 oM 0 _) oM 1 _) oM 2 _
 have hs5:zGH 1 2 (ent [[1,1]]) (lf [1,2]) x5f (.agg #[.bool false,.slice o5 n5 k5,.slice o5' n5' k5']):=by
  rw[hw5];exact hs5.off3 T5 dE dE dE _ _ _
 have HD:=xgv (show zFg false 1 2 (ent [[1,1]]) (lf [1,2]) x5f (.agg #[.bool false,.slice o5 n5 k5,.slice o5' n5' k5']) from⟨_,_,_,_,_,_,rfl,hs5⟩);have hB:=nx hB hbf5;have HM:=xgv (HM.out.below hbf5);have HL:=xgv (HL.out.below hbf5);have b1:=b1.below hbf5;have b2:=b2.below hbf5;have HA:=xgv (HA.out.below hbf5);have b2x:=b2x.below hbf5;have HB:=xgv (HB.out.below hbf5);have b3x:=b3x.below hbf5;have b4x:=b4x.below hbf5;clear c1 c2 c3 ha5 T5 hw5 hstx5 hox5 hbw5 hs5 hP5 hG5 hN5;go_upto_region 6 with(fail)
 obtain⟨c1,c2,c3,-,-,-⟩:=b2.three;have ltb:=b2.lt;have hl1:=zAw [1];have hv1:=qW [1];have hN6:=zBV 39 x5f.heap.size #[.bool false,.slice none 0 0,.slice none 0 0];refine zC 9 rfl (RAS ([]) 99 x5f _ [⟨0,52,fun _ v=>v= .agg #[.int .i64 (1:Nat),.int .i64 (2:Nat),.slice wbo wbn wbk]⟩,⟨1,53,fun w v=>zBu w v [1]⟩,⟨2,54,fun w v=>qT w v [1]⟩,⟨3,55,fun _ v=>v= .tuple #[.agg #[.bool false,.slice none 0 0,.slice none 0 0],.int .i64 50]⟩,⟨4,51,fun _ v=>v= .tuple #[.agg #[.bool false,.slice none 0 0,.slice none 0 0],.int .i64 50]⟩,⟨5,56,fun _ v=>v= .agg #[.bool false,.slice none 0 0,.slice none 0 0]⟩,⟨6,57,fun _ v=>v= .int .i64 50⟩,⟨7,11,zNi 39 x5f.heap.size #[.bool false,.slice none 0 0,.slice none 0 0]⟩] 8 (put3 11 56)) kR (RAS.start (RA.start kR (by repeat' (first|exact yJ _|exact jD _|exact yR _ _ _|exact qW _|assumption|refine xgm.2 ⟨?_,?_⟩|exact xgn _)))) ?fin4 ?steps4
 case steps4=>
  refine⟨?_,?_,?_,?_,?_,?_,?_,?_,?_,trivial⟩
  ·refine zF.liftA kR dE ?_
   intro L T wS hL hd hcl hI K hK;try refine zA rfl ?_
   have zt:T[2]?=some (.pointer (some ⟨wb.heap.size+1,0,none⟩)):=hI.keep 2 sI;have cc0:=hI.cell (sI) oM c1;have cc1:=hI.cell (sI) oM c2;have cc2:=hI.cell (sI) oM c3;go_simp;exact hK _ _ (hI.y mm0 rfl)
  ·refine zF.liftA kR dE ?_
   intro L T wS hL hd hcl hI K hK;try refine zA rfl ?_
   go_simp;exact hK _ _ ((hI.world ((Below.refl _ _).alloc (xgf _) _)).y mm1 (zBu.new _ [1] dE dE))
  ·refine zF.liftA kR dE ?_
   intro L T wS hL hd hcl hI K hK;try refine zA rfl ?_
   obtain⟨z1,zt1,hz1⟩:=hI.v mm1 (hd 1);go_simp;refine(jQ _ [1] _ hz1 dE).mono ?_;rintro e wa ⟨v,rfl,hv,hba⟩;exact hK _ _ ((hI.world hba).y mm2 hv)
  ·refine zF.liftA kR dE ?_
   intro L T wS hL hd hcl hI K hK;try refine zA rfl ?_
   obtain⟨_,zt0,rfl⟩:=hI.v mm0 (hd 0);obtain⟨z2,zt2,hz2⟩:=hI.v mm2 (hd 2);have hbS:=zBG hI.onl;go_simp;refine(zFI _ _ 1 2 [[1,1]] [1] _ (HL.out.below hbS) ⟨rfl,by simp⟩ hz2 dE).mono ?_;rintro e wa ⟨rfl,hba⟩;exact hK _ _ ((hI.world hba).y mm3 rfl)
  ·refine zF.liftA kR dE ?_
   intro L T wS hL hd hcl hI K hK;try refine zA rfl ?_
   obtain⟨_,zt3,rfl⟩:=hI.v mm3 (hd 3);go_simp;exact hK _ _ (hI.y mm4 rfl)
  ·refine zF.liftA kR dE ?_
   intro L T wS hL hd hcl hI K hK;try refine zA rfl ?_
   obtain⟨_,zt4,rfl⟩:=hI.v mm4 (hd 4);go_simp;exact hK _ _ (hI.y mm5 rfl)
  ·intro L T wS hL hd hcl hI K hK
   try refine zA rfl ?_
   obtain⟨w0,hJ,-,-⟩:=id hI;obtain⟨_,zt4,rfl⟩:=hJ.val _ mm4 (hd 4);go_simp;exact hK _ _ (hI.pure ⟨6,57,_⟩ mm6 rfl (fun _=>rfl) dE (fun _=>zD8 dE dE))
  ·refine zF.liftA kR dE ?_
   intro L T wS hL hd hcl hI K hK;try refine zA rfl ?_
   go_simp;exact hK _ _ ((hI.world ((Below.refl _ _).alloc (xgf _) _)).y mm7 ⟨_,rfl,hI.onl.bel.size,Blk.new _ _ _⟩)
  ·intro L T wS hL hd hcl hI K hK
   try refine zA rfl ?_
   replace hI:=hI.here hL;obtain⟨_,zt11,rfl⟩:=hI.v mm5 (hd 5);obtain⟨z13,zt13,hz13⟩:=hI.v mm7 (hd 7);obtain⟨b7,rfl,-,T7⟩:=hz13;obtain⟨f1,f2,f3,f4,f5,f6⟩:=T7.three;go_simp;exact hK _ _ (RAS.store hI hL (by repeat' (first|exact xgn _|refine xgm.2 ⟨by dsimp only;decide,?_⟩)) dE (zB3 zt13 zt11).symm)
 intro T x6f hJ;obtain⟨x6,hI,-,hstx6⟩:=hJ;replace hstx6:=hstx6 kR;obtain⟨va0,q0,rfl⟩:=hI.v mm0 rfl;obtain⟨va1,q1,ha1⟩:=hI.v mm1 rfl;obtain⟨va2,q2,ha2⟩:=hI.v mm2 rfl;obtain⟨va3,q3,rfl⟩:=hI.v mm3 rfl;obtain⟨va4,q4,rfl⟩:=hI.v mm4 rfl;obtain⟨va5,q5,rfl⟩:=hI.v mm5 rfl;obtain⟨va6,q6,rfl⟩:=hI.v mm6 rfl;obtain⟨va7,q7,ha7⟩:=hI.v mm7 rfl;have hT:=zAH [(52,.agg #[.int .i64 (1:Nat),.int .i64 (2:Nat),.slice wbo wbn wbk]),(53,va1),(54,va2),(55,.tuple #[.agg #[.bool false,.slice none 0 0,.slice none 0 0],.int .i64 50]),(51,.tuple #[.agg #[.bool false,.slice none 0 0,.slice none 0 0],.int .i64 50]),(56,.agg #[.bool false,.slice none 0 0,.slice none 0 0]),(57,.int .i64 50),(11,va7)]
  (fun j hj=>hI.keep j (by simp only[xgm]at hj ⊢;simp[hj]))
  (by simp only[xgm];simp[q0,q1,q2,q3,q4,q5,q6,q7]) hI.size
 have hox6:=hI.onl;clear hI;simp only[List.foldl_cons,List.foldl_nil,xgh,xgi,xgj,ptr]at hT;subst hT;clear q0 q1 q2 q3 q4 q5 q6 q7;simp only[xgl,xgk];have hbw6:=zBG hox6;obtain⟨g6,rfl,hg6,T6⟩:=ha7;have q6:=hbw6.size;have hw6:=hstx6.trans (zB3 rfl rfl);have hbf6:Below x5f.heap.size x5f x6f:=by
  rw[hw6];exact zT (zT (zT hbw6 oM 0 _) oM 1 _) oM 2 _
 have hB:=nx hB hbf6;have HM:=xgv (HM.out.below hbf6);have HL:=xgv (HL.out.below hbf6);have b1:=b1.below hbf6;have b2:=b2.below hbf6;have HA:=xgv (HA.out.below hbf6);have b2x:=b2x.below hbf6;have HB:=xgv (HB.out.below hbf6);have b3x:=b3x.below hbf6;have b4x:=b4x.below hbf6;have HD:=xgv (HD.out.below hbf6);have b5x:=b5x.below hbf6;clear c1 c2 c3 T6 hw6 hstx6 hox6 hbw6 hN6;go_wp2_with fail
 refine(zQv 0 0 _ _ _ (by rfl) (by rfl) dE dE).mono ?_;rintro e wf ⟨v1,rfl,hm,hb1⟩;have hB:=nx hB hb1;have HM:=xgv (HM.out.below hb1);have HL:=xgv (HL.out.below hb1);have b1:=b1.below hb1;have b2:=b2.below hb1;have HA:=xgv (HA.out.below hb1);have b2x:=b2x.below hb1;have HB:=xgv (HB.out.below hb1);have b3x:=b3x.below hb1;have b4x:=b4x.below hb1;have HD:=xgv (HD.out.below hb1);have b5x:=b5x.below hb1;obtain⟨wfo,wfn,wfk,rfl⟩:=hm.agg;go_wp2_with fail
 refine(zFr true [] _ _ 0 0 _ wf hm ⟨rfl,by simp[zAN]⟩ (qT.nil wf) rfl dE dE (fun a ha=>by omega) dE zPJ).mono ?_;rintro e wg ⟨_,rfl,hs,hb1⟩;obtain⟨ko,kn,kk,ko',kn',kk',rfl,-⟩:=zFb hs;have hB:=nx hB hb1;have HM:=xgv (HM.out.below hb1);have HL:=xgv (HL.out.below hb1);have b1:=b1.below hb1;have b2:=b2.below hb1;have HA:=xgv (HA.out.below hb1);have b2x:=b2x.below hb1;have HB:=xgv (HB.out.below hb1);have b3x:=b3x.below hb1;have b4x:=b4x.below hb1;have HD:=xgv (HD.out.below hb1);have b5x:=b5x.below hb1;clear hs hm;go_upto_region 8 with(fail)
 refine zB ?_;intro W7 hW7;obtain⟨hB7,b7x,hsW7⟩:=zK hW7;have hB:=nx hB hB7;have HM:=xgv (HM.out.below hB7);have HL:=xgv (HL.out.below hB7);have b1:=b1.below hB7;have b2:=b2.below hB7;have HA:=xgv (HA.out.below hB7);have b2x:=b2x.below hB7;have HB:=xgv (HB.out.below hB7);have b3x:=b3x.below hB7;have b4x:=b4x.below hB7;have HD:=xgv (HD.out.below hB7);have b5x:=b5x.below hB7;clear hW7;go_wp2_with fail
 refine(zJU 1 2 W7 dE dE dE).mono ?_;rintro e wh ⟨r1,rfl,hr1,hb1⟩;have hB:=nx hB hb1;have HM:=xgv (HM.out.below hb1);have HL:=xgv (HL.out.below hb1);have b1:=b1.below hb1;have b2:=b2.below hb1;have HA:=xgv (HA.out.below hb1);have b2x:=b2x.below hb1;have HB:=xgv (HB.out.below hb1);have b3x:=b3x.below hb1;have b4x:=b4x.below hb1;have HD:=xgv (HD.out.below hb1);have b5x:=b5x.below hb1;have b7x:=b7x.below hb1;obtain⟨p1,p2,p3,p4,p5,p6,p7,p8,rfl,-,-⟩:=id hr1;have HR1:=xgv hr1;clear hr1;go_wp2_with fail
 refine(zB5 0 wh dE dE).mono ?_;rintro e wi ⟨r2,rfl,hr2,hb1⟩;have hB:=nx hB hb1;have HR1:=xgv (HR1.out.below hb1);have HM:=xgv (HM.out.below hb1);have HL:=xgv (HL.out.below hb1);have b1:=b1.below hb1;have b2:=b2.below hb1;have HA:=xgv (HA.out.below hb1);have b2x:=b2x.below hb1;have HB:=xgv (HB.out.below hb1);have b3x:=b3x.below hb1;have b4x:=b4x.below hb1;have HD:=xgv (HD.out.below hb1);have b5x:=b5x.below hb1;have b7x:=b7x.below hb1;obtain⟨u1,u2,u3,u4,u5,u6,u7,u8,rfl,-,-⟩:=id hr2;have HR2:=xgv hr2;clear hr2;go_upto_region 9 with(fail)
 refine zB ?_;intro W8 hW8;obtain⟨hB8,bq,b8x,hsW8⟩:=qI hW8;have hB:=nx hB hB8;have hpp:=zOY bq (HR1.out.below hB8) (HR2.out.below hB8);rw[zMI]at hpp;have HPP:=xgv hpp;have HM:=xgv (HM.out.below hB8);have HL:=xgv (HL.out.below hB8);have b1:=b1.below hB8;have b2:=b2.below hB8;have HA:=xgv (HA.out.below hB8);have b2x:=b2x.below hB8;have HB:=xgv (HB.out.below hB8);have b3x:=b3x.below hB8;have b4x:=b4x.below hB8;have HD:=xgv (HD.out.below hB8);have b5x:=b5x.below hB8;have b7x:=b7x.below hB8;clear hW8 hpp HR1 HR2 bq;go_upto_region 10 with(fail)
 obtain⟨d1,d2,d3,-,-,-⟩:=b2x.three;obtain⟨e1,e2,e3,-,-,-⟩:=b3x.three;obtain⟨f1,f2,f3,-,-,-⟩:=b4x.three;obtain⟨ma,mb,mc,-,-,-⟩:=b5x.three;obtain⟨ia,ib,ic,-,-,-⟩:=b7x.three;have hl21:=zAw [2,1];have hv21:=qW [2,1];refine zE rfl (RV W8 _ [VP 0 89 g2 0,E 1 90 (.bool true),E 2 91 (.bool true),VP 3 92 g2 1,E 4 93 (.slice o2 n2 k2),⟨5,94,fun w v=>zBu w v [2,1]⟩,⟨6,95,fun w v=>qT w v [2,1]⟩,E 7 96 (.bool true),E 8 97 (.bool true),E 9 98 (.bool true),VP 10 99 g3 0,E 11 100 (.bool false),E 12 101 (.bool true),E 13 102 (.bool true),E 14 103 (.bool true),VP 15 104 we.heap.size 0,E 16 105 (.bool true),E 17 106 (.bool true),E 18 107 (.bool true),VP 19 108 g5 0,E 20 109 (.bool false),E 21 110 (.bool true),E 22 111 (.bool true),E 23 112 (.bool true),VP 24 113 wg.heap.size 0,E 25 114 (.bool true),E 26 115 (.bool true),E 27 17 (.bool true)]) kR RV.start (RV.fin kR ?fin5) ?steps5
 case steps5=>
  refine⟨?_,?_,?_,?_,?_,?_,?_,?_,?_,?_,?_,?_,?_,?_,?_,?_,?_,?_,?_,?_,?_,?_,?_,?_,?_,?_,?_,?_,trivial⟩<;>(intro L T wS hL hd hcl hI K hK;try refine zA rfl ?_)
  ·exact xgs (hI.k 3 rfl kR)
  ·have zt0:=hI.e mm0 (hd 0)
   have cc0:=hI.cell d1;exact xgu
  ·exact xgs (hI.e mm1 (hd 1))
  ·have zg:=hI.e mm2 (hd 2)
   refine zA xgp ?_;exact xgs (hI.k 3 rfl kR)
  ·have zg:=hI.e mm2 (hd 2)
   refine zA xgp ?_;have zt3:=hI.e mm3 (hd 3);have cc0:=hI.cell d2;exact xgu
  ·have zg:=hI.e mm2 (hd 2)
   refine zA xgp ?_;go_simp;exact hK _ _ ((hI.world ((Below.refl _ _).alloc (xgf _) _)).y mm5 (zBu.new _ [2,1] dE dE))
  ·have zg:=hI.e mm2 (hd 2)
   refine zA xgp ?_;obtain⟨v5,zt5,h5⟩:=hI.v mm5 (hd 5);go_simp;refine(jQ _ [2,1] _ h5 dE).mono ?_;rintro e wa ⟨v,rfl,hv,hba⟩;exact hK _ _ ((hI.world hba).y mm6 hv)
  ·have zg:=hI.e mm2 (hd 2)
   refine zA xgp ?_;have zt4:=hI.e mm4 (hd 4);obtain⟨v6,zt6,h6⟩:=hI.v mm6 (hd 6);go_simp;refine(zM5 _ _ [2,1] _ (HA.out.vec.below hI.bel) h6).mono ?_;rintro e wa ⟨v,rfl,hv,hba⟩;exact hK _ _ ((hI.world hba).y mm7 hv)
  ·exact xgt (hI.e mm2 (hd 2)) (hI.e mm7 (hd 7))
  ·exact xgs (hI.e mm8 (hd 8))
  ·have zg:=hI.e mm9 (hd 9)
   refine zA xgp ?_;exact xgs (hI.k 5 rfl kR)
  ·have zg:=hI.e mm9 (hd 9)
   refine zA xgp ?_;have zt10:=hI.e zAC (hd 10);have cc0:=hI.cell e1;exact xgu
  ·have zg:=hI.e mm9 (hd 9)
   refine zA xgp ?_;exact xgs (hI.e zAJ (hd 11))
  ·exact xgt (hI.e mm9 (hd 9)) (hI.e zAo (hd 12))
  ·exact xgs (hI.e zCF (hd 13))
  ·have zg:=hI.e zBp (hd 14)
   refine zA xgp ?_;exact xgs (hI.k 7 rfl kR)
  ·have zg:=hI.e zBp (hd 14)
   refine zA xgp ?_;have zt15:=hI.e zCS (hd 15);have cc0:=hI.cell f1;exact xgu
  ·exact xgt (hI.e zBp (hd 14)) (hI.e zDs (hd 16))
  ·exact xgs (hI.e zEs (hd 17))
  ·have zg:=hI.e zCT (hd 18)
   refine zA xgp ?_;exact xgs (hI.k 9 rfl kR)
  ·have zg:=hI.e zCT (hd 18)
   refine zA xgp ?_;have zt19:=hI.e zEt (hd 19);have cc0:=hI.cell ma;exact xgu
  ·have zg:=hI.e zCT (hd 18)
   refine zA xgp ?_;exact xgs (hI.e zEZ (hd 20))
  ·exact xgt (hI.e zCT (hd 18)) (hI.e zEa (hd 21))
  ·exact xgs (hI.e zFT (hd 22))
  ·have zg:=hI.e zFU (hd 23)
   refine zA xgp ?_;exact xgs (hI.k 13 rfl kR)
  ·have zg:=hI.e zFU (hd 23)
   refine zA xgp ?_;have zt24:=hI.e zHM (hd 24);have cc0:=hI.cell ia;exact xgu
  ·exact xgt (hI.e zFU (hd 23)) (hI.e zEu (hd 25))
  ·exact xgs (hI.e zIX (hd 26))
 intro wy hbwy T hT;simp only[Fin,E,EI,VP,VSl,VN,xgg,xgh,xgi,xgj]at hT;obtain⟨vy5,hy5,vy6,hy6,rfl⟩:=hT;have hB:=nx hB hbwy;have HM:=xgv (HM.out.below hbwy);have HL:=xgv (HL.out.below hbwy);have b1:=b1.below hbwy;have b2:=b2.below hbwy;have HA:=xgv (HA.out.below hbwy);have b2x:=b2x.below hbwy;have HB:=xgv (HB.out.below hbwy);have b3x:=b3x.below hbwy;have b4x:=b4x.below hbwy;have HD:=xgv (HD.out.below hbwy);have b5x:=b5x.below hbwy;have b7x:=b7x.below hbwy;have HPP:=xgv (HPP.out.below hbwy);have b8x:=b8x.below hbwy;clear d1 d2 d3 e1 e2 e3 f1 f2 f3 ma mb mc ia ib ic;go_upto_region 11 with(fail)
 obtain⟨c1,c2,c3,-,-,-⟩:=b1.three;obtain⟨d1,d2,d3,-,-,-⟩:=b2.three;obtain⟨e1,e2,e3,-,-,-⟩:=b3x.three;obtain⟨ma,mb,mc,-,-,-⟩:=b5x.three;obtain⟨j1,j2,j3,-,-,-⟩:=b8x.three;have hl20:=zAw [2,0];have hv20:=qW [2,0];refine zE rfl (RV wy _ [E 0 116 (.bool true),E 1 117 (.bool true),E 2 118 (.bool true),E 3 119 (.bool true),E 4 120 (.bool true),E 5 121 (.agg #[.int .i64 (2:Nat),.int .i64 (2:Nat),.slice wao wan wak]),⟨6,122,fun w v=>zBu w v [1,0]⟩,⟨7,123,fun w v=>qT w v [1,0]⟩,E 8 124 (.agg #[.bool false,.slice o3 n3 k3,.slice o3' n3' k3']),E 9 125 (.bool true),E 10 126 (.bool true),E 11 127 (.bool true),E 12 128 (.agg #[.int .i64 (1:Nat),.int .i64 (2:Nat),.slice wbo wbn wbk]),⟨13,129,fun w v=>zBu w v [1,2]⟩,⟨14,130,fun w v=>qT w v [1,2]⟩,E 15 131 (.agg #[.bool false,.slice o5 n5 k5,.slice o5' n5' k5']),E 16 132 (.bool true),E 17 133 (.bool true),E 18 134 (.bool true),E 19 135 (.agg #[.int .i64 (2:Nat),.int .i64 (2:Nat),.slice wao wan wak]),⟨20,136,fun w v=>zBu w v [1,0]⟩,⟨21,137,fun w v=>qT w v [1,0]⟩,E 22 138 (.agg #[.bool false,.slice none 0 0,.slice (some ⟨wi.heap.size,0,none⟩) 2 2]),E 23 139 (.bool true),E 24 140 (.bool true),E 25 141 (.bool true),E 26 142 (.agg #[.int .i64 (2:Nat),.int .i64 (2:Nat),.slice wao wan wak]),⟨27,143,fun w v=>zBu w v [2,0]⟩,⟨28,144,fun w v=>qT w v [2,0]⟩,E 29 145 (.agg #[.bool false,.slice none 0 0,.slice (some ⟨wi.heap.size,0,none⟩) 2 2]),E 30 146 (.bool false),E 31 147 (.bool true),E 32 148 (.bool true),E 33 149 (.bool true),E 34 150 (.agg #[.int .i64 (2:Nat),.int .i64 (2:Nat),.slice wao wan wak]),⟨35,151,fun w v=>zBu w v [4,3]⟩,⟨36,152,fun w v=>qT w v [4,3]⟩,E 37 153 (.agg #[.bool false,.slice none 0 0,.slice none 0 0]),E 38 154 (.bool false),E 39 155 (.bool true),E 40 156 (.bool true),E 41 0 (.bool true)]) kR RV.start (RV.fin kR ?fin6) ?steps6
 case steps6=>
  refine⟨?_,?_,?_,?_,?_,?_,?_,?_,?_,?_,?_,?_,?_,?_,?_,?_,?_,?_,?_,?_,?_,?_,?_,?_,?_,?_,?_,?_,?_,?_,?_,?_,?_,?_,?_,?_,?_,?_,?_,?_,?_,?_,trivial⟩<;>(intro L T wS hL hd hcl hI K hK;try refine zA rfl ?_)
  ·exact xgs (hI.k 16 rfl kR)
  ·exact xgs (hI.e mm0 (hd 0))
  ·have zg:=hI.e mm1 (hd 1)
   refine zA xgp ?_;exact xgs (hI.k 17 rfl kR)
  ·exact xgt (hI.e mm1 (hd 1)) (hI.e mm2 (hd 2))
  ·exact xgs (hI.e mm3 (hd 3))
  ·have zg:=hI.e mm4 (hd 4)
   refine zA xgp ?_;have zt:=hI.k 1 rfl kR;have cc0:=hI.cell c1;have cc1:=hI.cell c2;have cc2:=hI.cell c3;exact xgu
  ·have zg:=hI.e mm4 (hd 4)
   refine zA xgp ?_;go_simp;exact hK _ _ ((hI.world ((Below.refl _ _).alloc (xgf _) _)).y mm6 (zBu.new _ [1,0] dE dE))
  ·have zg:=hI.e mm4 (hd 4)
   refine zA xgp ?_;obtain⟨v6,zt6,h6⟩:=hI.v mm6 (hd 6);go_simp;refine(jQ _ [1,0] _ h6 dE).mono ?_;rintro e wa ⟨v,rfl,hv,hba⟩;exact hK _ _ ((hI.world hba).y mm7 hv)
  ·have zg:=hI.e mm4 (hd 4)
   refine zA xgp ?_;have zt:=hI.k 5 rfl kR;have cc0:=hI.cell e1;have cc1:=hI.cell e2;have cc2:=hI.cell e3;exact xgu
  ·have zg:=hI.e mm4 (hd 4)
   refine zA xgp ?_;have zt5:=hI.e mm5 (hd 5);obtain⟨v7,zt7,h7⟩:=hI.v mm7 (hd 7);have zt8:=hI.e mm8 (hd 8);go_simp;refine(zQR 2 2 [[2,0],[0,3]] [1,0] _ _ _ _ (HB.out.below hI.bel) (HM.out.below hI.bel) ⟨rfl,by simp⟩ h7 rfl dE dE (zDV dE ⟨rfl,by simp⟩) dE).mono ?_;rintro e wa ⟨v,rfl,hv,hba⟩;exact hK _ _ ((hI.world hba).y mm9 hv)
  ·exact xgt (hI.e mm4 (hd 4)) (hI.e mm9 (hd 9))
  ·exact xgs (hI.e zAC (hd 10))
  ·have zg:=hI.e zAJ (hd 11)
   refine zA xgp ?_;have zt:=hI.k 2 rfl kR;have cc0:=hI.cell d1;have cc1:=hI.cell d2;have cc2:=hI.cell d3;exact xgu
  ·have zg:=hI.e zAJ (hd 11)
   refine zA xgp ?_;go_simp;exact hK _ _ ((hI.world ((Below.refl _ _).alloc (xgf _) _)).y zCF (zBu.new _ [1,2] dE dE))
  ·have zg:=hI.e zAJ (hd 11)
   refine zA xgp ?_;obtain⟨v13,zt13,h13⟩:=hI.v zCF (hd 13);go_simp;refine(jQ _ [1,2] _ h13 dE).mono ?_;rintro e wa ⟨v,rfl,hv,hba⟩;exact hK _ _ ((hI.world hba).y zBp hv)
  ·have zg:=hI.e zAJ (hd 11)
   refine zA xgp ?_;have zt:=hI.k 9 rfl kR;have cc0:=hI.cell ma;have cc1:=hI.cell mb;have cc2:=hI.cell mc;exact xgu
  ·have zg:=hI.e zAJ (hd 11)
   refine zA xgp ?_;have zt12:=hI.e zAo (hd 12);obtain⟨v14,zt14,h14⟩:=hI.v zBp (hd 14);have zt15:=hI.e zCS (hd 15);go_simp;refine(zQR 1 2 [[1,1]] [1,2] _ _ _ _ (HD.out.below hI.bel) (HL.out.below hI.bel) ⟨rfl,by simp⟩ h14 rfl dE dE (zDV dE ⟨rfl,by simp⟩) dE).mono ?_;rintro e wa ⟨v,rfl,hv,hba⟩;exact hK _ _ ((hI.world hba).y zDs hv)
  ·exact xgt (hI.e zAJ (hd 11)) (hI.e zDs (hd 16))
  ·exact xgs (hI.e zEs (hd 17))
  ·have zg:=hI.e zCT (hd 18)
   refine zA xgp ?_;have zt:=hI.k 1 rfl kR;have cc0:=hI.cell c1;have cc1:=hI.cell c2;have cc2:=hI.cell c3;exact xgu
  ·have zg:=hI.e zCT (hd 18)
   refine zA xgp ?_;go_simp;exact hK _ _ ((hI.world ((Below.refl _ _).alloc (xgf _) _)).y zEZ (zBu.new _ [1,0] dE dE))
  ·have zg:=hI.e zCT (hd 18)
   refine zA xgp ?_;obtain⟨v20,zt20,h20⟩:=hI.v zEZ (hd 20);go_simp;refine(jQ _ [1,0] _ h20 dE).mono ?_;rintro e wa ⟨v,rfl,hv,hba⟩;exact hK _ _ ((hI.world hba).y zEa hv)
  ·have zg:=hI.e zCT (hd 18)
   refine zA xgp ?_;have zt:=hI.k 15 rfl kR;have cc0:=hI.cell j1;have cc1:=hI.cell j2;have cc2:=hI.cell j3;exact xgu
  ·have zg:=hI.e zCT (hd 18)
   refine zA xgp ?_;have zt19:=hI.e zEt (hd 19);obtain⟨v21,zt21,h21⟩:=hI.v zEa (hd 21);have zt22:=hI.e zFT (hd 22);go_simp;refine(zHV true [1,0] _ _ _ _ _ (HM.out.below hI.bel) h21 rfl (HPP.out.below hI.bel) dE dE zMJ).mono ?_;rintro e wa ⟨v,rfl,hv,hba⟩;exact hK _ _ ((hI.world hba).y zFU hv)
  ·exact xgt (hI.e zCT (hd 18)) (hI.e zFU (hd 23))
  ·exact xgs (hI.e zHM (hd 24))
  ·have zg:=hI.e zEu (hd 25)
   refine zA xgp ?_;have zt:=hI.k 1 rfl kR;have cc0:=hI.cell c1;have cc1:=hI.cell c2;have cc2:=hI.cell c3;exact xgu
  ·have zg:=hI.e zEu (hd 25)
   refine zA xgp ?_;go_simp;exact hK _ _ ((hI.world ((Below.refl _ _).alloc (xgf _) _)).y zJL (zBu.new _ [2,0] dE dE))
  ·have zg:=hI.e zEu (hd 25)
   refine zA xgp ?_;obtain⟨v27,zt27,h27⟩:=hI.v zJL (hd 27);go_simp;refine(jQ _ [2,0] _ h27 dE).mono ?_;rintro e wa ⟨v,rfl,hv,hba⟩;exact hK _ _ ((hI.world hba).y zJq hv)
  ·have zg:=hI.e zEu (hd 25)
   refine zA xgp ?_;have zt:=hI.k 15 rfl kR;have cc0:=hI.cell j1;have cc1:=hI.cell j2;have cc2:=hI.cell j3;exact xgu
  ·have zg:=hI.e zEu (hd 25)
   refine zA xgp ?_;have zt26:=hI.e zIX (hd 26);obtain⟨v28,zt28,h28⟩:=hI.v zJq (hd 28);have zt29:=hI.e zIY (hd 29);go_simp;refine(zHV false [2,0] _ _ _ _ _ (HM.out.below hI.bel) h28 rfl (HPP.out.below hI.bel) dE dE zN7).mono ?_;rintro e wa ⟨v,rfl,hv,hba⟩;exact hK _ _ ((hI.world hba).y zLv hv)
  ·have zg:=hI.e zEu (hd 25)
   refine zA xgp ?_;exact xgs (hI.e zLv (hd 30))
  ·exact xgt (hI.e zEu (hd 25)) (hI.e zOn (hd 31))
  ·exact xgs (hI.e zOo (hd 32))
  ·have zg:=hI.e zJr (hd 33)
   refine zA xgp ?_;have zt:=hI.k 1 rfl kR;have cc0:=hI.cell c1;have cc1:=hI.cell c2;have cc2:=hI.cell c3;exact xgu
  ·have zg:=hI.e zJr (hd 33)
   refine zA xgp ?_;go_simp;exact hK _ _ ((hI.world ((Below.refl _ _).alloc (xgf _) _)).y zOL (zBu.new _ [4,3] dE dE))
  ·have zg:=hI.e zJr (hd 33)
   refine zA xgp ?_;obtain⟨v35,zt35,h35⟩:=hI.v zOL (hd 35);go_simp;refine(jQ _ [4,3] _ h35 dE).mono ?_;rintro e wa ⟨v,rfl,hv,hba⟩;exact hK _ _ ((hI.world hba).y zOM hv)
  ·have zg:=hI.e zJr (hd 33)
   refine zA xgp ?_;exact xgu
  ·have zg:=hI.e zJr (hd 33)
   refine zA xgp ?_;have zt34:=hI.e zOp (hd 34);obtain⟨v36,zt36,h36⟩:=hI.v zOM (hd 36);have zt37:=hI.e zOq (hd 37);go_simp;refine(zHV false [4,3] [] _ _ _ _ (HM.out.below hI.bel) h36 rfl (zAn.nil _) dE dE zOS).mono ?_;rintro e wa ⟨v,rfl,hv,hba⟩;exact hK _ _ ((hI.world hba).y zON hv)
  ·have zg:=hI.e zJr (hd 33)
   refine zA xgp ?_;exact xgs (hI.e zON (hd 38))
  ·exact xgt (hI.e zJr (hd 33)) (hI.e zOr (hd 39))
  ·have zt40:=hI.e zOs (hd 40)
   go_simp;exact hK _ _ (hI.q zQt)
 intro wz hbwz T hT;simp only[Fin,E,EI,VP,VSl,VN,xgg,xgh,xgi,xgj]at hT;obtain⟨vz6,hz6,vz7,hz7,vz13,hz13,vz14,hz14,vz20,hz20,vz21,hz21,vz27,hz27,vz28,hz28,vz35,hz35,vz36,hz36,rfl⟩:=hT;have hB:=nx hB hbwz;go_wp2;go_ret;exact⟨rfl,hB⟩
def ZsV(w:World)(v:Value)(ys:List Int):Prop:=
 ∃ao n c,v= .slice ao n c/\ys.length=n/\(ys≠ []->∃b off cells,ao=some ⟨b,off,none⟩/\cells.length=n*2/\zBR w cells ys/\∀j u,cells[j]?=some u->w.cell? ⟨b,off+j,none⟩=some u)
theorem qT.zs{w:World}{v:Value}{ys:List Int}(h:qT w v ys):ZsV w v ys:=by
 obtain⟨ao,n,c,rfl,h2,-,-,h5⟩:=h;refine⟨ao,n,c,rfl,h2,fun hne=>?_⟩;obtain⟨b,rfl,cs,e1,e2⟩:=h5 hne;have hlen:n*2<=cs.size:=by
  have h0:0<ys.length:=List.length_pos_iff.2 hne;obtain⟨_,_,_,_,-,q,-⟩:=e2 (ys.length-1) _ (xga oM);have:=(Array.getElem?_eq_some_iff.1 q).1;omega
 refine⟨b,0,cs.toList.take (n*2),rfl,by simp;omega,fun k z hk=>?_,fun j u hj=>?_⟩
 ·obtain⟨s,a,l,c',q1,q2,q3⟩:=e2 k z hk
  have hk':=(xge.1 hk).1;exact⟨s,a,l,c',by rw[List.getElem?_take_of_lt oM];simpa using q1,by rw[List.getElem?_take_of_lt oM];simpa using q2,q3⟩
 ·rw[List.getElem?_take]at hj
  split at hj
  ·rw[Nat.zero_add,cell_of_row w b j cs tI _ e1]
   simpa using hj
  ·cases hj
theorem ZsV.below{w w':World}{v:Value}{ys:List Int}(h:ZsV w v ys)(hb:Below w.heap.size w w'):ZsV w' v ys:=by
 obtain⟨ao,n,c,rfl,h2,h5⟩:=h;refine⟨ao,n,c,rfl,h2,fun hne=>?_⟩;obtain⟨b,off,cells,e1,e2,e3,e4⟩:=h5 hne;refine⟨b,off,cells,e1,e2,fun k z hk=>?_,fun j u hj=>?_⟩
 ·obtain⟨s,a,l,c',q1,q2,q3⟩:=e3 k z hk
  exact⟨s,a,l,c',q1,q2,q3.ext (lx hb)⟩
 ·have:=e4 j u hj
  exact(hb.cell (p:=⟨b,off+j,none⟩) (World.block_lt_of_cell? w _ this)).trans this
theorem zBR.one{w:World}{cells:List Value}{ys:List Int}(h:zBR w cells ys)(hl:cells.length=ys.length*2):∀u∈cells,u.oneCell'=true:=by
 intro u hu;obtain⟨j,hj⟩:=List.getElem?_of_mem hu;have hlt:=(xge.1 hj).1;obtain⟨s,a,l,c,q1,q2,-⟩:=h (j/2) _ (xga oM);rcases Nat.mod_two_eq_zero_or_one j with e|e
 ·rw[show j/2*2=j by omega,hj]at q1
  injection q1 with q1
  subst q1;rfl
 ·rw[show j/2*2+1=j by omega,hj]at q2
  injection q2 with q2
  subst q2;rfl
theorem zBR.append{w:World}{c1 c2:List Value}{zs ys:List Int}(h1:zBR w c1 zs)(h2:zBR w c2 ys)(hl:c1.length=zs.length*2):zBR w (c1++c2) (zs++ys):=by
 intro k z hk;rcases Nat.lt_or_ge k zs.length with hlt|hge
 ·rw[List.getElem?_append_left hlt]at hk
  obtain⟨s,a,l,c,q1,q2,q3⟩:=h1 k z hk;exact⟨s,a,l,c,by rw[List.getElem?_append_left oM];exact q1,by rw[List.getElem?_append_left oM];exact q2,q3⟩
 ·rw[List.getElem?_append_right hge]at hk
  obtain⟨s,a,l,c,q1,q2,q3⟩:=h2 _ z hk;refine⟨s,a,l,c,?_,?_,q3⟩
  ·rw[List.getElem?_append_right oM,hl,show k*2-zs.length*2=(k-zs.length)*2 by omega];exact q1
  ·rw[List.getElem?_append_right oM,hl,show k*2+1-zs.length*2=(k-zs.length)*2+1 by omega];exact q2
theorem zBR.ext{w w':World}{c:List Value}{zs:List Int}(h:zBR w c zs)(x:yO w w'):zBR w' c zs:=fun k z hk=>by
 obtain⟨s,a,l,c,q1,q2,q3⟩:=h k z hk;exact⟨s,a,l,c,q1,q2,q3.ext x⟩
theorem zB6(P:Program)(w:World)(t ty e:TypeId)(i:TypeInfo)(ht:P.underlying t=some (.slice e))(hi:P.info? e=some i)
  (g:Option Addr) (n cap:Nat) (hg:g=none->n=0/\cap=0) (hn:n<=cap) (ao:Option Addr) (c:Nat):
  (Builtin.append_ #[t,t] ty #[.slice g n cap,.slice ao 0 c]).run P w= .ok (.slice g n cap) w:=by
 cases g with
 |none=>
  obtain⟨rfl,rfl⟩:=hg rfl;cases ao<;>simp[Builtin.append_,run_underlying ht,sizeOf,typeInfo,hi,Builtin.lenOf,Builtin.firstCells,loadCells,loadCellsFrom]
 |some g=>
  cases ao<;>simp[Builtin.append_,run_underlying ht,sizeOf,typeInfo,hi,Builtin.lenOf,Builtin.firstCells,loadCells,loadCellsFrom,storeCells,hn]
theorem wpZ{w:World}{o:Oper}{a:Act}{K:Act->World->Prop}{Q:Exit->Act->World->Prop}(t:TypeId)(ht:Tryz.prog.underlying t=some (.slice tI))(s x:Operand)
  (ho:o.op= .call {callee:=.builtin .append,args:=#[s,x],argTypes:=#[t,t]})
  (base:Nat) (v:Value) (zs:List Int) (hs:a.eval s=v) (hown:zEq w base v zs) (xv:Value) (ys:List Int) (hx:a.eval x=xv) (hy:ZsV w xv ys)
  (hlen:zs.length+ys.length<=1099511627776) (hbase:base<=w.heap.size)
  (hK:∀v' w',zEq w' base v' (zs++ys)->w.grownBy w' v.ownBlock->yO w w'->(v'.ownBlock=v.ownBlock∨∃g,v'.ownBlock=some g/\w.heap.size<=g)->K (a.put o.dst v') w'):Oper.wp Tryz.prog o a w K Q:=by
 obtain⟨i0,hi,hz0,hz1,hz2⟩:=info_parts Tryz.infoI;obtain⟨ao,n,c,rfl,hn,hc⟩:=hy;by_cases h0:ys= []
 ·subst h0
  obtain rfl:0=n:=by simpa using hn
  have hr:(Builtin.append_ #[t,t] o.type #[v,.slice ao 0 c]).run Tryz.prog w= .ok v w:=by
   obtain⟨cells,h1,-⟩:=hown;rcases h1.2 with⟨rfl,h0⟩|⟨g,cap,cur,rfl,e2,e3,e4,-⟩
   ·exact zB6 Tryz.prog w t o.type tI i0 ht hi none 0 0 (fun _=>⟨rfl,rfl⟩) (xgf _) ao c
   ·exact zB6 Tryz.prog w t o.type tI i0 ht hi _ _ cap (fun e=>by cases e) e4 ao c
  have h:=hK v w (by rwa[List.append_nil]) ⟨rfl,rfl,rfl,xgf _,fun _ _ _=>rfl⟩ (lx (Below.refl _ _)) (.inl rfl);unfold Oper.wp execOp;simp only[ho,resolve,invoke,builtin,Sem.run_bind,Sem.run_pure,Result.andThen_ok,List.map_toArray,List.map_cons,List.map_nil,hs,hx,hr];exact h
 ·obtain⟨b,off,news,rfl,hnl,hci,hcell⟩:=hc h0
  have hpos:0<ys.length:=List.length_pos_iff.2 h0;obtain⟨cells,h1,h2⟩:=hown;have hcl:cells.length=zs.length*2:=h1.1;have hnews:∀(j:Nat) (u:Value),news[j]?=some u->w.cell? ((⟨b,off,none⟩:Addr).add j)=some u:=fun j u hj=>by
   rw[Addr.add_lit];exact hcell j u hj
  have hone:=hci.one (by rw[hnl,hn]);have h63:zs.length+n<=maxLen:=by simp[maxLen];omega
  obtain⟨v',w',hr,k1,k2,-⟩:=run_append_own (P:=Tryz.prog) w base t o.type tI i0 _ 2 32 ht hi hz0 hz1 hz2 rfl oM v zs.length cells h1 ⟨b,off,none⟩ n c news hnl hnews hone h63 oM hbase;have h3:v'.ownBlock=v.ownBlock∨∃g,v'.ownBlock=some g/\w.heap.size<=g:=by
   rcases h1.2 with⟨rfl,h0⟩|⟨g,cap,cur,rfl,e2,e3,e4,e5,e6,e7⟩
   ·have hr2:=run_append_nil (P:=Tryz.prog) w t o.type tI i0 _ ht hi hz0 ⟨b,off,none⟩ n c news (by rw[hz1];exact hnl) hnews oM oM (by rw[hz2];omega)
    rw[hr2]at hr;injection hr with hv _
    exact .inr ⟨_,by rw[<-hv];rfl,xgf _⟩
   ·by_cases hroom:zs.length+n<=cap
    ·have hr2:=run_append_room (P:=Tryz.prog) w t o.type tI i0 ht hi g zs.length cap cur e3 ⟨b,off,none⟩ n c news (by rw[hz1];exact hnl) hnews hone hroom (by rw[hz1,e6,hnl];omega)
     rw[hr2]at hr;injection hr with hv _
     exact .inl (by rw[<-hv];rfl)
    ·have hr2:=run_append_grow (P:=Tryz.prog) w t o.type tI i0 _ ht hi hz0 ⟨g,0,none⟩ zs.length cap cells (by rw[hz1];exact hcl) (h1.cells (g:=g) rfl) ⟨b,off,none⟩ n c news (by rw[hz1];exact hnl) hnews oM oM (growslice_fits oM (by rw[hz2];omega))
     rw[hr2]at hr;injection hr with hv _
     exact .inr ⟨_,by rw[<-hv];rfl,xgf _⟩
  have hxg:=zAM h1 dE k2;have hvo:zEq w' base v' (zs++ys):=⟨cells++news,by rw[List.length_append,hn];exact k1,(show zBR w cells zs from h2).ext hxg|>.append (hci.ext hxg) hcl⟩;have h:=hK v' w' hvo k2 hxg h3;unfold Oper.wp execOp;simp only[ho,resolve,invoke,builtin,Sem.run_bind,Sem.run_pure,Result.andThen_ok,List.map_toArray,List.map_cons,List.map_nil,hs,hx,hr];exact h
theorem zQI{w:World}{ops:Array Oper}{rest:List Oper}{o:Oper}{a:Act}{Q:Exit->Act->World->Prop}(t:TypeId)(ht:Tryz.prog.underlying t=some (.slice tI))(hgd:o.guard=none)(s x:Operand)
  (ho:o.op= .call {callee:=.builtin .append,args:=#[s,x],argTypes:=#[t,t]})
  (base:Nat) (v:Value) (zs:List Int) (hs:a.eval s=v) (hown:zEq w base v zs) (xv:Value) (ys:List Int) (hx:a.eval x=xv) (hy:ZsV w xv ys)
  (hlen:zs.length+ys.length<=1099511627776) (hbase:base<=w.heap.size)
  (h:∀v' w',zEq w' base v' (zs++ys)->w.grownBy w' v.ownBlock->yO w w'->(v'.ownBlock=v.ownBlock∨∃g,v'.ownBlock=some g/\w.heap.size<=g)->wpList Tryz.prog ops Q rest (a.put o.dst v') w'):wpList Tryz.prog ops Q (o::rest) a w:=
 wpList_plain hgd fun _ hK=>wpZ t ht s x ho base v zs hs hown xv ys hx hy hlen hbase fun v' w' h1 h2 h3 h4=>hK _ _ (h v' w' h1 h2 h3 h4)
abbrev tWk:TypeId:=329
def upR(F G:Nat->Nat->Int)(i c:Nat):Nat->Nat->Int:=fun a b=>if a=i/\b<c then G a b else F a b
def upC(F G:Nat->Nat->Int)(j r:Nat):Nat->Nat->Int:=fun a b=>if b=j/\a<r then G a b else F a b
def zRJ(F:Nat->Nat->Int)(i c:Nat)(z:Int):Nat->Nat->Int:=fun a b=>if a=i/\b=c then z else F a b
section
variable {w:World} {A:Value} {g n cap R C:Nat} {bs:List Nat} {F:Nat->Nat->Int}
end
structure K9(w:World)(bw:Nat)(AM AU AV:Value)(R C:Nat)(bm bu bv:List Nat)(S T V:Nat->Nat->Int):Prop where
 blk:Blk w bw tWk #[.int .i64 R,.int .i64 C,AM,.int .i64 R,.int .i64 R,AU,.int .i64 R,.int .i64 R,AV]
 m:Wri w AM R C bm S
 u:Wri w AU R R bu T
 v:Wri w AV R R bv V
 mu:Ap AM bm AU bu
 mv:Ap AM bm AV bv
 uv:Ap AU bu AV bv
section
variable {w w':World} {bw:Nat} {AM AU AV:Value} {R C:Nat} {bm bu bv:List Nat} {S T V:Nat->Nat->Int}
def Z3(AM AU AV:Value)(bm bu bv:List Nat)(b:Nat):Prop:=Zn AM bm b∨Zn AU bu b∨Zn AV bv b
end
def KW(Z:Nat->Prop)(w:World)(bw R C:Nat)(x:Bst):Prop:=∃AM AU AV bm bu bv,K9 w bw AM AU AV R C bm bu bv x.s x.t (fun a b=>x.i b a)/\∀b,Z3 AM AU AV bm bu bv b->Z b
end Go.Proofs.YtnbmaipobhppcaaGreat
