/- torsionlaw14.DiophantChecks: whatever the input, it returns true, and the input reads as it did. No conditions. -/
import Derived.ChangeArms
import Derived.ProofKit
import Derived.OpenShut
import Derived.Test.YtnbmaipobhppcaaGreatRows
import Derived.Test.YtnbmaipobhppcaaGreatE06
import Derived.Test.YtnbmaipobhppcaaGreatE11
import Derived.Test.YtnbmaipobhppcaaGreatE14
set_option linter.unusedVariables false
set_option linter.unusedSimpArgs false
set_option linter.unusedSectionVars false
set_option maxHeartbeats 16000000
set_option maxRecDepth 100000
namespace Go.Proofs.YtnbmaipobhppcaaGreat
open Go.RowKit
def zQt(xs:List Int)(ps:List (Int × Int))(w:World)(v:Value):Prop:=∃f o n k o' n' k' xs' ps',v= .agg #[.bool f,.slice o n k,.slice o' n' k']/\qN w (.slice o n k) xs'/\jY w (.slice o' n' k') ps'∧
 (∀z∈xs',z∈xs∨z.natAbs<2^8)/\∀p∈ps',p∈ps∨(p.1.natAbs<2^8/\p.2.natAbs<2^8)
theorem zAX{w:World}{b:Nat}{T:TypeId}{cs:Array Value}(h:Blk w b T cs)(hT:T≠tU)(i:Nat)(u:Value):qU [b] w (w.setCell ⟨b,i,none⟩ u):=
 ⟨zO (Below.refl _ _) (Nat.zero_le _) _ _,h.lext hT i u,fun k _ hk=>by
  have hne:k≠b:=fun e=>hk (e ▸ List.mem_singleton.2 rfl)
  simp[World.setCell,Array.getElem?_modify,Ne.symm hne]⟩
theorem zIt{w:World}{b i:Nat}{x y z u:Value}(hx:yI w ((((w.setCell ⟨b,i,none⟩ x).setCell ⟨b,i+1,none⟩ y).setCell ⟨b,i+2,none⟩ z).setCell ⟨b,i+3,none⟩ u)):qU [b] w ((((w.setCell ⟨b,i,none⟩ x).setCell ⟨b,i+1,none⟩ y).setCell ⟨b,i+2,none⟩ z).setCell ⟨b,i+3,none⟩ u):=
 ⟨zO (zO (zO (zO (Below.refl _ _) (Nat.zero_le _) _ _) (Nat.zero_le _) _ _) (Nat.zero_le _) _ _) (Nat.zero_le _) _ _,hx,fun k _ hk=>zDG _ _ _ _ _ _ _ _ (fun e=>hk (e ▸ List.mem_singleton.2 rfl))⟩
theorem Blk.onlyB{w w':World}{r b:Nat}{T:TypeId}{cs:Array Value}(h:Blk w r T cs)(ho:qU [b] w w')(hne:r≠b):Blk w' r T cs:=(ho.old r h.lt (by simpa using hne)).trans h
theorem qN.only{w w':World}{v:Value}{zs:List Int}{b:Nat}{T:TypeId}{cs:Array Value}(h:qN w v zs)(ho:qU [b] w w')(hb:Blk w b T cs)(hT:¬ T=tI):qN w' v zs:=
 h.gone hb hT (fun k hk hn=>ho.old k hk (by simpa using hn)) ho.lext
theorem jY.only{w w':World}{v:Value}{ps:List (Int × Int)}{b:Nat}{T:TypeId}{cs:Array Value}(h:jY w v ps)(ho:qU [b] w w')(hb:Blk w b T cs)(hT:¬ T=tQ):jY w' v ps:=by
 obtain⟨ao,n,cap,h1,h2,h3,h4,h5⟩:=h;refine⟨ao,n,cap,h1,h2,h3,h4,fun hn=>?_⟩;obtain⟨g,e,hg⟩:=h5 hn;refine⟨g,e,hg.old (ho.old g hg.lt ?_) ho.lext⟩;rw[List.mem_singleton];rintro rfl;obtain⟨cs',h6,-⟩:=hg;rw[hb]at h6;injection h6 with h6
 injection h6 with _ h6
 exact hT h6
theorem zPV{w w':World}{base:Nat}{v:Value}{zs:List Int}(h:zBv w base v zs)(hg:w.grownBy w' v.ownBlock)(hx:yI w w'):(∃g cs,Blk w g tI cs/\qU [g] w w')∨Below w.heap.size w w':=by
 obtain⟨cells,h1,-⟩:=h;rcases h1.2 with⟨rfl,-⟩|⟨g,cap,cur,rfl,e1,e2,-⟩
 ·exact .inr ((Below.refl w.heap.size w).grown hg (xgf _) (fun g hg=>by cases hg))
 ·exact .inl ⟨g,cur,e2,(Below.refl 0 w).grown hg (Nat.zero_le _) (fun g hg=>Nat.zero_le _),hx,fun k hk hn=>hg.block k hk (by
   intro e;injection e with e
   exact hn (List.mem_singleton.2 e))⟩
theorem zPW{w w':World}{base:Nat}{v:Value}{zs:List (Int × Int)}(h:zBt w base v zs)(hg:w.grownBy w' v.ownBlock)(hx:yI w w'):(∃g cs,Blk w g tQ cs/\qU [g] w w')∨Below w.heap.size w w':=by
 obtain⟨cells,h1,-⟩:=h;rcases h1.2 with⟨rfl,-⟩|⟨g,cap,cur,rfl,e1,e2,-⟩
 ·exact .inr ((Below.refl w.heap.size w).grown hg (xgf _) (fun g hg=>by cases hg))
 ·exact .inl ⟨g,cur,e2,(Below.refl 0 w).grown hg (Nat.zero_le _) (fun g hg=>Nat.zero_le _),hx,fun k hk hn=>hg.block k hk (by
   intro e;injection e with e
   exact hn (List.mem_singleton.2 e))⟩
theorem Blk.clash{w:World}{g r:Nat}{T T':TypeId}{cs cs':Array Value}(h:Blk w g T cs)(h':Blk w r T' cs')(hT:¬ T'=T):r≠g:=by
 rintro rfl;unfold Blk at h h';rw[h]at h';injection h' with h'
 injection h' with _ h'
 exact hT h'.symm
theorem Blk.grownI{w w':World}{r base:Nat}{T:TypeId}{cs:Array Value}{v:Value}{zs:List Int}(hb:Blk w r T cs)(h:zBv w base v zs)(hg:w.grownBy w' v.ownBlock)(hx:yI w w')(hT:¬ T=tI):Blk w' r T cs:=by
 rcases zPV h hg hx with⟨g,c,h1,h2⟩|h1
 ·exact hb.onlyB h2 (h1.clash hb hT)
 ·exact hb.below h1
theorem Blk.grownQ{w w':World}{r base:Nat}{T:TypeId}{cs:Array Value}{v:Value}{zs:List (Int × Int)}(hb:Blk w r T cs)(h:zBt w base v zs)(hg:w.grownBy w' v.ownBlock)(hx:yI w w')(hT:¬ T=tQ):Blk w' r T cs:=by
 rcases zPW h hg hx with⟨g,c,h1,h2⟩|h1
 ·exact hb.onlyB h2 (h1.clash hb hT)
 ·exact hb.below h1
theorem jY.grownI{w w':World}{base:Nat}{v u:Value}{zs:List Int}{ps:List (Int × Int)}(hp:jY w u ps)(h:zBv w base v zs)(hg:w.grownBy w' v.ownBlock)(hx:yI w w'):jY w' u ps:=by
 rcases zPV h hg hx with⟨g,c,h1,h2⟩|h1
 ·exact hp.only h2 h1 dE
 ·exact hp.below h1
theorem qN.grownQ{w w':World}{base:Nat}{v u:Value}{zs:List Int}{ps:List (Int × Int)}(hv:qN w u zs)(h:zBt w base v ps)(hg:w.grownBy w' v.ownBlock)(hx:yI w w'):qN w' u zs:=by
 rcases zPW h hg hx with⟨g,c,h1,h2⟩|h1
 ·exact hv.only h2 h1 dE
 ·exact hv.below h1
theorem yD{fn:Func}{a:Act}{W:World}{Q:Ending->World->Prop}{r:Nat}{x y z:Value}{p:Tmp}(h:fn.results=#[.cell p 39])(hd:a.defers= [])
  (hp:a.tmps.getD p undef= .pointer (some ⟨r,0,none⟩)) (hb:Blk W r 39 #[x,y,z]) (hQ:Q (.returned (.agg #[x,y,z])) W):bodyPost Tryz.prog fn Q .ret a W:=
 bodyPost_ret (results_cell_row h _ W r _ _ _ _ hp hb Tryz.underlying39 rfl (by rw[Tryz.sizeSo];rfl)) hd hQ
theorem zBv.only3{w w':World}{base:Nat}{v:Value}{zs:List Int}{b:Nat}{T:TypeId}{cs:Array Value}(h:zBv w base v zs)(ho:qU [b] w w')(hb:Blk w b T cs)(hT:¬ T=tI):zBv w' base v zs:=
 h.onlyS ho fun g hg=>by
  rw[List.mem_singleton];rintro rfl;obtain⟨cap,-,-,-,-,cs',e,-⟩:=h.row hg;rw[hb]at e;injection e with e
  injection e with _ e
  exact hT e
theorem zBt.type{w:World}{base:Nat}{v:Value}{ps:List (Int × Int)}(h:zBt w base v ps):∀g,v.ownBlock=some g->∃cs,Blk w g tQ cs:=fun g hg=>by
 obtain⟨cells,h1,-⟩:=h;rcases h1.2 with⟨rfl,-⟩|⟨g',cap,cur,rfl,e1,e2,-⟩
 ·cases hg
 ·injection hg with hg
  subst hg;exact⟨cur,e2⟩
theorem zBt.only3{w w':World}{base:Nat}{v:Value}{ps:List (Int × Int)}{b:Nat}{T:TypeId}{cs:Array Value}(h:zBt w base v ps)(ho:qU [b] w w')(hb:Blk w b T cs)(hT:¬ T=tQ):zBt w' base v ps:=by
 have ht:=h.type;obtain⟨cells,h1,h2⟩:=h;refine⟨cells,⟨h1.1,?_⟩,h2.ext ho.lext⟩;rcases h1.2 with h3|⟨g,cap,cur,e1,e2,e3,e4⟩
 ·exact .inl h3
 ·refine .inr ⟨g,cap,cur,e1,e2,(ho.old g (Array.getElem?_eq_some_iff.1 e3).1 ?_).trans e3,e4⟩
  rw[List.mem_singleton];exact hb.clash (show Blk w g tQ cur from e3) (fun e=>hT e.symm)
def zQU(B:Nat)(w:World)(v:Value):Prop:=∃g,v= .slice (some ⟨g,0,none⟩) 0 0/\zBv w B v []
def zQV(B:Nat)(w:World)(v:Value):Prop:=∃g,v= .slice (some ⟨g,0,none⟩) 0 0/\zBt w B v []
def zQC(B:Nat)(f:Bool)(xs:List Int)(ps:List (Int × Int))(w:World)(v:Value):Prop:=∃o k o' k',v= .agg #[.bool f,.slice o xs.length k,.slice o' ps.length k']/\zBv w B (.slice o xs.length k) xs/\zBt w B (.slice o' ps.length k') ps
theorem zHt(B:Nat):qK (zQU B):=fun _ _ _ x ⟨g,h1,h2⟩=>⟨g,h1,h2.below x⟩
theorem zHu(B:Nat):qK (zQV B):=fun _ _ _ x ⟨g,h1,h2⟩=>⟨g,h1,h2.below x⟩
theorem zH1(B:Nat)(zs:List Int):qK (fun w v=>zBv w B v zs):=fun _ _ _ x h=>h.below x
theorem zHx(B:Nat)(ps:List (Int × Int)):qK (fun w v=>zBt w B v ps):=fun _ _ _ x h=>h.below x
theorem zH0(B:Nat)(f:Bool)(xs:List Int)(ps:List (Int × Int)):qK (zQC B f xs ps):=fun _ _ _ x ⟨o,k,o',k',h1,h2,h3⟩=>⟨o,k,o',k',h1,h2.below x,h3.below x⟩
def zMD(q:Rat)(w:World)(v:Value):Prop:=∃b s1 a1 l1 k1 s2 a2 l2 k2,v= .slice (some ⟨b,0,none⟩) 1 1/\Blk w b tQ #[.bool s1,.slice a1 l1 k1,.bool s2,.slice a2 l2 k2]/\zH w (.agg #[.bool s1,.slice a1 l1 k1]) q.num/\zH w (.agg #[.bool s2,.slice a2 l2 k2]) (q.den:Int)
theorem zEe(q:Rat):qK (zMD q):=fun _ _ _ x ⟨b,s1,a1,l1,k1,s2,a2,l2,k2,h1,h2,h3,h4⟩=>⟨b,s1,a1,l1,k1,s2,a2,l2,k2,h1,h2.below x,h3.ext (lx x),h4.ext (lx x)⟩
theorem zMD.made{q:Rat}{w:World}{s1 s2:Bool}{a1 a2:Option Addr}{l1 l2 k1 k2:Nat}(h:jN w (.agg #[.bool s1,.slice a1 l1 k1,.bool s2,.slice a2 l2 k2]) q):zMD q (w.alloc (.cells #[.bool s1,.slice a1 l1 k1,.bool s2,.slice a2 l2 k2] tQ)) (.slice (some ⟨w.heap.size,0,none⟩) 1 1):=by
 obtain⟨_,_,_,_,_,_,_,_,e,i1,i2⟩:=h;cases e;have hl:=lx ((Below.refl w.heap.size w).alloc (xgf _) (.cells #[.bool s1,.slice a1 l1 k1,.bool s2,.slice a2 l2 k2] tQ));exact⟨_,_,_,_,_,_,_,_,_,rfl,Blk.new _ _ _,i1.ext hl,i2.ext hl⟩
theorem zDY{N:Int}{d:Nat}(h1:N.natAbs<=128)(h0:0<d)(h2:d<=5):(prQ (Rat.divInt N d)).1.natAbs<2^8/\(prQ (Rat.divInt N d)).2.natAbs<2^8:=by
 have:=HQ.divInt (e:=8) (n:=N) (d:=d) oM oM oM;exact⟨this.1,this.2⟩
theorem zDZ{α:Type}{l:List α}{k:Nat}{x y:α}(h:y∈l.set k x):y∈l∨y=x:=(List.mem_or_eq_of_mem_set h)
theorem zJT(f:Bool)(o o' ao:Option Addr)(n k n' k' an ac what at_ C:Nat)(N R:Int)(xs:List Int)(ps:List (Int × Int))(w:World)(hx:qN w (.slice o n k) xs)(hp:jY w (.slice o' n' k') ps)(hxl:xs.length<=1000)(hpl:ps.length<=1000)(hC:C<=1000)(hw:what<=255)(hat:at_<=255)(hN1:-128<=N)(hN2:N<=127):
  Calls Tryz.prog 30 #[.agg #[.bool f,.slice o n k,.slice o' n' k'],.agg #[.int .u8 what,.int .u8 at_,.int .i8 N],.agg #[.int .i64 R,.int .i64 C,.slice ao an ac]] w fun e w'=>∃u,e= .returned u/\zQt xs ps w' u/\Below w.heap.size w w':=by
 have hrm:Int.tmod (what:Int) 7=((what%7:Nat):Int):=by rw[Int.tmod_eq_emod_of_nonneg oM];omega
 have hwN:IntKind.i64.wrap N=N:=IntWalk.i64_in _ oM;have hNs:N.natAbs<=128:=by omega
 have HX:=xgv hx;have HP:=xgv hp;clear hx hp;go_enter Tryz.func30,Tryz.ntmps30;go_upto_region 1 with(fail)
 refine zB ?_;intro W0 hW0;obtain⟨hB0,T3,T4,T5,T6,hs0⟩:=zFn hW0;obtain⟨c1,c2,c3,c4,c5,c6⟩:=T3.three;clear hW0;have lt3:=T3.lt;have le1:=zHt W0.heap.size;have le2:=zHu W0.heap.size;have le3:=zH1 W0.heap.size xs;have le4:=zHx W0.heap.size ps;have le5:=zH0 W0.heap.size f xs ps;have le6:=zAz 39 W0.heap.size #[.bool false,.slice none 0 0,.slice none 0 0];refine zC 12 rfl (RV W0 _ [VP 0 10 w.heap.size 0,E 1 11 (.bool f),⟨2,12,zQU W0.heap.size⟩,VP 3 13 w.heap.size 1,E 4 14 (.slice o n k),⟨5,15,fun w v=>zBv w W0.heap.size v xs⟩,⟨6,16,zQV W0.heap.size⟩,VP 7 17 w.heap.size 2,E 8 18 (.slice o' n' k'),⟨9,19,fun w v=>zBt w W0.heap.size v ps⟩,⟨10,20,zQC W0.heap.size f xs ps⟩,⟨11,7,zNk 39 W0.heap.size #[.bool false,.slice none 0 0,.slice none 0 0]⟩]) kR RV.start (RV.fin kR ?fin1) ?steps1
 case steps1=>
  (repeat' constructor)<;>(intro L T wS hL hd hcl hI K hK;try refine zA rfl ?_)
  ·exact xgs (hI.k 3 rfl kR)
  ·have zt0:=hI.e mm0 (hd 0)
   have cc0:=hI.cell c1;exact xgu
  ·go_simp
   exact hK _ _ ((hI.world ((Below.refl _ _).alloc (xgf _) _)).y mm2 ⟨_,rfl,zLx _ hI.bel.size⟩)
  ·exact xgs (hI.k 3 rfl kR)
  ·have zt3:=hI.e mm3 (hd 3)
   have cc0:=hI.cell c2;exact xgu
  ·obtain⟨z2,zt2,g2,rfl,hz2⟩:=hI.v mm2 (hd 2)
   obtain⟨_,zt4,rfl⟩:=hI.v mm4 (hd 4);refine wpE 31 Tryz.underlying31 _ _ rfl W0.heap.size g2 (by simp[Act.eval,zt2]) hz2 _ xs (by simp[Act.eval,zt4]) (HX.out.below (nx hB0 hI.bel)).zs oM hI.bel.size ?_;intro v' w' hv' hb';exact hK _ _ ((hI.world hb').y mm5 hv')
  ·go_simp
   exact hK _ _ ((hI.world ((Below.refl _ _).alloc (xgf _) _)).y mm6 ⟨_,rfl,(zBt.made _ hI.bel.size)⟩)
  ·exact xgs (hI.k 3 rfl kR)
  ·have zt7:=hI.e mm7 (hd 7)
   have cc0:=hI.cell c3;exact xgu
  ·obtain⟨z2,zt2,g2,rfl,hz2⟩:=hI.v mm6 (hd 6)
   obtain⟨_,zt4,rfl⟩:=hI.v mm8 (hd 8);refine zRQ _ _ rfl W0.heap.size g2 (by simp[Act.eval,zt2]) hz2 _ ps (by simp[Act.eval,zt4]) (HP.out.below (nx hB0 hI.bel)) oM hI.bel.size ?_;intro v' w' hv' hb';exact hK _ _ ((hI.world hb').y mm9 hv')
  ·obtain⟨_,zt1,rfl⟩:=hI.v mm1 (hd 1)
   obtain⟨z5,zt5,hz5⟩:=hI.v mm5 (hd 5);obtain⟨z9,zt9,hz9⟩:=hI.v mm9 (hd 9);obtain⟨o5,k5,rfl⟩:=hz5.shape;obtain⟨o9,k9,rfl,-,-⟩:=hz9.shape;go_simp;exact hK _ _ (hI.y zAB ⟨o5,k5,o9,k9,rfl,hz5,hz9⟩)
  ·go_simp
   exact hK _ _ ((hI.world ((Below.refl _ _).alloc (xgf _) _)).y zAG ⟨_,rfl,hI.bel.size,Blk.new _ _ _⟩)
 intro w1 hbw1 T hT;simp only[Fin,E,EI,VP,VSl,VN,xgg,xgh,xgi,xgj]at hT;obtain⟨va2,ha2,va5,ha5,va6,ha6,va9,ha9,va10,ha10,va11,ha11,rfl⟩:=hT;simp only[xgl,xgk];replace ha10:zQC W0.heap.size f xs ps w1 va10:=ha10;obtain⟨xo,xc,yo,yc,rfl,hxo,hyo⟩:=ha10;obtain⟨b7,rfl,hb7,T7⟩:=ha11;have T3:=T3.below hbw1;have T4:=T4.below hbw1;have T5:=T5.below hbw1;have T6:=T6.below hbw1;have hB:=nx hB0 hbw1;clear c1 c2 c3 c4 c5 c6 le1 le2 le3 le4 le5 le6;obtain⟨c1,c2,c3,c4,c5,c6⟩:=T7.three;go_upto_region 2 with(fail)
 refine zB ?_;intro W2 hW2;have q0:=hB0.size;have ho2:qU [b7] w1 W2:=by
  rw[hW2.out];exact((zAX T7 dE 0 _).trans (zAX (T7.set_ 0 _) dE 1 _)).trans (zAX ((T7.set_ 0 _).set_ 1 _) dE 2 _)
 have T7n:Blk W2 b7 39 #[.bool f,.slice xo xs.length xc,.slice yo ps.length yc]:=by
  rw[hW2.out];exact T7.put3 _ _ _
 have hb2:Below W0.heap.size W0 W2:=by
  rw[hW2.out];exact zO (zO (zO hbw1 hb7 0 _) hb7 1 _) hb7 2 _
 have T3:=T3.onlyB ho2 oM;have T4:=T4.onlyB ho2 oM;have T5:=T5.onlyB ho2 oM;have T6:=T6.onlyB ho2 oM;have HXO:=xgv (hxo.only3 ho2 T7 dE);have HYO:=xgv (hyo.only3 ho2 T7 dE);have T7:=T7n;have hB:=nx hB0 hb2;clear hW2 T7n c1 c2 c3 c4 c5 c6 hxo hyo ho2 ha2 ha5 ha6 ha9;obtain⟨c1,c2,c3,c4,c5,c6⟩:=T4.three;go_wp2_with fail
 refine(zAH N W2 oM oM).mono ?_;rintro e w3 ⟨nv,rfl,hn,hb3⟩;obtain⟨sn,sa,sl,sc,rfl⟩:=hn.parts;have HXO:=xgv (HXO.out.below hb3);have HYO:=xgv (HYO.out.below hb3);have T3:=T3.below hb3;have T4:=T4.below hb3;have T5:=T5.below hb3;have T6:=T6.below hb3;have T7:=T7.below hb3;have hB:=nx hB hb3;have hb23:=nx hb2 hb3;clear c1 c2 c3 c4 c5 c6;go_upto_region 3 with(fail)
 refine zB ?_;intro W4 hW4;obtain⟨hB4,T8,hs4⟩:=zK hW4;have HXO:=xgv (HXO.out.below hB4);have HYO:=xgv (HYO.out.below hB4);have HN:=xgv (hn.ext (lx hB4));have T3:=T3.below hB4;have T4:=T4.below hB4;have T5:=T5.below hB4;have T6:=T6.below hB4;have T7:=T7.below hB4;have hB:=nx hB hB4;have h04:=nx hb23 hB4;have hq3:=T3.lt;have hq7:=T7.lt;clear hW4 hn;obtain⟨c1,c2,c3,c4,c5,c6⟩:=T3.three;obtain⟨d1,d2,d3,d4,d5,d6⟩:=T4.three;obtain⟨e1,e2,e3,e4,e5,e6⟩:=T7.three;have HCX0:qE (∀z∈xs,z∈xs∨z.natAbs<2^8):=⟨fun z h=>.inl h⟩;have HCY0:qE (∀p∈ps,p∈ps∨(p.1.natAbs<2^8/\p.2.natAbs<2^8)):=⟨fun p h=>.inl h⟩;have hq:what%7<7:=Nat.mod_lt _ dE;obtain⟨q,hqq⟩:∃q,what%7=q:=⟨_,rfl⟩;rw[hqq]at hrm hq;clear hqq;rcases(by omega:q=0∨q=1∨q=2∨q=3∨q=4∨q=5∨q=6)with rfl|rfl|rfl|rfl|rfl|rfl|rfl
 ·-- the kind
  go_upto_region 25 with(fail)
  refine zB ?_;intro W5 hW5;have ho:qU [b7] W4 W5:=by
   rw[hW5.out];exact zAX T7 dE 0 _
  have HXV:=xgv (HXO.out.vec.only ho T7 dE);have HYV:=xgv (HYO.out.prs.only ho T7 dE);have HCX:=HCX0;have HCY:=HCY0;have T6:=T6.onlyB ho oM;have hB:Below w.heap.size w W5:=by
   rw[hW5.out];exact zO hB oM 0 _
  have T7:Blk W5 b7 39 #[.bool !f,.slice xo xs.length xc,.slice yo ps.length yc]:=by
   rw[hW5.out];simpa using T7.set_ 0 (.bool !f)
  clear hW5 c1 c2 c3 c4 c5 c6 d1 d2 d3 d4 d5 d6 e1 e2 e3 e4 e5 e6;obtain⟨c1,c2,c3,c4,c5,c6⟩:=T7.three;obtain⟨d1,d2,d3,d4,d5,d6⟩:=T6.three;go_wp2;refine yD rfl rfl rfl (T6.put3 _ _ _) ⟨_,rfl,⟨_,_,_,_,_,_,_,_,_,rfl,HXV.out.off3 T6 dE dE _ _ _,HYV.out.off3 T6 dE dE _ _ _,HCX.out,HCY.out⟩,zO (zO (zO hB oM 0 _) oM 1 _) oM 2 _⟩
 ·-- an element of X
  have hwa:IntKind.i64.wrap (at_:Int)=at_:=IntWalk.i64_in _ oM;by_cases hne:xs.length=0
  ·have hz:((xs.length:Nat):Int)=0:=by omega
   clear hne;go_upto_region 25 with(fail)
   have HXV:=xgv HXO.out.vec;have HYV:=xgv HYO.out.prs;have HCX:=HCX0;have HCY:=HCY0;clear c1 c2 c3 c4 c5 c6 d1 d2 d3 d4 d5 d6 e1 e2 e3 e4 e5 e6;obtain⟨c1,c2,c3,c4,c5,c6⟩:=T7.three;obtain⟨d1,d2,d3,d4,d5,d6⟩:=T6.three;go_wp2;refine yD rfl rfl rfl (T6.put3 _ _ _) ⟨_,rfl,⟨_,_,_,_,_,_,_,_,_,rfl,HXV.out.off3 T6 dE dE _ _ _,HYV.out.off3 T6 dE dE _ _ _,HCX.out,HCY.out⟩,zO (zO (zO hB oM 0 _) oM 1 _) oM 2 _⟩
  ·have hpos:0<xs.length:=by omega
   have hposi:(0:Int)<(xs.length:Int):=by omega
   have hnz:¬ (xs.length:Int)=0:=by omega
   have hmd:Int.tmod (at_:Int) (xs.length:Int)=((at_%xs.length:Nat):Int):=by rw[Int.tmod_eq_emod_of_nonneg oM];omega
   have hlt:at_%xs.length<xs.length:=Nat.mod_lt _ hpos;obtain⟨ix,hix⟩:∃ix,at_%xs.length=ix:=⟨_,rfl⟩;rw[hix]at hmd hlt;clear hix;obtain⟨gx,hgx⟩:∃gx,(Value.slice xo xs.length xc).ownBlock=some gx:=by
    obtain⟨_,_,_,h1,-,-,-,h5⟩:=HXO.out.vec;injection h1 with h1 h2 h3
    obtain⟨b,e,-⟩:=h5 (fun e=>by rw[e]at hpos;cases hpos);exact⟨b,by rw[h1,e];rfl⟩
   obtain⟨xc',he,hcl,hcm,hgb,hra⟩:=HXO.out.row hgx;injection he with he1 _ he2
   subst he1;subst he2;have HRA:=xgv hra;clear hra;obtain⟨g1,g2,-,-⟩:=T8.two;go_upto_region 10 with(fail)
   refine zC 11 rfl (RV W4 _ [VP 0 50 b7 1,E 1 51 (.slice (some ⟨gx,0,none⟩) xs.length xc),VP 2 52 (w.heap.size+1) 1,E 3 53 (.int .u8 at_),VN 4 54 at_,VP 5 55 b7 1,E 6 56 (.slice (some ⟨gx,0,none⟩) xs.length xc),E 7 57 (.int .i64 xs.length),VN 8 58 ix,E 9 59 (.agg #[.bool sn,.slice sa sl sc]),VP 10 60 gx (ix*2)]) kR RV.start (RV.fin kR ?fin2) ?steps2
   case steps2=>
    (repeat' constructor)<;>(intro L T wS hL hd hcl hI K hK;try refine zA rfl ?_)
    ·exact xgs (hI.k 7 rfl kR)
    ·have zt0:=hI.e mm0 (hd 0)
     have cc0:=hI.cell e2;exact xgu
    ·exact xgs (hI.k 4 rfl kR)
    ·have zt2:=hI.e mm2 (hd 2)
     have cc0:=hI.cell d2;exact xgu
    ·exact xgs (hI.e mm3 (hd 3))
    ·exact xgs (hI.k 7 rfl kR)
    ·have zt5:=hI.e mm5 (hd 5)
     have cc0:=hI.cell e2;exact xgu
    ·exact xgs (hI.e mm6 (hd 6))
    ·exact xgt (hI.e mm4 (hd 4)) (hI.e mm7 (hd 7))
    ·have zt:=hI.k 8 rfl kR
     have cc0:=hI.cell g1;have cc1:=hI.cell g2;exact xgu
    ·exact xgt (hI.e mm1 (hd 1)) (hI.e mm8 (hd 8))
   intro w5 hbw5 T hT;simp only[Fin,E,EI,VP,VSl,VN,xgg,xgh,xgi,xgj]at hT;subst hT;simp only[xgl,xgk];obtain⟨zk,hzk⟩:∃z,xs[ix]?=some z:=⟨_,xga hlt⟩;have T6:=T6.below hbw5;have T7:=T7.below hbw5;have HN:=xgv (HN.out.ext (lx hbw5));have HRA:=xgv (HRA.out.below hbw5);have HYO:=xgv (HYO.out.below hbw5);have hB:=nx hB hbw5;clear c1 c2 c3 c4 c5 c6 d1 d2 d3 d4 d5 d6 e1 e2 e3 e4 e5 e6;obtain⟨_,_,_,_,z1,z2,z3,z4,-⟩:=HRA.out.cell hzk;go_upto_region 25 with(fail)
   refine zB ?_;intro W6 hW6;have hset:=qC.set_at hW6 HRA.out hlt HN.out;have ho:qU [gx] w5 W6:=by
    have hx:=hset.2;rw[hW6.out]at hx ⊢
    exact zOm hx
   obtain⟨cs,hcs,-⟩:=id HRA.out;have hgb:Blk w5 gx tI cs:=hcs;have HXV:qE (qN W6 (.slice (some ⟨gx,0,none⟩) xs.length xc) (xs.set ix N)):=⟨hset.1.vec sI (by first|assumption|omega) (by first|assumption|omega)⟩;have HYV:=xgv (HYO.out.prs.only ho hgb dE);have HCX:qE (∀z∈xs.set ix N,z∈xs∨z.natAbs<2^8):=⟨fun z h=>(zDZ h).imp id fun e=>by rw[e];omega⟩;have HCY:=HCY0;have T6:=T6.onlyB ho (hgb.clash T6 dE);have T7:=T7.onlyB ho (hgb.clash T7 dE);have hB:Below w.heap.size w W6:=by
    rw[hW6.out];exact zO (zO hB oM _ _) oM _ _
   clear hW6 z1 z2 z3 z4;obtain⟨c1,c2,c3,c4,c5,c6⟩:=T7.three;obtain⟨d1,d2,d3,d4,d5,d6⟩:=T6.three;go_wp2;refine yD rfl rfl rfl (T6.put3 _ _ _) ⟨_,rfl,⟨_,_,_,_,_,_,_,_,_,rfl,HXV.out.off3 T6 dE dE _ _ _,HYV.out.off3 T6 dE dE _ _ _,HCX.out,HCY.out⟩,zO (zO (zO hB oM 0 _) oM 1 _) oM 2 _⟩
 ·-- an element of Y
  have hwa:IntKind.i64.wrap (at_:Int)=at_:=IntWalk.i64_in _ oM;have hdm:Int.tmod (at_:Int) 4=((at_%4:Nat):Int):=by rw[Int.tmod_eq_emod_of_nonneg oM];omega
  obtain⟨dd,hdd⟩:∃dd,at_%4=dd:=⟨_,rfl⟩;have hd4:dd<4:=by omega
  rw[hdd]at hdm;clear hdd;have hwd:IntKind.i64.wrap (dd:Int)=dd:=IntWalk.i64_in _ oM;have hw1:IntKind.i64.wrap (1+(dd:Int))=1+dd:=IntWalk.i64_in _ oM;by_cases hne:ps.length=0
  ·have hz:((ps.length:Nat):Int)=0:=by omega
   clear hne;go_upto_region 25 with(fail)
   have HXV:=xgv HXO.out.vec;have HYV:=xgv HYO.out.prs;have HCX:=HCX0;have HCY:=HCY0;clear c1 c2 c3 c4 c5 c6 d1 d2 d3 d4 d5 d6 e1 e2 e3 e4 e5 e6;obtain⟨c1,c2,c3,c4,c5,c6⟩:=T7.three;obtain⟨d1,d2,d3,d4,d5,d6⟩:=T6.three;go_wp2;refine yD rfl rfl rfl (T6.put3 _ _ _) ⟨_,rfl,⟨_,_,_,_,_,_,_,_,_,rfl,HXV.out.off3 T6 dE dE _ _ _,HYV.out.off3 T6 dE dE _ _ _,HCX.out,HCY.out⟩,zO (zO (zO hB oM 0 _) oM 1 _) oM 2 _⟩
  ·have hpos:0<ps.length:=by omega
   have hposi:(0:Int)<(ps.length:Int):=by omega
   have hnz:¬ (ps.length:Int)=0:=by omega
   have hmd:Int.tmod (at_:Int) (ps.length:Int)=((at_%ps.length:Nat):Int):=by rw[Int.tmod_eq_emod_of_nonneg oM];omega
   have hlt:at_%ps.length<ps.length:=Nat.mod_lt _ hpos;obtain⟨ix,hix⟩:∃ix,at_%ps.length=ix:=⟨_,rfl⟩;rw[hix]at hmd hlt;clear hix;obtain⟨gx,hgx⟩:∃gx,(Value.slice yo ps.length yc).ownBlock=some gx:=by
    obtain⟨_,_,_,h1,-,-,-,h5⟩:=HYO.out.prs;injection h1 with h1 h2 h3
    obtain⟨b,e,-⟩:=h5 (fun e=>by rw[e]at hpos;cases hpos);exact⟨b,by rw[h1,e];rfl⟩
   have hgb:=(HYO.out.own gx hgx).1;obtain⟨_,_,_,hy1,-,hcl,hcm,hy5⟩:=HYO.out.prs;injection hy1 with hy1 hy2 hy3
   subst hy1;subst hy2;subst hy3;obtain⟨gy,rfl,hra⟩:=hy5 (fun e=>by rw[e]at hpos;cases hpos);obtain rfl:gx=gy:=by
    injection hgx with hgx
    exact hgx.symm
   have HRA:=xgv hra;clear hra hy5;go_upto_region 13 with(fail)
   have hlq:=qY (Rat.divInt N (1+(dd:Int)));refine zC 19 rfl (RV W4 _ [VP 0 67 b7 2,E 1 68 (.slice (some ⟨gx,0,none⟩) ps.length yc),VP 2 69 (w.heap.size+1) 1,E 3 70 (.int .u8 at_),VN 4 71 at_,VP 5 72 b7 2,E 6 73 (.slice (some ⟨gx,0,none⟩) ps.length yc),E 7 74 (.int .i64 ps.length),VN 8 75 ix,VP 9 76 (w.heap.size+1) 2,E 10 77 (.int .i8 N),VN 11 78 N,VP 12 79 (w.heap.size+1) 1,E 13 80 (.int .u8 at_),E 14 81 (.int .u8 dd),VN 15 82 dd,E 16 83 (.int .i64 (1+dd)),⟨17,84,fun w v=>jN w v (Rat.divInt N (1+(dd:Int)))⟩,VP 18 85 gx (ix*4)]) kR RV.start (RV.fin kR ?fin3) ?steps3
   case steps3=>
    (repeat' constructor)<;>(intro L T wS hL hd hcl hI K hK;try refine zA rfl ?_)
    ·exact xgs (hI.k 7 rfl kR)
    ·have zt0:=hI.e mm0 (hd 0)
     have cc0:=hI.cell e3;exact xgu
    ·exact xgs (hI.k 4 rfl kR)
    ·have zt2:=hI.e mm2 (hd 2)
     have cc0:=hI.cell d2;exact xgu
    ·exact xgs (hI.e mm3 (hd 3))
    ·exact xgs (hI.k 7 rfl kR)
    ·have zt5:=hI.e mm5 (hd 5)
     have cc0:=hI.cell e3;exact xgu
    ·exact xgs (hI.e mm6 (hd 6))
    ·exact xgt (hI.e mm4 (hd 4)) (hI.e mm7 (hd 7))
    ·exact xgs (hI.k 4 rfl kR)
    ·have zt9:=hI.e mm9 (hd 9)
     have cc0:=hI.cell d3;exact xgu
    ·exact xgs (hI.e zAB (hd 10))
    ·exact xgs (hI.k 4 rfl kR)
    ·have zt12:=hI.e zAs (hd 12)
     have cc0:=hI.cell d2;exact xgu
    ·exact xgs (hI.e zCS (hd 13))
    ·exact xgs (hI.e zBq (hd 14))
    ·exact xgs (hI.e zCV (hd 15))
    ·have zt11:=hI.e zAG (hd 11)
     have zt16:=hI.e zDy (hd 16);go_simp;refine(zCL N (1+(dd:Int)) _ oM oM oM).mono ?_;rintro e wa ⟨v,rfl,hv,hba⟩;exact hK _ _ ((hI.world hba).y zEy hv)
    ·exact xgt (hI.e mm1 (hd 1)) (hI.e mm8 (hd 8))
   intro w5 hbw5 T hT;simp only[Fin,E,EI,VP,VSl,VN,xgg,xgh,xgi,xgj]at hT;obtain⟨vk17,hk17,rfl⟩:=hT;simp only[xgl,xgk];replace hk17:jN w5 vk17 (Rat.divInt N (1+(dd:Int))):=hk17;obtain⟨s1,a1,l1,k1,s2,a2,l2,k2,rfl,i1,i2⟩:=id hk17;obtain⟨zk,hzk⟩:∃z,ps[ix]?=some z:=⟨_,xga hlt⟩;have T6:=T6.below hbw5;have T7:=T7.below hbw5;have HRA:=xgv (HRA.out.below hbw5);have HXO:=xgv (HXO.out.below hbw5);have hB:=nx hB hbw5;clear c1 c2 c3 c4 c5 c6 d1 d2 d3 d4 d5 d6 e1 e2 e3 e4 e5 e6 hk17;obtain⟨_,_,_,_,_,_,_,_,z1,z2,z3,z4,z5,-,-⟩:=HRA.out.cell hzk;have zf0:=z5 (ix*4);have zf1:=z5 (ix*4+1);have zf2:=z5 (ix*4+2);have zf3:=z5 (ix*4+3);go_upto_region 25 with(fail)
   refine zB ?_;intro W6 hW6;have HCP:=zDY (N:=N) (d:=1+dd) hNs oM oM;have hset:=HRA.out.set (p:=(prQ (Rat.divInt N (1+(dd:Int))))) hlt i1 i2;try simp only[Nat.zero_mul,Nat.zero_add]at hset
   have ho:qU [gx] w5 W6:=by
    rw[hW6.out];exact zIt hset.2
   rw[<-hW6.out]at hset;obtain⟨cs,hcs,-⟩:=id HRA.out;have hgb2:Blk w5 gx tQ cs:=hcs;have HYV:qE (jY W6 (.slice (some ⟨gx,0,none⟩) ps.length yc) (ps.set ix (prQ (Rat.divInt N (1+(dd:Int)))))):=⟨hset.1.prs sI hcl hcm⟩;have HXV:=xgv (HXO.out.vec.only ho hgb2 dE);have HCX:=HCX0;have HCY:qE (∀p∈ps.set ix (prQ (Rat.divInt N (1+(dd:Int)))),p∈ps∨(p.1.natAbs<2^8/\p.2.natAbs<2^8)):=⟨fun z h=>(zDZ h).imp id fun e=>by rw[e];exact HCP⟩;have T6:=T6.onlyB ho (hgb2.clash T6 dE);have T7:=T7.onlyB ho (hgb2.clash T7 dE);have hB:Below w.heap.size w W6:=by
    rw[hW6.out];exact zO (zO (zO (zO hB oM _ _) oM _ _) oM _ _) oM _ _
   clear hW6 z1 z2 z3 z4 z5 zf0 zf1 zf2 zf3;obtain⟨c1,c2,c3,c4,c5,c6⟩:=T7.three;obtain⟨d1,d2,d3,d4,d5,d6⟩:=T6.three;go_wp2;refine yD rfl rfl rfl (T6.put3 _ _ _) ⟨_,rfl,⟨_,_,_,_,_,_,_,_,_,rfl,HXV.out.off3 T6 dE dE _ _ _,HYV.out.off3 T6 dE dE _ _ _,HCX.out,HCY.out⟩,zO (zO (zO hB oM 0 _) oM 1 _) oM 2 _⟩
 ·-- one more element of X
  obtain⟨g1,g2,-,-⟩:=T8.two;have q4:=h04.size;go_upto_region 25 with(at_builtin;go_loud (refine zQ8 31 Tryz.underlying31 rfl _ _ rfl W0.heap.size (.slice xo xs.length xc) xs rfl (HXO.out.below ((Below.refl _ _).alloc (xgf _) _)) _ [N] rfl (zPY (Blk.new _ _ _) (HN.out.ext (lx ((Below.refl _ _).alloc (xgf _) _)))) (by simp;omega) (by simp;omega) ?_);intro v5 w5 hv5 hg5 hx5 ho5;obtain⟨o5,m5,k5,hsh5⟩:(∃o m k,v5= .slice o m k):=(by obtain⟨o,c,e,-⟩:=hv5.len;exact⟨o,_,c,e⟩);subst hsh5;have T7n:=(T7.below ((Below.refl _ _).alloc (xgf _) _)).grownI (HXO.out.below ((Below.refl _ _).alloc (xgf _) _)) hg5 hx5 dE;obtain⟨f1,f2,f3,f4,f5,f6⟩:=T7n.three)
  have hown:=HXO.out.below ((Below.refl W4.heap.size W4).alloc (xgf _) (.cells #[.bool sn,.slice sa sl sc] tI));have T6:=(T6.below ((Below.refl _ _).alloc (xgf _) _)).grownI hown hg5 hx5 dE;have hyv:=(HYO.out.prs.below ((Below.refl _ _).alloc (xgf _) _)).grownI hown hg5 hx5;have hB5:Below w.heap.size w w5:=(hB.alloc hB.size _).grown hg5 (by have:=hB.size;simp;omega) (fun g hg=>by have:=hown.own g hg;omega);refine zB ?_;intro W6 hW6;have ho:qU [b7] w5 W6:=by
   rw[hW6.out];exact zAX T7n dE 1 _
  have HXV:=xgv (hv5.vec.only ho T7n dE);have HYV:=xgv (hyv.only ho T7n dE);have HCX:qE (∀z∈xs++ [N],z∈xs∨z.natAbs<2^8):=⟨fun z h=>(List.mem_append.1 h).imp id fun e=>by rw[List.mem_singleton.1 e];omega⟩;have HCY:=HCY0;have T6:=T6.onlyB ho oM;have hB:Below w.heap.size w W6:=by
   rw[hW6.out];exact zO hB5 oM 1 _
  have T7:Blk W6 b7 39 #[.bool f,.slice o5 m5 k5,.slice yo ps.length yc]:=by
   rw[hW6.out];simpa using T7n.set_ 1 (.slice o5 m5 k5)
  clear hW6 c1 c2 c3 c4 c5 c6 d1 d2 d3 d4 d5 d6 e1 e2 e3 e4 e5 e6 f1 f2 f3 f4 f5 f6 hv5 hg5 hx5 ho5 hown hyv;obtain⟨c1,c2,c3,c4,c5,c6⟩:=T7.three;obtain⟨d1,d2,d3,d4,d5,d6⟩:=T6.three;go_wp2;refine yD rfl rfl rfl (T6.put3 _ _ _) ⟨_,rfl,⟨_,_,_,_,_,_,_,_,_,rfl,HXV.out.off3 T6 dE dE _ _ _,HYV.out.off3 T6 dE dE _ _ _,HCX.out,HCY.out⟩,zO (zO (zO hB oM 0 _) oM 1 _) oM 2 _⟩
 ·-- one more element of Y
  have hlq:=qY (Rat.divInt 1 2);have hlo:=zEe (Rat.divInt 1 2);go_upto_region 17 with(fail)
  refine zC 4 rfl (RV W4 _ [VP 0 96 b7 2,E 1 97 (.slice yo ps.length yc),⟨2,98,fun w v=>jN w v (Rat.divInt 1 2)⟩,⟨3,99,zMD (Rat.divInt 1 2)⟩]) kR RV.start (RV.fin kR ?fin4) ?steps4
  case steps4=>
   (repeat' constructor)<;>(intro L T wS hL hd hcl hI K hK;try refine zA rfl ?_)
   ·exact xgs (hI.k 7 rfl kR)
   ·have zt0:=hI.e mm0 (hd 0)
    have cc0:=hI.cell e3;exact xgu
   ·go_simp
    refine(zCL 1 2 _ dE dE dE).mono ?_;rintro e wa ⟨v,rfl,hv,hba⟩;exact hK _ _ ((hI.world hba).y mm2 hv)
   ·obtain⟨z2,zt2,hz2⟩:=hI.v mm2 (hd 2)
    obtain⟨s1,a1,l1,k1,s2,a2,l2,k2,rfl,-,-⟩:=id (show jN _ z2 _ from hz2);go_simp;exact hK _ _ ((hI.world ((Below.refl _ _).alloc (xgf _) _)).y mm3 (zMD.made hz2))
  intro w5 hbw5 T hT;simp only[Fin,E,EI,VP,VSl,VN,xgg,xgh,xgi,xgj]at hT;obtain⟨vk2,hk2,vk3,hk3,rfl⟩:=hT;simp only[xgl,xgk];replace hk3:zMD (Rat.divInt 1 2) w5 vk3:=hk3;obtain⟨bq,s1,a1,l1,k1,s2,a2,l2,k2,rfl,hbq,i1,i2⟩:=hk3;have T6:=T6.below hbw5;have T7:=T7.below hbw5;have hyo5:=HYO.out.below hbw5;have hxv5:=HXO.out.vec.below hbw5;have hB:=nx hB hbw5;have h05:=nx h04 hbw5;clear c1 c2 c3 c4 c5 c6 d1 d2 d3 d4 d5 d6 e1 e2 e3 e4 e5 e6 hk2;obtain⟨e1,e2,e3,e4,e5,e6⟩:=T7.three;go_upto_region 25 with(at_builtin;go_loud (refine zQF rfl _ _ rfl W0.heap.size (.slice yo ps.length yc) ps rfl hyo5 bq 1 s1 a1 l1 k1 s2 a2 l2 k2 (prQ (Rat.divInt 1 2)) rfl hbq i1 i2 oM (by have:=h05.size;omega) ?_);intro v6 w6 hv6 hg6 hx6;obtain⟨o6,m6,k6,hsh6⟩:(∃o m k,v6= .slice o m k):=(by obtain⟨o,c,e,-,-⟩:=hv6.shape;exact⟨o,_,c,e⟩);subst hsh6;have T7n:=T7.grownQ hyo5 hg6 hx6 dE;obtain⟨f1,f2,f3,f4,f5,f6⟩:=T7n.three)
  have T6:=T6.grownQ hyo5 hg6 hx6 dE;have hxv:=hxv5.grownQ hyo5 hg6 hx6;have hB6:Below w.heap.size w w6:=hB.grown hg6 hB.size (fun g hg=>by have:=(hyo5.own g hg).1;omega);refine zB ?_;intro W6 hW6;have ho:qU [b7] w6 W6:=by
   rw[hW6.out];exact zAX T7n dE 2 _
  have HXV:=xgv (hxv.only ho T7n dE);have HYV:=xgv (hv6.prs.only ho T7n dE);have HCX:=HCX0;have HCY:qE (∀p∈ps++ [prQ (Rat.divInt 1 2)],p∈ps∨(p.1.natAbs<2^8/\p.2.natAbs<2^8)):=⟨fun z h=>(List.mem_append.1 h).imp id fun e=>by rw[List.mem_singleton.1 e];exact zDY (N:=1) (d:=2) dE dE dE⟩;have T6:=T6.onlyB ho oM;have hB:Below w.heap.size w W6:=by
   rw[hW6.out];exact zO hB6 oM 2 _
  have T7:Blk W6 b7 39 #[.bool f,.slice xo xs.length xc,.slice o6 m6 k6]:=by
   rw[hW6.out];simpa using T7n.set_ 2 (.slice o6 m6 k6)
  clear hW6 e1 e2 e3 e4 e5 e6 f1 f2 f3 f4 f5 f6 hg6 hx6 hyo5 hxv5 hxv;obtain⟨c1,c2,c3,c4,c5,c6⟩:=T7.three;obtain⟨d1,d2,d3,d4,d5,d6⟩:=T6.three;go_wp2;refine yD rfl rfl rfl (T6.put3 _ _ _) ⟨_,rfl,⟨_,_,_,_,_,_,_,_,_,rfl,HXV.out.off3 T6 dE dE _ _ _,HYV.out.off3 T6 dE dE _ _ _,HCX.out,HCY.out⟩,zO (zO (zO hB oM 0 _) oM 1 _) oM 2 _⟩
 ·-- a list of its own
  have hwa:IntKind.i64.wrap (at_:Int)=at_:=IntWalk.i64_in _ oM;have hdm:Int.tmod (at_:Int) 5=((at_%5:Nat):Int):=by rw[Int.tmod_eq_emod_of_nonneg oM];omega
  obtain⟨dd,hdd⟩:∃dd,at_%5=dd:=⟨_,rfl⟩;have hd4:dd<5:=by omega
  rw[hdd]at hdm;clear hdd;have hwd:IntKind.i64.wrap (dd:Int)=dd:=IntWalk.i64_in _ oM;have hw1:IntKind.i64.wrap (1+(dd:Int))=1+dd:=IntWalk.i64_in _ oM;have hlq:=qY (Rat.divInt N (1+(dd:Int)));have hlo:=zEe (Rat.divInt N (1+(dd:Int)));have q4:=h04.size;go_upto_region 20 with(fail)
  refine zB ?_;intro W5 hW5;obtain⟨V,hV⟩:∃V,V=W4.setCell ⟨b7,2,none⟩ (.slice (some ⟨W4.heap.size,0,none⟩) 0 0):=⟨_,rfl⟩;have hVs:V.heap.size=W4.heap.size:=by rw[hV];simp[World.setCell]
  have hW5:W5=V.alloc (.cells #[] tQ):=by rw[hV];exact hW5.out
  have ho:qU [b7] W4 V:=by
   rw[hV];exact zAX T7 dE 2 _
  have hbe:Below V.heap.size V W5:=by rw[hW5];exact(Below.refl _ _).alloc (xgf _) _
  have hyo:zBt W5 W0.heap.size (.slice (some ⟨W4.heap.size,0,none⟩) 0 0) []:=by
   rw[hW5,<-hVs];exact zBt.made V oM
  have T4:=(T4.onlyB ho oM).below hbe;have T5:=(T5.onlyB ho oM).below hbe;have T6:=(T6.onlyB ho oM).below hbe;have hB:Below w.heap.size w W5:=by
   rw[hW5,hV];exact(zO hB oM 2 _).alloc (by have:=hB.size;simp[World.setCell];omega) _
  have T7:Blk W5 b7 39 #[.bool f,.slice xo xs.length xc,.slice (some ⟨W4.heap.size,0,none⟩) 0 0]:=by
   refine Blk.below ?_ hbe;rw[hV];simpa using T7.set_ 2 (.slice (some ⟨W4.heap.size,0,none⟩) 0 0)
  clear hW5 hV hVs ho hbe c1 c2 c3 c4 c5 c6 d1 d2 d3 d4 d5 d6 e1 e2 e3 e4 e5 e6;go_wp2;go_loopw [9] (fun jv wr=>∃(j m:Nat) (yo:Option Addr) (yc:Nat) (qs:List (Int × Int)),j<=C/\jv= .int .i64 j/\Below w.heap.size w wr/\Blk wr (w.heap.size+1) 62 #[.int .u8 what,.int .u8 at_,.int .i8 N]/\Blk wr (w.heap.size+1+1) 28 #[.int .i64 R,.int .i64 C,.slice ao an ac]∧
   Blk wr (w.heap.size+1+1+1) 39 #[.bool false,.slice none 0 0,.slice none 0 0]/\Blk wr b7 39 #[.bool f,.slice xo xs.length xc,.slice yo m yc]/\zBt wr W0.heap.size (.slice yo m yc) qs/\qE (qs.length=j/\∀p∈qs,p∈ps∨(p.1.natAbs<2^8/\p.2.natAbs<2^8))) (fun jv _=>C-(intOf jv).toNat)
  case atStart=>exact⟨0,0,_,_,[],by omega,rfl,hB,T4,T5,T6,T7,hyo,⟨rfl,fun p hp=>by cases hp⟩⟩
  case round=>
   obtain⟨j,m,yo,yc,qs,hj,rfl,hB,T4,T5,T6,T7,hyo,hqs⟩:=hrel;obtain⟨c1,c2,c3,c4,c5,c6⟩:=T5.three;by_cases hlt:j<C
   ·obtain⟨d1,d2,d3,d4,d5,d6⟩:=T4.three
    obtain⟨e1,e2,e3,e4,e5,e6⟩:=T7.three;have lt4:=T4.lt;have lt7:=T7.lt;go_upto_region 23 with(fail)
    refine zC 12 rfl (RV wr _ [VP 0 112 b7 2,E 1 113 (.slice yo m yc),VP 2 114 (w.heap.size+1) 2,E 3 115 (.int .i8 N),VN 4 116 N,VP 5 117 (w.heap.size+1) 1,E 6 118 (.int .u8 at_),E 7 119 (.int .u8 dd),VN 8 120 dd,E 9 121 (.int .i64 (1+dd)),⟨10,122,fun w v=>jN w v (Rat.divInt N (1+(dd:Int)))⟩,⟨11,123,zMD (Rat.divInt N (1+(dd:Int)))⟩]) kR RV.start (RV.fin kR ?fin5) ?steps5
    case steps5=>
     (repeat' constructor)<;>(intro L T wS hL hd hcl hI K hK;try refine zA rfl ?_)
     ·exact xgs (hI.k 7 rfl kR)
     ·have zt0:=hI.e mm0 (hd 0)
      have cc0:=hI.cell e3;exact xgu
     ·exact xgs (hI.k 4 rfl kR)
     ·have zt2:=hI.e mm2 (hd 2)
      have cc0:=hI.cell d3;exact xgu
     ·exact xgs (hI.e mm3 (hd 3))
     ·exact xgs (hI.k 4 rfl kR)
     ·have zt5:=hI.e mm5 (hd 5)
      have cc0:=hI.cell d2;exact xgu
     ·exact xgs (hI.e mm6 (hd 6))
     ·exact xgs (hI.e mm7 (hd 7))
     ·exact xgs (hI.e mm8 (hd 8))
     ·have zt4:=hI.e mm4 (hd 4)
      have zt9:=hI.e mm9 (hd 9);go_simp;refine(zCL N (1+(dd:Int)) _ oM oM oM).mono ?_;rintro e wa ⟨v,rfl,hv,hba⟩;exact hK _ _ ((hI.world hba).y zAB hv)
     ·obtain⟨z2,zt2,hz2⟩:=hI.v zAB (hd 10)
      obtain⟨s1,a1,l1,k1,s2,a2,l2,k2,rfl,-,-⟩:=id (show jN _ z2 _ from hz2);go_simp;exact hK _ _ ((hI.world ((Below.refl _ _).alloc (xgf _) _)).y zAG (zMD.made hz2))
    intro w5 hbw5 T hT;simp only[Fin,E,EI,VP,VSl,VN,xgg,xgh,xgi,xgj]at hT;obtain⟨vk10,hk10,vk11,hk11,rfl⟩:=hT;simp only[xgl,xgk];replace hk11:zMD (Rat.divInt N (1+(dd:Int))) w5 vk11:=hk11;obtain⟨bq,s1,a1,l1,k1,s2,a2,l2,k2,rfl,hbq,i1,i2⟩:=hk11;have T4:=T4.below hbw5;have T5:=T5.below hbw5;have T6:=T6.below hbw5;have T7:=T7.below hbw5;have hyo5:=hyo.below hbw5;have hB:=nx hB hbw5;have hql:=hqs.out.1;have hszw:W0.heap.size<=w5.heap.size:=by have:=T7.lt;omega
    clear c1 c2 c3 c4 c5 c6 d1 d2 d3 d4 d5 d6 e1 e2 e3 e4 e5 e6 hk10;obtain⟨e1,e2,e3,e4,e5,e6⟩:=T7.three;go_upto_region 22 with(at_builtin;go_loud (refine zQF rfl _ _ rfl W0.heap.size (.slice yo m yc) qs rfl hyo5 bq 1 s1 a1 l1 k1 s2 a2 l2 k2 (prQ (Rat.divInt N (1+(dd:Int)))) rfl hbq i1 i2 oM hszw ?_);intro v6 w6 hv6 hg6 hx6;obtain⟨o6,m6,k6,hsh6⟩:(∃o m k,v6= .slice o m k):=(by obtain⟨o,c,e,-,-⟩:=hv6.shape;exact⟨o,_,c,e⟩);subst hsh6;have T7n:=T7.grownQ hyo5 hg6 hx6 dE;obtain⟨f1,f2,f3,f4,f5,f6⟩:=T7n.three)
    have T4:=T4.grownQ hyo5 hg6 hx6 dE;have T5:=T5.grownQ hyo5 hg6 hx6 dE;have T6:=T6.grownQ hyo5 hg6 hx6 dE;have hB6:Below w.heap.size w w6:=hB.grown hg6 hB.size (fun g hg=>by have:=(hyo5.own g hg).1;omega);refine zB ?_;intro W6 hW6;have ho:qU [b7] w6 W6:=by
     rw[hW6.out];exact zAX T7n dE 2 _
    have hv7:=hv6.only3 ho T7n dE;have T4:=T4.onlyB ho oM;have T5:=T5.onlyB ho oM;have T6:=T6.onlyB ho oM;have hB:Below w.heap.size w W6:=by
     rw[hW6.out];exact zO hB6 oM 2 _
    have T7:Blk W6 b7 39 #[.bool f,.slice xo xs.length xc,.slice o6 m6 k6]:=by
     rw[hW6.out];simpa using T7n.set_ 2 (.slice o6 m6 k6)
    have hqs2:qE ((qs++ [prQ (Rat.divInt N (1+(dd:Int)))]).length=j+1/\∀p∈qs++ [prQ (Rat.divInt N (1+(dd:Int)))],p∈ps∨(p.1.natAbs<2^8/\p.2.natAbs<2^8)):=⟨by simp[hql],fun z h=>(List.mem_append.1 h).elim (hqs.out.2 z) fun e=>.inr (by
     rw[List.mem_singleton.1 e];exact zDY (N:=N) (d:=1+dd) hNs oM oM)⟩
    clear hW6 e1 e2 e3 e4 e5 e6 f1 f2 f3 f4 f5 f6 hg6 hx6 hyo5 hv6;have hwj:IntKind.i64.wrap ((j:Int)+1)=(j:Int)+1:=IntWalk.i64_in _ oM;go_wp2;go_roundw
    case rel=>exact⟨j+1,m6,o6,k6,_,by omega,by simp,hB,T4,T5,T6,T7,hv7,hqs2⟩
    case measure=>simp[intOf];omega
   ·obtain rfl:j=C:=by omega
    obtain⟨e1,e2,e3,e4,e5,e6⟩:=T7.three;go_upto_region 25 with(fail)
    refine zB ?_;intro W6 hW6;have ho:qU [b7] wr W6:=by
     rw[hW6.out];exact(zAX T7 dE 1 _).trans (zAX (T7.set_ 1 _) dE 0 _)
    have HXV:qE (qN W6 (.slice none 0 0) []):=⟨qN.nil _⟩;have HYV:=xgv (hyo.prs.only ho T7 dE);have HCX:qE (∀z∈([]:List Int),z∈xs∨z.natAbs<2^8):=⟨fun z h=>by cases h⟩;have HCY:=xgv hqs.out.2;have T6:=T6.onlyB ho oM;have hB:Below w.heap.size w W6:=by
     rw[hW6.out];exact zO (zO hB oM 1 _) oM 0 _
    have T7:Blk W6 b7 39 #[.bool false,.slice none 0 0,.slice yo m yc]:=by
     rw[hW6.out];simpa using(T7.set_ 1 (.slice none 0 0)).set_ 0 (.bool false)
    clear hW6 c1 c2 c3 c4 c5 c6 e1 e2 e3 e4 e5 e6;obtain⟨c1,c2,c3,c4,c5,c6⟩:=T7.three;obtain⟨d1,d2,d3,d4,d5,d6⟩:=T6.three;go_wp2;refine yD rfl rfl rfl (T6.put3 _ _ _) ⟨_,rfl,⟨_,_,_,_,_,_,_,_,_,rfl,HXV.out.off3 T6 dE dE _ _ _,HYV.out.off3 T6 dE dE _ _ _,HCX.out,HCY.out⟩,zO (zO (zO hB oM 0 _) oM 1 _) oM 2 _⟩
 ·-- an odd element of Y
  by_cases hne:ps.length=0
  ·have hz:((ps.length:Nat):Int)=0:=by omega
   clear hne;go_upto_region 25 with(fail)
   have HXV:=xgv HXO.out.vec;have HYV:=xgv HYO.out.prs;have HCX:=HCX0;have HCY:=HCY0;clear c1 c2 c3 c4 c5 c6 d1 d2 d3 d4 d5 d6 e1 e2 e3 e4 e5 e6;obtain⟨c1,c2,c3,c4,c5,c6⟩:=T7.three;obtain⟨d1,d2,d3,d4,d5,d6⟩:=T6.three;go_wp2;refine yD rfl rfl rfl (T6.put3 _ _ _) ⟨_,rfl,⟨_,_,_,_,_,_,_,_,_,rfl,HXV.out.off3 T6 dE dE _ _ _,HYV.out.off3 T6 dE dE _ _ _,HCX.out,HCY.out⟩,zO (zO (zO hB oM 0 _) oM 1 _) oM 2 _⟩
  ·have hpos:0<ps.length:=by omega
   have hposi:(0:Int)<(ps.length:Int):=by omega
   have hlt:0<ps.length:=hpos;obtain⟨gx,hgx⟩:∃gx,(Value.slice yo ps.length yc).ownBlock=some gx:=by
    obtain⟨_,_,_,h1,-,-,-,h5⟩:=HYO.out.prs;injection h1 with h1 h2 h3
    obtain⟨b,e,-⟩:=h5 (fun e=>by rw[e]at hpos;cases hpos);exact⟨b,by rw[h1,e];rfl⟩
   have hgb:=(HYO.out.own gx hgx).1;obtain⟨_,_,_,hy1,-,hcl,hcm,hy5⟩:=HYO.out.prs;injection hy1 with hy1 hy2 hy3
   subst hy1;subst hy2;subst hy3;obtain⟨gy,rfl,hra⟩:=hy5 (fun e=>by rw[e]at hpos;cases hpos);obtain rfl:gx=gy:=by
    injection hgx with hgx
    exact hgx.symm
   have HRA:=xgv hra;clear hra hy5;obtain⟨g1,g2,-,-⟩:=T8.two;have lt8:=T8.lt;go_upto_region 5 with(fail)
   have hl2:=yL 2;have hlp:=zHw (2,N);refine zC 6 rfl (RV W4 _ [VP 0 32 b7 2,E 1 33 (.slice (some ⟨gx,0,none⟩) ps.length yc),⟨2,34,fun w v=>zH w v 2⟩,E 3 35 (.agg #[.bool sn,.slice sa sl sc]),⟨4,36,fun w v=>jM w v (2,N)⟩,VP 5 37 gx 0]) kR RV.start (RV.fin kR ?fin6) ?steps6
   case steps6=>
    (repeat' constructor)<;>(intro L T wS hL hd hcl hI K hK;try refine zA rfl ?_)
    ·exact xgs (hI.k 7 rfl kR)
    ·have zt0:=hI.e mm0 (hd 0)
     have cc0:=hI.cell e3;exact xgu
    ·go_simp
     refine(zAH 2 _ dE dE).mono ?_;rintro e wa ⟨v,rfl,hv,hba⟩;exact hK _ _ ((hI.world hba).y mm2 hv)
    ·have zt:=hI.k 8 rfl kR
     have cc0:=hI.cell g1;have cc1:=hI.cell g2;exact xgu
    ·obtain⟨z2,zt2,hz2⟩:=hI.v mm2 (hd 2)
     obtain⟨_,zt3,rfl⟩:=hI.v mm3 (hd 3);obtain⟨t1,u1,u2,u3,rfl⟩:=zH.parts (show zH _ z2 2 from hz2);go_simp;exact hK _ _ (hI.y mm4 ⟨t1,u1,u2,u3,sn,sa,sl,sc,rfl,hz2,HN.out.ext (lx hI.bel)⟩)
    ·exact xgs (hI.e mm1 (hd 1))
   intro w5 hbw5 T hT;simp only[Fin,E,EI,VP,VSl,VN,xgg,xgh,xgi,xgj]at hT;obtain⟨vk2,hk2,vk4,hk4,rfl⟩:=hT;simp only[xgl,xgk];replace hk4:jM w5 vk4 (2,N):=hk4;obtain⟨s1,a1,l1,k1,s2,a2,l2,k2,rfl,i1,i2⟩:=id hk4;obtain⟨zk,hzk⟩:∃z,ps[0]?=some z:=⟨_,xga hlt⟩;have T6:=T6.below hbw5;have T7:=T7.below hbw5;have HRA:=xgv (HRA.out.below hbw5);have HXO:=xgv (HXO.out.below hbw5);have hB:=nx hB hbw5;clear c1 c2 c3 c4 c5 c6 d1 d2 d3 d4 d5 d6 e1 e2 e3 e4 e5 e6 hk4 hk2;obtain⟨_,_,_,_,_,_,_,_,z1,z2,z3,z4,z5,-,-⟩:=HRA.out.cell hzk;simp only[Nat.zero_mul,Nat.zero_add]at z1 z2 z3 z4;have zf0:=z5 0;have zf1:=z5 1;have zf2:=z5 2;have zf3:=z5 3;go_upto_region 25 with(fail)
   refine zB ?_;intro W6 hW6;have HCP:(2:Int).natAbs<2^8/\N.natAbs<2^8:=⟨by decide,by omega⟩;have hset:=HRA.out.set (p:=(2,N)) hlt i1 i2;try simp only[Nat.zero_mul,Nat.zero_add]at hset
   have ho:qU [gx] w5 W6:=by
    rw[hW6.out];exact zIt hset.2
   rw[<-hW6.out]at hset;obtain⟨cs,hcs,-⟩:=id HRA.out;have hgb2:Blk w5 gx tQ cs:=hcs;have HYV:qE (jY W6 (.slice (some ⟨gx,0,none⟩) ps.length yc) (ps.set 0 (2,N))):=⟨hset.1.prs sI hcl hcm⟩;have HXV:=xgv (HXO.out.vec.only ho hgb2 dE);have HCX:=HCX0;have HCY:qE (∀p∈ps.set 0 (2,N),p∈ps∨(p.1.natAbs<2^8/\p.2.natAbs<2^8)):=⟨fun z h=>(zDZ h).imp id fun e=>by rw[e];exact HCP⟩;have T6:=T6.onlyB ho (hgb2.clash T6 dE);have T7:=T7.onlyB ho (hgb2.clash T7 dE);have hB:Below w.heap.size w W6:=by
    rw[hW6.out];exact zO (zO (zO (zO hB oM _ _) oM _ _) oM _ _) oM _ _
   clear hW6 z1 z2 z3 z4 z5 zf0 zf1 zf2 zf3;obtain⟨c1,c2,c3,c4,c5,c6⟩:=T7.three;obtain⟨d1,d2,d3,d4,d5,d6⟩:=T6.three;go_wp2;refine yD rfl rfl rfl (T6.put3 _ _ _) ⟨_,rfl,⟨_,_,_,_,_,_,_,_,_,rfl,HXV.out.off3 T6 dE dE _ _ _,HYV.out.off3 T6 dE dE _ _ _,HCX.out,HCY.out⟩,zO (zO (zO hB oM 0 _) oM 1 _) oM 2 _⟩
theorem zER.parts{R C:Nat}{A:Nat->Nat->Int}{y:Nat->Int}{w:World}{u:Value}(h:zER R C A y w u):∃f o n k o' n' k' xs ps,u= .agg #[.bool f,.slice o n k,.slice o' n' k']/\qN w (.slice o n k) xs/\jY w (.slice o' n' k') ps/\(f=true↔∃x,zJ9 R C A y x)/\xs.length<=R/\ps.length<=C∧
  (∀z∈xs,z.natAbs<2^(6*E40))/\∀p∈ps,p.1.natAbs<2^170/\p.2.natAbs<2^170:=by
 rcases h with⟨xv,x,rfl,hx,h1,h2⟩|⟨yv,q,rfl,hp,h1,h2⟩
 ·obtain⟨o,n,k,rfl,-⟩:=id hx
  refine⟨true,o,n,k,none,0,0,_,[],rfl,hx,jY.nil w,⟨fun _=>⟨x,h1⟩,fun _=>rfl⟩,by rw[zD];omega,Nat.zero_le _,fun z hz=>?_,fun p hp=>by cases hp⟩;obtain⟨i,hi,rfl⟩:=List.mem_map.1 hz;exact h2 i (List.mem_range.1 hi)
 ·obtain⟨o,n,k,rfl,-⟩:=id hp
  exact⟨false,none,0,0,o,n,k,[],_,rfl,qN.nil w,hp,⟨nofun,fun⟨x,hx⟩=>(zGO hx h1).elim⟩,Nat.zero_le _,by rw[qG];omega,fun z hz=>(by cases hz),zLN h2⟩
theorem zIi{xs:List Int}{B:Nat}(hB:0<B)(h:∀z∈xs,z.natAbs<B)(i:Nat):(xs.getD i 0).natAbs<B:=by
 rw[xgb];rcases hj:xs[i]? with _|z
 ·exact hB
 ·exact h z (xgd hj)
theorem zJe{R C:Nat}{M:List (List Int)}{xs:List Int}(hR:R<=4)(hA:leM 1000 R C (ent M))(hx:∀z∈xs,z.natAbs<2^(6*E40)):zCd [zM R fun i=>xs.getD i 0] M 1 R C:=by
 have:=zHO (x:=fun i=>xs.getD i 0) hR hA fun i _=>zIi (Nat.pow_pos dE) hx i
 rwa[zQ fun i hi=>zA5 hi]at this
theorem zGz{R C:Nat}{M:List (List Int)}{xs:List Int}(hR:R<=4)(hA:leM 1000 R C (ent M))(hx:∀z∈xs,z.natAbs<2^(6*E40)):zBu xs M R C:=fun j hj t ht=>by
 have h1:=zIP (x:=fun i=>xs.getD i 0) hR hA (fun i _=>zIi (Nat.pow_pos dE) hx i) hj ht;rw[zGL];exact h1
theorem zMW{C:Nat}{f g:Nat->Int}(h:zM C f=zM C g){j:Nat}(hj:j<C):f j=g j:=by
 have h1:(zM C f)[j]?=(zM C g)[j]?:=by rw[h]
 rw[zP hj,zP hj]at h1;exact Option.some.inj h1
theorem jE.only1{w w':World}{v:Value}{R C:Int}{M:List (List Int)}{b:Nat}{cs:Array Value}(h:jE w v R C M)(ho:qU [b] w w')(hb:Blk w b 28 cs)(hold:∀k,k≠b->w'.heap[k]?=w.heap[k]?):jE w' v R C M:=by
 obtain⟨A,rfl,h⟩:=h;exact⟨A,rfl,h.off hb dE dE hold ho.lext⟩
theorem zNO(w:World)(b i k:Nat)(u:Value)(h:k≠b):(w.setCell ⟨b,i,none⟩ u).heap[k]?=w.heap[k]?:=by simp[World.setCell,Array.getElem?_modify,Ne.symm h]
theorem zER.only{w w':World}{R C:Nat}{A:Nat->Nat->Int}{y:Nat->Int}{u:Value}{b:Nat}{T:TypeId}{cs:Array Value}(h:zER R C A y w u)(ho:qU [b] w w')(hb:Blk w b T cs)(hT:¬ T=tI)(hQ:¬ T=tQ):zER R C A y w' u:=by
 rcases h with⟨xv,x,e,h1,h2⟩|⟨yv,q,e,h1,h2⟩
 ·exact .inl ⟨xv,x,e,h1.only ho hb hT,h2⟩
 ·exact .inr ⟨yv,q,e,h1.only ho hb hQ,h2⟩
theorem zMK{f fs:Bool}{R C:Nat}{A:Nat->Nat->Int}{y:Nat->Int}{xs:List Int}{ps:List (Int × Int)}(h:zMI f R C A y xs ps=true)(hf:fs=true↔∃x,zJ9 R C A y x):f=fs:=by
 cases f
 ·have h2:=zId.1 (show zE2 R C A y xs.length ps=true from h)
  cases fs
  ·rfl
  ·obtain⟨x,hx⟩:=hf.1 rfl
   exact(zGO hx h2.2.2.2).elim
 ·have h2:zEx R C A y xs ps.length=true:=h
  unfold zEx at h2;rw[Bool.and_eq_true,decide_eq_true_eq]at h2;exact(hf.2 ⟨fun i=>xs.getD i 0,fun j hj=>(zMW h2.2 hj).symm⟩).symm
theorem zCz(v lv:Value)(r c what at_:Nat)(N:Int)(ls l1:List Int)(w:World)(h:I8V w v ls)(hl:I8V w lv l1)(hr:r<=255)(hc:c<=255)(hw:what<=255)(hat:at_<=255)(hN1:-128<=N)(hN2:N<=127):
  Calls Tryz.prog 7 #[.agg #[.int .u8 r,.int .u8 c,v],lv,.agg #[.int .u8 what,.int .u8 at_,.int .i8 N]] w fun e w'=>e= .returned (.bool true)/\Below w.heap.size w w':=by
 obtain⟨ao,n,cap,rfl,-,-,-,-,-⟩:=id h;obtain⟨R,hR⟩:∃R:Nat,R=r%5:=⟨_,rfl⟩;obtain⟨C,hC⟩:∃C:Nat,C=c%5:=⟨_,rfl⟩;have hR4:R<=4:=by omega
 have hC4:C<=4:=by omega
 have HR:=xgw hR;have HC:=xgw hC;clear hR hC;obtain⟨M,hM⟩:∃M,zY R C (zHZ C ls)=M:=⟨_,rfl⟩;have HMade:qE (∀w,I8V w (.slice ao n cap) ls->Calls Tryz.prog 15 #[.agg #[.int .u8 r,.int .u8 c,.slice ao n cap]] w fun e w'=>∃v,e= .returned v/\jE w' v R C M/\Below w.heap.size w w'):=⟨fun w h=>by
  rw[<-hM];exact zQO _ r c ls w h hr hc R C HR.out HC.out⟩
 have HF:qE (jT R C M):=⟨by rw[<-hM];exact zAm _ _ _⟩;have HA9:qE (leM 9 R C (ent M)):=⟨by rw[<-hM];exact zOI (zMN R C C ls)⟩;clear hM;obtain⟨lo,ln,lc,rfl,-,-,-,-,-⟩:=id hl;obtain⟨y,hy0⟩:∃y:Nat->Int,zHZ C l1 0=y:=⟨_,rfl⟩;have HVE:qE (∀w,I8V w (.slice lo ln lc) l1->Calls Tryz.prog 16 #[.slice lo ln lc,.int .i64 C] w fun e w'=>∃u,e= .returned u/\qN w' u (zM C y)/\Below w.heap.size w w'):=⟨fun w h=>hy0 ▸ zJ7 _ C l1 w h oM⟩;have HY:qE (∀j,j<C->(y j).natAbs<=1000000):=⟨fun j _=>hy0 ▸ Nat.le_trans (zKZ C l1 0 j) dE⟩;clear hy0;obtain⟨D,hD⟩:∃D,Int.tmod N 2=D:=⟨_,rfl⟩;have hD1:-1<=D/\D<=1:=by
  have h1:=Int.natAbs_tmod N 2;have h2:N.natAbs%2<2:=Nat.mod_lt _ dE;rw[hD]at h1;have h3:(2:Int).natAbs=2:=rfl;rw[h3]at h1;omega
 have hwD:IntKind.i64.wrap D=D:=IntWalk.i64_in _ oM;have hwC:IntKind.i64.wrap ((C:Int)+D)=(C:Int)+D:=IntWalk.i64_in _ oM;obtain⟨C',hC'⟩:∃C':Int,(C:Int)+D=C':=⟨_,rfl⟩;obtain⟨ab,hab⟩:∃ab:Bool,ab=decide (D=0):=⟨_,rfl⟩;have HBD:qE (∀(mv bv:Value) (f:Bool) (o o':Option Addr) (n k n' k':Nat) (w:World),jE w mv R C' M->qN w bv (zM C y)->zER R C (ent M) y w (.agg #[.bool f,.slice o n k,.slice o' n' k'])->Calls Tryz.prog 20 #[mv,bv,.agg #[.bool f,.slice o n k,.slice o' n' k']] w fun e w'=>∃u,e= .returned u/\u= .bool ab/\Below w.heap.size w w'):=⟨fun mv bv f o o' n k n' k' w hm hb hs=>by
  by_cases g:D=0
  ·obtain rfl:C'=(C:Int):=by omega
   rw[hab,decide_eq_true g];exact zLp _ _ _ R C M y w hs hm HF.out hb hR4 hC4 (zC2 HA9.out) HY.out
  ·rw[hab,decide_eq_false g]
   exact zJO _ _ _ _ _ _ _ _ _ R C' M _ w hm hb (by rw[zD];omega)⟩
 have HBR:qE (∀(mv bv:Value) (f:Bool) (o o':Option Addr) (n k n' k':Nat) (w:World),jE w mv R C' M->qN w bv (zM C y)->zER R C (ent M) y w (.agg #[.bool f,.slice o n k,.slice o' n' k'])->Calls Tryz.prog 19 #[mv,bv,.agg #[.bool f,.slice o n k,.slice o' n' k']] w fun e w'=>∃u,e= .returned u/\u= .bool ab/\Below w.heap.size w w'):=⟨fun mv bv f o o' n k n' k' w hm hb hs=>by
  by_cases g:D=0
  ·obtain rfl:C'=(C:Int):=by omega
   rw[hab,decide_eq_true g];exact zGP _ _ _ R C M y w hs hm HF.out hb hR4 hC4 (zC2 HA9.out) HY.out
  ·rw[hab,decide_eq_false g]
   exact zG7 _ _ _ _ _ _ _ _ _ R C' M _ w hm hb (by rw[zD];omega)⟩
 rw[hC']at hwC;have HCD:=xgv hC';clear hab;go_enter Tryz.func7,Tryz.ntmps7;go_upto_region 1 with(fail)
 refine zB ?_;intro W0 hW0;obtain⟨hB0,bx,T5,hs0⟩:=qH hW0;clear hW0;go_wp2_with fail
 refine(zHI W0).mono ?_;rintro e w1 ⟨rfl,hb1⟩;have hB:=nx hB0 hb1;have bx:=bx.below hb1;have T5:=T5.below hb1;obtain⟨c1,c2,c3,c4,c5,c6⟩:=bx.three;go_wp2_with fail
 refine(HMade.out w1 (h.below hB)).mono ?_;rintro e w2 ⟨va,rfl,hm,hb2⟩;obtain⟨ro,rn,rc,rfl⟩:=hm.agg;have T5:=T5.below hb2;have hB:=nx hB hb2;clear c1 c2 c3 c4 c5 c6 bx;go_upto_region 3 with(fail)
 refine zB ?_;intro W3 hW3;obtain⟨hB3,T8,hs3⟩:=zK hW3;have HM:=xgv (hm.below hB3);have T5:=T5.below hB3;have hB:=nx hB hB3;clear hW3 hm;obtain⟨c1,c2,c3,c4,c5,c6⟩:=T8.three;go_wp2_with fail
 refine(HVE.out W3 (hl.below hB)).mono ?_;rintro e w4 ⟨yv,rfl,hy,hb4⟩;obtain⟨yo,yn,yc,rfl,-⟩:=id hy;have HM:=xgv (HM.out.below hb4);have HYV:=xgv hy;have T5:=T5.below hb4;have T8:=T8.below hb4;have hB:=nx hB hb4;clear c1 c2 c3 c4 c5 c6 hy;obtain⟨c1,c2,c3,c4,c5,c6⟩:=T8.three;go_wp2_with fail
 refine(zFP _ _ R C M y w4 HM.out HF.out HYV.out hR4 hC4 HA9.out HY.out).mono ?_;rintro e w5 ⟨u,rfl,hs,hb5⟩;obtain⟨fs,o1,n1,k1,o2,n2,k2,xs,ps,rfl,hxs,hps,hfs,hxl,hpl,hxb,hpb⟩:=hs.parts;have HFS:=xgv hfs;have HXB:=xgv hxb;have HPB:=xgv hpb;have HS:=xgv hs;have HXS:=xgv hxs;have HPS:=xgv hps;clear hs hxs hps hfs hxb hpb;have HM:=xgv (HM.out.below hb5);have HYV:=xgv (HYV.out.below hb5);have T5:=T5.below hb5;have T8:=T8.below hb5;have hB:=nx hB hb5;clear c1 c2 c3 c4 c5 c6;go_upto_region 5 with(fail)
 refine zB ?_;intro W6 hW6;obtain⟨hB6,T10,hs6⟩:=zK hW6;have HM:=xgv (HM.out.below hB6);have HYV:=xgv (HYV.out.below hB6);have T5:=T5.below hB6;have T8:=T8.below hB6;have hB:=nx hB hB6;have HS:=xgv (HS.out.below hB6);have HXS:=xgv (HXS.out.below hB6);have HPS:=xgv (HPS.out.below hB6);clear hW6;obtain⟨c1,c2,c3,c4,c5,c6⟩:=T8.three;obtain⟨d1,d2,d3,d4,d5,d6⟩:=T10.three;go_wp2_with fail
 refine(zGP _ _ _ R C M y W6 HS.out HM.out HF.out HYV.out hR4 hC4 (zC2 HA9.out) HY.out).mono ?_;rintro e w7 ⟨_,rfl,rfl,hb7⟩;have HM:=xgv (HM.out.below hb7);have HYV:=xgv (HYV.out.below hb7);have T5:=T5.below hb7;have T8:=T8.below hb7;have hB:=nx hB hb7;have HS:=xgv (HS.out.below hb7);have T10:=T10.below hb7;have HXS:=xgv (HXS.out.below hb7);have HPS:=xgv (HPS.out.below hb7);clear c1 c2 c3 c4 c5 c6 d1 d2 d3 d4 d5 d6;obtain⟨c1,c2,c3,c4,c5,c6⟩:=T8.three;obtain⟨d1,d2,d3,d4,d5,d6⟩:=T10.three;obtain⟨e1,e2,e3,e4,e5,e6⟩:=T5.three;go_wp2_with fail
 refine(zJT fs o1 o2 ro n1 k1 n2 k2 rn rc what at_ C N R xs ps w7 HXS.out HPS.out oM oM oM hw hat hN1 hN2).mono ?_;rintro e w8 ⟨_,rfl,⟨f,p1,m1,q1,p2,m2,q2,xs',ps',rfl,hx',hp',hxb',hpb'⟩,hb8⟩;have HX2:=xgv hx';have HP2:=xgv hp';have HXB2:qE (∀z∈xs',z.natAbs<2^(6*E40)):=⟨fun z hz=>(hxb' z hz).elim (HXB.out z) fun h=>Nat.lt_of_lt_of_le h (Nat.pow_le_pow_right dE (by have:=zEM;omega))⟩;have HPB2:qE (∀p∈ps',p.1.natAbs<2^170/\p.2.natAbs<2^170):=⟨fun p hp=>(hpb' p hp).elim (HPB.out p) fun h=>⟨Nat.lt_of_lt_of_le h.1 dE,Nat.lt_of_lt_of_le h.2 dE⟩⟩;have HM:=xgv (HM.out.below hb8);have HYV:=xgv (HYV.out.below hb8);have T5:=T5.below hb8;have T8:=T8.below hb8;have hB:=nx hB hb8;have HS:=xgv (HS.out.below hb8);have T10:=T10.below hb8;clear c1 c2 c3 c4 c5 c6 d1 d2 d3 d4 d5 d6 e1 e2 e3 e4 e5 e6 hx' hp' hxb' hpb' HXB HPB;go_upto_region 8 with(fail)
 refine zB ?_;intro W9 hW9;obtain⟨hB9,T12,hs9⟩:=zK hW9;have HM:=xgv (HM.out.below hB9);have HYV:=xgv (HYV.out.below hB9);have T5:=T5.below hB9;have T8:=T8.below hB9;have hB:=nx hB hB9;have HS:=xgv (HS.out.below hB9);have T10:=T10.below hB9;have HX2:=xgv (HX2.out.below hB9);have HP2:=xgv (HP2.out.below hB9);clear hW9;have qB:=hB.size;have lt5:=T5.lt;have lt8:=T8.lt;have lt10:=T10.lt;have lt12:=T12.lt;have hne5:w.heap.size+1≠W9.heap.size:=by omega
 have hne8:w2.heap.size≠W9.heap.size:=by omega
 have hne10:w5.heap.size≠W9.heap.size:=by omega
 have hne12:w8.heap.size≠W9.heap.size:=by omega
 obtain⟨c1,c2,c3,c4,c5,c6⟩:=T8.three;go_upto_region 9 with(fail)
 refine zB ?_;intro W10 hW10;obtain⟨hB10,T13,hs10⟩:=zK hW10;have HM:=xgv (HM.out.below hB10);have HYV:=xgv (HYV.out.below hB10);have T5:=T5.below hB10;have T8:=T8.below hB10;have hB:=nx hB hB10;have HS:=xgv (HS.out.below hB10);have T10:=T10.below hB10;have HX2:=xgv (HX2.out.below hB10);have HP2:=xgv (HP2.out.below hB10);have T12:=T12.below hB10;clear hW10 c1 c2 c3 c4 c5 c6;obtain⟨c1,c2,c3,c4,c5,c6⟩:=T13.three;obtain⟨e1,e2,e3,e4,e5,e6⟩:=T5.three;go_upto_region 10 with(fail)
 refine zB ?_;intro W11 hW11;have ho:qU [W9.heap.size] W10 W11:=by
  rw[hW11.out];exact zAX T13 dE 1 _
 have hold:∀k,k≠W9.heap.size->W11.heap[k]?=W10.heap[k]?:=fun k hk=>by
  rw[hW11.out];exact zNO _ _ _ _ _ hk
 have hB:Below w.heap.size w W11:=by
  rw[hW11.out];exact zO hB oM 1 _
 have T13n:Blk W11 W9.heap.size 28 #[.int .i64 R,.int .i64 C',.slice ro rn rc]:=by
  rw[hW11.out];simpa using T13.set_ 1 (.int .i64 C')
 have HM:=xgv (HM.out.only1 ho T13 hold);have HYV:=xgv (HYV.out.only ho T13 dE);have HS:=xgv (HS.out.only ho T13 dE dE);have HX2:=xgv (HX2.out.only ho T13 dE);have HP2:=xgv (HP2.out.only ho T13 dE);have T8:=T8.onlyB ho hne8;have T10:=T10.onlyB ho hne10;have T12:=T12.onlyB ho hne12;have HMB:qE (jE W11 (.agg #[.int .i64 R,.int .i64 C',.slice ro rn rc]) R C' M):=by
  obtain⟨A,e,hrows⟩:=HM.out;cases e;exact⟨_,rfl,hrows⟩
 clear hW11 c1 c2 c3 c4 c5 c6 e1 e2 e3 e4 e5 e6 ho hold;obtain⟨c1,c2,c3,c4,c5,c6⟩:=T13n.three;obtain⟨d1,d2,d3,d4,d5,d6⟩:=T10.three;have lt13:=T13n.lt;have lt10:=T10.lt;have hbb:(ab !=ab)=false:=by cases ab<;>rfl
 refine zE rfl (RV W11 _ [E 0 50 (.agg #[.int .i64 R,.int .i64 C',.slice ro rn rc]),E 1 51 (.slice yo yn yc),E 2 52 (.agg #[.bool fs,.slice o1 n1 k1,.slice o2 n2 k2]),E 3 53 (.bool ab),E 4 54 (.agg #[.int .i64 R,.int .i64 C',.slice ro rn rc]),E 5 55 (.slice yo yn yc),E 6 56 (.agg #[.bool fs,.slice o1 n1 k1,.slice o2 n2 k2]),E 7 57 (.bool ab),E 8 58 (.bool false)]) kR RV.start (RV.fin kR ?fin1) ?steps1
 case steps1=>
  (repeat' constructor)<;>(intro L T wS hL hd hcl hI K hK;try refine zA rfl ?_)
  ·have zt:=hI.k 13 rfl kR
   have cc0:=hI.cell c1;have cc1:=hI.cell c2;have cc2:=hI.cell c3;exact xgu
  ·exact xgs (hI.k 9 rfl kR)
  ·have zt:=hI.k 10 rfl kR
   have cc0:=hI.cell d1;have cc1:=hI.cell d2;have cc2:=hI.cell d3;exact xgu
  ·have zt0:=hI.e mm0 (hd 0)
   have zt1:=hI.e mm1 (hd 1);have zt2:=hI.e mm2 (hd 2);go_simp;refine(HBD.out _ _ _ _ _ _ _ _ _ _ (HMB.out.below hI.bel) (HYV.out.below hI.bel) (HS.out.below hI.bel)).mono ?_;rintro e wa ⟨v,rfl,hv,hba⟩;exact hK _ _ ((hI.world hba).y mm3 hv)
  ·have zt:=hI.k 13 rfl kR
   have cc0:=hI.cell c1;have cc1:=hI.cell c2;have cc2:=hI.cell c3;exact xgu
  ·exact xgs (hI.k 9 rfl kR)
  ·have zt:=hI.k 10 rfl kR
   have cc0:=hI.cell d1;have cc1:=hI.cell d2;have cc2:=hI.cell d3;exact xgu
  ·have zt4:=hI.e mm4 (hd 4)
   have zt5:=hI.e mm5 (hd 5);have zt6:=hI.e mm6 (hd 6);go_simp;refine(HBR.out _ _ _ _ _ _ _ _ _ _ (HMB.out.below hI.bel) (HYV.out.below hI.bel) (HS.out.below hI.bel)).mono ?_;rintro e wa ⟨v,rfl,hv,hba⟩;exact hK _ _ ((hI.world hba).y mm7 hv)
  ·exact xgt (hI.e mm3 (hd 3)) (hI.e mm7 (hd 7))
 intro w12 hbw12 T hT;simp only[Fin,E,EI,VP,VSl,VN,xgg,xgh,xgi,xgj]at hT;subst hT;have HM:=xgv (HM.out.below hbw12);have HYV:=xgv (HYV.out.below hbw12);have HX2:=xgv (HX2.out.below hbw12);have HP2:=xgv (HP2.out.below hbw12);have T8:=T8.below hbw12;have T10:=T10.below hbw12;have T12:=T12.below hbw12;have hB:=nx hB hbw12;obtain⟨acc,hacc⟩:∃acc,zMI f R C (ent M) y xs' ps'=acc:=⟨_,rfl⟩;have HKD:qE (acc=true->f=fs):=⟨fun g=>zMK (hacc.trans g) HFS.out⟩;have HCA:qE (zMI f R C (ent M) y xs' ps'=acc):=⟨hacc⟩;clear c1 c2 c3 c4 c5 c6 d1 d2 d3 d4 d5 d6 hacc;obtain⟨c1,c2,c3,c4,c5,c6⟩:=T8.three;obtain⟨d1,d2,d3,d4,d5,d6⟩:=T12.three;go_wp2_with fail
 refine(HCA.out ▸ zFI (e:=170) (h:=20) f _ _ _ _ R C M y xs' ps' w12 HM.out HF.out HYV.out HX2.out HP2.out oM oM (fun _=>zGz hR4 (zC2 HA9.out) HXB2.out) HPB2.out (fun a ha b hb=>zMz (Nat.le_trans (HA9.out a ha b hb) dE)) (fun j hj=>zMz (HY.out j hj)) dE dE).mono ?_;rintro e w13 ⟨_,rfl,rfl,hb13⟩;have HM:=xgv (HM.out.below hb13);have HYV:=xgv (HYV.out.below hb13);have HX2:=xgv (HX2.out.below hb13);have HP2:=xgv (HP2.out.below hb13);have T8:=T8.below hb13;have T10:=T10.below hb13;have T12:=T12.below hb13;have hB:=nx hB hb13;clear c1 c2 c3 c4 c5 c6 d1 d2 d3 d4 d5 d6;obtain⟨c1,c2,c3,c4,c5,c6⟩:=T8.three;obtain⟨d1,d2,d3,d4,d5,d6⟩:=T12.three;go_wp2_with fail
 refine(HCA.out ▸ zG6 (e:=170) (h:=20) f _ _ _ _ R C M y xs' ps' w13 HM.out HF.out HYV.out HX2.out HP2.out oM oM (zJe hR4 (zC2 HA9.out) HXB2.out) HPB2.out (fun a ha b hb=>zMz (Nat.le_trans (HA9.out a ha b hb) dE)) (fun j hj=>zMz (HY.out j hj)) dE dE).mono ?_;rintro e w14 ⟨_,rfl,rfl,hb14⟩;have T10:=T10.below hb14;have T12:=T12.below hb14;have hB:=nx hB hb14;clear c1 c2 c3 c4 c5 c6 d1 d2 d3 d4 d5 d6;obtain⟨c1,c2,c3,c4,c5,c6⟩:=T10.three;obtain⟨d1,d2,d3,d4,d5,d6⟩:=T12.three;cases acc
 ·go_wp2
  go_ret;exact⟨rfl,hB⟩
 ·obtain rfl:f=fs:=HKD.out rfl
  cases f
  ·go_wp2
   go_ret;exact⟨rfl,hB⟩
  ·go_wp2
   go_ret;exact⟨rfl,hB⟩
end Go.Proofs.YtnbmaipobhppcaaGreat

namespace Go.Proofs.YtnbmaipobhppcaaGreat
open Go.ChangeShapes Go.WideShapes Go.ChangeAt Go.RowKit
theorem Tryz.own:ownKnob Tryz.prog.godebug=none:=by kernel_rfl
theorem Tryz.laidOut:laidOutB Tryz.prog=true:=by kernel_rfl
theorem zNm:Tryz.prog.cellsOf 5=1:=by kernel_rfl
theorem zLE{H:Type}{enc:TypeId × Value->H}{w:World}{f:Nat}{cs:List Value}{y:DataW H × List MemPlace}(hf:DataW.trod enc Tryz.prog w 0 (fun _=>true) true f 22 cs=some y)(hlt:∀x∈y.2,x.block<w.heap.size):
  ∃ao n cap ls,cs= [.slice ao n cap]/\I8V w (.slice ao n cap) ls:=by
 rcases open_ints Tryz.underlying22 Tryz.underlying51 kR hf with⟨e1,-⟩|⟨a,len,cap,zs,e1,-,hl,hm,hzl,e2,hcell,hwf⟩
 ·exact⟨none,0,0,[],e1,none,0,0,rfl,rfl,xgf _,by omega,fun z hz=>(by cases hz),fun h=>absurd rfl h⟩
 ·simp only[if_true]at hzl
  unfold maxLen at hm;refine⟨some a,len,cap,zs.take len,e1,some a,len,cap,rfl,by simp;omega,hl,by omega,fun z hz=>?_,fun h=>?_⟩
  ·have:=hwf z (List.mem_of_mem_take hz)
   exact bounds_i8 this
  ·have hpos:0<zs.length:=by
    rcases Nat.eq_zero_or_pos zs.length with h0|h0
    ·exact absurd (by rw[List.eq_nil_of_length_eq_zero h0];simp) h
    ·exact h0
   obtain⟨b,off,rfl,hj⟩:=ints_at hcell hpos;refine⟨b,off,rfl,?_,fun k z hk=>?_⟩
   ·exact hlt (.cell b off) (by rw[e2];exact MemPlace.mem_row.2 ⟨0,hpos,rfl⟩)
   ·obtain⟨h1,h2⟩:=xge.1 hk
    rw[List.getElem_take]at h2;have hkz:k<zs.length:=by
     simp at h1;omega
    rw[hj k hkz,<-h2];simp[hkz]
theorem zM7{H:Type}{enc:TypeId × Value->H}{w:World}{b0:Nat}{r:Reach}{v:Value}{d:DataW H}{ps:List MemPlace}(hval:Value.okWide Tryz.prog w r b0 24 v)
  (h:DataW.Trod enc Tryz.prog w 0 (fun _=>true) true 24 v d ps) (hlt:∀x∈ps,x.block<w.heap.size):∃(a b:Nat) (sv:Value) (ls:List Int),v= .agg #[.int .u8 a,.int .u8 b,sv]/\a<=255/\b<=255/\I8V w sv ls:=by
 simp only[Value.okWide,Tryz.underlying24]at hval;obtain⟨cs,rfl,hsz,-⟩:=hval;obtain⟨fuel,hf⟩:=h;obtain⟨xs,m,h0,h1,h2,h3,h4⟩:=DataW.trod_struct Tryz.underlying24 hf;have c24:Tryz.prog.cellsOf 24=3:=by kernel_rfl
 have c22:Tryz.prog.cellsOf 22=1:=by kernel_rfl
 have g0:DataW.trod enc Tryz.prog w 0 (fun _=>true) true m 5 (List.take (Tryz.prog.cellsOf 5) (List.drop 0 (Value.agg cs).cells.toList))=xs[0]?:=h4 0 _ rfl;have g1:DataW.trod enc Tryz.prog w 0 (fun _=>true) true m 5 (List.take (Tryz.prog.cellsOf 5) (List.drop 1 (Value.agg cs).cells.toList))=xs[1]?:=h4 1 _ rfl;have g2:DataW.trod enc Tryz.prog w 0 (fun _=>true) true m 22 (List.take (Tryz.prog.cellsOf 22) (List.drop 2 (Value.agg cs).cells.toList))=xs[2]?:=h4 2 _ rfl;rw[c24]at h2;rw[zNm]at g0 g1;rw[c22]at g2;simp only[Value.cells]at g0 g1 g2 h2;obtain⟨cl⟩:=cs;match xs,h3 with
 | [y0,y1,y2],_=>
  match cl,h2 with
  | [k0,k1,k2],_=>
   simp at g0 g1 g2;obtain⟨a,ha,-,wa⟩:=DataW.trod_int Tryz.underlying5 g0;obtain⟨b,hb,-,wb⟩:=DataW.trod_int Tryz.underlying5 g1;simp only[Prod.mk.injEq]at h1;obtain⟨ao,n,cap,ls,hk,hI⟩:=zLE g2 (fun x hx=>hlt x (by rw[h1.2];simp[hx]));simp at ha hb hk;subst ha;subst hb;subst hk;have wa:=bounds_u8 wa;have wb:=bounds_u8 wb;exact⟨a.toNat,b.toNat,_,ls,by rw[Int.toNat_of_nonneg wa.1,Int.toNat_of_nonneg wb.1],by omega,by omega,hI⟩
theorem zM6{H:Type}{enc:TypeId × Value->H}{w:World}{b0:Nat}{r:Reach}{v:Value}{d:DataW H}{ps:List MemPlace}(hval:Value.okWide Tryz.prog w r b0 22 v)
  (h:DataW.Trod enc Tryz.prog w 0 (fun _=>true) true 22 v d ps) (hlt:∀x∈ps,x.block<w.heap.size):∃ls,I8V w v ls:=by
 obtain⟨a0,len0,cap0,rfl⟩:=okWide_slice Tryz.underlying22 hval;obtain⟨fuel,hf⟩:=h;obtain⟨ao,n,cap,ls,hk,hI⟩:=zLE hf hlt;simp[Value.cells]at hk;obtain⟨rfl,rfl,rfl⟩:=hk;exact⟨ls,hI⟩
theorem zGF{H:Type}{enc:TypeId × Value->H}{w:World}{b0:Nat}{r:Reach}{v:Value}{d:DataW H}{ps:List MemPlace}(hval:Value.okWide Tryz.prog w r b0 62 v)
  (h:DataW.Trod enc Tryz.prog w 0 (fun _=>true) true 62 v d ps):∃p q:Nat,∃z:Int,v= .agg #[.int .u8 p,.int .u8 q,.int .i8 z]/\p<=255/\q<=255/\-128<=z/\z<=127:=by
 simp only[Value.okWide,Tryz.underlying62]at hval;obtain⟨cs,rfl,hsz,-⟩:=hval;obtain⟨fuel,hf⟩:=h;obtain⟨xs,m,h0,h1,h2,h3,h4⟩:=DataW.trod_struct Tryz.underlying62 hf;have c0:Tryz.prog.cellsOf 62=3:=by kernel_rfl
 have c1:Tryz.prog.cellsOf 51=1:=by kernel_rfl
 have g0:DataW.trod enc Tryz.prog w 0 (fun _=>true) true m 5 (List.take (Tryz.prog.cellsOf 5) (List.drop 0 (Value.agg cs).cells.toList))=xs[0]?:=h4 0 _ rfl;have g1:DataW.trod enc Tryz.prog w 0 (fun _=>true) true m 5 (List.take (Tryz.prog.cellsOf 5) (List.drop 1 (Value.agg cs).cells.toList))=xs[1]?:=h4 1 _ rfl;have g2:DataW.trod enc Tryz.prog w 0 (fun _=>true) true m 51 (List.take (Tryz.prog.cellsOf 51) (List.drop 2 (Value.agg cs).cells.toList))=xs[2]?:=h4 2 _ rfl;rw[c0]at h2;rw[zNm]at g0 g1;rw[c1]at g2;simp only[Value.cells]at g0 g1 g2 h2;obtain⟨cl⟩:=cs;match xs,h3 with
 | [y0,y1,y2],_=>
  match cl,h2 with
  | [k0,k1,k2],_=>
   simp at g0 g1 g2;obtain⟨a,ha,-,wa⟩:=DataW.trod_int Tryz.underlying5 g0;obtain⟨b,hb,-,wb⟩:=DataW.trod_int Tryz.underlying5 g1;obtain⟨d,hd,-,wd⟩:=DataW.trod_int Tryz.underlying51 g2;simp at ha hb hd;subst ha;subst hb;subst hd;have wa:=bounds_u8 wa;have wb:=bounds_u8 wb;have wd:=bounds_i8 wd;exact⟨a.toNat,b.toNat,d,by rw[Int.toNat_of_nonneg wa.1,Int.toNat_of_nonneg wb.1],by omega,by omega,wd.1,wd.2⟩
theorem zB0(os:Os)(started:os.Started)(H:Type)(enc:TypeId × Value->H):
  ReturnsInHanded {} Tryz.checked os 7 .any (Rows.diophantChecksSpec.pre6 enc Tryz.prog Tryz.f7 Rows.diophantChecksRow.domain false) (Rows.diophantChecksSpec.post enc Tryz.prog Tryz.f7 false true false false):=by
 refine returnsInHanded_of_change (C:=Tryz.checked) Tryz.own started kR Tryz.func7
  (ChangeSpec.witness6 (enc:=enc) (C:=Tryz.checked) false ⟨#[],#[.agg #[.int .u8 0,.int .u8 0,.slice none 0 0],.slice none 0 0,.agg #[.int .u8 0,.int .u8 0,.int .i8 0]],[]⟩ 8 kR kR kR kR) ?_
 intro W base args ds gs before hval0 hW hcnd _;have hval:∀(j:Nat) t v,Tryz.f7.params[j]?=some t->args[j]?=some v->Value.okWide Tryz.prog W .any base t v:=hval0;have hW':=hW;obtain⟨p,q,hA0,hV,rfl,hfz,hnd⟩:=hW;have hA:DataW.TrodAll enc Tryz.prog W 0 (fun _=>true) true Tryz.f7.params.toList args.toList ds p:=hA0;rw[Tryz.params7]at hA hval;obtain⟨v0,v1,v2,d0,d1,d2,p0,p1,p2,rfl,rfl,rfl,h0,h1,h2⟩:=trodAll_three hA;obtain⟨rfl,rfl⟩:=trodVars_none hV;clear hA0 hval0;simp only[List.append_nil]at hW';have hlt0:∀x∈p0,x.block<W.heap.size:=fun x hx=>hW'.lt x (by simp[hx])
 have hlt1:∀x∈p1,x.block<W.heap.size:=fun x hx=>hW'.lt x (by simp[hx])
 have hlt2:∀x∈p2,x.block<W.heap.size:=fun x hx=>hW'.lt x (by simp[hx])
 obtain⟨a,b,sv,ls,rfl,ha,hb,hI⟩:=zM7 (hval 0 24 v0 rfl rfl) h0 hlt0;obtain⟨ls1,hI1⟩:=zM6 (hval 1 22 v1 rfl rfl) h1 hlt1;obtain⟨f1,f2,f3,rfl,hf1,hf2,hf3,hf4⟩:=zGF (hval 2 62 v2 rfl rfl) h2;refine(zCz sv v1 a b f1 f2 f3 ls ls1 W hI hI1 ha hb hf1 hf2 hf3 hf4).mono fun e W' ⟨he,hB⟩=>?_
 subst he;refine⟨_,rfl,_,_,_,[],p0++(p1++p2),[],hW',?_,?_,rfl,hB.frame _,fun h=>by cases h⟩
 ·exact trodAll_mk1 (shut_bool Tryz.underlying4 true)
 ·exact trodAll_mk3 (Below.trod Tryz.laidOut kR (of_decide_eq_true kR) h0 hB hlt0) (Below.trod Tryz.laidOut kR (of_decide_eq_true kR) h1 hB hlt1) (Below.trod Tryz.laidOut kR (of_decide_eq_true kR) h2 hB hlt2)
theorem zDP:(Rows.diophantChecksRow.inPlace==Tryz.pinned.checked.prog.inPlace 7)=true:=by kernel_rfl
theorem zDQ:(Rows.diophantChecksRow.unfollowed==Tryz.pinned.checked.prog.unfollowed 7)=true:=by kernel_rfl
theorem zDR:(Rows.diophantChecksRow.recurses==Tryz.pinned.checked.prog.recurses 7)=true:=by kernel_rfl
theorem zDS:(Rows.diophantChecksRow.named==Tryz.pinned.checked.prog.varsNamed 7)=true:=by kernel_rfl
theorem zBz:joinedFacts Tryz.pinned.checked.prog 7 Tryz.f7 Rows.diophantChecksSpec Rows.diophantChecksRow=true:=by
 unfold joinedFacts;rw[zDP,zDQ,zDR,zDS];kernel_rfl
theorem diophantChecks_holds:Rows.DiophantChecksSaid:=
 OpenClaim.holds_of_wide 7 Tryz.f7 rfl rfl rfl rfl rfl rfl rfl ⟨rfl,rfl,rfl,rfl,rfl⟩ rfl rfl rfl rfl rfl kR Tryz.func7 zBz
  (of_decide_eq_true kR) (by unfold Func.isWrapper;first|(rw[if_pos (by decide+kernel)];kernel_rfl)|(rw[if_neg (by decide+kernel)];exact⟨rfl,rfl⟩))
  (fun os started H enc _=>zB0 os started H enc)
end Go.Proofs.YtnbmaipobhppcaaGreat
