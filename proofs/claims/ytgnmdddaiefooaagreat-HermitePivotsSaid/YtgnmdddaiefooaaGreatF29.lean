/- matrix.Mul. matrix.Equal, for matrices of the same sizes. The law for regions that draw, where calls make matrices: one behind the other, so that they lie apart. -/
import Derived.Test.YtgnmdddaiefooaaGreatF28
set_option linter.unusedVariables false
set_option linter.unusedSimpArgs false
set_option linter.unusedSectionVars false
set_option maxHeartbeats 16000000
set_option maxRecDepth 100000
namespace Go.Proofs.YtgnmdddaiefooaaGreat
open Go.RowKit
theorem zI2(w:World):
  CallsD Tryz.prog 129 #[] .returning w fun e u' w'=>e= .returned (.tuple #[])/\u'= .returning/\w'=w:=by
 refine callsD_of_wpS Tryz.func129 rfl fun c₀ cs hu=>?_
 apply wpS_region;simp[wpOpsS,go_sem,recoverD,hu,Tryz.ntmps129,bodyPostS,results,Tryz.results129];cases c₀;simp_all
def zEa(R C:Nat):World->Value->Prop:=fun w v=>∃g,v= .slice (some ⟨g,0,none⟩) R R/\Blk w g tR (qN R C [])
def zID:World->Value->Prop:=fun w v=>∃g,v= .pointer (some ⟨g,0,none⟩)/\Blk w g tM #[.int .i64 0,.int .i64 0,.slice none 0 0]
def zBp(n:Nat)(P:World->Value->Prop):World->Value->Prop:=fun w v=>P w v/\∀b o,(v= .pointer (some ⟨b,o,none⟩)∨∃l c,v= .slice (some ⟨b,o,none⟩) l c)->n<=b
theorem zBn(n R C:Nat):qQ (zBp n (zEa R C)):=fun _ _ _ x ⟨⟨g,h1,h2⟩,h3⟩=>⟨⟨g,h1,h2.below x⟩,h3⟩
theorem zEk(n:Nat):qQ (zBp n zID):=fun _ _ _ x ⟨⟨g,h1,h2⟩,h3⟩=>⟨⟨g,h1,h2.below x⟩,h3⟩
def zF6(n R C:Nat):World->Value->Prop:=fun w v=>∃s,v= .agg #[.int .i64 R,.int .i64 C,s]/\zBp n (zEa R C) w s
theorem zDr(n R C:Nat):qQ (zF6 n R C):=fun w w' _ x ⟨s,h1,h2⟩=>⟨s,h1,zBn n R C w w' s x h2⟩
theorem zAo.times{A B:List (List Int)}{R m C:Nat}(h:zAo A B R m C){i:Nat}(hi:i<R){zs:List Int}(hz:A[i]?=some zs):zIH zs B m C:=by
 intro j hj t ht;have h1:=h i hi j hj t ht;have he:∀s,ent A i s=zs.getD s 0:=fun s=>by unfold ent;rw[yU hz]
 unfold zBP at h1;simp only[he]at h1;exact h1
theorem zKL(v1 v2:Value)(R m C:Nat)(M1 M2:List (List Int))(w:World)(h1:yG w v1 R m M1)(h2:yG w v2 m C M2)(hF1:yM R m M1)(hF2:yM m C M2)(hR:R<=1000000)(hm:m<=1000000)(hC:C<=1000000)(hS:zAo M1 M2 R m C):
  Calls Tryz.prog 91 #[v1,v2] w (zML w R C (zS R C (zBP M1 M2 m))):=by
 have hmf:∀(fn:Fn) (first cap:Array Value) (w:World),(Instr.makeFunc fn first cap).run Tryz.prog w= .ok (.func fn first cap) w:=fun _ _ _ _=>rfl
 have H1:=xgv h1;have H2:=xgv h2;obtain⟨A1,rfl,h1⟩:=h1;obtain⟨A2,rfl,h2⟩:=h2;obtain⟨ao,n,cap,rfl,e2,e3,e4,-⟩:=id h1;obtain⟨bo,q,bcap,rfl,g2,g3,g4,-⟩:=id h2;obtain rfl:R=n:=by rw[<-e2,hF1.1]
 obtain rfl:m=q:=by rw[<-g2,hF2.1]
 have hdv:decide (qF R m M1/\qF m C M2)=true:=decide_eq_true ⟨hF1.valid,hF2.valid⟩;have HS:=xgv hS;have HF1:=xgv hF1;have HF2:=xgv hF2;obtain⟨G,hG⟩:∃G:Nat->Nat->Int,zBP M1 M2 m=G:=⟨_,rfl⟩;rw[hG];have HG:=xgv hG;have hmk:=fun W=>mkR (R:Int) R rfl oM W
 clear hF1 hF2 hS e2 g2 hG;have DV:=xgv hdv;clear hdv;go_enter_defers Tryz.func91,Tryz.ntmps91;go_upto_region 2 with(fail)
 refine zB ?_;intro W0 hW0;obtain⟨hB0,bx1,bx2,br,hs0⟩:=zAK hW0;obtain⟨c1,c2,c3,c4,c5,c6⟩:=bx1.three;obtain⟨d1,d2,d3,d4,d5,d6⟩:=bx2.three;clear hW0;go_wp2_with fail
 refine(zEX _ 2 R m m C _ _ M1 M2 _ (Blk.new _ _ _) (xgf _) oM ((H1.out.below hB0).below ((Below.refl _ _).alloc (xgf _) _)) ((H2.out.below hB0).below ((Below.refl _ _).alloc (xgf _) _))).mono ?_;rintro e w1 ⟨rfl,hb1⟩;rw[DV.out];have hb01:Below W0.heap.size W0 w1:=nx ((Below.refl _ _).alloc (xgf _) _) hb1;have hB:=nx hB0 hb01;have bx1:=bx1.below hb01;have bx2:=bx2.below hb01;have br:=br.below hb01;have hsz1:=hb01.size;clear c1 c2 c3 c4 c5 c6 d1 d2 d3 d4 d5 d6;obtain⟨c1,c2,c3,c4,c5,c6⟩:=bx1.three;obtain⟨d1,d2,d3,d4,d5,d6⟩:=bx2.three;have hl1:=zBn w1.heap.size R C;have hl2:=zEk w1.heap.size;have hl3:=zDr w1.heap.size R C;go_upto_region 4 with(fail)
 refine zD 9 rfl (RV w1 _ [VP 0 22 w.heap.size 0,VN 1 23 R,VP 2 24 (w.heap.size+1) 1,VN 3 25 C,VP 4 26 w.heap.size 0,VN 5 27 R,⟨6,28,zBp w1.heap.size (zEa R C)⟩,⟨7,29,zF6 w1.heap.size R C⟩,⟨8,6,zBp w1.heap.size zID⟩]) kR RV.start (RV.fin kR ?fin1) ?steps1
 case steps1=>
  refine⟨?_,?_,?_,?_,?_,?_,?_,?_,?_,trivial⟩<;>(intro L T wS hL hd hcl hI K hK;try refine zA rfl ?_)
  ·exact xgs (hI.k 2 rfl kR)
  ·have zt0:=hI.e mm0 (hd 0)
   have cc0:=hI.cell c1;exact xgu
  ·exact xgs (hI.k 3 rfl kR)
  ·have zt2:=hI.e mm2 (hd 2)
   have cc0:=hI.cell d2;exact xgu
  ·exact xgs (hI.k 2 rfl kR)
  ·have zt4:=hI.e mm4 (hd 4)
   have cc0:=hI.cell c1;exact xgu
  ·obtain⟨_,zt5,rfl⟩:=hI.v mm5 (hd 5)
   have hmkS:=hmk wS;go_simp;exact hK _ _ ((hI.world ((Below.refl _ _).alloc (xgf _) _)).y mm6 ⟨⟨_,rfl,by rw[<-zAk];exact Blk.new _ _ _⟩,fun b o hh=>by have:=hI.bel.size;rcases hh with hh|⟨l,c,hh⟩;cases hh;cases hh;exact this⟩)
  ·obtain⟨_,zt1,rfl⟩:=hI.v mm1 (hd 1)
   obtain⟨_,zt3,rfl⟩:=hI.v mm3 (hd 3);obtain⟨v6,zt6,h6⟩:=hI.v mm6 (hd 6);have h6':zBp w1.heap.size (zEa R C) wS v6:=h6;obtain⟨⟨g6,rfl,gb6⟩,gl6⟩:=id h6';go_simp;exact hK _ _ (hI.y mm7 ⟨_,rfl,h6'⟩)
  ·go_simp
   exact hK _ _ ((hI.world ((Below.refl _ _).alloc (xgf _) _)).y mm8 ⟨⟨_,rfl,Blk.new _ _ _⟩,fun b o hh=>by have:=hI.bel.size;rcases hh with hh|⟨l,c,hh⟩;cases hh;exact this;cases hh⟩)
 intro w2 hbw2 T hT;simp only[Fin,E,EI,VP,VSl,VN,xgg,xgh,xgi,xgj]at hT;obtain⟨va6,ha6,va7,ha7,va8,ha8,rfl⟩:=hT;simp only[xgl,xgk];obtain⟨sv,rfl,⟨g7,rfl,gb7⟩,gl7⟩:zF6 w1.heap.size R C w2 va7:=ha7;obtain⟨⟨g8,rfl,gb8⟩,gl8⟩:zBp w1.heap.size zID w2 va8:=ha8;have gl7:=gl7 g7 0 (.inr ⟨_,_,rfl⟩);have gl8:=gl8 g8 0 (.inl rfl);have hB:=nx hB hbw2;have bx1:=bx1.below hbw2;have bx2:=bx2.below hbw2;have br:=br.below hbw2;have hne:g7≠g8:=by
  rintro rfl;have q1:w2.heap[g7]?=some (.cells _ tR (0,0)):=gb7;have q2:w2.heap[g7]?=some (.cells _ tM (0,0)):=gb8;rw[q1]at q2;injection q2 with q2
  injection q2 with _ ht
  exact absurd ht dE
 obtain⟨f1,f2,f3,f4,f5,f6⟩:=gb8.three;clear c1 c2 c3 c4 c5 c6 d1 d2 d3 d4 d5 d6 ha6 hmk;go_upto_region 5 with(fail)
 refine zB ?_;intro W3 hW3;have hx3:yP w2 W3:=by rw[hW3.out];exact gb8.lext3 dE _ _ _
 have T6:Blk W3 g8 tM #[.int .i64 R,.int .i64 C,.slice (some ⟨g7,0,none⟩) R R]:=by rw[hW3.out];exact gb8.put3 _ _ _
 have hold:∀b,b≠g8->W3.heap[b]?=w2.heap[b]?:=fun b hb=>by rw[hW3.out];exact yB _ _ _ _ _ _ hb
 have bx1:=(hold _ oM).trans bx1;have bx2:=(hold _ oM).trans bx2;have br:=(hold _ oM).trans br;have bR:=(hold _ hne).trans gb7;have hB3:Below w.heap.size w W3:=by rw[hW3.out];exact qC (qC (qC hB oM 0 _) oM 1 _) oM 2 _
 replace bx1:Blk W3 w.heap.size tM #[.int .i64 R,.int .i64 m,.slice ao R cap]:=bx1;replace bx2:Blk W3 (w.heap.size+1) tM #[.int .i64 m,.int .i64 C,.slice bo m bcap]:=bx2;replace br:Blk W3 (w.heap.size+1+1) tM #[.int .i64 0,.int .i64 0,.slice none 0 0]:=br;replace bR:Blk W3 g7 tR (qN R C []):=bR;obtain⟨c1,c2,c3,c4,c5,c6⟩:=bx1.three;clear hW3 hold hx3 f1 f2 f3 f4 f5 f6 gb7 gb8 hB;go_wp2;clear c1 c2 c3 c4 c5 c6;go_loopw [33] (fun iv wr=>∃(i:Nat) (bs:List Nat),i<=R/\iv= .int .i64 i/\bs.length=i/\Below w.heap.size w wr/\Blk wr (w.heap.size+1) tM #[.int .i64 m,.int .i64 C,.slice bo m bcap]/\Blk wr (w.heap.size+1+1) tM #[.int .i64 0,.int .i64 0,.slice none 0 0]/\Blk wr g8 tM #[.int .i64 R,.int .i64 C,.slice (some ⟨g7,0,none⟩) R R]/\Blk wr g7 tR (qN R C bs)∧
  qW (bs.Nodup/\∀t b,bs[t]?=some b->w1.heap.size<=b/\zZ wr b (zU C (G t)))) (fun iv _=>R-(intOf iv).toNat)
 case atStart=>exact⟨0,[],by omega,rfl,rfl,hB3,bx2,br,T6,bR,⟨⟨by simp,fun t b ht=>by simp at ht⟩⟩⟩
 case round=>
  obtain⟨i,bs,hi,rfl,hbl,hb,bx2,br,T6,bR,hH⟩:=hrel;obtain⟨d1,d2,d3,d4,d5,d6⟩:=bx2.three;obtain⟨f1,f2,f3,f4,f5,f6⟩:=T6.three;by_cases hlt:i<R
  ·obtain⟨b1,ra,rn,rc,zs,rfl,hbl1,hz,p1,hv⟩:=h1.row (k:=i) (by rw[HF1.out.1];exact hlt)
   have hzl:=HF1.out.2 zs (xgd hz);have p1:=qD p1 hb;have hv:=hv.below hb;have TS:=xgv (HS.out.times hlt hz);have hgi:qW (zU C (zCf zs M2 m)=zU C (G i)):=⟨zO fun j _=>by rw[<-HG.out];unfold zCf zBP ent;rw[yU hz]⟩;have HZL:=xgv hzl;have l2:=bx2.lt;have l6:=T6.lt;have lR:=bR.lt;have hszr:=hb.size;have hB1s:=hb1.size;have hlast:=zEF wr.heap.size C (zU C (G i));clear hz hzl;go_upto_region 8 with(fail)
   refine zD 7 rfl (RV wr _ [VP 0 38 g8 2,VSl 1 39 g7 R R,VN 2 40 i,E 3 41 (.slice ra rn rc),E 4 42 (.agg #[.int .i64 m,.int .i64 C,.slice bo m bcap]),⟨5,43,zB1 wr.heap.size C (zU C (G i))⟩,VP 6 44 g7 i]) kR RV.start (RV.fin kR ?fin2) ?steps2
   case steps2=>
    refine⟨?_,?_,?_,?_,?_,?_,?_,trivial⟩<;>(intro L T wS hL hd hcl hI K hK;try refine zA rfl ?_)
    ·exact xgs (hI.k 6 rfl kR)
    ·have zt0:=hI.e mm0 (hd 0)
     have cc0:=hI.cell f3;exact xgu
    ·exact xgs (hI.k 7 rfl kR)
    ·exact xgs (hI.k 8 rfl kR)
    ·have zt:=hI.k 3 rfl kR
     have cc0:=hI.cell d1;have cc1:=hI.cell d2;have cc2:=hI.cell d3;exact xgu
    ·have zt3:=hI.e mm3 (hd 3)
     have zt4:=hI.e mm4 (hd 4);go_simp;refine(zHj _ _ zs M2 m C _ (hv.below hI.bel) ((H2.out.below hb).below hI.bel) HZL.out HF2.out hm hC TS.out).mono ?_
     (rintro e wa ⟨v,rfl,⟨g,e1,e2,e3⟩,hba⟩;rw[hgi.out]at e3;have hv:zB1 wr.heap.size C (zU C (G i)) wa v:=⟨g,e1,Nat.le_trans hI.bel.size e2,e3⟩)
     exact hK _ _ ((hI.world hba).y mm5 hv)
    ·exact xgt (hI.e mm1 (hd 1)) (hI.e mm2 (hd 2))
   intro w9 hbw9 T hT;simp only[Fin,E,EI,VP,VSl,VN,xgg,xgh,xgi,xgj]at hT;obtain⟨vb5,hb5,rfl⟩:=hT;simp only[xgl,xgk];obtain⟨g,rfl,hg1,hg2⟩:zB1 wr.heap.size C (zU C (G i)) w9 vb5:=hb5;have bR:=bR.below hbw9;have bx2:=bx2.below hbw9;have br:=br.below hbw9;have T6:=T6.below hbw9;have z1:=bR.frozen i;obtain⟨u,z2⟩:∃u,w9.cell? ⟨g7,i,none⟩=some u:=by
    rw[bR.cell i];exact⟨_,Array.getElem?_eq_getElem (by rw[yY oM];exact hlt)⟩
   have hset:=bR.set_ i (.slice (some ⟨g,0,none⟩) C C);rw[<-hbl,zBQ oM,hbl]at hset;have hx1:=bR.lext dE i (.slice (some ⟨g,0,none⟩) C C);have HG2:=xgv hg2;have HH:=xgv hH.out;have hbrl:=br.lt;have hrow7:∀(t b:Nat),bs[t]?=some b->b≠g7:=fun t b ht=>by
    rintro rfl;obtain⟨cs,q1,-⟩:=((HH.out.2 t b ht).2.below hbw9);have q2:w9.heap[b]?=some (.cells _ tR (0,0)):=bR;rw[q2]at q1;injection q1 with q1
    injection q1 with _ ht
    exact absurd ht dE
   have HR7:=xgv hrow7;clear hg2 p1 d1 d2 d3 d4 d5 d6 f1 f2 f3 f4 f5 f6 hrow7;go_wp2;go_roundw
   case rel=>
    refine⟨i+1,bs++ [g],by omega,by simp,by simp[hbl],qC (nx hb hbw9) oM _ _,(zN _ _ _ _ _ oM).trans bx2,(zN _ _ _ _ _ oM).trans br,(zN _ _ _ _ _ oM).trans T6,hset,⟨⟨?_,?_⟩⟩⟩
    ·rw[List.nodup_append]
     refine⟨HH.out.1,by simp,fun x hx y hy=>?_⟩;simp at hy;subst hy;obtain⟨t,ht,e⟩:=List.getElem_of_mem hx;have:=(HH.out.2 t x (by rw[xga ht,e])).2.lt;omega
    ·intro t b ht
     by_cases e:t=i
     ·subst e
      rw[List.getElem?_append_right oM,hbl]at ht;simp at ht;subst ht;exact⟨by omega,HG2.out.old (zN _ _ _ _ _ oM) hx1⟩
     ·have htl:t<bs.length:=by
       have h5:=(xge.1 ht).1;simp at h5;omega
      rw[List.getElem?_append_left htl]at ht;obtain⟨h6,h7⟩:=HH.out.2 t b ht;exact⟨h6,(h7.below hbw9).old (zN _ _ _ _ _ (HR7.out t b ht)) hx1⟩
   case measure=>simp[intOf];omega
  ·obtain rfl:i=R:=by omega
   have HH:=xgv hH.out;obtain⟨r1,r2,r3,r4,r5,r6⟩:=br.three;have lr:=br.lt;have l6:=T6.lt;go_wp2;refine leaves_cons (f:=129) (args:=#[]) sI (by simp[go_sem]) ?_;refine(zI2 _).mono ?_;rintro e u' w'' ⟨rfl,rfl,rfl⟩;have hx:=br.lext3 dE (.int .i64 i) (.int .i64 C) (.slice (some ⟨g7,0,none⟩) i i);refine⟨_,zCe rfl _ rfl (br.put3 _ _ _) rfl,_,bs,rfl,⟨hbl,_,rfl,?_⟩,qC (qC (qC hb oM 0 _) oM 1 _) oM 2 _⟩;refine zK.ofPart ((yB _ _ _ _ _ _ oM).trans bR) hbl HH.out.1 (fun t b ht=>?_) (by simp[zS]) oM hC hR;obtain⟨h6,h7⟩:=HH.out.2 t b ht;have hti:t<i:=by have:=(xge.1 ht).1;omega
   exact⟨by omega,_,jR i C G hti,by simp,h7.old (yB _ _ _ _ _ _ oM) hx⟩
theorem zJQ{zs ys:List Int}{C:Nat}(h1:zs.length=C)(h2:ys.length=C):(∀j,j<C->decide (zs.getD j 0=ys.getD j 0)=true)↔zs=ys:=by
 refine⟨fun h=>?_,fun h j _=>by rw[h];simp⟩;apply List.ext_getElem
 ·omega
 ·intro j a b
  have:=of_decide_eq_true (h j oM);simpa[xgb,a,b]using this
theorem zHf(v1 v2:Value)(R C:Nat)(M1 M2:List (List Int))(w:World)(h1:yG w v1 R C M1)(h2:yG w v2 R C M2)(hF1:yM R C M1)(hF2:yM R C M2)(hC:C<=1000000):
  Calls Tryz.prog 71 #[v1,v2] w fun e w'=>e= .returned (.bool (decide (M1=M2)))/\Below w.heap.size w w':=by
 have H1:=xgv h1;have H2:=xgv h2;obtain⟨A1,rfl,h1⟩:=h1;obtain⟨A2,rfl,h2⟩:=h2;obtain⟨ao,n,cap,rfl,e2,e3,e4,-⟩:=id h1;obtain⟨bo,q,bcap,rfl,g2,g3,g4,-⟩:=id h2;obtain rfl:R=n:=by rw[<-e2,hF1.1]
 obtain rfl:R=q:=by rw[<-g2,hF2.1]
 obtain⟨ans,hans⟩:∃ans:Bool,decide (M1=M2)=ans:=⟨_,rfl⟩;rw[hans];have HA:=xgv hans;have HF1:=xgv hF1;have HF2:=xgv hF2;have HV1:=xgv hF1.valid;have HV2:=xgv hF2.valid;clear hans hF1 hF2 e2 g2;have hl1:=zDT (.int .i64 R) (.int .i64 C) (.slice ao R cap) (.int .i64 R) (.int .i64 C) (.slice bo R bcap);have hl2:=zBu (.int .i64 R) (.int .i64 C) (.slice ao R cap);have hl4:=zBu (.int .i64 R) (.int .i64 C) (.slice bo R bcap);have hl3:=zCr R C;go_enter Tryz.func71,Tryz.ntmps71;go_upto_region 1 with(fail)
 refine zB ?_;intro W0 hW0;obtain⟨hB0,bx1,bx2,hs0⟩:=qV hW0;obtain⟨c1,c2,c3,c4,c5,c6⟩:=bx1.three;obtain⟨d1,d2,d3,d4,d5,d6⟩:=bx2.three;clear hW0;refine zF rfl (RV W0 _ [E 0 8 (.agg #[.int .i64 R,.int .i64 C,.slice ao R cap]),E 1 9 (.agg #[.int .i64 R,.int .i64 C,.slice bo R bcap]),⟨2,10,zM3 (.int .i64 R) (.int .i64 C) (.slice ao R cap) (.int .i64 R) (.int .i64 C) (.slice bo R bcap)⟩,E 3 11 (.bool true),E 4 12 (.bool false),E 5 13 (.bool false),E 6 14 (.agg #[.int .i64 R,.int .i64 C,.slice ao R cap]),⟨7,15,zMN (.int .i64 R) (.int .i64 C) (.slice ao R cap)⟩,⟨8,16,zBl R C⟩,E 9 17 (.agg #[.int .i64 R,.int .i64 C,.slice bo R bcap]),⟨10,18,zMN (.int .i64 R) (.int .i64 C) (.slice bo R bcap)⟩,⟨11,19,zBl R C⟩,E 12 20 (.bool true),E 13 21 (.bool false),E 14 22 (.bool false)]) kR RV.start (RV.fin kR ?fin1) ?steps1
 case steps1=>
  refine⟨?_,?_,?_,?_,?_,?_,?_,?_,?_,?_,?_,?_,?_,?_,?_,trivial⟩<;>(intro L T wS hL hd hcl hI K hK;try refine zA rfl ?_)
  ·have zt:=hI.k 2 rfl kR
   have cc0:=hI.cell c1;have cc1:=hI.cell c2;have cc2:=hI.cell c3;exact xgu
  ·have zt:=hI.k 3 rfl kR
   have cc0:=hI.cell d1;have cc1:=hI.cell d2;have cc2:=hI.cell d3;exact xgu
  ·have zt0:=hI.e mm0 (hd 0)
   have zt1:=hI.e mm1 (hd 1);go_simp;exact hK _ _ ((hI.world ((Below.refl _ _).alloc (xgf _) _)).y mm2 ⟨_,rfl,Blk.new _ _ _⟩)
  ·obtain⟨v2,zt2,h2⟩:=hI.v mm2 (hd 2)
   obtain⟨g2,rfl,gb2⟩:=h2;go_simp;refine(zJg g2 2 R C R C _ _ M1 M2 _ gb2 (xgf _) oM ((H1.out.below hB0).below hI.bel) ((H2.out.below hB0).below hI.bel) HV1.out HV2.out).mono ?_;rintro e wa ⟨v,rfl,hv,hba⟩;exact hK _ _ ((hI.world hba).y mm3 hv)
  ·exact xgs (hI.e mm3 (hd 3))
  ·exact xgs (hI.e mm4 (hd 4))
  ·have zg:=hI.e mm5 (hd 5)
   refine zA xgp ?_;have zt:=hI.k 2 rfl kR;have cc0:=hI.cell c1;have cc1:=hI.cell c2;have cc2:=hI.cell c3;exact xgu
  ·have zg:=hI.e mm5 (hd 5)
   refine zA xgp ?_;have zt6:=hI.e mm6 (hd 6);go_simp;exact hK _ _ ((hI.world ((Below.refl _ _).alloc (xgf _) _)).y mm7 ⟨_,rfl,Blk.new _ _ _⟩)
  ·have zg:=hI.e mm5 (hd 5)
   refine zA xgp ?_;obtain⟨v7,zt7,h7⟩:=hI.v mm7 (hd 7);obtain⟨g7,rfl,gb7⟩:=h7;go_simp;refine(zCM g7 1 R C _ _ gb7 ⟨_,_,_,rfl⟩ (xgf _) oM).mono ?_;rintro e wa ⟨v,rfl,hv,hba⟩;exact hK _ _ ((hI.world hba).y mm8 hv)
  ·have zg:=hI.e mm5 (hd 5)
   refine zA xgp ?_;have zt:=hI.k 3 rfl kR;have cc0:=hI.cell d1;have cc1:=hI.cell d2;have cc2:=hI.cell d3;exact xgu
  ·have zg:=hI.e mm5 (hd 5)
   refine zA xgp ?_;have zt9:=hI.e mm9 (hd 9);go_simp;exact hK _ _ ((hI.world ((Below.refl _ _).alloc (xgf _) _)).y yD ⟨_,rfl,Blk.new _ _ _⟩)
  ·have zg:=hI.e mm5 (hd 5)
   refine zA xgp ?_;obtain⟨v10,zt10,h10⟩:=hI.v yD (hd 10);obtain⟨g10,rfl,gb10⟩:=h10;go_simp;refine(zCM g10 1 R C _ _ gb10 ⟨_,_,_,rfl⟩ (xgf _) oM).mono ?_;rintro e wa ⟨v,rfl,hv,hba⟩;exact hK _ _ ((hI.world hba).y zAH hv)
  ·have zg:=hI.e mm5 (hd 5)
   refine zA xgp ?_;obtain⟨v8,zt8,h8⟩:=hI.v mm8 (hd 8);obtain⟨v11,zt11,h11⟩:=hI.v zAH (hd 11);go_simp;refine(zER _ _ R C _ h8 h11).mono ?_;rintro e wa ⟨v,rfl,hv,hba⟩;exact hK _ _ ((hI.world hba).y zAb hv)
  ·have zg:=hI.e mm5 (hd 5)
   refine zA xgp ?_;exact xgs (hI.e zAb (hd 12))
  ·exact xgt (hI.e mm5 (hd 5)) (hI.e jK (hd 13))
 intro w1 hbw1 T hT;simp only[Fin,E,EI,VP,VSl,VN,xgg,xgh,xgi,xgj]at hT;obtain⟨va2,ha2,va7,ha7,va8,ha8,va10,ha10,va11,ha11,rfl⟩:=hT;have hBt:=nx hB0 hbw1;have bx1:=bx1.below hbw1;have bx2:=bx2.below hbw1;clear c1 c2 c3 c4 c5 c6 d1 d2 d3 d4 d5 d6 ha2 ha7 ha8 ha10 ha11;obtain⟨c1,c2,c3,c4,c5,c6⟩:=bx1.three;go_wp2;clear c1 c2 c3 c4 c5 c6;go_loopw [26] (fun iv wr=>∃i:Nat,i<=R/\iv= .int .i64 i/\Below w.heap.size w wr/\Blk wr (w.heap.size+1) tM #[.int .i64 R,.int .i64 C,.slice bo R bcap]/\qW (M1.take i=M2.take i)) (fun iv _=>R-(intOf iv).toNat)
 case atStart=>exact⟨0,by omega,rfl,hBt,bx2,⟨by rw[List.take_zero,List.take_zero]⟩⟩
 case round=>
  obtain⟨i,hi,rfl,hb,bx2,hsame⟩:=hrel;obtain⟨d1,d2,d3,d4,d5,d6⟩:=bx2.three;by_cases hlt:i<R
  ·obtain⟨b1,ra,rn,rc,zs,rfl,hbl1,hz,p1,hv⟩:=h1.row (k:=i) (by rw[HF1.out.1];exact hlt)
   obtain⟨b2,sa,sn,sc,ys,rfl,hbl2,hy,q1,hu⟩:=h2.row (k:=i) (by rw[HF2.out.1];exact hlt);have hzl:=HF1.out.2 zs (xgd hz);have hyl:=HF2.out.2 ys (xgd hy);have HZ:=xgv hz;have HY:=xgv hy;have HZL:=xgv hzl;have HYL:=xgv hyl;have p1:=qD p1 hb;have q1:=qD q1 hb;clear hz hy hzl hyl;go_wp2_with fail
   refine(zIP _ _ zs ys C wr (hv.below hb) (hu.below hb) HZL.out HYL.out hC).mono ?_;rintro e w5 ⟨rfl,hbl5,hb5⟩;go_wp2_with fail
   refine(zFK wr.heap.size C C _ w5 hbl5 hC (xgf _) oM).mono ?_;rintro e w6 ⟨rfl,hb6⟩;have hb:=nx (nx hb hb5) hb6;have bx2:=(bx2.below hb5).below hb6;by_cases he:zs=ys
   ·have hd:decide (¬ ∀j,j<C->decide (zs.getD j 0=ys.getD j 0)=true)=false:=decide_eq_false (fun hh=>hh ((zJQ HZL.out HYL.out).2 he))
    have HE:=xgv he;rw[hd];clear hd he p1 q1 d1 d2 d3 d4 d5 d6;go_wp2;go_roundw
    case rel=>exact⟨i+1,by omega,by simp,hb,bx2,⟨zDk hsame.out HZ.out HY.out HE.out⟩⟩
    case measure=>simp[intOf];omega
   ·have hd:decide (¬ ∀j,j<C->decide (zs.getD j 0=ys.getD j 0)=true)=true:=decide_eq_true (fun hh=>he ((zJQ HZL.out HYL.out).1 hh))
    have HE:=xgv he;rw[hd];clear hd he p1 q1 d1 d2 d3 d4 d5 d6;go_wp2;go_ret;refine⟨?_,hb⟩;have h3:ans=false:=by rw[<-HA.out];exact decide_eq_false (zB0 HZ.out HY.out HE.out)
    rw[h3];rfl
  ·obtain rfl:i=R:=by omega
   go_wp2;go_ret;refine⟨?_,hb⟩;have h4:=hsame.out;rw[List.take_of_length_le (by rw[HF1.out.1];omega),List.take_of_length_le (by rw[HF2.out.1];omega)]at h4;have h3:ans=true:=by rw[<-HA.out];exact decide_eq_true h4
   rw[h3];rfl
def zCn(R C:Nat)(F:Nat->Nat->Int)(lo hi:Nat):World->Value->Prop:=fun w v=>∃o c bs,v= .agg #[.int .i64 R,.int .i64 C,.slice o R c]/\Wri w (.slice o R c) R C bs F/\∀b,Zn (.slice o R c) bs b->lo<=b/\b<hi
theorem zCn.below{R C:Nat}{F:Nat->Nat->Int}{lo hi:Nat}{w w':World}{v:Value}(h:zCn R C F lo hi w v)(hb:Below w.heap.size w w'):zCn R C F lo hi w' v:=by
 obtain⟨o,c,bs,h1,h2,h3⟩:=h;exact⟨o,c,bs,h1,h2.below hb,h3⟩
theorem zAd.within{w w':World}{R C:Nat}{F:Nat->Nat->Int}{e:Ending}(h:zAd w R C (zS R C F) e w'):∃v,e= .returned v/\zCn R C F w.heap.size w'.heap.size w' v/\Below w.heap.size w w':=by
 obtain⟨v,bs,rfl,⟨hl,A',rfl,ho⟩,hb⟩:=h;have hw:Wri w' A' R C bs F:=ho.mono (Nat.zero_le _);obtain⟨o,c,rfl⟩:=hw.shape;exact⟨_,rfl,⟨o,c,bs,rfl,hw,fun b hz=>⟨ho.fresh hz,hw.zlt hz⟩⟩,hb⟩
structure MS where
 op:Nat
 slot:Nat
 R:Nat
 C:Nat
 F:Nat->Nat->Int
def zHF(N:Nat)(vs:List VS)(ms:List MS):Bool:=decide ((vs.map (·.slot))++(ms.map (·.slot))).Nodup && decide ((vs.map (·.op))++(ms.map (·.op))).Nodup && ((vs.map (·.slot))++(ms.map (·.slot))).all (fun s=>decide (s<N))
theorem zCt{α:Type}{xs ys:List α}(h:(xs++ys).Nodup){a b:α}(ha:a∈xs)(hb:b∈ys):a≠b:=(List.nodup_append.1 h).2.2 a ha b hb
structure RG(W:World)(T0:Array Value)(vs:List VS)(ms:List MS)(L:Array Bool)(T:Array Value)(w:World):Prop where
 wf:zHF T0.size vs ms=true
 lv:∀s∈vs,qQ s.P
 size:T.size=T0.size
 keep:∀j,(∀s∈vs,s.slot≠j)->(∀m∈ms,m.slot≠j)->T[j]?=T0[j]?
 bel:Below W.heap.size W w
 val:∀s∈vs,L[s.op]?=some true->∃v,T[s.slot]?=some v/\s.P w v
 gh:∃bot top:Nat->Nat,(∀m∈ms,L[m.op]?=some true->W.heap.size<=bot m.op/\top m.op<=w.heap.size/\∃v,T[m.slot]?=some v/\zCn m.R m.C m.F (bot m.op) (top m.op) w v)∧
  ∀m∈ms,∀m'∈ms,m.op<m'.op->L[m.op]?=some true->L[m'.op]?=some true->top m.op<=bot m'.op
section
variable {W:World} {T0:Array Value} {vs:List VS} {ms:List MS} {L:Array Bool} {T:Array Value} {w w':World}
theorem RG.parts(h:RG W T0 vs ms L T w):(vs.map (·.slot)).Nodup/\(vs.map (·.op)).Nodup/\(ms.map (·.slot)).Nodup/\(ms.map (·.op)).Nodup/\(∀s∈vs,∀m∈ms,s.slot≠m.slot/\s.op≠m.op)/\(∀s∈vs,s.slot<T0.size)/\(∀m∈ms,m.slot<T0.size):=by
 have hwf:=h.wf;unfold zHF at hwf;simp only[Bool.and_eq_true,decide_eq_true_eq,List.all_eq_true]at hwf;obtain⟨⟨w1,w2⟩,w3⟩:=hwf;refine⟨(List.nodup_append.1 w1).1,(List.nodup_append.1 w2).1,(List.nodup_append.1 w1).2.1,(List.nodup_append.1 w2).2.1,fun s hs m hm=>⟨zCt w1 (List.mem_map.2 ⟨s,hs,rfl⟩) (List.mem_map.2 ⟨m,hm,rfl⟩),zCt w2 (List.mem_map.2 ⟨s,hs,rfl⟩) (List.mem_map.2 ⟨m,hm,rfl⟩)⟩,
  fun s hs=>w3 _ (List.mem_append.2 (.inl (List.mem_map.2 ⟨s,hs,rfl⟩))),fun m hm=>w3 _ (List.mem_append.2 (.inr (List.mem_map.2 ⟨m,hm,rfl⟩)))⟩
theorem RG.start(hwf:zHF T0.size vs ms=true:=by kernel_rfl)(hv:∀s∈vs,qQ s.P:=by repeat' (first|exact zAu _|exact zBO _|exact zBa _ _ _|exact jZ _|assumption|refine xgm.2 ⟨?_,?_⟩|exact xgn _)){n:Nat}:RG W T0 vs ms (Array.replicate n false) T0 W.drew:=by
 have hf:∀k:Nat,(Array.replicate n false)[k]?≠some true:=by
  intro k h;rw[Array.getElem?_replicate]at h;split at h<;>simp at h
 exact⟨hwf,hv,rfl,fun _ _ _=>rfl,dr _,fun s _ h=>absurd h (hf _),fun _=>0,fun _=>0,fun m _ h=>absurd h (hf _),fun m _ m' _ _ h=>absurd h (hf _)⟩
theorem RG.world(h:RG W T0 vs ms L T w)(hb:Below w.heap.size w w'):RG W T0 vs ms L T w':=by
 obtain⟨bot,top,g1,g2⟩:=h.gh;refine⟨h.wf,h.lv,h.size,h.keep,nx h.bel hb,fun s hs hl=>by
  obtain⟨v,h1,h2⟩:=h.val s hs hl;exact⟨v,h1,h.lv s hs _ _ _ hb h2⟩,bot,top,fun m hm hl=>?_,g2⟩
 obtain⟨e1,e2,v,e3,e4⟩:=g1 m hm hl;exact⟨e1,Nat.le_trans e2 hb.size,v,e3,e4.below hb⟩
theorem RG.value{k:Nat}{v:Value}(h:RG W T0 vs ms L T w)(s:VS)(hs:s∈vs)(hk:s.op=k)(hP:s.P w v):RG W T0 vs ms (L.setIfInBounds k true) (T.setIfInBounds s.slot v) w:=by
 subst hk;obtain⟨p1,p2,p3,p4,p5,p6,p7⟩:=h.parts;obtain⟨bot,top,g1,g2⟩:=h.gh;have hm':∀m∈ms,(L.setIfInBounds s.op true)[m.op]?=some true->L[m.op]?=some true:=fun m hm hl=>zH hl (p5 s hs m hm).2
 refine⟨h.wf,h.lv,by simp[h.size],fun j h1 h2=>by rw[xgc (h1 s hs)];exact h.keep j h1 h2,h.bel,?_,bot,top,fun m hm hl=>?_,fun m hm m' hm2 hlt l1 l2=>g2 m hm m' hm2 hlt (hm' m hm l1) (hm' m' hm2 l2)⟩
 ·intro t ht hl
  by_cases he:t=s
  ·subst he
   exact⟨v,by rw[Array.getElem?_setIfInBounds_self_of_lt (by rw[h.size];exact p6 _ hs)],hP⟩
  ·have n1:t.op≠s.op:=fun e=>he (zL p2 ht hs e)
   have n2:t.slot≠s.slot:=fun e=>he (zL p1 ht hs e)
   obtain⟨u,h1,h2⟩:=h.val t ht (zH hl (Ne.symm n1));exact⟨u,by rw[xgc (Ne.symm n2)];exact h1,h2⟩
 ·obtain⟨e1,e2,u,e3,e4⟩:=g1 m hm (hm' m hm hl)
  exact⟨e1,e2,u,by rw[xgc (p5 s hs m hm).1];exact e3,e4⟩
theorem RG.v{s:VS}(h:RG W T0 vs ms L T w)(hs:s∈vs)(hl:L[s.op]?=some true):∃v,T[s.slot]?=some v/\s.P w v:=h.val s hs hl
theorem RG.y{k:Nat}{v:Value}(h:RG W T0 vs ms L T w){s:VS}(hs:s∈vs)(hP:s.P w v)(hk:s.op=k:=by rfl):RG W T0 vs ms (L.setIfInBounds k true) (T.setIfInBounds s.slot v) w:=h.value s hs hk hP
theorem RG.mat{ops:Array Oper}{k:Nat}{v:Value}(h:RG W T0 vs ms L T w)(hcl:jM ops L)(hL:L[k]?=some false)(m:MS)(hm:m∈ms)(hk:m.op=k)(hb:Below w.heap.size w w')(hw:zCn m.R m.C m.F w.heap.size w'.heap.size w' v)
  (hlt:(ms.all fun m'=>!decide (k<m'.op)||zDx ops 9 m'.op k)=true):RG W T0 vs ms (L.setIfInBounds k true) (T.setIfInBounds m.slot v) w':=by
 subst hk;have h':=h.world hb;obtain⟨p1,p2,p3,p4,p5,p6,p7⟩:=h.parts;obtain⟨bot,top,g1,g2⟩:=h.gh;have hno:∀m'∈ms,m.op<m'.op->L[m'.op]?≠some true:=fun m' hm' hlt' hh=>by
  have h3:=List.all_eq_true.1 hlt m' hm';simp only[hlt',decide_true,Bool.not_true,Bool.false_or]at h3;have:=zAy hcl h3 hh;rw[hL]at this;cases this
 have hold:∀m'∈ms,m'≠m->(L.setIfInBounds m.op true)[m'.op]?=some true->L[m'.op]?=some true:=fun m' hm' hne hl=>zH hl (fun e=>hne (zL p4 hm' hm e.symm))
 refine⟨h.wf,h.lv,by simp[h.size],fun j h1 h2=>by rw[xgc (h2 m hm)];exact h.keep j h1 h2,h'.bel,?_,fun i=>if i=m.op then w.heap.size else bot i,fun i=>if i=m.op then w'.heap.size else top i,fun m' hm' hl=>?_,fun a ha b hb' hlt' l1 l2=>?_⟩
 ·intro t ht hl
  obtain⟨u,h1,h2⟩:=h'.val t ht (zH hl (Ne.symm (p5 t ht m hm).2));exact⟨u,by rw[xgc (Ne.symm (p5 t ht m hm).1)];exact h1,h2⟩
 ·by_cases he:m'=m
  ·subst he
   simp only[if_true];exact⟨h.bel.size,xgf _,v,by rw[Array.getElem?_setIfInBounds_self_of_lt (by rw[h.size];exact p7 _ hm)],hw⟩
  ·have n1:m'.op≠m.op:=fun e=>he (zL p4 hm' hm e)
   have n2:m'.slot≠m.slot:=fun e=>he (zL p3 hm' hm e)
   simp only[if_neg n1];obtain⟨e1,e2,u,e3,e4⟩:=g1 m' hm' (hold m' hm' he hl);exact⟨e1,Nat.le_trans e2 hb.size,u,by rw[xgc (Ne.symm n2)];exact e3,e4.below hb⟩
 ·by_cases hb2:b=m
  ·subst hb2
   by_cases ha2:a=b
   ·subst ha2;omega
   ·have n1:a.op≠b.op:=fun e=>ha2 (zL p4 ha hm e)
    simp only[if_true,if_neg n1];exact(g1 a ha (hold a ha ha2 l1)).2.1
  ·by_cases ha2:a=m
   ·subst ha2
    exact absurd (hold b hb' hb2 l2) (hno b hb' hlt')
   ·have n1:a.op≠m.op:=fun e=>ha2 (zL p4 ha hm e)
    have n2:b.op≠m.op:=fun e=>hb2 (zL p4 hb' hm e)
    simp only[if_neg n1,if_neg n2];exact g2 a ha b hb' hlt' (hold a ha ha2 l1) (hold b hb' hb2 l2)
theorem RG.cell{b o:Nat}{v:Value}(h:RG W T0 vs ms L T w)(hc:W.cell? ⟨b,o,none⟩=some v):w.cell? ⟨b,o,none⟩=some v:=qD hc h.bel
theorem RG.matv(h:RG W T0 vs ms L T w)(m:MS)(hm:m∈ms)(hl:L[m.op]?=some true):∃v,T[m.slot]?=some v/\∃o c,v= .agg #[.int .i64 m.R,.int .i64 m.C,.slice o m.R c]:=by
 obtain⟨bot,top,g1,g2⟩:=h.gh;obtain⟨e1,e2,v,e3,o,c,bs,e4,-⟩:=g1 m hm hl;exact⟨v,e3,o,c,e4⟩
end
structure zNi(n0 R C Cu Cw:Nat)(z:W5)(w:World)(v:Value):Prop where
 ex:∃so sc uo uc vo vc wo wc xo xc bS bU bV bW bX,v= .agg #[.int .i64 R,.int .i64 C,.slice so R sc,.int .i64 R,.int .i64 Cu,.slice uo R uc,.int .i64 R,.int .i64 Cu,.slice vo R vc,.int .i64 C,.int .i64 Cw,.slice wo C wc,.int .i64 C,.int .i64 Cw,.slice xo C xc]∧
  Wri w (.slice so R sc) R C bS z.s/\Wri w (.slice uo R uc) R Cu bU z.u/\Wri w (.slice vo R vc) R Cu bV z.v/\Wri w (.slice wo C wc) C Cw bW z.w/\Wri w (.slice xo C xc) C Cw bX z.x∧
  (∀b,Zn (.slice so R sc) bS b∨Zn (.slice uo R uc) bU b∨Zn (.slice vo R vc) bV b∨Zn (.slice wo C wc) bW b∨Zn (.slice xo C xc) bX b->n0<=b)∧
  Ap (.slice so R sc) bS (.slice uo R uc) bU/\Ap (.slice so R sc) bS (.slice vo R vc) bV/\Ap (.slice so R sc) bS (.slice wo C wc) bW/\Ap (.slice so R sc) bS (.slice xo C xc) bX/\Ap (.slice uo R uc) bU (.slice vo R vc) bV∧
  Ap (.slice uo R uc) bU (.slice wo C wc) bW/\Ap (.slice uo R uc) bU (.slice xo C xc) bX/\Ap (.slice vo R vc) bV (.slice wo C wc) bW/\Ap (.slice vo R vc) bV (.slice xo C xc) bX/\Ap (.slice wo C wc) bW (.slice xo C xc) bX
theorem zBV{A A':Value}{bs bs':List Nat}{a b c d:Nat}(h:∀x,Zn A bs x->a<=x/\x<b)(h':∀x,Zn A' bs' x->c<=x/\x<d)(hbc:b<=c):Ap A bs A' bs':=fun x h1 h2=>by
 have:=h x h1;have:=h' x h2;omega
end Go.Proofs.YtgnmdddaiefooaaGreat
