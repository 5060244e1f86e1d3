/- Joined. -/
import Derived.Test.YtkidaebmhlijlaaGreatD27
import Derived.Test.YtkidaebmhlijlaaGreatD28
set_option linter.unusedVariables false
set_option linter.unusedSimpArgs false
set_option linter.unusedSectionVars false
set_option maxHeartbeats 16000000
set_option maxRecDepth 100000
variable{L L' L1 L1' L2 L2':(Nat->Int)->Prop}{cs:Array Go.Value}{a1 ans:Bool}{a b z:Int}{M N:List (List Int)}{ts zs:List Int}{C R base e e' f h k m r r1 r2:Nat}{x:Nat->Int}{c c':Nat->Nat}{A B F G P Q:Nat->Nat->Int}{t:Go.TypeId}{v:Go.Value}{W w w':Go.World}
namespace Go.Proofs.YtkidaebmhlijlaaGreat
open Go.RowKit
abbrev tGr:TypeId:=48
theorem Tryz.sizeGr:(Tryz.prog.info? tGr).map (·.size)=some 2:=by kernel_rfl
theorem zQ5{v:Array Value}(hb:Blk W r tGr v)(h2:v.size=2):(loadVar tGr ⟨r,0,none⟩).run Tryz.prog W= .ok (.agg v) W:=
 run_loadVar_row W r _ _ v _ _ hb Tryz.underlying48 rfl (by rw[Tryz.sizeGr,h2])
theorem zK4{fn:Func}{p u:Tmp}(h:fn.results=#[.cell p tGr,.tmp u])(tmps:Array Value){W:World}{r:Nat}{v:Array Value}
  (hp:tmps.getD p undef=ptq r 0) (hb:Blk W r tGr v) (h2:v.size=2):
  (results fn tmps).run Tryz.prog W= .ok (.tuple #[.agg v,tmps.getD u undef]) W:=by
 have hp':tmps[p]?.getD undef=ptq r 0:=by simpa using hp
 simp[results,h,hp',asAddr,zQ5 hb h2]
theorem zQ6{v:Array Value}(hb:Blk W r tI v)(h2:v.size=2):(loadVar tI ⟨r,0,none⟩).run Tryz.prog W= .ok (.agg v) W:=
 run_loadVar_row W r _ _ v _ _ hb zC3 rfl (by rw[zFP,h2])
theorem zIL{fn:Func}{p u:Tmp}(h:fn.results=#[.cell p tI,.tmp u])(tmps:Array Value){W:World}{r:Nat}{v:Array Value}
  (hp:tmps.getD p undef=ptq r 0) (hb:Blk W r tI v) (h2:v.size=2):
  (results fn tmps).run Tryz.prog W= .ok (.tuple #[.agg v,tmps.getD u undef]) W:=by
 have hp':tmps[p]?.getD undef=ptq r 0:=by simpa using hp
 simp[results,h,hp',asAddr,zQ6 hb h2]
theorem zVr(n:Nat)(F:Nat->Int):(zIv n F).length<=n:=by
 have h:=zCH (fun z=>decide (1<z)) (qZ n F);rw[qA]at h;exact h
theorem zAv.keepB{ao:Option Addr}{n cap:Nat}(h:zAv w (.slice ao n cap) zs)(e:∀b,ao=some ⟨b,0,none⟩->w'.heap[b]?=w.heap[b]?)(x:zBw w w'):zAv w' (.slice ao n cap) zs:=by
 obtain⟨ao',n',cap',h1,h2,h3,h4,h5⟩:=h;cases h1;exact⟨_,_,_,rfl,h2,h3,h4,fun hn=>(h5 hn).elim fun b h=>⟨b,h.1,h.2.old (e b h.1) x⟩⟩
theorem zEH.ltq(h:zEH w base v zs):∀g,v.ownBlock=some g->g<w.heap.size:=fun g hg=>by
 obtain⟨cells,h1,-⟩:=h;exact(h1.lt g hg).2
theorem zEH.set1(h:zEH w base v zs)(hr:r<base)(hb:Blk w r t cs)(ht:t≠tU)(k:Nat)(x:Value):zEH (w.setCell ⟨r,k,none⟩ x) base v zs:=by
 have hx:=hb.lext ht k x;obtain⟨cells,h1,h2⟩:=h;refine⟨cells,ownsRow_setCell_below h1 (a:=⟨r,k,none⟩) hr x,fun k z hk=>?_⟩;obtain⟨s,a,l,c,e1,e2,e3⟩:=h2 k z hk;exact⟨s,a,l,c,e1,e2,e3.ext hx⟩
def zL6(C:Nat)(L1 L2:(Nat->Int)->Prop)(b:Int)(ts:List Int):Prop:=∃(m k r:Nat) (P Q K F:Nat->Nat->Int),HB C m P L1/\HB C k Q L2/\(∀i,i<k->∀b,b<C->Q i b=zT m fun t=>K i t*P t b)/\Inv k m r K F/\b=(m:Int)-k/\ts=zIv r fun i=>F i i
def zUT(C:Nat)(L1 L2:(Nat->Int)->Prop)(z:Int):Prop:=∃(m:Nat) (c c':Nat->Nat) (P Q:Nat->Nat->Int),HB C m P L1/\HB C m Q L2/\Ech C m c P/\Ech C m c' Q/\z*zRZ m c P=zRZ m c' Q
def zXs(P:Int->List Int->Prop)(w:World)(v:Value):Prop:=∃(b:Int) (ts:List Int) (o:Option Addr) (n c:Nat),v= .agg #[niq b,.slice o n c]/\zAv w (.slice o n c) ts/\P b ts
def zZt(a1:Bool)(P:Int->List Int->Prop)(w:World)(v:Value)(k:Int):Prop:=(a1=false/\k=160/\v= .agg #[niq 0,.slice none 0 0])∨(a1=true/\k=0/\zXs P w v)
def zZq(a1 a2:Bool)(P:Int->Prop)(w:World)(v:Value)(k:Int):Prop:=(a1=false/\k=160/\v= .agg #[.bool false,.slice none 0 0])∨(a1=true/\a2=false/\k=170/\v= .agg #[.bool false,.slice none 0 0])∨(a1=true/\a2=true/\k=0/\∃z,jY w v z/\P z)
theorem zQT(P:Int->List Int->Prop):zAK (zXs P):=fun _ _ _ e ⟨b,ts,o,n,c,h1,h2,h3⟩=>⟨b,ts,o,n,c,h1,h2.below e,h3⟩
theorem zKU(hH:Hnf C m m c (ent M))(hs:∀i,i<k->qG m C (ent M) (ent N i)):∀i,i<k->∀b,b<C->ent N i b=zT m fun t=>zEp C M N i t*ent M t b:=
 fun i hi b hb=>zM5 ((zM7 hH _).2 (hs i hi) b hb)
theorem zPp(h1:HB C m P L1)(h2:HB C k Q L2):(∀i,i<k->qG m C (ent (genM m C P)) (ent (genM k C Q) i))↔∀x,L2 x->L1 x:=by
 have e1:∀x,qG m C (ent (genM m C P)) x↔L1 x:=fun x=>(qG.congr (fun a ha b hb=>yR ha hb) x).trans (h1.iff x).symm
 have e2:∀x,qG k C (ent (genM k C Q)) x↔L2 x:=fun x=>(qG.congr (fun a ha b hb=>yR ha hb) x).trans (h2.iff x).symm
 exact⟨fun h x hx=>(e1 x).1 (qG.sub h ((e2 x).2 hx)),fun h i hi=>(e1 _).2 (h _ ((e2 _).1 (qG.row _ hi)))⟩
theorem zV9(h:z.natAbs<=24*SW^4):Smd z:=by
 refine⟨zK h (zJ (m:=2^500) ?_ (zGe (by rw[zEV];omega)))⟩;rw[zNh];decide+kernel
theorem Inv.sizes(hI:Inv R C r A F)(hR:R<=4)(hA:leM SW R C A):(∀i,i<r->Smd (F i i))/\∀i,i<=r->Smd (jB i fun i=>F i i):=by
 have h1:=hI.small hR zGr hA;have hp:∀i,i<r->0<F i i:=fun i hi=>hI.dg.pos i hi
 have h2:0<jB r fun i=>F i i:=zAI hp
 refine⟨fun i hi=>zV9 ?_,fun i hi=>zV9 ?_⟩
 ·have h3:=zOY (f:=fun i=>F i i) hp hi
  have h4:=hp i hi;omega
 have h3:=zKz (f:=fun i=>F i i) hp i hi;have h4:0<jB i fun i=>F i i:=zAI fun j hj=>hp j oM
 omega
theorem zYa{K:Nat->Nat->Int}(h1:HB C m P L1)(h2:HB C m Q L2)(hK:∀i,i<m->∀b,b<C->Q i b=zT m fun t=>K i t*P t b)(hI:Inv m m r K F):zUT C L1 L2 (jB r fun i=>F i i):=by
 obtain⟨c,hc⟩:=h1.hnf;obtain⟨c',hc'⟩:=h2.hnf;have h3:=zR5 hc.ech hc'.ech hK;have v1:=zUG hc.ech;have v2:=zUG hc'.ech;have hd:0<det m K:=by
  rcases zCo 0 (det m K)with h|h
  exact h;have:=Int.mul_nonpos_of_nonpos_of_nonneg h (zBa v1);omega
 obtain⟨-,h4⟩:=zXF hI hd;exact⟨m,c,c',P,Q,h1,h2,hc.ech,hc'.ech,by rw[h4];exact h3⟩
theorem zSw(v1 v2:Value)(R Q C ha hb e:Nat)(M N:List (List Int))(w:World)(h1:zAC w v1 R C M)(h2:zAC w v2 Q C N)(hF1:zBU R C M)(hF2:zBU Q C N)(hC:C<=3)(h1h:1<=ha)(he:2*ha<=2^e)(heb:hb<=2^e)(he2:e<=2000)(hsw:8*hb<=SW)
  (k1:∀(v:Value) (w:World),zAC w v R C M->CPq 59 #[v] w fun e w'=>∃v,e= .returned v/\zIW R C (ent M) w' v/\BWq w w')
  (k2:∀(v:Value) (w:World),zAC w v Q C N->CPq 59 #[v] w fun e w'=>∃v,e= .returned v/\zIW Q C (ent N) w' v/\BWq w w')
  (hb1:∀r c G,zJI R C r c (ent M) G->leM ha r C G) (hb2:∀r c G,zJI Q C r c (ent N) G->leM hb r C G) {a1:Bool} (ha1:a1=true↔∀x,qG Q C (ent N) x->qG R C (ent M) x):
  CPq 22 #[v1,v2] w fun e w'=>∃v k,e= .returned (.tuple #[v,.int .i64 k])/\zZt a1 (zL6 C (qG R C (ent M)) (qG Q C (ent N))) w' v k/\BWq w w':=by
 have hmf:∀(fn:Fn) (first cap:Array Value) (w:World),(Instr.makeFunc fn first cap).run Tryz.prog w= .ok (.func fn first cap) w:=fun _ _ _ _=>rfl
 have H1:=xgv h1;have H2:=xgv h2;obtain⟨A1,rfl,h1⟩:=h1;obtain⟨A2,rfl,h2⟩:=h2;have HF1:=xgv hF1;have HF2:=xgv hF2;have K1:=xgv k1;have K2:=xgv k2;have HB1:=xgv hb1;have HB2:=xgv hb2;have HSW:=xgv hsw;have HSUB:=xgv ha1;have HE1:jZ (2*ha<=2^e):=⟨he⟩;have HE2:jZ (hb<=2^e):=⟨heb⟩;have HAA:jZ (((C:Int)==(C:Int))=true):=⟨by simp⟩;clear h1 h2 hF1 hF2 k1 hb1 hb2 hsw ha1 he heb;go_enter Tryz.func22,Tryz.ntmps22;go_upto_region 1 with(fail)
 refine zD ?_;intro W0 hW0;obtain⟨hB0,bx1,bx2,br,hs0⟩:=zBk hW0;have c1:=bx1.three;obtain⟨d1,d2,d3,d4,d5,d6⟩:=bx2.three;clear hW0;go_wp2_with fail
 refine(zFT _ _ _ _ _ _ W0).mono ?_;rintro e0 w1 ⟨rfl,k1,k2,hb1⟩;have hB:=nx hB0 hb1;have bx1:=bx1.below hb1;have bx2:=bx2.below hb1;have br:=br.below hb1;clear c1 d1 d2 d3 d4 d5 d6;go_wp2_with fail
 refine(zDP (.inl rfl) _ _ 1 50 _ (qX _ _ _) (ans:=true) (k:=0) rfl (fun W hW=>zEX _ _ R C Q C _ _ M N W (((H1.out.below hB).below ((zA _ _).alloc (xgf _) _)).below hW) HF1.out (((H2.out.below hB).below ((zA _ _).alloc (xgf _) _)).below hW) HF2.out ((k1.below ((zA _ _).alloc (xgf _) _)).below hW) ((k2.below ((zA _ _).alloc (xgf _) _)).below hW) HAA.out)).mono ?_;rintro e0 w2 ⟨v,rfl,rfl,hb2⟩;have hb02:BWq w1 w2:=nx ((zA _ _).alloc (xgf _) _) hb2;have hB:=nx hB hb02;have bx1:=bx1.below hb02;have bx2:=bx2.below hb02;have br:=br.below hb02;clear k1 k2;have c1:=bx1.three;obtain⟨d1,d2,d3,d4,d5,d6⟩:=bx2.three;go_wp2_with fail
 refine(zGZ _ _ R C Q C M N w2 (H1.out.below hB) (H2.out.below hB) K1.out K2.out).mono ?_;rintro e3 w3 ⟨m,o1,n1,k1,k,o2,n2,k2,rfl,hm1,hm2,hb3⟩;obtain⟨κ1,G1,l1,m1⟩:=hm1.same;obtain⟨κ2,G2,l2,m2⟩:=hm2.same;have hB:=nx hB hb3;have br:=br.below hb3;have hm3:m<=3:=zB l1.hb.le_cols hC;have hk3:k<=3:=zB l2.hb.le_cols hC;have HG1:=xgv (HB1.out _ _ _ l1);have HG2:=xgv (HB2.out _ _ _ l2);obtain⟨P,hP⟩:∃P,genM m C G1=P:=⟨_,rfl⟩;obtain⟨U,hU⟩:∃U,genM k C G2=U:=⟨_,rfl⟩;have HNW:jZ (HNw m C e P):=⟨by
  rw[<-hP];have:=HE1.out;exact⟨yW _ _ _,⟨m,κ1,l1.hnf.self.genM⟩,fun a ha b hb=>by rw[yR ha hb];have:=HG1.out a ha b hb;omega⟩⟩
 have HFP:jZ (zBU m C P):=⟨by rw[<-hP];exact yW _ _ _⟩;have HFU:jZ (zBU k C U):=⟨by rw[<-hU];exact yW _ _ _⟩;have HLU:jZ (leM hb k C (ent U)):=⟨fun a ha b hb=>by rw[<-hU,yR ha hb];exact HG2.out a ha b hb⟩;have HSA:jZ (a1=true↔∀i,i<k->qG m C (ent P) (ent U i)):=⟨by rw[<-hP,<-hU];exact HSUB.out.trans (zPp l1.hb l2.hb).symm⟩;have HH:jZ (∃c,Hnf C m m c (ent P)):=⟨by rw[<-hP];exact⟨_,l1.hnf.self.genM⟩⟩;rw[hP]at m1;rw[hU]at m2;have HP:=xgv hP;have HU:=xgv hU;have M1:=xgv m1;have M2:=xgv m2;have L1:=xgv l1.hb;have L2:=xgv l2.hb;clear c1 d1 d2 d3 d4 d5 d6 bx1 bx2 m1 m2 l1 l2 hm1 hm2 hP hU;go_upto_region 5 with(fail)
 refine zD ?_;intro W5 hW5;obtain⟨hB5,T7,hs5⟩:=qL hW5;have hB:=nx hB hB5;have br:=br.below hB5;have M1:=xgv (M1.out.below hB5);have M2:=xgv (M2.out.below hB5);clear hW5;have hmk:0<=3:=oM;go_wp2_with fail
 refine(zDP (.inr rfl) _ _ 1 160 _ (qX _ _ _) (ans:=a1) (k:=if a1=true then 0 else 160) rfl (fun W hW=>zTS _ _ _ _ _ _ _ W ((T7.below ((zA _ _).alloc (xgf _) _)).below hW) (zHL _ _ U P W ((M2.out.below ((zA _ _).alloc (xgf _) _)).below hW) HFU.out ((M1.out.below ((zA _ _).alloc (xgf _) _)).below hW) HNW.out oM oM oM oM HE2.out HLU.out HSA.out))).mono ?_;rintro e6 w6 ⟨v,rfl,rfl,hb6⟩;have hb56:BWq W5 w6:=nx ((zA _ _).alloc (xgf _) _) hb6;have hB:=nx hB hb56;have br:=br.below hb56;have hsz6:=hB.size;have lbr6:=br.lt;have T7:=T7.below hb56;have M1:=xgv (M1.out.below hb56);have M2:=xgv (M2.out.below hb56);cases a1 with
 |false=>
  have r1:=br.two;go_wp2;refine bodyPost_ret (zK4 rfl _ rfl (br.put2 _ _) rfl) rfl ⟨_,_,rfl,.inl ⟨rfl,rfl,rfl⟩,yJ (yJ hB oM 0 _) oM 1 _⟩
 | true=>
  have hsub:IntKind.i64.wrap ((m:Int)-(k:Int))=(m:Int)-k:=qU _ oM;have hspan:=HSA.out.1 rfl;have HKS:jZ (∀i,i<k->∀b,b<C->ent U i b=zT m fun t=>zEp C P U i t*ent P t b):=⟨by
   obtain⟨c,hc⟩:=HH.out;exact zKU hc hspan⟩
  have HCW:jZ (leM SW k m (ent (genM k m (zEp C P U)))):=⟨by
   obtain⟨c,hc⟩:=HH.out;exact zNu ((zMV hc oM HLU.out HKS.out).mono HSW.out)⟩
  clear hspan;have t1:=T7.six;go_upto_region 9 with(fail)
  refine zD ?_;intro W9 hW9;obtain⟨hB9,T9,hs9⟩:=qL hW9;try rw[hsub]at T9
  have hB:=nx hB hB9;have br:=br.below hB9;have T7:=T7.below hB9;have M1:=xgv (M1.out.below hB9);have M2:=xgv (M2.out.below hB9);clear hW9 t1 hsub;go_wp2_with fail
  refine(zGz 1 W9 oM oM).mono ?_;rintro e10 w10 ⟨u,rfl,hu,hb10⟩;obtain⟨un,ua,ul,uc,ux,rfl,hu'⟩:=id hu;have HU':=xgw hu';have hB:=nx hB hb10;have br:=br.below hb10;have T7:=T7.below hb10;have T9:=T9.below hb10;have M1:=xgv (M1.out.below hb10);have M2:=xgv (M2.out.below hb10);have lt9:=T9.lt;have ltb:=br.lt;clear hu';go_upto_region 10 with(fail)
  refine zD ?_;intro W11 hW11;obtain⟨hB11,T10,hs11⟩:=qL hW11;have hB:=nx hB hB11;have br:=br.below hB11;have T7:=T7.below hB11;have T9:=T9.below hB11;have M1:=xgv (M1.out.below hB11);have M2:=xgv (M2.out.below hB11);have O10:=zCQ.mk T10 (hu.ext (lx hB11));have lt10:=T10.lt;clear hW11 hu T10;have t1:=T7.six;go_wp2_with fail
  refine(zMU o1 _ _ o2 _ _ P U W11 M1.out HNW.out M2.out HFU.out oM oM oM oM HE2.out HLU.out).mono ?_;rintro e12 w12 ⟨u12,rfl,hcm,hb12⟩;go_wp2_with fail
  refine(zPL _ _ k m w12 hcm (yW _ _ _) oM oM HCW.out).mono ?_;rintro e13 w13 ⟨v13,F,r,rfl,hinv,hv,hb13⟩;have HV:=xgv hv.vec;have hvo:=hv.own;have hvg:=hv.ltq;obtain⟨mo,mn,mk,rfl,hml,hmk1,hmk2,-⟩:=id hv.vec;obtain rfl:r=mn:=by rw[<-hml,qA]
  have HMB:jZ (∀b,mo=some ⟨b,0,none⟩->w12.heap.size<=b/\b<w13.heap.size):=⟨fun b hb=>by
   subst hb;exact⟨hvo b rfl,hvg b rfl⟩⟩
  have HIN:=xgv hinv;have hs13:=hb13.size;have hrk:r<=min k m:=hinv.dg.le;have HSZ:=xgv (hinv.sizes oM HCW.out);have hB:=nx (nx hB hb12) hb13;clear hcm hv hml hinv hvo hvg;have T9:=(T9.below hb12).below hb13;have O10:=(O10.below hb12).below hb13;have br:=(br.below hb12).below hb13;have hs12:=hb12.size;clear t1 T7 M1 M2;go_wp2;go_loopw [46] (fun iv wr=>∃i:Nat,i<=r/\iv= .int .i64 i/\BWq w wr/\w13.heap.size<=wr.heap.size/\zAv wr (.slice mo r mk) (qZ r fun i=>F i i)/\Blk wr (w.heap.size+1+1) tGr #[.int .i64 0,.slice none 0 0]/\zCQ wr w10.heap.size 1∧
   ∃o n c,Blk wr w6.heap.size tGr #[.int .i64 ((m:Int)-k),.slice o n c]/\zEH wr w13.heap.size (.slice o n c) (zIv i fun i=>F i i)) (fun iv _=>r-(intOf iv).toNat)
  case atStart=>exact⟨0,oM,rfl,hB,xgf _,HV.out,br,O10,_,_,_,T9,zEH.nil _ _⟩
  obtain⟨i,hi,rfl,hB,hI9,hV,br,O10,o,n,c,T9,ho⟩:=hrel;by_cases hlt:i<r
  ·obtain⟨b',z,sn,sa,sl,sc,rfl,hbl',hzk,q1,q2,hzv⟩:=hV.cell (k:=i) (by rw[qA];exact hlt)
   obtain⟨hmb1,hmb2⟩:=HMB.out _ rfl;have hzf:z=F i i:=by
    rw[yE hlt]at hzk;exact(zW hzk).symm
   have HZ:=xgv hzf;clear hzk hzf;go_upto_region 13 with(fail)
   refine zD ?_;intro W14 hW14;obtain⟨hB14,T12,hs14⟩:=qL hW14;have hB:=nx hB hB14;have hI9:=zB hI9 hB14.size;have hV:=hV.below hB14;have br:=br.below hB14;have T9:=T9.below hB14;have O10:=O10.below hB14;have ho:=ho.below hB14;have hzv:=hzv.ext (lx hB14);obtain⟨bn,ba,bl,bc,b10,i10⟩:=O10;obtain⟨d1,d2,d3,d4⟩:=T12.two;obtain⟨f1,f2,f3,f4⟩:=b10.two;obtain⟨k0,hk0⟩:∃k0,zAt z 1=k0:=⟨_,rfl⟩;clear q1 q2 hW14;go_wp2_with fail
   refine(zR0 _ _ z 1 W14 hzv.weak i10.weak).mono ?_;rintro e15 w15 ⟨rfl,hb15⟩;rw[hk0];have hB:=nx hB hb15;have hI9:=zB hI9 hb15.size;have hV:=hV.below hb15;have br:=br.below hb15;have T9:=T9.below hb15;have T12:=T12.below hb15;have b10:=b10.below hb15;have i10:=i10.ext (lx hb15);have ho:=ho.below hb15;have hzv:=hzv.ext (lx hb15);clear d1 d2 d3 d4 f1 f2 f3 f4;by_cases hz1:1<z
   ·have hk1:k0=1:=by rw[<-hk0];unfold zAt;(repeat' split)<;>omega
    subst hk1;have HK0:=xgv hk0;have HTL:jZ ((zIv (i+1) fun i=>F i i)=(zIv i fun i=>F i i)++ [z]):=⟨by rw[zGL,if_pos (by rw[<-HZ.out];exact hz1),<-HZ.out]⟩;have htl:=zVr i fun i=>F i i
    have HO:=xgv ho;obtain⟨d1,d2,d3,d4⟩:=T12.two;obtain⟨f1,f2,f3,f4⟩:=T9.two;have hal:BWq w15 (w15.alloc (.cells #[.bool sn,.slice sa sl sc] tI)):=(zA _ _).alloc (xgf _) _;have hals:=hal.size;have l9:=T9.lt;have l10:=b10.lt;have lbr:=br.lt;clear hk0 ho hz1;have hq13:=zB hI9 hals;have a6:=zJ l9 hals;have a10:=zJ l10 hals;have abr:=zJ lbr hals;have ab':=zJ (zJ hmb2 hI9) hals;go_wp2_with (at_builtin;go_loud (refine zZB rfl _ _ rfl w13.heap.size (.slice o n c) (zIv i fun i=>F i i) rfl (HO.out.below hal) w15.heap.size 1 sn sa sl sc z rfl (qX _ _ _) (hzv.ext (lx hal)) oM hq13 ?_;intro v' w' hown hgr hxg;have T9w:Blk w' w6.heap.size tGr #[.int .i64 ((m:Int)-k),.slice o n c]:=(hgr.block _ a6 (fun e=>by have:=HO.out.own _ e.symm;omega)).trans (T9.below hal);have b10w:Blk w' w10.heap.size tI #[.bool bn,.slice ba bl bc]:=(hgr.block _ a10 (fun e=>by have:=HO.out.own _ e.symm;omega)).trans (b10.below hal);have brw:Blk w' (w.heap.size+1+1) tGr #[.int .i64 0,.slice none 0 0]:=(hgr.block _ abr (fun e=>by have:=HO.out.own _ e.symm;omega)).trans (br.below hal);have hVw:zAv w' (.slice (some ⟨b',0,none⟩) r mk) (qZ r fun i=>F i i):=(hV.below hal).keepB (fun b e=>by injection e with e;injection e with e;subst e;exact hgr.block _ ab' (fun e=>by have:=HO.out.own _ e.symm;omega)) hxg;have hBw:BWq w w':=(nx hB hal).grown hgr (zB hB.size hals) (fun g' hg=>by have:=HO.out.own g' hg;omega);have hszw:w13.heap.size<=w'.heap.size:=zB hq13 hgr.size;have hxw:=(lx hal).trans hxg;obtain⟨f1,f2,f3,f4⟩:=T9w.two;obtain⟨po,pn,pc,hpv⟩:∃o n c,v'= .slice o n c:=(hown.shape).elim fun o h=>h.elim fun c h=>⟨_,_,_,h⟩;subst hpv))
    have hx1:zBw w' (w'.setCell ⟨w6.heap.size,1,none⟩ (.slice po pn pc)):=T9w.lext dE _ _;go_roundw
    case rel=>
     refine⟨i+1,oM,by simp,yJ hBw oM _ _,by simpa using hszw,hVw.keepB (fun b e=>by injection e with e;injection e with e;subst e;exact zY _ _ _ _ _ oM) hx1,(zY _ _ _ _ _ oM).trans brw,?_,po,_,pc,by simpa using T9w.set_ 1 _,?_⟩;exact zCQ.mk ((zY _ _ _ _ _ oM).trans b10w) ((i10.ext hxw).ext hx1);rw[HTL.out];exact hown.set1 oM T9w dE 1 _
    case measure=>exact meq
   have hk1:k0=0∨k0=-1:=by rw[<-hk0];unfold zAt;(repeat' split)<;>omega
   have HTL:jZ ((zIv (i+1) fun i=>F i i)=zIv i fun i=>F i i):=⟨by rw[zGL,if_neg (by rw[<-HZ.out];exact hz1),zA0]⟩;have HO:=xgv ho;clear hk0 ho hz1;rcases hk1 with rfl|rfl
   ·go_wp2
    go_roundw
    case rel=>exact⟨i+1,oM,by simp,hB,hI9,hV,br,zCQ.mk b10 i10,_,_,_,T9,by rw[HTL.out];exact HO.out⟩
    case measure=>exact meq
   go_wp2;go_roundw
   case rel=>exact⟨i+1,oM,by simp,hB,hI9,hV,br,zCQ.mk b10 i10,_,_,_,T9,by rw[HTL.out];exact HO.out⟩
   case measure=>exact meq
  obtain rfl:i=r:=oM;obtain⟨f1,f2,f3,f4⟩:=T9.two;have r1:=br.two;have HO:=xgv ho;clear ho;go_wp2;refine bodyPost_ret (zK4 rfl _ rfl (br.put2 _ _) rfl) rfl ⟨_,_,rfl,.inr ⟨rfl,rfl,_,_,_,_,_,rfl,(HO.out.set2 oM br dE _ _).vec,m,k,i,_,_,ent (genM k m (zEp C P U)),F,L1.out,L2.out,fun a ha b hb=>?_,HIN.out,rfl,rfl⟩,yJ (yJ hB oM 0 _) oM 1 _⟩;have hq:G2 a b=ent U a b:=by rw[<-HU.out,yR ha hb]
  rw[hq,HKS.out a ha b hb];refine zF fun t ht=>?_
  have hp:ent P t b=G1 t b:=by rw[<-HP.out,yR ht hb]
  rw[yR ha ht,hp]
theorem zQe(v1 v2:Value)(R Q C ha hb e:Nat)(M N:List (List Int))(w:World)(h1:zAC w v1 R C M)(h2:zAC w v2 Q C N)(hF1:zBU R C M)(hF2:zBU Q C N)(hC:C<=3)(h1h:1<=ha)(he:2*ha<=2^e)(heb:hb<=2^e)(he2:e<=2000)(hsw:8*hb<=SW)
  (k1:∀(v:Value) (w:World),zAC w v R C M->CPq 59 #[v] w fun e w'=>∃v,e= .returned v/\zIW R C (ent M) w' v/\BWq w w')
  (k2:∀(v:Value) (w:World),zAC w v Q C N->CPq 59 #[v] w fun e w'=>∃v,e= .returned v/\zIW Q C (ent N) w' v/\BWq w w')
  (hb1:∀r c G,zJI R C r c (ent M) G->leM ha r C G) (hb2:∀r c G,zJI Q C r c (ent N) G->leM hb r C G) {a1 a2:Bool} (ha1:a1=true↔∀x,qG Q C (ent N) x->qG R C (ent M) x) (ha2:∀m k P U,HB C m P (qG R C (ent M))->HB C k U (qG Q C (ent N))->(a2=true↔m=k)):
  CPq 20 #[v1,v2] w fun e w'=>∃v k,e= .returned (.tuple #[v,niq k])/\zZq a1 a2 (zUT C (qG R C (ent M)) (qG Q C (ent N))) w' v k/\BWq w w':=by
 have hmf:∀(fn:Fn) (first cap:Array Value) (w:World),(Instr.makeFunc fn first cap).run Tryz.prog w= .ok (.func fn first cap) w:=fun _ _ _ _=>rfl
 have HA2:=xgv ha2;clear ha2;have H1:=xgv h1;have H2:=xgv h2;obtain⟨A1,rfl,h1⟩:=h1;obtain⟨A2,rfl,h2⟩:=h2;have HF1:=xgv hF1;have HF2:=xgv hF2;have K1:=xgv k1;have K2:=xgv k2;have HB1:=xgv hb1;have HB2:=xgv hb2;have HSW:=xgv hsw;have HSUB:=xgv ha1;have HE1:jZ (2*ha<=2^e):=⟨he⟩;have HE2:jZ (hb<=2^e):=⟨heb⟩;have HAA:jZ (((C:Int)==(C:Int))=true):=⟨by simp⟩;clear h1 h2 hF1 hF2 k1 hb1 hb2 hsw ha1 he heb;go_enter Tryz.func20,Tryz.ntmps20;go_upto_region 1 with(fail)
 refine zD ?_;intro W0 hW0;obtain⟨hB0,bx1,bx2,br,hs0⟩:=zBk hW0;have c1:=bx1.three;obtain⟨d1,d2,d3,d4,d5,d6⟩:=bx2.three;clear hW0;go_wp2_with fail
 refine(zFT _ _ _ _ _ _ W0).mono ?_;rintro e0 w1 ⟨rfl,k1,k2,hb1⟩;have hB:=nx hB0 hb1;have bx1:=bx1.below hb1;have bx2:=bx2.below hb1;have br:=br.below hb1;clear c1 d1 d2 d3 d4 d5 d6;go_wp2_with fail
 refine(zDP (.inl rfl) _ _ 1 50 _ (qX _ _ _) (ans:=true) (k:=0) rfl (fun W hW=>zEX _ _ R C Q C _ _ M N W (((H1.out.below hB).below ((zA _ _).alloc (xgf _) _)).below hW) HF1.out (((H2.out.below hB).below ((zA _ _).alloc (xgf _) _)).below hW) HF2.out ((k1.below ((zA _ _).alloc (xgf _) _)).below hW) ((k2.below ((zA _ _).alloc (xgf _) _)).below hW) HAA.out)).mono ?_;rintro e0 w2 ⟨v,rfl,rfl,hb2⟩;have hb02:BWq w1 w2:=nx ((zA _ _).alloc (xgf _) _) hb2;have hB:=nx hB hb02;have bx1:=bx1.below hb02;have bx2:=bx2.below hb02;have br:=br.below hb02;clear k1 k2;have c1:=bx1.three;obtain⟨d1,d2,d3,d4,d5,d6⟩:=bx2.three;go_wp2_with fail
 refine(zGZ _ _ R C Q C M N w2 (H1.out.below hB) (H2.out.below hB) K1.out K2.out).mono ?_;rintro e3 w3 ⟨m,o1,n1,k1,k,o2,n2,k2,rfl,hm1,hm2,hb3⟩;obtain⟨κ1,G1,l1,m1⟩:=hm1.same;obtain⟨κ2,G2,l2,m2⟩:=hm2.same;have hB:=nx hB hb3;have br:=br.below hb3;have hm3:m<=3:=zB l1.hb.le_cols hC;have hk3:k<=3:=zB l2.hb.le_cols hC;have HG1:=xgv (HB1.out _ _ _ l1);have HG2:=xgv (HB2.out _ _ _ l2);obtain⟨P,hP⟩:∃P,genM m C G1=P:=⟨_,rfl⟩;obtain⟨U,hU⟩:∃U,genM k C G2=U:=⟨_,rfl⟩;have HNW:jZ (HNw m C e P):=⟨by
  rw[<-hP];have:=HE1.out;exact⟨yW _ _ _,⟨m,κ1,l1.hnf.self.genM⟩,fun a ha b hb=>by rw[yR ha hb];have:=HG1.out a ha b hb;omega⟩⟩
 have HFP:jZ (zBU m C P):=⟨by rw[<-hP];exact yW _ _ _⟩;have HFU:jZ (zBU k C U):=⟨by rw[<-hU];exact yW _ _ _⟩;have HLU:jZ (leM hb k C (ent U)):=⟨fun a ha b hb=>by rw[<-hU,yR ha hb];exact HG2.out a ha b hb⟩;have HSA:jZ (a1=true↔∀i,i<k->qG m C (ent P) (ent U i)):=⟨by rw[<-hP,<-hU];exact HSUB.out.trans (zPp l1.hb l2.hb).symm⟩;have HH:jZ (∃c,Hnf C m m c (ent P)):=⟨by rw[<-hP];exact⟨_,l1.hnf.self.genM⟩⟩;rw[hP]at m1;rw[hU]at m2;have HP:=xgv hP;have HU:=xgv hU;have M1:=xgv m1;have M2:=xgv m2;have L1:=xgv l1.hb;have L2:=xgv l2.hb;clear c1 d1 d2 d3 d4 d5 d6 bx1 bx2 m1 m2 l1 l2 hm1 hm2 hP hU;go_upto_region 5 with(fail)
 refine zD ?_;intro W5 hW5;obtain⟨hB5,T7,hs5⟩:=qL hW5;have hB:=nx hB hB5;have br:=br.below hB5;have M1:=xgv (M1.out.below hB5);have M2:=xgv (M2.out.below hB5);clear hW5;have HRK:jZ (((m:Int)==(k:Int))=a2):=⟨by
  have h:=HA2.out _ _ _ _ L1.out L2.out;by_cases e:m=k
  ·rw[h.2 e,e];simp
  have:a2=false:=by
   cases a2 with
   |false=>rfl
   |true=>exact absurd (h.1 rfl) e
  rw[this];exact beq_eq_false_iff_ne.2 fun h=>e oM⟩
 go_wp2_with fail
 refine(zP7 _ _ _ 2 160 170 _ (qX _ _ _) (a1:=a1) (a2:=a2) (k:=if a1=true then(if a2=true then 0 else 170)else 160) rfl (fun W hW=>zQP _ _ _ _ _ _ _ W ((T7.below ((zA _ _).alloc (xgf _) _)).below hW) (zHL _ _ U P W ((M2.out.below ((zA _ _).alloc (xgf _) _)).below hW) HFU.out ((M1.out.below ((zA _ _).alloc (xgf _) _)).below hW) HNW.out oM oM oM oM HE2.out HLU.out HSA.out)) (fun W hW=>zQQ _ m k _ _ _ _ W ((T7.below ((zA _ _).alloc (xgf _) _)).below hW) HRK.out)).mono ?_;rintro e6 w6 ⟨v,rfl,rfl,hb6⟩;have hb56:BWq W5 w6:=nx ((zA _ _).alloc (xgf _) _) hb6;have hB:=nx hB hb56;have br:=br.below hb56;have hsz6:=hB.size;have lbr6:=br.lt;have T7:=T7.below hb56;have M1:=xgv (M1.out.below hb56);have M2:=xgv (M2.out.below hb56);cases a1 with
 |false=>
  have r1:=br.two;go_wp2;refine bodyPost_ret (zIL rfl _ rfl (br.put2 _ _) rfl) rfl ⟨_,_,rfl,.inl ⟨rfl,rfl,rfl⟩,yJ (yJ hB oM 0 _) oM 1 _⟩
 | true=>
  cases a2 with
  |false=>
   have r1:=br.two;go_wp2;refine bodyPost_ret (zIL rfl _ rfl (br.put2 _ _) rfl) rfl ⟨_,_,rfl,.inr (.inl ⟨rfl,rfl,rfl,rfl⟩),yJ (yJ hB oM 0 _) oM 1 _⟩
  | true=>
   obtain rfl:m=k:=(HA2.out _ _ _ _ L1.out L2.out).1 rfl;have hspan:=HSA.out.1 rfl;have HKS:jZ (∀i,i<m->∀b,b<C->ent U i b=zT m fun t=>zEp C P U i t*ent P t b):=⟨by
    obtain⟨c,hc⟩:=HH.out;exact zKU hc hspan⟩
   have HCW:jZ (leM SW m m (ent (genM m m (zEp C P U)))):=⟨by
    obtain⟨c,hc⟩:=HH.out;exact zNu ((zMV hc oM HLU.out HKS.out).mono HSW.out)⟩
   clear hspan;go_wp2_with fail
   refine(zGz 1 w6 oM oM).mono ?_;rintro e10 w10 ⟨u,rfl,hu,hb10⟩;obtain⟨un,ua,ul,uc,ux,rfl,hu'⟩:=id hu;have HU':=xgw hu';have hB:=nx hB hb10;have br:=br.below hb10;have T7:=T7.below hb10;have M1:=xgv (M1.out.below hb10);have M2:=xgv (M2.out.below hb10);have ltb:=br.lt;clear hu';go_upto_region 9 with(fail)
   refine zD ?_;intro W11 hW11;obtain⟨hB11,T10,hs11⟩:=qL hW11;have hB:=nx hB hB11;have br:=br.below hB11;have T7:=T7.below hB11;have M1:=xgv (M1.out.below hB11);have M2:=xgv (M2.out.below hB11);have O10:=zCQ.mk T10 (hu.ext (lx hB11));have lt10:=T10.lt;clear hW11 hu T10;have t1:=T7.six;go_wp2_with fail
   refine(zMU o1 _ _ o2 _ _ P U W11 M1.out HNW.out M2.out HFU.out oM oM oM oM HE2.out HLU.out).mono ?_;rintro e12 w12 ⟨u12,rfl,hcm,hb12⟩;go_wp2_with fail
   refine(zPL _ _ m m w12 hcm (yW _ _ _) oM oM HCW.out).mono ?_;rintro e13 w13 ⟨v13,F,r,rfl,hinv,hv,hb13⟩;have HV:=xgv hv.vec;have hvo:=hv.own;have hvg:=hv.ltq;obtain⟨mo,mn,mk,rfl,hml,hmk1,hmk2,-⟩:=id hv.vec;obtain rfl:r=mn:=by rw[<-hml,qA]
   have HMB:jZ (∀b,mo=some ⟨b,0,none⟩->w12.heap.size<=b/\b<w13.heap.size):=⟨fun b hb=>by
    subst hb;exact⟨hvo b rfl,hvg b rfl⟩⟩
   have HIN:=xgv hinv;have hs13:=hb13.size;have hrk:r<=min m m:=hinv.dg.le;have HSZ:=xgv (hinv.sizes oM HCW.out);have hB:=nx (nx hB hb12) hb13;clear hcm hv hml hinv hvo hvg;have O10:=(O10.below hb12).below hb13;have br:=(br.below hb12).below hb13;have hs12:=hb12.size;clear t1 T7 M1 M2;go_wp2;go_loopw [39] (fun iv wr=>∃i:Nat,i<=r/\iv=niq i/\BWq w wr/\w13.heap.size<=wr.heap.size/\zAv wr (.slice mo r mk) (qZ r fun i=>F i i)/\Blk wr (w.heap.size+1+1) tI #[.bool false,.slice none 0 0]/\zCQ wr w10.heap.size (jB i fun i=>F i i)) (fun iv _=>r-(intOf iv).toNat)
   case atStart=>exact⟨0,oM,rfl,hB,xgf _,HV.out,br,O10⟩
   obtain⟨i,hi,rfl,hB,hI9,hV,br,O10⟩:=hrel;obtain⟨y,hy⟩:∃y,(jB i fun i=>F i i)=y:=⟨_,rfl⟩;by_cases hlt:i<r
   ·obtain⟨b',z,sn,sa,sl,sc,rfl,hbl',hzk,q1,q2,hzv⟩:=hV.cell (k:=i) (by rw[qA];exact hlt)
    obtain⟨hmb1,hmb2⟩:=HMB.out _ rfl;have hzf:z=F i i:=by
     rw[yE hlt]at hzk;exact(zW hzk).symm
    have HPS:jZ ((jB (i+1) fun i=>F i i)=y*z):=⟨by rw[hzf,<-hy];rfl⟩;have HS1:jZ (Sm y/\Sm z):=⟨by rw[hzf,<-hy];exact⟨(HSZ.out.2 i hi).sm,(HSZ.out.1 i hlt).sm⟩⟩;rw[hy]at O10;clear hzk hzf hy;go_upto_region 12 with(fail)
    refine zD ?_;intro W14 hW14;obtain⟨hB14,T12,hs14⟩:=qL hW14;have hB:=nx hB hB14;have hI9:=zB hI9 hB14.size;have hV:=hV.below hB14;have br:=br.below hB14;have O10:=O10.below hB14;have hzv:=hzv.ext (lx hB14);obtain⟨bn,ba,bl,bc,b10,i10⟩:=O10;obtain⟨d1,d2,d3,d4⟩:=T12.two;have f1:=b10.two;clear q1 q2 hW14;go_wp2_with fail
    refine(zEE _ _ y z W14 i10.weak hzv.weak HS1.out.1 HS1.out.2).mono ?_;rintro e15 w15 ⟨u,rfl,hu,hb15⟩;obtain⟨un,ua,ul,uc,ux,rfl,hu'⟩:=id hu;have HU':=xgw hu';have hB:=nx hB hb15;have hI9:=zB hI9 hb15.size;have hV:=hV.below hb15;have br:=br.below hb15;have b10:=b10.below hb15;have l10:=b10.lt;have lbr:=br.lt;have hx1:=b10.lext2 dE (.bool un) (.slice ua ul uc);clear d1 d2 d3 d4 f1 hu';have f1:=b10.two;go_wp2;go_roundw
    case rel=>
     exact⟨i+1,oM,by simp,yJ (yJ hB oM _ _) oM _ _,by simpa using hI9,hV.keepB (fun b e=>by injection e with e;injection e with e;subst e;exact yO _ _ _ _ _ _ _ oM) hx1,(yO _ _ _ _ _ _ _ oM).trans br,by rw[HPS.out];exact zCQ.put b10 hu⟩
    case measure=>exact meq
   obtain rfl:i=r:=oM;obtain⟨bn,ba,bl,bc,b10,i10⟩:=O10;have f1:=b10.two;have r1:=br.two;have hx1:=br.lext2 dE (.bool bn) (.slice ba bl bc);have I10:=xgv (i10.ext hx1);clear i10 hy;go_wp2;refine bodyPost_ret (zIL rfl _ rfl (br.put2 _ _) rfl) rfl ⟨_,_,rfl,.inr (.inr ⟨rfl,rfl,rfl,_,I10.out,zYa (K:=ent (genM m m (zEp C P U))) L1.out L2.out (fun a ha b hb=>?_) HIN.out⟩),yJ (yJ hB oM 0 _) oM 1 _⟩;have hq:G2 a b=ent U a b:=by rw[<-HU.out,yR ha hb]
   rw[hq,HKS.out a ha b hb];refine zF fun t ht=>?_
   have hp:ent P t b=G1 t b:=by rw[<-HP.out,yR ht hb]
   rw[yR ha ht,hp]
def Bd(C e:Nat)(L:(Nat->Int)->Prop):Prop:=∀m G,HB C m G L->leM (2^e) m C G
def MX(C e:Nat)(L:(Nat->Int)->Prop)(w:World)(v:Value):Prop:=∃R M,zAC w v (R:Nat) (C:Nat) M/\zBU R C M/\R<=3/\leM (2^e) R C (ent M)/\∀x,qG R C (ent M) x↔L x
theorem zD7(C e:Nat)(L:(Nat->Int)->Prop):zAK (MX C e L):=fun _ _ _ b ⟨R,M,h1,h2⟩=>⟨R,M,h1.below b,h2⟩
theorem MX.below(h:MX C e L w v)(b:BWq w w'):MX C e L w' v:=zD7 _ _ _ _ _ _ b h
theorem BX.below(h:BX C L w v)(b:BWq w w'):BX C L w' v:=zEb _ _ _ _ _ b h
theorem MX.agg(h:MX C e L w v):∃(R:Nat) (o:Option Addr) (n k:Nat),v= .agg #[niq R,niq C,.slice o n k]:=by
 obtain⟨R,M,h1,-⟩:=h;obtain⟨o,n,k,rfl⟩:=h1.agg;exact⟨R,o,n,k,rfl⟩
theorem BX.agg(h:BX C L w v):∃(R:Nat) (o:Option Addr) (n k:Nat),v= .agg #[niq R,niq C,.slice o n k]:=by
 obtain⟨R,G,-,h1⟩:=h;obtain⟨o,n,k,rfl⟩:=h1.agg;exact⟨R,o,n,k,rfl⟩
theorem BX.mx(h:BX C L w v)(hC:C<=3)(hb:Bd C e L):MX C e L w v:=by
 obtain⟨m,G,h1,h2⟩:=h;exact⟨m,_,h2,yW _ _ _,zB h1.le_cols hC,fun a ha b hb'=>by rw[yR ha hb'];exact hb m G h1 a ha b hb',fun x=>(qG.congr (fun a ha b hb=>yR ha hb) x).trans (h1.iff x).symm⟩
theorem BX.of(h:BX C L w v)(e:∀x,L x↔L' x):BX C L' w v:=by
 obtain⟨m,G,h1,h2⟩:=h;exact⟨m,G,h1.of e,h2⟩
theorem MX.mono(h:MX C e L w v)(k:e<=e'):MX C e' L w v:=by
 obtain⟨R,M,h1,h2,h3,h4,h5⟩:=h;exact⟨R,M,h1,h2,h3,h4.mono (zQ dE k),h5⟩
theorem Bd.mono(h:Bd C e L)(k:e<=e'):Bd C e' L:=fun m G hg=>(h m G hg).mono (zQ dE k)
theorem Bd.of(h:Bd C e L)(k:∀x,L x↔L' x):Bd C e L':=fun m G hg=>h m G (hg.of fun x=>(k x).symm)
theorem zFh(e:Nat):1<=2^e:=qR dE
theorem zEw(e:Nat):2*2^e<=2^(e+1):=by rw[qI];omega
theorem zFO.congr{M M':(Nat->Int)->Prop}(h:∀x,L x↔L' x)(k:∀x,M x↔M' x)(x:Nat->Int):zFO C L M x↔zFO C L' M' x:=
 ⟨fun⟨u,v,a,b,c⟩=>⟨u,v,(h u).1 a,(k v).1 b,c⟩,fun⟨u,v,a,b,c⟩=>⟨u,v,(h u).2 a,(k v).2 b,c⟩⟩
theorem zTu(he:e<=2000)(hF:zBU R C M)(hA:leM (2^e) R C (ent M)):∀r∈M,∀z∈r,Sm z:=zKq (h:=2^e) (e:=e+1) (zEw e) oM hF hA
theorem zEZ(he:e<=1999)(hF:zBU R C M)(hR:R<=6)(hC:C<=3)(hA:leM (2^e) R C (ent M))(v:Value)(w:World)(h:zAC w v R C M):
  CPq 59 #[v] w fun e w'=>∃v,e= .returned v/\zIW R C (ent M) w' v/\BWq w w':=
 zW6 (h:=2^e) (e:=e+1) (zFh e) (zEw e) oM v M R C w h hF hR hC hA
theorem zXh{Q:Nat}(hF:zBU R C M)(hF':zBU Q C N)(hA:leM h R C (ent M))(hB:leM h Q C (ent N)):leM h (R+Q) C (ent (M++N)):=fun a ha b hb=>by
 rw[zJX hF hF'];unfold zIu;split;exact hA a (by assumption) b hb;exact hB _ oM b hb
theorem zZ8(v1 v2:Value)(w:World)(hC:C<=3)(he:e<=1999)(h1:MX C e L1 w v1)(h2:MX C e L2 w v2):
  CPq 16 #[v1,v2] w fun e w'=>∃v,e= .returned (.tuple #[v,niq 0])/\BX C (zFO C L1 L2) w' v/\BWq w w':=by
 obtain⟨R,M,m1,f1,r1,b1,s1⟩:=h1;obtain⟨Q,N,m2,f2,r2,b2,s2⟩:=h2;refine(zVE v1 v2 R Q C C M N w m1 m2 f1 f2 oM oM oM (zTu oM f1 b1) (zTu oM f2 b2) rfl fun v w h=>zEZ he (zPE f1 f2) oM hC (zXh f1 f2 b1 b2) v w h).mono ?_;rintro ee w' ⟨v,rfl,⟨r,c,G,hl,hm⟩,hb⟩;exact⟨v,rfl,⟨r,G,hl.hb.of fun x=>(qG.congr (fun a ha b hb=>zJX f1 f2 b) x).trans ((qG.stk x).trans (zFO.congr s1 s2 x)),hm⟩,hb⟩
theorem zHI(hb:Bd C e L)(s:∀x,qG R C (ent M) x↔L x)(h:zJI R C r c (ent M) G):leM (2^e) r C G:=hb r G (h.hb.of s)
theorem zSc(v1 v2:Value)(w:World)(hC:C<=3)(he:e<=1999)(h1:MX C e L1 w v1)(h2:MX C e L2 w v2)(hb1:Bd C e L1)(hb2:Bd C e L2):
  CPq 18 #[v1,v2] w fun e w'=>∃v,e= .returned (.tuple #[v,niq 0])/\BX C (zJJ L1 L2) w' v/\BWq w w':=by
 obtain⟨R,M,m1,f1,r1,b1,s1⟩:=h1;obtain⟨Q,N,m2,f2,r2,b2,s2⟩:=h2;refine(zQf v1 v2 R Q C C (2^e) (e+1) M N w m1 m2 f1 f2 hC rfl (zFh e) (zEw e) oM (fun v w h=>zEZ he f1 oM hC b1 v w h) (fun v w h=>zEZ he f2 oM hC b2 v w h) (fun r c G h=>zHI hb1 s1 h) (fun r c G h=>zHI hb2 s2 h)).mono ?_;rintro ee w' ⟨v,rfl,hv,hb⟩;exact⟨v,rfl,hv.of fun x=>and_congr (s1 x) (s2 x),hb⟩
theorem zPI(hb:Bd C e L)(s:∀x,qG R C (ent M) x↔L x)(h:zJI R C r c (ent M) G):HNw r C (e+1) (genM r C G):=by
 obtain⟨κ,hκ⟩:=h.hb.hnf;refine⟨yW _ _ _,⟨r,κ,hκ.congr fun a ha b hb=>(yR ha hb).symm⟩,fun a ha b hb'=>?_⟩;rw[yR ha hb'];have h1:=zHI hb s h a ha b hb';have h2:=zEw e;have h3:=zFh e;omega
theorem zTx{Q:Nat}(s1:∀x,qG R C (ent M) x↔L1 x)(s2:∀x,qG Q C (ent N) x↔L2 x):(∀i,i<R->qG Q C (ent N) (ent M i))↔∀x,L1 x->L2 x:=
 ⟨fun h x hx=>(s2 x).1 (qG.sub h ((s1 x).2 hx)),fun h i hi=>(s2 _).2 (h _ ((s1 _).1 (qG.row _ hi)))⟩
theorem zEg(v1 v2:Value)(w:World)(hC:C<=3)(he:e<=1998)(h1:MX C e L1 w v1)(h2:MX C e L2 w v2)(hb2:Bd C e L2)(ha:ans=true↔∀x,L1 x->L2 x):
  CPq 25 #[v1,v2] w fun e w'=>∃v,e= .returned v/\v= .bool ans/\BWq w w':=by
 obtain⟨R,M,m1,f1,r1,b1,s1⟩:=h1;obtain⟨Q,N,m2,f2,r2,b2,s2⟩:=h2;exact zON (e:=e+1) (k:=2^e) v1 v2 M N w m1 m2 f1 f2 oM oM rfl (fun v w h=>zEZ oM f2 oM hC b2 v w h) (fun r c G h=>zPI hb2 s2 h) oM (zQ dE oM) b1 (ha.trans (zTx s1 s2).symm)
theorem zDd(v1 v2:Value)(x:Nat->Int)(w:World)(hC:C<=3)(he:e<=1998)(h1:MX C e L w v1)(h2:zAv w v2 (qZ C x))(hb:Bd C e L)(hx:∀b,b<C->(x b).natAbs<=2^e)(ha:ans=true↔L x):
  CPq 35 #[v1,v2] w fun e w'=>∃v,e= .returned v/\v= .bool ans/\BWq w w':=by
 obtain⟨R,M,m1,f1,r1,b1,s1⟩:=h1;exact zLj (e:=e+1) (k:=2^e) v1 v2 M x w m1 f1 h2 oM (fun v w h=>zEZ oM f1 oM hC b1 v w h) (fun r c G h=>zPI hb s1 h) oM (zQ dE oM) hx (ha.trans (s1 x).symm)
theorem zYP(v1 v2:Value)(w:World)(hC:C<=3)(he:e<=1998)(h1:MX C e L1 w v1)(h2:MX C e L2 w v2)(ha:ans=true↔∀x,L1 x↔L2 x):
  CPq 27 #[v1,v2] w fun e w'=>∃v,e= .returned v/\v= .bool ans/\BWq w w':=by
 obtain⟨R,M,m1,f1,r1,b1,s1⟩:=h1;obtain⟨Q,N,m2,f2,r2,b2,s2⟩:=h2;exact zOI v1 v2 R Q C C M N w m1 m2 f1 f2 oM rfl (fun v w h=>zEZ oM f1 oM hC b1 v w h) (fun v w h=>zEZ oM f2 oM hC b2 v w h) (ha.trans (forall_congr' fun x=>⟨fun h=>(s1 x).trans (h.trans (s2 x).symm),fun h=>(s1 x).symm.trans (h.trans (s2 x))⟩))
theorem zT2(h:e<=117):8*2^e<=SW:=by
 rw[zNh,show(120:Nat)=117+3 from rfl,yD];have:=zQ (show 0<2 by decide) h;omega
theorem zL6.of(h:zL6 C L1 L2 b ts)(h1:∀x,L1 x↔L1' x)(h2:∀x,L2 x↔L2' x):zL6 C L1' L2' b ts:=by
 obtain⟨m,k,r,P,Q,K,F,a1,a2,a3⟩:=h;exact⟨m,k,r,P,Q,K,F,a1.of h1,a2.of h2,a3⟩
theorem zUT.of(h:zUT C L1 L2 z)(h1:∀x,L1 x↔L1' x)(h2:∀x,L2 x↔L2' x):zUT C L1' L2' z:=by
 obtain⟨m,c,c',P,Q,a1,a2,a3⟩:=h;exact⟨m,c,c',P,Q,a1.of h1,a2.of h2,a3⟩
theorem zXs.imp{P Q:Int->List Int->Prop}(h:zXs P w v)(k:∀b ts,P b ts->Q b ts):zXs Q w v:=by
 obtain⟨b,ts,o,n,c,h1,h2,h3⟩:=h;exact⟨b,ts,o,n,c,h1,h2,k _ _ h3⟩
theorem zVS(v1 v2:Value)(w:World)(hC:C<=3)(he:e<=1998)(h1:MX C e L1 w v1)(h2:MX C e L2 w v2)(hb1:Bd C e L1)(hb2:Bd C f L2)(hf:f<=117)(hfe:f<=e+1)(ha:a1=true↔∀x,L2 x->L1 x):
  CPq 22 #[v1,v2] w fun e w'=>∃v k,e= .returned (.tuple #[v,niq k])/\zZt a1 (zL6 C L1 L2) w' v k/\BWq w w':=by
 obtain⟨R,M,m1,f1,r1,b1,s1⟩:=h1;obtain⟨Q,N,m2,f2,r2,b2,s2⟩:=h2;refine(zSw v1 v2 R Q C (2^e) (2^f) (e+1) M N w m1 m2 f1 f2 hC (zFh e) (zEw e) (zQ dE hfe) oM (zT2 hf) (fun v w h=>zEZ oM f1 oM hC b1 v w h) (fun v w h=>zEZ oM f2 oM hC b2 v w h) (fun r c G h=>zHI hb1 s1 h) (fun r c G h=>zHI hb2 s2 h) (a1:=a1) (ha.trans (forall_congr' fun x=>⟨fun h g=>(s1 x).2 (h ((s2 x).1 g)),fun h g=>(s1 x).1 (h ((s2 x).2 g))⟩))).mono ?_;rintro ee w' ⟨v,k,rfl,hv,hb⟩;exact⟨v,k,rfl,hv.imp id fun⟨h1,h2,h3⟩=>⟨h1,h2,h3.imp fun b ts h=>h.of s1 s2⟩,hb⟩
theorem zSZ(v1 v2:Value)(w:World)(hC:C<=3)(he:e<=1998)(h1:MX C e L1 w v1)(h2:MX C e L2 w v2)(hb1:Bd C e L1)(hb2:Bd C f L2)(hf:f<=117)(hfe:f<=e+1){a2:Bool}(ha:a1=true↔∀x,L2 x->L1 x)(ha2:∀m k P U,HB C m P L1->HB C k U L2->(a2=true↔m=k)):
  CPq 20 #[v1,v2] w fun e w'=>∃v k,e= .returned (.tuple #[v,niq k])/\zZq a1 a2 (zUT C L1 L2) w' v k/\BWq w w':=by
 obtain⟨R,M,m1,f1,r1,b1,s1⟩:=h1;obtain⟨Q,N,m2,f2,r2,b2,s2⟩:=h2;refine(zQe v1 v2 R Q C (2^e) (2^f) (e+1) M N w m1 m2 f1 f2 hC (zFh e) (zEw e) (zQ dE hfe) oM (zT2 hf) (fun v w h=>zEZ oM f1 oM hC b1 v w h) (fun v w h=>zEZ oM f2 oM hC b2 v w h) (fun r c G h=>zHI hb1 s1 h) (fun r c G h=>zHI hb2 s2 h) (a1:=a1) (a2:=a2) (ha.trans (forall_congr' fun x=>⟨fun h g=>(s1 x).2 (h ((s2 x).1 g)),fun h g=>(s1 x).1 (h ((s2 x).2 g))⟩)) (fun m k P U h1 h2=>ha2 m k P U (h1.of s1) (h2.of s2))).mono ?_;rintro ee w' ⟨v,k,rfl,hv,hb⟩;exact⟨v,k,rfl,hv.imp id fun h=>h.imp id fun⟨h1,h2,h3,z,h4,h5⟩=>⟨h1,h2,h3,z,h4,h5.of s1 s2⟩,hb⟩
def qAd(t:TypeId)(n0:Nat)(cs:Array Value)(w:World)(v:Value):Prop:=∃b,v=ptq b 0/\n0<=b/\Blk w b t cs
theorem zRo(he:h<=2^e):bB h<=2^(4*e+17):=by
 have h1:(8*h)^4<=2^((e+3)*4):=by
  rw[jO];exact yV (by rw[yD];omega) 4
 rw[show 4*e+17=(e+3)*4+5 by omega,yD];unfold bB;omega
theorem zW9(he:h<=2^e):iB h<=2^(20*e+53):=by
 have h1:h^5<=2^(e*5):=by rw[jO];exact yV he 5
 have h2:432*h^5<=2^(5*e+9):=by rw[show 5*e+9=e*5+9 by omega,yD];omega
 exact zB (zRo h2) (zQ dE oM)
theorem zRq(hC:C<=4)(hA:leM (2^e) R C A):Bd C (4*e+17) (qG R C A):=fun m G hg=>(zNk hg hC (zFh e) hA).mono (zRo (xgf _))
theorem zY0{Q:Nat}(hA:leM h R C A)(hB:leM h Q C B):leM h (R+Q) C (zIu R A B):=fun a ha b hb=>by
 unfold zIu;split;exact hA a (by assumption) b hb;exact hB _ oM b hb
theorem zGI{v:Array Value}(hb:Blk W r 32 v)(h3:v.size=3):(loadVar 32 ⟨r,0,none⟩).run Tryz.prog W= .ok (.agg v) W:=zJu hb h3
theorem zOj{fn:Func}{p1 p2 p3:Tmp}(h:fn.results=#[.cell p1 32,.cell p2 32,.cell p3 32])(tmps:Array Value){W:World}{r1 r2 r3:Nat}{v1 v2 v3:Array Value}
  (hp1:tmps.getD p1 undef=ptq r1 0) (hp2:tmps.getD p2 undef=ptq r2 0) (hp3:tmps.getD p3 undef=ptq r3 0)
  (hb1:Blk W r1 32 v1) (hb2:Blk W r2 32 v2) (hb3:Blk W r3 32 v3) (h1:v1.size=3) (h2:v2.size=3) (h3:v3.size=3):
  (results fn tmps).run Tryz.prog W= .ok (.tuple #[.agg v1,.agg v2,.agg v3]) W:=by
 have hp1':tmps[p1]?.getD undef=ptq r1 0:=by simpa using hp1
 have hp2':tmps[p2]?.getD undef=ptq r2 0:=by simpa using hp2
 have hp3':tmps[p3]?.getD undef=ptq r3 0:=by simpa using hp3
 simp[results,h,hp1',hp2',hp3',asAddr,zGI hb1 h1,zGI hb2 h2,zGI hb3 h3]
theorem MX.keep3{b:Nat}(h:MX C e L w v)(hb:Blk w b 32 cs)(x y z:Value):MX C e L (((w.setCell ⟨b,0,none⟩ x).setCell ⟨b,1,none⟩ y).setCell ⟨b,2,none⟩ z) v:=by
 obtain⟨R,M,h1,h2⟩:=h;exact⟨R,M,h1.keep3 hb _ _ _,h2⟩
def zEj(C r:Nat)(ls:List Int):(Nat->Int)->Prop:=qG (r%4) C (zHF C ls)
theorem zHQ(v:Value)(r C:Nat)(ls:List Int)(w:World)(h:I8V w v ls)(hr:r<=255)(hC:C<=16):
  CPq 53 #[.agg #[.int .u8 r,v],niq C] w fun e w'=>∃u,e= .returned u/\MX C 4 (zEj C r ls) w' u/\BWq w w':=by
 obtain⟨ao,n,cap,rfl,-,-,-,-,-⟩:=id h;obtain⟨R,hR⟩:∃R:Nat,R=r%4:=⟨_,rfl⟩;have e1:(r:Int)%4=(R:Int):=oM;have hR3:R<=3:=oM;have HL:jZ (zEj C r ls=qG R C (zHF C ls)):=⟨by rw[hR];rfl⟩;clear hR;go_enter Tryz.func53,Tryz.ntmps53;go_upto_region 1 with(fail)
 refine zD ?_;intro W0 hW0;obtain⟨hB0,bx1,br,hs0⟩:=zAj hW0;have c1:=bx1.two;clear hW0;go_wp2_with fail
 refine(zKZ _ R C ls W0 (h.below hB0) oM oM).mono ?_;rintro e w2 ⟨u,bs,rfl,hm,hb2⟩;obtain⟨o1,n1,k1,rfl⟩:=hm.mat.1.agg;have br:=br.below hb2;have hB:=nx hB0 hb2;have HM:=xgv hm.mat.1;have r1:=br.three;clear c1 hm e1;go_wp2;refine zAZ (r:=w.heap.size+1) rfl rfl rfl (br.put3 _ _ _) ⟨_,rfl,⟨R,_,HM.out.keep3 br _ _ _,yW _ _ _,hR3,fun a ha b hb=>?_,fun x=>?_⟩,yJ (yJ (yJ hB oM 0 _) oM 1 _) oM 2 _⟩
 ·rw[yR ha hb]
  exact zB (zEz C ls a b) dE
 rw[HL.out];exact qG.congr (fun a ha b hb=>yR ha hb) x
theorem zIA(v1 v2 v3:Value)(c r1 r2 r3:Nat)(l1 l2 l3:List Int)(w:World)(h1:I8V w v1 l1)(h2:I8V w v2 l2)(h3:I8V w v3 l3)(hc:c<=255)(hr1:r1<=255)(hr2:r2<=255)(hr3:r3<=255)(hC:C=c%4):
  CPq 13 #[.agg #[.int .u8 c,.int .u8 r1,v1,.int .u8 r2,v2,.int .u8 r3,v3]] w fun e w'=>∃a b d,e= .returned (.tuple #[a,b,d])/\MX C 4 (zEj C r1 l1) w' a/\MX C 4 (zEj C r2 l2) w' b/\MX C 4 (zEj C r3 l3) w' d/\BWq w w':=by
 obtain⟨o1,n1,k1,rfl,-⟩:=id h1;obtain⟨o2,n2,k2,rfl,-⟩:=id h2;obtain⟨o3,n3,k3,rfl,-⟩:=id h3;have e1:(c:Int)%4=(C:Int):=oM;have hC3:C<=3:=oM;have H1:=xgv h1;have H2:=xgv h2;have H3:=xgv h3;clear hC h1 h2 h3;go_enter Tryz.func13,Tryz.ntmps13;go_upto_region 1 with(fail)
 refine zD ?_;intro W0 hW0;obtain⟨hB0,bx,br1,br2,br3,hs0⟩:=zNW hW0;have f0:=bx.cell 0;have f1:=bx.cell 1;have f2:=bx.cell 2;have f3:=bx.cell 3;have f4:=bx.cell 4;have f5:=bx.cell 5;have f6:=bx.cell 6;have lbx:=bx.lt;clear hW0;go_upto_region 2 with(fail)
 have hl1:=zD7 C 4 (zEj C r1 l1);have hl2:=zD7 C 4 (zEj C r2 l2);have hl3:=zD7 C 4 (zEj C r3 l3);refine yP 12 [pcD 3 [] (MX C 4 (zEj C r1 l1)),pcD 7 [] (MX C 4 (zEj C r2 l2)),pcD 11 [] (MX C 4 (zEj C r3 l3))] ?_;refine sRd ?_;refine sRc (fun wS hI Gk hG=>by go_simp;exact ck hG (zHQ _ r1 C l1 _ ((H1.out.below hB0).below hI.bel) hr1 oM)) (fun va3 _=>?_);refine sRd ?_;refine sRc (fun wS hI Gk hG=>by go_simp;exact ck hG (zHQ _ r2 C l2 _ ((H2.out.below hB0).below hI.bel) hr2 oM)) (fun va7 _=>?_);refine sRd ?_;refine sRc (fun wS hI Gk hG=>by go_simp;exact ck hG (zHQ _ r3 C l3 _ ((H3.out.below hB0).below hI.bel) hr3 oM)) (fun va11 _=>?_);refine sRe ?_;intro w2 hbw2 ha3 ha7 ha11;have ha3:MX C 4 (zEj C r1 l1) w2 va3:=ha3;have ha7:MX C 4 (zEj C r2 l2) w2 va7:=ha7;have ha11:MX C 4 (zEj C r3 l3) w2 va11:=ha11;obtain⟨R1,p1,q1,s1,rfl⟩:=ha3.agg;obtain⟨R2,p2,q2,s2,rfl⟩:=ha7.agg;obtain⟨R3,p3,q3,s3,rfl⟩:=ha11.agg;have br1:=br1.below hbw2;have br2:=br2.below hbw2;have br3:=br3.below hbw2;have hB:=nx hB0 hbw2;have X1:=xgv ha3;have X2:=xgv ha7;have X3:=xgv ha11;have g1:=br1.three;obtain⟨g7,g8,g9,g10,g11,g12⟩:=br2.three;obtain⟨g13,g14,g15,g16,g17,g18⟩:=br3.three;clear f0 f1 f2 f3 f4 f5 f6 ha3 ha7 ha11 hl1 hl2 hl3;go_wp2;have z2:=(zAf w2 (w.heap.size+1) (w.heap.size+1+1) (niq R1) (niq C) (.slice p1 q1 s1) oM).trans br2;have z3:=(zAf w2 (w.heap.size+1) (w.heap.size+1+1+1) (niq R1) (niq C) (.slice p1 q1 s1) oM).trans br3;have y1:=br1.put3 (niq R1) (niq C) (.slice p1 q1 s1);have z3':=(zAf _ (w.heap.size+1+1) (w.heap.size+1+1+1) (niq R2) (niq C) (.slice p2 q2 s2) oM).trans z3;have y1':=(zAf _ (w.heap.size+1+1) (w.heap.size+1) (niq R2) (niq C) (.slice p2 q2 s2) oM).trans y1;have y2:=Blk.put3 z2 (niq R2) (niq C) (.slice p2 q2 s2);have y1'':=(zAf _ (w.heap.size+1+1+1) (w.heap.size+1) (niq R3) (niq C) (.slice p3 q3 s3) oM).trans y1';have y2':=(zAf _ (w.heap.size+1+1+1) (w.heap.size+1+1) (niq R3) (niq C) (.slice p3 q3 s3) oM).trans y2;have y3:=Blk.put3 z3' (niq R3) (niq C) (.slice p3 q3 s3);refine bodyPost_ret (zOj rfl _ rfl rfl rfl y1'' y2' y3 rfl rfl rfl) rfl ⟨_,_,_,rfl,((X1.out.keep3 br1 _ _ _).keep3 z2 _ _ _).keep3 z3' _ _ _,((X2.out.keep3 br1 _ _ _).keep3 z2 _ _ _).keep3 z3' _ _ _,((X3.out.keep3 br1 _ _ _).keep3 z2 _ _ _).keep3 z3' _ _ _,
  yJ (yJ (yJ (yJ (yJ (yJ (yJ (yJ (yJ hB oM 0 _) oM 1 _) oM 2 _) oM 0 _) oM 1 _) oM 2 _) oM 0 _) oM 1 _) oM 2 _⟩
theorem zSs(v1 v2:Value)(w:World)(hC:C<=3)(he:e<=1999)(h1:MX C e L1 w v1)(h2:MX C e L2 w v2)(hb:Bd C f (zFO C L1 L2))(hf:f<=1000000):
  CPq 31 #[v1,v2] w fun e w'=>∃v,e= .returned v/\BX C (zFO C L1 L2) w' v/\BWq w w':=by
 obtain⟨R1,o1,n1,k1,rfl⟩:=h1.agg;obtain⟨R2,o2,n2,k2,rfl⟩:=h2.agg;have H1:=xgv h1;have H2:=xgv h2;have HB:=xgv hb;clear h1 h2 hb;go_enter Tryz.func31,Tryz.ntmps31;go_upto_region 1 with(fail)
 refine zD ?_;intro W0 hW0;obtain⟨hB0,bx1,bx2,br,hs0⟩:=zBk hW0;have c1:=bx1.three;have d1:=bx2.three;clear hW0;go_wp2_with fail
 refine(zZ8 _ _ W0 hC he (H1.out.below hB0) (H2.out.below hB0)).mono ?_;rintro e0 w1 ⟨v,rfl,⟨m,G,hg,hm⟩,hb1⟩;obtain⟨x1,x2,x3,rfl⟩:=hm.agg;have hB:=nx hB0 hb1;have bx1:=bx1.below hb1;have br:=br.below hb1;have HG:=xgv hg;have HM:=xgv hm;have HSM:jZ (∀r∈genM m C G,∀z∈r,Sm z):=⟨zKq (h:=2^f) (e:=f+1) (zEw f) oM (yW _ _ _) fun a ha b hb=>by rw[yR ha hb];exact HB.out m G hg a ha b hb⟩;have HIS:jZ (zRf m C (genM m C G)):=⟨zMl.2 ⟨m,hg.hnf⟩⟩;clear c1 d1 bx2 hg hm;go_upto_region 2 with(fail)
 refine zD ?_;intro W2 hW2;obtain⟨hB2,T5,hs2⟩:=qL hW2;have hB:=nx hB hB2;have bx1:=bx1.below hB2;have br:=br.below hB2;have HM:=xgv (HM.out.below hB2);have t1:=T5.three;clear hW2;go_wp2_with fail
 refine(zWU _ m C _ W2 HM.out HSM.out HIS.out).mono ?_;rintro e3 w3 ⟨v,rfl,rfl,hb3⟩;have hB:=nx hB hb3;have bx1:=bx1.below hb3;have br:=br.below hb3;have T5:=T5.below hb3;have HM:=xgv (HM.out.below hb3);clear t1;have t1:=T5.three;have c1:=bx1.three;have r1:=br.three;go_wp2;refine zAZ (r:=w.heap.size+1+1) rfl rfl rfl (br.put3 _ _ _) ⟨_,rfl,⟨m,G,HG.out,HM.out.keep3 br _ _ _⟩,yJ (yJ (yJ hB oM 0 _) oM 1 _) oM 2 _⟩
theorem zSq(v1 v2:Value)(w:World)(hC:C<=3)(he:e<=1999)(h1:MX C e L1 w v1)(h2:MX C e L2 w v2)(hb1:Bd C e L1)(hb2:Bd C e L2)(hb:Bd C f (zJJ L1 L2))(hf:f<=1000000):
  CPq 32 #[v1,v2] w fun e w'=>∃v,e= .returned v/\BX C (zJJ L1 L2) w' v/\BWq w w':=by
 obtain⟨R1,o1,n1,k1,rfl⟩:=h1.agg;obtain⟨R2,o2,n2,k2,rfl⟩:=h2.agg;have H1:=xgv h1;have H2:=xgv h2;have HB:=xgv hb;clear h1 h2 hb;go_enter Tryz.func32,Tryz.ntmps32;go_upto_region 1 with(fail)
 refine zD ?_;intro W0 hW0;obtain⟨hB0,bx1,bx2,br,hs0⟩:=zBk hW0;have c1:=bx1.three;have d1:=bx2.three;clear hW0;go_wp2_with fail
 refine(zSc _ _ W0 hC he (H1.out.below hB0) (H2.out.below hB0) hb1 hb2).mono ?_;rintro e0 w1 ⟨v,rfl,⟨m,G,hg,hm⟩,hb1⟩;obtain⟨x1,x2,x3,rfl⟩:=hm.agg;have hB:=nx hB0 hb1;have bx1:=bx1.below hb1;have br:=br.below hb1;have HG:=xgv hg;have HM:=xgv hm;have HSM:jZ (∀r∈genM m C G,∀z∈r,Sm z):=⟨zKq (h:=2^f) (e:=f+1) (zEw f) oM (yW _ _ _) fun a ha b hb=>by rw[yR ha hb];exact HB.out m G hg a ha b hb⟩;have HIS:jZ (zRf m C (genM m C G)):=⟨zMl.2 ⟨m,hg.hnf⟩⟩;clear c1 d1 bx2 hg hm;go_upto_region 2 with(fail)
 refine zD ?_;intro W2 hW2;obtain⟨hB2,T5,hs2⟩:=qL hW2;have hB:=nx hB hB2;have bx1:=bx1.below hB2;have br:=br.below hB2;have HM:=xgv (HM.out.below hB2);have t1:=T5.three;clear hW2;go_wp2_with fail
 refine(zWU _ m C _ W2 HM.out HSM.out HIS.out).mono ?_;rintro e3 w3 ⟨v,rfl,rfl,hb3⟩;have hB:=nx hB hb3;have bx1:=bx1.below hb3;have br:=br.below hb3;have T5:=T5.below hb3;have HM:=xgv (HM.out.below hb3);clear t1;have t1:=T5.three;have c1:=bx1.three;have r1:=br.three;go_wp2;refine zAZ (r:=w.heap.size+1+1) rfl rfl rfl (br.put3 _ _ _) ⟨_,rfl,⟨m,G,HG.out,HM.out.keep3 br _ _ _⟩,yJ (yJ (yJ hB oM 0 _) oM 1 _) oM 2 _⟩
theorem zWq{U:Nat->Nat->Int}(h:HB C m G L)(h':HB C k U L'):((m:Int)=k/\(C:Int)=C/\genM m C G=genM k C U)↔∀x,L x↔L' x:=by
 constructor
 ·rintro⟨e,-,e2⟩ x
  obtain rfl:m=k:=oM;have e3:∀a,a<m->∀b,b<C->G a b=U a b:=fun a ha b hb=>by
   have:=congrArg (fun M=>ent M a b) e2;rw[show ent (genM m C G) a b=G a b from yR ha hb,show ent (genM m C U) a b=U a b from yR ha hb]at this;exact this
  exact(h.iff x).trans ((qG.congr e3 x).trans (h'.iff x).symm)
 intro e;obtain⟨e1,e2⟩:=h.mat h' e;exact⟨oM,rfl,e2⟩
theorem zYw(v1 v2:Value)(w:World)(h1:BX C L w v1)(h2:BX C L' w v2)(ha:ans=true↔∀x,L x↔L' x):
  CPq 24 #[v1,v2] w fun e w'=>∃v,e= .returned v/\v= .bool ans/\BWq w w':=by
 obtain⟨m,G,g1,m1⟩:=h1;obtain⟨k,U,g2,m2⟩:=h2;refine(zPi v1 v2 m C k C _ _ w m1 m2).mono ?_;rintro e w' ⟨rfl,hb⟩;refine⟨_,rfl,?_,hb⟩;congr 1;have h:=zWq g1 g2;rw[Bool.eq_iff_iff,decide_eq_true_iff,h,ha]
theorem zFj(b1 b2:Int)(o1 o2:Option Addr)(n1 k1 n2 k2:Nat)(xs ys:List Int)(w:World)(h1:zAv w (.slice o1 n1 k1) xs)(h2:zAv w (.slice o2 n2 k2) ys)(ha:decide (b1=b2/\xs=ys)=ans):
  CPq 30 #[.agg #[niq b1,.slice o1 n1 k1],.agg #[niq b2,.slice o2 n2 k2]] w fun e w'=>∃v,e= .returned v/\v= .bool ans/\BWq w w':=by
 have H1:=xgv h1;have H2:=xgv h2;have HA:=xgv ha;obtain⟨a2,ha2⟩:∃a2,decide (xs=ys)=a2:=⟨_,rfl⟩;have HA2:=xgv ha2;clear h1 h2 ha ha2;go_enter Tryz.func30,Tryz.ntmps30;go_upto_region 1 with(fail)
 refine zD ?_;intro W0 hW0;obtain⟨hB0,bx1,bx2,hs0⟩:=zAj hW0;have c1:=bx1.two;have d1:=bx2.two;clear hW0;by_cases hb:b1=b2
 ·subst hb
  have HE:jZ (a2=ans):=⟨by rw[<-HA.out,<-HA2.out];simp⟩;go_wp2_with fail
  refine(zOc _ _ xs ys W0 (H1.out.below hB0) (H2.out.below hB0)).mono ?_;rintro e1 w1 ⟨rfl,hb1⟩;rw[HA2.out,HE.out];go_wp2;go_ret;exact⟨_,rfl,rfl,nx hB0 hb1⟩
 have HE:jZ (ans=false):=⟨by rw[<-HA.out];simp[hb]⟩;have hbq:((b1:Int)==b2)=false:=beq_eq_false_iff_ne.2 hb;have HEF:=HE.out;subst HEF;go_wp2;go_ret;exact⟨_,rfl,rfl,hB0⟩
theorem zUj(h:Ech C m c P)(h':Ech C m c' Q)(e:∀a,a<m->∀b,b<C->Q a b=P a b):∀k,k<m->c k=c' k:=fun k hk=>by
 have p1:=h.pos k hk;have p2:=h'.pos k hk;have l1:=h.lt k hk;have l2:=h'.lt k hk;rcases yK (c k) (c' k)with g|g|g
 ·have:=h'.zero k hk (c k) g
  rw[e k hk _ l1]at this;omega
 exact g;have:=h.zero k hk (c' k) g;rw[<-e k hk _ l2]at this;omega
theorem zWc(h:Ech C m c P)(h':Ech C m c' Q)(e:∀a,a<m->∀b,b<C->Q a b=P a b):zRZ m c P=zRZ m c' Q:=zJn fun i hi=>by
 rw[<-zUj h h' e i hi,e i hi _ (h.lt i hi)]
theorem zUT.val(h:zUT C L1 L2 z)(h1:HB C m P L1)(h2:HB C m Q L2)(e1:Ech C m c P)(e2:Ech C m c' Q):z*zRZ m c P=zRZ m c' Q:=by
 obtain⟨k,d,d',U,V,g1,g2,g3,g4,g5⟩:=h;obtain⟨rfl,q1⟩:=g1.eq h1 fun x=>zAV
 obtain⟨-,q2⟩:=g2.eq h2 fun x=>zAV
 rw[<-zWc g3 e1 q1,<-zWc g4 e2 q2];exact g5
theorem zL6.uniq{b':Int}{ts':List Int}(h:zL6 C L1 L2 b ts)(h':zL6 C L1 L2 b' ts'):b=b'/\ts=ts':=by
 obtain⟨m,k,r,P,Q,K,F,a1,a2,a3,a4,rfl,rfl⟩:=h;obtain⟨m',k',r',P',Q',K',F',c1,c2,c3,c4,rfl,rfl⟩:=h';obtain⟨rfl,q1⟩:=a1.eq c1 fun x=>zAV
 obtain⟨rfl,q2⟩:=a2.eq c2 fun x=>zAV
 obtain⟨c,hc⟩:=a1.hnf;have e:∀a,a<k->∀b,b<m->K' a b=K a b:=fun a ha b hb=>(hc.ech.uniq (y:=K' a) (z:=K a) (fun t ht=>by
  rw[<-a3 a ha t ht,<-q2 a ha t ht,c3 a ha t ht];exact zF fun s hs=>by rw[q1 s hs t ht]) b hb)
 have h1:=(a4.list_eq (c4.congr fun a ha b hb=>(e a ha b hb).symm) (Fac.refl _ _ _) (Fac.refl _ _ _));exact⟨rfl,by unfold zIv;rw[h1]⟩
theorem zYi(h:zAC w v R C M)(hF:zBU R C M)(hR:R<=3)(hA:leM (2^e) R C (ent M)):MX C e (qG R C (ent M)) w v:=⟨R,M,h,hF,hR,hA,fun _=>zAV⟩
theorem zE7(c:Nat->Nat)(h:Hnf C m m c G):HB C m G (qG m C G):=⟨⟨c,h⟩,fun _=>zAV⟩
theorem zFV(h1:∀k,k<m->c k<C/\0<G k (c k)/\∀t,t<c k->G k t=0)(h2:∀k,k<m->∀l,l<m->k<l->c k<c l/\0<=G k (c l)/\G k (c l)<G l (c l)):Hnf C m m c G:=
 ⟨xgf _,⟨fun k hk=>(h1 k hk).1,fun k hk=>(h1 k hk).2.1,fun k hk t ht=>(h1 k hk).2.2 t ht,fun k l hkl hl=>(h2 k oM l hl hkl).1⟩,fun i j hij hj _=>(h2 i oM j hj hij).2,fun a h1 h2=>oM⟩
theorem zG4:qG 1 1 (ent [[a]]) x↔a∣x 0:=by
 constructor
 ·rintro⟨y,h⟩
  have:=h 0 dE;rw[zT,zT,show ent [[a]] 0 0=a from rfl,jV]at this;exact⟨y 0,by rw[this,qH]⟩
 rintro⟨k,h⟩;refine⟨fun _=>k,fun b hb=>?_⟩;obtain rfl:b=0:=oM;rw[zT,zT,show ent [[a]] 0 0=a from rfl,jV,h,qH]
theorem zYS(x:Nat->Int):zFO 1 (qG 1 1 (ent [[4]])) (qG 1 1 (ent [[6]])) x↔qG 1 1 (ent [[2]]) x:=by
 rw[zG4];constructor
 ·rintro⟨u,v,h1,h2,h3⟩
  have:=h3 0 dE;rw[zG4]at h1 h2;omega
 intro h;obtain⟨k,hk⟩:=h;exact⟨fun _=>4*(-k),fun _=>6*k,zG4.2 ⟨-k,rfl⟩,zG4.2 ⟨k,rfl⟩,fun b hb=>by
  obtain rfl:b=0:=oM;show x 0=4*-k+6*k;rw[hk];omega⟩
theorem zYR(x:Nat->Int):zJJ (qG 1 1 (ent [[4]])) (qG 1 1 (ent [[6]])) x↔qG 1 1 (ent [[12]]) x:=by
 unfold zJJ;rw[zG4,zG4,zG4];omega
theorem zWa{c:Int}:qG 1 2 (ent [[a,c]]) x↔∃k,x 0=k*a/\x 1=k*c:=by
 constructor
 ·rintro⟨y,h⟩
  refine⟨y 0,?_,?_⟩
  ·have:=h 0 dE
   rw[zT,zT,show ent [[a,c]] 0 0=a from rfl,jV]at this;exact this
  have:=h 1 dE;rw[zT,zT,show ent [[a,c]] 0 1=c from rfl,jV]at this;exact this
 rintro⟨k,h1,h2⟩;refine⟨fun _=>k,fun b hb=>?_⟩;rcases(by omega:b=0∨b=1)with rfl|rfl
 rw[zT,zT,show ent [[a,c]] 0 0=a from rfl,jV,h1];rw[zT,zT,show ent [[a,c]] 0 1=c from rfl,jV,h2]
theorem zTw{c d:Int}:qG 2 2 (ent [[a,b],[c,d]]) x↔∃k l,x 0=k*a+l*c/\x 1=k*b+l*d:=by
 constructor
 ·rintro⟨y,h⟩
  refine⟨y 0,y 1,?_,?_⟩
  ·have:=h 0 dE
   rw[zT,zT,zT,show ent [[a,b],[c,d]] 0 0=a from rfl,show ent [[a,b],[c,d]] 1 0=c from rfl,jV]at this;exact this
  have:=h 1 dE;rw[zT,zT,zT,show ent [[a,b],[c,d]] 0 1=b from rfl,show ent [[a,b],[c,d]] 1 1=d from rfl,jV]at this;exact this
 rintro⟨k,l,h1,h2⟩;refine⟨fun t=>if t=0 then k else l,fun j hj=>?_⟩;rcases(by omega:j=0∨j=1)with rfl|rfl
 ·rw[zT,zT,zT,show ent [[a,b],[c,d]] 0 0=a from rfl,show ent [[a,b],[c,d]] 1 0=c from rfl,jV,h1]
  rfl
 rw[zT,zT,zT,show ent [[a,b],[c,d]] 0 1=b from rfl,show ent [[a,b],[c,d]] 1 1=d from rfl,jV,h2];rfl
theorem zVe:qG 0 C A x↔∀b,b<C->x b=0:=⟨fun⟨_,h⟩=>h,fun h=>⟨fun _=>0,h⟩⟩
theorem zW3(x:Nat->Int):zJJ (qG 1 2 (ent [[1,1]])) (qG 1 2 (ent [[1,-1]])) x↔qG 0 2 (ent []) x:=by
 unfold zJJ;rw[zWa,zWa,zVe];constructor
 ·rintro⟨⟨k,h1,h2⟩,l,h3,h4⟩ b hb
  rcases(by omega:b=0∨b=1)with rfl|rfl<;>omega
 intro h;have h0:=h 0 dE;have h1:=h 1 dE;exact⟨⟨0,oM,oM⟩,0,oM,oM⟩
theorem zUn(x:Nat->Int):qG 2 1 (ent [[4],[6]]) x↔qG 1 1 (ent [[2]]) x:=by
 rw[zG4];constructor
 ·rintro⟨y,h⟩
  have:=h 0 dE;rw[zT,zT,zT,show ent [[4],[6]] 0 0=4 from rfl,show ent [[4],[6]] 1 0=6 from rfl]at this;omega
 rintro⟨k,hk⟩;refine⟨fun t=>if t=0 then-k else k,fun b hb=>?_⟩;obtain rfl:b=0:=oM;rw[zT,zT,zT,show ent [[4],[6]] 0 0=4 from rfl,show ent [[4],[6]] 1 0=6 from rfl,hk];simp only[if_pos,reduceIte];omega
abbrev zOK:List (List Int):=[[2,0],[0,3]]
abbrev zMB:List (List Int):=[[1,0],[0,1]]
theorem zLY:Hnf 2 2 2 (fun k=>k) (ent zOK):=zFV dE dE
theorem zH6:Hnf 2 2 2 (fun k=>k) (ent zMB):=zFV dE dE
theorem zW7:Hnf 1 1 1 (fun k=>k) (ent [[2]]):=zFV dE dE
theorem zQN:Hnf 1 1 1 (fun k=>k) (ent [[12]]):=zFV dE dE
theorem zYX:Hnf 2 1 1 (fun k=>k) (ent [[4,6]]):=zFV dE dE
theorem zYW:Hnf 2 1 1 (fun k=>k) (ent [[2,0]]):=zFV dE dE
theorem zUw:Hnf 2 0 0 (fun k=>k) (ent []):=zFV dE dE
theorem zJ4(x:Nat->Int):qG 2 2 (ent zMB) x:=zTw.2 ⟨x 0,x 1,oM,oM⟩
theorem zUo(h:zUT 2 (qG 2 2 (ent zMB)) (qG 2 2 (ent zOK)) z):z=6:=by
 have:=h.val (zE7 _ zH6) (zE7 _ zLY) zH6.ech zLY.ech;rw[show zRZ 2 (fun k=>k) (ent zMB)=1 from by decide,show zRZ 2 (fun k=>k) (ent zOK)=6 from by decide]at this;omega
theorem zW2:zL6 2 (qG 2 2 (ent zMB)) (qG 2 2 (ent zOK)) 0 [6]:=
 ⟨2,2,2,ent zMB,ent zOK,ent zOK,ent [[1,0],[0,6]],zE7 _ zH6,zE7 _ zLY,by decide,⟨⟨by unfold zGl;decide,by decide,fun i h1 h2=>oM,by decide⟩,fun a b h1 h2 h3=>by
  obtain⟨rfl,rfl⟩:a=0/\b=1:=oM;decide,⟨ent [[-1,1],[-3,2]],ent [[1,-3],[1,-2]],by decide⟩,⟨ent [[2,-1],[3,-1]],ent [[-2,3],[-1,1]],by decide⟩⟩,by decide,by decide⟩
theorem zUp:zL6 2 (qG 2 2 (ent zMB)) (qG 1 2 (ent [[4,6]])) 1 [2]:=
 ⟨2,1,1,ent zMB,ent [[4,6]],ent [[4,6]],ent [[2,0]],zE7 _ zH6,zE7 _ zYX,by decide,⟨⟨by unfold zGl;decide,by decide,fun i h1 h2=>oM,by decide⟩,fun a b h1 h2 h3=>oM,⟨ent [[1]],ent [[-1,-3],[1,2]],by decide⟩,⟨ent [[1]],ent [[2,3],[-1,-1]],by decide⟩⟩,by decide,by decide⟩
theorem zHj(v1 v2:Value)(M:List (List Int))(xs:List Int)(w:World)(h1:zAC w v1 R C M)(hF1:zBU R C M)(h2:zAv w v2 xs)(hn:xs.length≠C):
  CPq 35 #[v1,v2] w fun e w'=>∃v,e= .returned v/\v= .bool false/\BWq w w':=by
 have H1:=xgv h1;obtain⟨A1,rfl,h1⟩:=h1;obtain⟨xo,xn,xc,rfl,x2,x3,x4,-⟩:=id h2;rw[x2]at hn;have hne:((xn:Int)==(C:Int))=false:=beq_eq_false_iff_ne.2 fun h=>hn oM
 have hne2:¬ ((xn:Int)=(C:Int)):=fun h=>hn oM
 have H2:=xgv h2;have HF1:=xgv hF1;clear h1 hF1 h2 x2;go_enter Tryz.func35,Tryz.ntmps35;go_upto_region 1 with(fail)
 refine zD ?_;intro W0 hW0;obtain⟨hB0,bx1,hs0⟩:=qL hW0;have c1:=bx1.three;clear hW0;go_wp2_with fail
 refine(zLo _ R C M W0 (H1.out.below hB0) HF1.out).mono ?_;rintro e w1 ⟨v,rfl,rfl,hb1⟩;have hB:=nx hB0 hb1;have bx1:=bx1.below hb1;clear c1;go_wp2_with fail
 refine(zIl _ _ w1 (H2.out.below hB)).mono ?_;rintro e w2 ⟨rfl,hb2⟩;have hB:=nx hB hb2;have bx1:=bx1.below hb2;have c1:=bx1.three;go_wp2;go_ret;exact⟨_,rfl,rfl,hB⟩
theorem zRx(h:BX C (qG m C (ent M)) w v)(hF:zBU m C M)(hH:Hnf C m m c (ent M)):zAC w v m C M:=by
 obtain⟨k,G,h1,h2⟩:=h;obtain⟨e1,e2⟩:=h1.mat (zE7 c hH) fun x=>zAV
 rw[<-zMg hF]at e2;subst e1;rw[<-e2];exact h2
theorem mxL(h:zAC w v R C M)(hF:zBU R C M)(hR:R<=3)(hl:zU9 17 M=true):MX C 4 (qG R C (ent M)) w v:=zYi h hF hR (zSm hl hF)
theorem bdL(hF:zBU R C M)(hC:C<=4)(hl:zU9 17 M=true):Bd C 33 (qG R C (ent M)):=(zRq (e:=4) hC (fun a ha b hb=>zB (zSm (M0:=16) hl hF a ha b hb) dE)).mono dE
theorem jN(h:(decide (M.length=R) && M.all fun r=>decide (r.length=C))=true):zBU R C M:=by
 simp only[Bool.and_eq_true,decide_eq_true_eq,List.all_eq_true]at h;exact⟨h.1,h.2⟩
theorem zZj(v1 v2:Value)(w:World)(h1:zAC w v1 (1:Nat) (1:Nat) [[4]])(h2:zAC w v2 (1:Nat) (1:Nat) [[6]]):
  CPq 16 #[v1,v2] w fun e w'=>∃v,e= .returned (.tuple #[v,niq 0])/\zAC w' v (1:Nat) (1:Nat) [[2]]/\BWq w w':=
 (zZ8 v1 v2 w dE dE (mxL h1 (jN dE) dE dE) (mxL h2 (jN dE) dE dE)).mono fun e w' ⟨v,he,hv,hb⟩=>⟨v,he,zRx (hv.of zYS) (jN dE) zW7,hb⟩
theorem zZS(v1 v2:Value)(w:World)(h1:zAC w v1 (1:Nat) (1:Nat) [[4]])(h2:zAC w v2 (1:Nat) (1:Nat) [[6]]):
  CPq 18 #[v1,v2] w fun e w'=>∃v,e= .returned (.tuple #[v,niq 0])/\zAC w' v (1:Nat) (1:Nat) [[12]]/\BWq w w':=
 (zSc (e:=33) v1 v2 w dE dE ((mxL h1 (jN dE) dE dE).mono dE) ((mxL h2 (jN dE) dE dE).mono dE) (bdL (jN dE) dE dE) (bdL (jN dE) dE dE)).mono fun e w' ⟨v,he,hv,hb⟩=>⟨v,he,zRx (hv.of zYR) (jN dE) zQN,hb⟩
theorem zZR(v1 v2:Value)(w:World)(h1:zAC w v1 (1:Nat) (2:Nat) [[1,1]])(h2:zAC w v2 (1:Nat) (2:Nat) [[1,-1]]):
  CPq 18 #[v1,v2] w fun e w'=>∃v,e= .returned (.tuple #[v,niq 0])/\zAC w' v (0:Nat) (2:Nat) []/\BWq w w':=
 (zSc (e:=33) v1 v2 w dE dE ((mxL h1 (jN dE) dE dE).mono dE) ((mxL h2 (jN dE) dE dE).mono dE) (bdL (jN dE) dE dE) (bdL (jN dE) dE dE)).mono fun e w' ⟨v,he,hv,hb⟩=>⟨v,he,zRx (hv.of zW3) (jN dE) zUw,hb⟩
theorem zXC(v1 v2:Value)(w:World)(h1:zAC w v1 (2:Nat) (2:Nat) zMB)(h2:zAC w v2 (2:Nat) (2:Nat) zOK):
  CPq 20 #[v1,v2] w fun e w'=>∃v,e= .returned (.tuple #[v,niq 0])/\jY w' v 6/\BWq w w':=by
 refine(zSZ (e:=33) (f:=33) (a1:=true) (a2:=true) v1 v2 w dE dE ((mxL h1 (jN dE) dE dE).mono dE) ((mxL h2 (jN dE) dE dE).mono dE) (bdL (jN dE) dE dE) (bdL (jN dE) dE dE) dE dE ⟨fun _ x _=>zJ4 x,fun _=>rfl⟩ fun m k P U g1 g2=>⟨fun _=>?_,fun _=>rfl⟩).mono ?_
 ·obtain⟨e1,-⟩:=g1.eq (zE7 _ zH6) fun x=>zAV
  obtain⟨e2,-⟩:=g2.eq (zE7 _ zLY) fun x=>zAV
  omega
 rintro e w' ⟨v,k,rfl,hr,hb⟩;rcases hr with⟨h,-⟩|⟨-,h,-⟩|⟨-,-,rfl,z,hz,hp⟩
 cases h;cases h;rw[zUo hp]at hz;exact⟨v,rfl,hz,hb⟩
theorem zXB(v1 v2:Value)(w:World)(h1:zAC w v1 (1:Nat) (1:Nat) [[2]])(h2:zAC w v2 (1:Nat) (1:Nat) [[3]]):
  CPq 20 #[v1,v2] w fun e w'=>∃v,e= .returned v/\v= .tuple #[.agg #[.bool false,.slice none 0 0],niq 160]/\BWq w w':=by
 refine(zSZ (e:=33) (f:=33) (a1:=false) (a2:=true) v1 v2 w dE dE ((mxL h1 (jN dE) dE dE).mono dE) ((mxL h2 (jN dE) dE dE).mono dE) (bdL (jN dE) dE dE) (bdL (jN dE) dE dE) dE dE ⟨nofun,fun h=>?_⟩ fun m k P U g1 g2=>⟨fun _=>?_,fun _=>rfl⟩).mono ?_
 ·have:=(zG4 (a:=2)).1 (h (fun _=>3) (zG4.2 (zAM 3)))
  omega
 ·obtain⟨e1,-⟩:=g1.eq (zE7 (fun k=>k) (zFV dE dE:Hnf 1 1 1 (fun k=>k) (ent [[2]]))) fun x=>zAV
  obtain⟨e2,-⟩:=g2.eq (zE7 (fun k=>k) (zFV dE dE:Hnf 1 1 1 (fun k=>k) (ent [[3]]))) fun x=>zAV
  omega
 rintro e w' ⟨v,k,rfl,hr,hb⟩;rcases hr with⟨-,rfl,rfl⟩|⟨h,-,-⟩|⟨h,-⟩
 exact⟨_,rfl,rfl,hb⟩;cases h;cases h
theorem zUy(v1 v2:Value)(w:World)(h1:zAC w v1 (2:Nat) (2:Nat) zMB)(h2:zAC w v2 (1:Nat) (2:Nat) [[2,0]]):
  CPq 20 #[v1,v2] w fun e w'=>∃v,e= .returned v/\v= .tuple #[.agg #[.bool false,.slice none 0 0],niq 170]/\BWq w w':=by
 refine(zSZ (e:=33) (f:=33) (a1:=true) (a2:=false) v1 v2 w dE dE ((mxL h1 (jN dE) dE dE).mono dE) ((mxL h2 (jN dE) dE dE).mono dE) (bdL (jN dE) dE dE) (bdL (jN dE) dE dE) dE dE ⟨fun _ x _=>zJ4 x,fun _=>rfl⟩ fun m k P U g1 g2=>⟨nofun,fun h=>?_⟩).mono ?_
 ·obtain⟨e1,-⟩:=g1.eq (zE7 _ zH6) fun x=>zAV
  obtain⟨e2,-⟩:=g2.eq (zE7 _ zYW) fun x=>zAV
  omega
 rintro e w' ⟨v,k,rfl,hr,hb⟩;rcases hr with⟨h,-⟩|⟨-,-,rfl,rfl⟩|⟨-,h,-⟩
 cases h;exact⟨_,rfl,rfl,hb⟩;cases h
def GV(b:Int)(ts:List Int)(w:World)(v:Value):Prop:=∃o n c,v= .agg #[niq b,.slice o n c]/\zAv w (.slice o n c) ts
def GT(b:Int)(ts:List Int)(w:World)(v:Value):Prop:=∃u,v= .tuple #[u,niq 0]/\GV b ts w u
theorem zHe(b:Int)(ts:List Int):zAK (GV b ts):=fun _ _ _ e ⟨o,n,c,h1,h2⟩=>⟨o,n,c,h1,h2.below e⟩
theorem zSi(b:Int)(ts:List Int):zAK (GT b ts):=fun _ _ _ e ⟨u,h1,h2⟩=>⟨u,h1,zHe _ _ _ _ _ e h2⟩
theorem zPe{Q:Nat}(v1 v2:Value)(w:World)(h1:zAC w v1 (2:Nat) (2:Nat) zMB)(h2:zAC w v2 (Q:Nat) (2:Nat) M)(hF:zBU Q 2 M)(hQ:Q<=3)(hl:zU9 17 M=true)(hq:zL6 2 (qG 2 2 (ent zMB)) (qG Q 2 (ent M)) b ts):
  CPq 22 #[v1,v2] w fun e w'=>∃v,e= .returned v/\GT b ts w' v/\BWq w w':=by
 refine(zVS (e:=33) (f:=33) (a1:=true) v1 v2 w dE dE ((mxL h1 (jN dE) dE dE).mono dE) ((mxL h2 hF hQ hl).mono dE) (bdL (jN dE) dE dE) (bdL hF dE hl) dE dE ⟨fun _ x _=>zJ4 x,fun _=>rfl⟩).mono ?_;rintro e w' ⟨v,k,rfl,hr,hb⟩;rcases hr with⟨h,-⟩|⟨-,rfl,b',ts',o,n,c,rfl,hv,hp⟩
 cases h;obtain⟨rfl,rfl⟩:=hp.uniq hq;exact⟨_,rfl,⟨_,rfl,_,_,_,rfl,hv⟩,hb⟩
theorem zK6(v1 v2:Value)(w:World)(h1:GV b ts w v1)(h2:GV b ts w v2):
  CPq 30 #[v1,v2] w fun e w'=>∃v,e= .returned v/\v= .bool true/\BWq w w':=by
 obtain⟨o1,n1,k1,rfl,g1⟩:=h1;obtain⟨o2,n2,k2,rfl,g2⟩:=h2;exact zFj b b o1 o2 n1 k1 n2 k2 ts ts w g1 g2 (decide_eq_true ⟨rfl,rfl⟩)
theorem zAv.one_new(w:World){s:Bool}{a:Option Addr}{l c:Nat}(h:jY w (.agg #[.bool s,.slice a l c]) z):zAv (w.alloc (.cells #[.bool s,.slice a l c] 43)) (slq w.heap.size 1 1) [z]:=by
 have hb:BWq w (w.alloc (.cells #[.bool s,.slice a l c] 43)):=(zA _ _).alloc (xgf _) _;refine⟨_,1,1,rfl,rfl,xgf _,oM,fun _=>⟨_,rfl,_,qX _ _ _,fun k y hk=>?_⟩⟩;match k,hk with
 |0,hk=>
  simp at hk;subst hk;exact⟨_,_,_,_,rfl,rfl,h.ext (lx hb)⟩
theorem zUs(a b:Int):qZ 2 (fun j=>if j=0 then a else b)= [a,b]:=rfl
theorem zO8(a b:Int)(ans:Bool)(v1 v2:Value)(w:World)(h1:zAC w v1 (2:Nat) (2:Nat) zOK)(h2:zAv w v2 [a,b])(ha:a.natAbs<=16)(hb:b.natAbs<=16)(hs:ans=true↔qG 2 2 (ent zOK) fun j=>if j=0 then a else b):
  CPq 35 #[v1,v2] w fun e w'=>∃v,e= .returned v/\v= .bool ans/\BWq w w':=
 zDd (e:=33) v1 v2 (fun j=>if j=0 then a else b) w dE dE ((mxL h1 (jN dE) dE dE).mono dE) (by rw[zUs];exact h2) (bdL (jN dE) dE dE) (fun j _=>by
  split<;>omega) hs
theorem zXi(v1 v2:Value)(w:World)(h1:zAC w v1 (2:Nat) (2:Nat) zOK)(h2:zAC w v2 (2:Nat) (2:Nat) zMB):
  CPq 25 #[v1,v2] w fun e w'=>∃v,e= .returned v/\v= .bool true/\BWq w w':=
 zEg (e:=33) v1 v2 w dE dE ((mxL h1 (jN dE) dE dE).mono dE) ((mxL h2 (jN dE) dE dE).mono dE) (bdL (jN dE) dE dE) ⟨fun _ x _=>zJ4 x,fun _=>rfl⟩
theorem zS2:¬ qG 2 2 (ent zOK) fun j=>if j=0 then 1 else 0:=fun h=>by
 obtain⟨k,l,h1,h2⟩:=zTw.1 h;rw[if_pos rfl]at h1;omega
theorem zXq:qG 2 2 (ent zOK) fun j=>if j=0 then 4 else-3:=zTw.2 ⟨2,-1,by decide,by decide⟩
theorem zXj(v1 v2:Value)(w:World)(h1:zAC w v1 (2:Nat) (2:Nat) zMB)(h2:zAC w v2 (2:Nat) (2:Nat) zOK):
  CPq 25 #[v1,v2] w fun e w'=>∃v,e= .returned v/\v= .bool false/\BWq w w':=
 zEg (e:=33) v1 v2 w dE dE ((mxL h1 (jN dE) dE dE).mono dE) ((mxL h2 (jN dE) dE dE).mono dE) (bdL (jN dE) dE dE) ⟨nofun,fun h=>absurd (h _ (zJ4 _)) zS2⟩
theorem zWz(v1 v2:Value)(w:World)(h1:zAC w v1 (2:Nat) (1:Nat) [[4],[6]])(h2:zAC w v2 (1:Nat) (1:Nat) [[2]]):
  CPq 27 #[v1,v2] w fun e w'=>∃v,e= .returned v/\v= .bool true/\BWq w w':=
 zYP (e:=4) v1 v2 w dE dE (mxL h1 (jN dE) dE dE) (mxL h2 (jN dE) dE dE) ⟨fun _=>zUn,fun _=>rfl⟩
theorem zT1(v1 v2:Value)(w:World)(h1:zAC w v1 (1:Nat) (1:Nat) [[4]])(h2:zAC w v2 (2:Nat) (2:Nat) zMB):
  CPq 16 #[v1,v2] w fun e w'=>∃v,e= .returned v/\v= .tuple #[.agg #[niq 0,niq 0,.slice none 0 0],niq 50]/\BWq w w':=
 (zVF v1 v2 1 2 1 2 [[4]] zMB w h1 h2 (jN dE) (jN dE) dE).mono fun e w' ⟨v,h1,h2,h3⟩=>⟨_,h1,by rw[h2],h3⟩
theorem zZk(w:World):CPq 49 #[niq 2] w fun e w'=>∃v,e= .returned v/\zAC w' v (2:Nat) (2:Nat) zMB/\BWq w w':=
 (zG3 2 w dE).mono fun e w' ⟨v,bs,he,hm,hb⟩=>⟨v,he,by
  have h:=hm.mat.1
  rwa[show genM 2 2 idf=zMB from by decide]at h,hb⟩
theorem zMq(n0 m C:Nat)(L:(Nat->Int)->Prop)(ht:tI≠t)(ht2:46≠t)(hu:t≠tU):zDO n0 t m (BX C L):=fun _ _ _ _ _ _ hb _ _ ⟨m,G,h1,h2⟩=>⟨m,G,h1,h2.wrT hb ht ht2 hu⟩
theorem zMr(n0 m C e:Nat)(L:(Nat->Int)->Prop)(ht:tI≠t)(ht2:46≠t)(hu:t≠tU):zDO n0 t m (MX C e L):=fun _ _ _ _ _ _ hb _ _ ⟨R,M,h1,h2⟩=>⟨R,M,h1.wrT hb ht ht2 hu,h2⟩
structure Gd(C e:Nat)(L:(Nat->Int)->Prop):Prop where
 bd:Bd C e L
 hb:∃m G,HB C m G L
theorem Gd.mono(h:Gd C e L)(k:e<=e'):Gd C e' L:=⟨h.bd.mono k,h.hb⟩
theorem zSR(hR:R<=6)(A:Nat->Nat->Int):∃m G,HB C m G (qG R C A):=by
 obtain⟨r,c,H,U,V,h⟩:=zHb (C:=C) hR A;exact⟨r,H,h.lat.hb⟩
theorem zLW(hR:R<=6)(hC:C<=4)(hA:leM (2^e) R C A):Gd C (4*e+17) (qG R C A):=⟨zRq hC hA,zSR hR A⟩
theorem Gd.of(h:Gd C e L)(k:∀x,L x↔L' x):Gd C e L':=⟨h.bd.of k,h.hb.elim fun m h=>h.elim fun G h=>⟨m,G,h.of k⟩⟩
theorem zWD{Q:Nat}(hR:R<=3)(hQ:Q<=3)(hC:C<=4)(hA:leM (2^e) R C A)(hB:leM (2^e) Q C B):Gd C (4*e+17) (zFO C (qG R C A) (qG Q C B)):=
 (zLW (R:=R+Q) oM hC (zY0 hA hB)).of fun x=>qG.stk x
theorem zYT{p s:Nat}(hp:p<=3)(hs:s<=3)(hC:C<=4)(hP:leM (2^e) p C P)(hQ:leM (2^e) s C Q):Gd C (20*e+53) (zJJ (qG p C P) (qG s C Q)):=by
 refine⟨fun m G hg=>(zMk hp hs hC (zFh e) hP hQ hg).mono (zW9 (xgf _)),?_⟩;obtain⟨r,c,H,U,V,hf⟩:=zHb (R:=p+s) (C:=C) oM (zIu p P Q);obtain⟨mk,c',K,U',V',hf'⟩:=zHb (R:=p+s-r) (C:=p+s) oM (ent (genM (p+s-r) (p+s) (zNo r U)));have hK:=zIq.of hf rfl hf';obtain⟨m,G,h⟩:=zSR (R:=mk) (C:=C) (by have:=hK.rows;omega) (fun a b=>zT p fun t=>K a t*P t b);exact⟨m,G,h.of fun x=>zJe hK.1 x⟩
theorem Gd.ex(h:Gd C e L)(hC:C<=3):∃m G,m<=3/\leM (2^e) m C G/\∀x,qG m C G x↔L x:=by
 obtain⟨m,G,hg⟩:=h.hb;exact⟨m,G,zB hg.le_cols hC,h.bd m G hg,fun x=>(hg.iff x).symm⟩
theorem zYU(h1:Gd C e L1)(h2:Gd C e L2)(hC:C<=3):Gd C (4*e+17) (zFO C L1 L2):=by
 obtain⟨m,G,a1,a2,a3⟩:=h1.ex hC;obtain⟨k,U,c1,c2,c3⟩:=h2.ex hC;exact(zWD a1 c1 oM a2 c2).of fun x=>zFO.congr a3 c3 x
theorem zM4(C r:Nat)(ls:List Int):leM (2^4) (r%4) C (zHF C ls):=fun a _ b _=>zB (zEz C ls a b) dE
theorem zHa(hC:C<=3)(ls:List Int):Gd C 33 (zEj C r ls):=zLW (e:=4) oM oM (zM4 C r ls)
theorem zSM(hC:C<=3)(l1 l2:List Int):Gd C 33 (zFO C (zEj C r1 l1) (zEj C r2 l2)):=zWD (e:=4) oM oM oM (zM4 C r1 l1) (zM4 C r2 l2)
theorem zSL(hC:C<=3)(l1 l2:List Int):Gd C 117 (zJJ (zEj C r1 l1) (zEj C r2 l2)):=by
 refine⟨fun m G hg=>(zMk (h:=9) oM oM oM dE (fun a _ b _=>zEz C l1 a b) (fun a _ b _=>zEz C l2 a b) hg).mono ?_,?_⟩
 ·unfold iB bB
  decide+kernel
 exact(zYT (e:=4) oM oM oM (zM4 C r1 l1) (zM4 C r2 l2)).hb
theorem Gd.lat(h:Gd C e L):Lat C L:=by
 obtain⟨m,G,hg⟩:=h.hb;have k:=zLe m C G;exact⟨(hg.iff _).2 k.zero,fun x y hx e=>(hg.iff _).2 (k.ext x y ((hg.iff _).1 hx) e),fun x y hx hy=>(hg.iff _).2 (k.add x y ((hg.iff _).1 hx) ((hg.iff _).1 hy)),fun x y hx hy=>(hg.iff _).2 (k.sub x y ((hg.iff _).1 hx) ((hg.iff _).1 hy))⟩
def Ans(f:Bool)(P:Prop):Prop:=f=true↔P
theorem zH4(P:Prop):∃f:Bool,f=true↔P:=by
 by_cases h:P
 ·exact⟨true,fun _=>h,fun _=>rfl⟩
 exact⟨false,nofun,fun g=>absurd g h⟩
end Go.Proofs.YtkidaebmhlijlaaGreat
