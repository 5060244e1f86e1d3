/- Joined. -/
import Derived.Test.YtkidaebmhlijlaaGreatD23
set_option linter.unusedVariables false
set_option linter.unusedSimpArgs false
set_option linter.unusedSectionVars false
set_option maxHeartbeats 16000000
set_option maxRecDepth 100000
namespace Go.Proofs.YtkidaebmhlijlaaGreat
open Go.RowKit
theorem RA.v{S:List Nat}{p:Nat}{W:World}{T0:Array Value}{vs:List VS}{L:Array Bool}{T:Array Value}{w:World}{s:VS}(h:RA S p W T0 vs L T w)(hs:s∈vs)(hl:L[s.op]?=some true):∃v,T[s.slot]?=some v/\s.P w v:=h.val s hs hl
theorem RA.y{S:List Nat}{p:Nat}{W:World}{T0:Array Value}{vs:List VS}{L:Array Bool}{T:Array Value}{w:World}{k:Nat}{v:Value}(h:RA S p W T0 vs L T w){s:VS}(hs:s∈vs)(hP:s.P w v)(hk:s.op=k:=by rfl):RA S p W T0 vs (L.setIfInBounds k true) (T.setIfInBounds s.slot v) w:=h.value s hs hk hP
theorem RVP.v{ka sa kb sb:Nat}{Q:Value->Value->Prop}{cp:List Cpy}{W:World}{T0:Array Value}{vs:List VS}{L:Array Bool}{T:Array Value}{w:World}{s:VS}(h:RVP ka sa kb sb Q cp W T0 vs L T w)(hs:s∈vs)(hl:L[s.op]?=some true):∃v,T[s.slot]?=some v/\s.P w v:=h.val s hs hl
theorem RVP.y{ka sa kb sb:Nat}{Q:Value->Value->Prop}{cp:List Cpy}{W:World}{T0:Array Value}{vs:List VS}{L:Array Bool}{T:Array Value}{w:World}{k:Nat}{v:Value}(h:RVP ka sa kb sb Q cp W T0 vs L T w){s:VS}(hs:s∈vs)(hP:s.P w v)
 (hq:∀u,(k=ka->T[sb]?=some u->L[kb]?=some true->Q v u)/\(k=kb->T[sa]?=some u->L[ka]?=some true->Q u v):=by intro u;exact⟨fun e=>absurd e (by decide),fun e=>absurd e (by decide)⟩)
 (hL:L[k]?=some false:=by assumption)(hc:cp.all (fun c=> !(c.k==k))=true∨∀c∈cp,c.k=k->L[c.d]?=some true/\T[c.t]?=some v:=by first|exact .inl rfl|exact .inl (by decide))(hk:s.op=k:=by rfl):
 RVP ka sa kb sb Q cp W T0 vs (L.setIfInBounds k true) (T.setIfInBounds s.slot v) w:=h.value s hs hk hP hq hL hc
end Go.Proofs.YtkidaebmhlijlaaGreat
variable{L L':(Nat->Int)->Prop}{T:Array Go.Value}{M:List (List Int)}{C N R a b h i k m m' n p q r:Nat}{f x y:Nat->Int}{c c':Nat->Nat}{A B F G G' H K P Q U V X:Nat->Nat->Int}{v:Go.Value}{w w':Go.World}
namespace Go.Proofs.YtkidaebmhlijlaaGreat
open Go.RowKit
theorem zFq.keepZ{base:Nat}{xs:List Nat}{Z:Nat->Prop}(h:zFq w base v xs)(ho:qJ Z w w')(hz:∀g,v.ownBlock=some g->¬ Z g):zFq w' base v xs:=by
 obtain⟨h1,h2,h3⟩:=id h;refine⟨h1,h2,?_⟩;rcases h3 with h3|⟨g,cap,cur,rfl,k1,k2,k3⟩
 exact .inl h3;exact .inr ⟨g,cap,cur,rfl,k1,(ho.old g (Array.getElem?_eq_some_iff.1 k2).1 (hz g rfl)).trans k2,k3⟩
abbrev tMt:TypeId:=32
theorem zKe{B:Nat}(hB:BSd B)(v:Value)(M:List (List Int))(R C:Nat)(w:World)(h:zIw w v R C M)(hF:zBU R C M)(hR:R<=1000000)(hC:C<=1000000)(hok:okF B R C (ent M))(s1:Sm 1){x0:Bst}(hx0:x0.s=ent M){J J':Nat->Bst->List (Nat × Nat)->Prop}(hE:zV6 B R C 0 J J')(hJ:J 0 x0 []):
  CPq 59 #[v] w fun e w'=>∃v y L,e= .returned v/\J R y L/\zAC w' v L.length C ((L.map (·.1)).map fun i=>qZ C (y.s i))/\BWq w w':=by
 have h0:=h;obtain⟨A,rfl,h⟩:=h;obtain⟨ao,n,cap,rfl,e2,e3,e4,-⟩:=id h;obtain rfl:R=n:=by rw[<-e2,hF.1]
 have hdv:decide (zBS R C M)=true:=decide_eq_true hF.valid;have HF:=xgv hF;have HOK:=xgv hok;have H0:=xgv h0;have S1:=xgv s1;have HE:=xgv hE;have HJ:=xgv hJ;clear hok h0 hF e2 s1 hE hJ;go_enter Tryz.func59,Tryz.ntmps59;go_upto_region 1 with(fail)
 refine zD ?_;intro W0 hW0;obtain⟨hB0,bx1,br,hs0⟩:=zAj hW0;have c1:=bx1.three;clear hW0;go_wp2_with fail
 refine(zGb _ R C M W0 (H0.out.below hB0)).mono ?_;rintro e w1 ⟨rfl,hb1⟩;rw[hdv];have bx1:=bx1.below hb1;have br:=br.below hb1;have hB1:=nx hB0 hb1;have hs1:=hb1.size;clear c1 hdv;have c1:=bx1.three;go_wp2_with fail
 refine(zNC hB.bsm _ M R C w1 (H0.out.below hB1) HF.out hR hC HOK.out S1.out).mono ?_;rintro e w2 ⟨v,rfl,hst,hb2⟩;obtain⟨bw,Ah,Au,Av,rfl,q1,q2,⟨bss,hws,hzs⟩,q3,q4⟩:=hst;have hB2:=nx hB1 hb2;have br:=br.below hb2;have bx1:=bx1.below hb2;have hs2:=hb2.size;clear c1;have c1:=bx1.three;go_upto_region 5 with(fail)
 refine zD ?_;intro W3 hW3;obtain⟨hB3',T4,hs3⟩:=qL hW3;have lbw:=q2.lt;have hB3:=nx hB2 hB3';have q2:=q2.below hB3';have br:=br.below hB3';have hws:=hws.below hB3';have q3:=q3.below hB3';have q4:=q4.below hB3';have hgz:∀g,Ah.ownBlock=some g->¬ g∈bss:=fun g hg hm=>hws.rown hws hm hg
 have hrun:zEM false (fun b=>b∈bss) W3 bw Ah R C 0 x0:=⟨rfl,Au,Av,bss,q2,by rw[hx0];exact hws,q3,q4,fun b hb=>hb⟩;have hnt:¬ w2.heap.size∈bss:=fun hm=>hws.nzb T4 dE dE (.inl hm)
 have hnr:¬ (w.heap.size+1)∈bss:=fun hm=>hws.nzb br dE dE (.inl hm)
 have hzl:∀b,b∈bss->b<W3.heap.size:=fun b hb=>hws.zlt (.inl hb)
 clear hW3 c1;go_wp2_with fail
 refine(zPJ hB HE.out hrun HJ.out hR hC oM hzl hgz).mono ?_;rintro e w5 ⟨pv,y,Lp,rfl,hO,hz,hJ,hP⟩;obtain⟨hokx,hL⟩:=HE.out.ok R y Lp hJ;have T4:=hO.blk T4 hnt;have br:=hO.blk br hnr;have hB5:BWq w w5:=zE5 hB3 (hO.mono (Z':=fun k=>w.heap.size<=k) (fun k _ hk=>by have:=hzs k (.inl hk);omega)) (xgf _) hB3.size;obtain⟨-,Au',Av',bsh,r1,r2,-,-,r5⟩:=hz;have hLl:Lp.length<=R:=hL.len;have hnd:=zKx hL;have hlt:∀k,k<Lp.length->zBx Lp k<R:=fun k hk=>(hL.mem k hk).2.1
 obtain⟨po,pcap,rfl,-,-,-⟩:=hP.at_;obtain⟨so,scap,rfl⟩:=r2.shape;have HR2:=xgv r2;have HP:=xgv hP;have HND:=xgv hnd;have HLT:=xgv hlt;have HJ:=xgv hJ;have hs5:=hO.bel.size;have l5:=br.lt;simp only[List.length_map];clear hP hJ hnd hL hokx hrun;have hwr5:∀b,Zn (.slice so R scap) bsh b->¬ b=w2.heap.size:=by rintro b hb rfl;exact HR2.out.nzb T4 dE dE hb
 have hob5:∀g,(Value.slice po (Lp.map (·.1)).length pcap).ownBlock=some g->¬ g=w2.heap.size:=by rintro g hg rfl;exact HP.out.ne T4 dE hg
 have HW5:=xgv hwr5;have HO5:=xgv hob5;have hl4:=T4.lt;obtain⟨lL,hlL⟩:∃n,(Lp.map (·.1)).length=n:=⟨_,rfl⟩;have hlL':Lp.length=lL:=by rw[<-hlL];simp
 rw[hlL]at HP HO5;clear hwr5 hob5 r2 hlL;go_wp2;go_loopw [19] (fun iv wr=>∃(k:Nat) (v:Value),iv= .int .i64 k/\k<=lL/\zD4 wr w5.heap.size v C ((Lp.take k).map fun p=>bsh.getD p.1 0) ((Lp.take k).map fun p=>qZ C (y.s p.1))/\Blk wr w2.heap.size tMt #[.int .i64 k,.int .i64 C,v]/\qJ (fun b=>b=w2.heap.size) w5 wr) (fun iv _=>lL-(intOf iv).toNat)
 case atStart=>exact⟨0,_,rfl,oM,zD4.nil _ _ _ oM,T4,qJ.refl _ _⟩
 clear T4;obtain⟨k,uv,rfl,hk,hx,T4,hO⟩:=hrel;obtain⟨vo,vn,vc,rfl⟩:=hx.shape;have hwr:=HR2.out.keepZ hO HW5.out;have l4:=T4.lt;have hsz:=hO.bel.size;have r1:=hO.blk r1 oM;obtain⟨f1,f2,f3,f4,f5,f6⟩:=T4.three;obtain⟨g1,g2,g3,-,-,-⟩:=r1.three;have br:=hO.blk br oM;have HPW:=xgv (HP.out.keepZ hO HO5.out);by_cases hlt:k<lL
 ·have hlt':k<Lp.length:=oM
  obtain⟨i,hi⟩:∃i,(Lp.map (·.1))[k]?=some i:=⟨_,xga (by simpa using hlt')⟩;obtain⟨qq,hqq⟩:∃qq,Lp[k]?=some qq:=⟨_,xga hlt'⟩;have hqi:qq.1=i:=by rw[List.getElem?_map,hqq]at hi;simpa using hi
  have hir:zBx Lp k=i:=by unfold zBx;rw[xgb,hqq];exact hqi
  have hin:i<R:=by rw[<-hir];exact HLT.out k hlt'
  obtain⟨og,oc,eo,lo,q0⟩:=HPW.out.cell hi;injection eo with eo1 eo2 eo3
  subst eo1;obtain⟨g,bi,eg,lg,hbi,-,o1,-⟩:=qC.at_ hwr (i:=i) (by rw[hwr.len];exact hin);subst eg;have hrow:=hwr.rowAt hin hbi;have htk:∀{α:Type} (f:Nat × Nat->α),(Lp.take (k+1)).map f=(Lp.take k).map f++ [f qq]:=fun f=>by
   rw[jD,zBe,hqq];rfl
  have HTB:=xgv (htk fun p=>bsh.getD p.1 0);have HTM:=xgv (htk fun p=>qZ C (y.s p.1));have HQI:=xgv hqi;have hgd:bsh.getD qq.1 0=bi:=by rw[hqi,xgb,hbi];rfl
  have hne:∀b∈(Lp.take k).map (fun p=>bsh.getD p.1 0),b≠bi:=by
   intro b hb' hbe;subst hbe;obtain⟨p,hp,he⟩:=List.mem_map.1 hb';obtain⟨t,ht1,ht2⟩:=qW hp;rw[zC1]at ht2;have ht3:t<k:=by simp at ht1;omega
   have hrt:zBx Lp t=p.1:=by unfold zBx;rw[xgb,xga oM,ht2];rfl
   have hpl:p.1<bsh.length:=by rw[hwr.len,<-hrt];exact HLT.out t oM
   have hil:i<bsh.length:=by rw[hwr.len];exact hin
   have e1:bsh.getD p.1 0=bsh[p.1]:=by rw[xgb,xga hpl];rfl
   have e2:bsh[i]=b:=(xge.1 hbi).2;have hji:p.1=i:=(yZ (h₀:=hpl) (h₁:=hil) (qC.nodup hwr)).1 (by rw[<-e1,e2];exact he);have h1:(Lp.map (·.1))[t]'(by simp;omega)=p.1:=by simp[ht2]
   have h2:(Lp.map (·.1))[k]'(by simp;omega)=i:=(xge.1 hi).2;have:=(yZ (h₀:=(by simp;omega:t<(Lp.map (·.1)).length)) (h₁:=(by simp;omega:k<(Lp.map (·.1)).length)) HND.out).1 (by rw[h1,h2,hji]);omega
  have hlr:=zKj bi C;have hblen:((Lp.take k).map fun p=>bsh.getD p.1 0).length=k:=by simp;omega
  have HNE:=xgv hne;have HGD:=xgv hgd;clear htk hne hgd hi hbi hqi hir hqq eo2 eo3;go_upto_region 8 with(fail)
  refine yP 10 [pcD 9 [] (SlR bi C)] ?_;refine sRd ?_;refine sRc (fun wS hI Gk hG=>?_) (fun vb9 _=>?_)
  ·go_simp
   exact⟨hG _ _ ⟨_,rfl,qX _ _ _⟩,(zA _ _).alloc (xgf _) _⟩
  refine sRe ?_;intro w7 hbw7 hb9;obtain⟨gs,rfl,hsl⟩:SlR bi C w7 vb9:=hb9;have hx7:=hx.below hbw7;have T47:=T4.below hbw7;have hr7:=hrow.below hbw7;have hO7:=hO.trans (qJ.of (fun b=>b=w2.heap.size) hbw7);have l47:=T47.lt;have hs7:=hbw7.size;clear o1 f3 q0 f1 f2 f4 f5 f6;go_wp2_with (at_builtin;refine zZ2 rfl _ _ rfl w5.heap.size (.slice vo vn vc) C _ _ rfl hx7 gs 1 bi _ rfl hsl hr7 (qA _ _) HNE.out (by rw[hblen];omega) oM ?_;intro v' w' hown hgr hlx;obtain⟨so',pn,pc',rfl⟩:=hown.shape;have T4n:=(hgr.block _ l47 (fun e=>by have:=(hx7.ownb _ e.symm).1;omega)).trans T47;obtain⟨f1,f2,f3,f4,f5,f6⟩:=Blk.three (t:=32) T4n)
  have T4n:Blk w' w2.heap.size tMt #[.int .i64 k,.int .i64 C,.slice vo vn vc]:=T4n;have hO8:qJ (fun b=>b=w2.heap.size) w5 w':=⟨hO7.bel.grown hgr (zE _) (fun _ _=>zE _),hO7.lext.trans hlx,fun b hb hn=>(hgr.block b oM (fun e=>by have:=(hx7.ownb _ e.symm).1;omega)).trans (hO7.old b hb hn)⟩;go_roundw
  case rel=>
   have hX:zD4 (w'.setCell ⟨w2.heap.size,2,none⟩ (.slice so' pn pc')) w5.heap.size (.slice so' pn pc') C ((Lp.take (k+1)).map fun p=>bsh.getD p.1 0) ((Lp.take (k+1)).map fun p=>qZ C (y.s p.1)):=by
    rw[HTB.out,HTM.out,HGD.out,HQI.out];exact hown.off T4n dE oM (fun b hb=>zY _ _ _ b _ hb) (T4n.lext dE _ _)
   have T4m:Blk (w'.setCell ⟨w2.heap.size,2,none⟩ (.slice so' pn pc')) w2.heap.size tMt #[.int .i64 k,.int .i64 C,.slice so' pn pc']:=by simpa using T4n.set_ 2 (.slice so' pn pc')
   refine⟨k+1,.slice so' pn pc',by simp,oM,hX.off T4m dE oM (fun b hb=>zY _ _ _ b _ hb) (T4m.lext dE _ _),by simpa using T4m.set_ 0 (.int .i64 ((k:Int)+1)),?_⟩;exact⟨yJ (yJ hO8.bel (zE _) _ _) (zE _) _ _,(hO8.lext.trans (T4n.lext dE _ _)).trans (T4m.lext dE _ _),fun b hb hn=>(zY _ _ _ _ _ hn).trans ((zY _ _ _ _ _ hn).trans (hO8.old b hb hn))⟩
  case measure=>exact meq
 obtain rfl:k=lL:=oM;obtain⟨e1,e2,e3,e4,e5,e6⟩:=br.three;have htk:Lp.take k=Lp:=jK oM;rw[htk]at hx;have hBr:BWq w wr:=zE5 hB5 (hO.mono (Z':=fun k=>w.heap.size<=k) (fun k _ hk=>by omega)) (xgf _) hB5.size;go_wp2;refine zAZ (r:=w.heap.size+1) rfl rfl rfl (br.put3 _ _ _) ⟨_,y,Lp,rfl,HJ.out,?_,yJ (yJ (yJ hBr oM _ _) oM _ _) oM _ _⟩;rw[hlL'];have h2:=qC.rows (hx.off br dE oM (fun b hbn=>zAf _ _ b _ _ _ hbn) (br.lext3 dE (.int .i64 k) (.int .i64 C) (.slice vo vn vc))).rows0;refine⟨_,rfl,?_⟩;rw[List.map_map];exact h2
structure zJI(R C r:Nat)(c:Nat->Nat)(A H:Nat->Nat->Int):Prop where
 hnf:Hnf C R r c H
 sp:zKB R C H A
 sp':zKB R C A H
theorem zE4.lat(h:zE4 R C r c A H U V):zJI R C r c A H:=⟨h.hnf,h.sp,h.sp'⟩
theorem zMi{M0:Nat}(hM1:1<=M0)(v:Value)(M:List (List Int))(R C:Nat)(w:World)(h:zIw w v R C M)(hF:zBU R C M)(hR:R<=6)(hC:C<=1000000)(hg:gk (es R) M0<BD)(hA:leM M0 R C (ent M)):
  CPq 59 #[v] w fun e w'=>∃v r c H U V,e= .returned v/\zE4 R C r c (ent M) H U V/\zAC w' v r C (genM r C H)/\BWq w w':=by
 have hB:=zKO;have hB0:leB M0 R C 0 ⟨ent M,idf,idf⟩:=⟨hA,fun _ _ b hb=>oM,fun _ _ b hb=>oM⟩;have hE:=zSG (r:=R) (Cs:=C) (x0:=⟨ent M,idf,idf⟩) (Ct:=0) hR hM1 (zK (zEY hM1 (zWC R R)) hg) RkB.all;have hMB:M0<BD:=zK (zKD _ hM1) hg;refine(zKe hB v M R C w h hF oM hC (hA.ok hMB) (zGN (z:=1) dE).sm (x0:=⟨ent M,idf,idf⟩) rfl hE (zPN hB0 hM1)).mono ?_;rintro ee w' ⟨v,y,L,rfl,hJ,hv,hb⟩;obtain⟨hJ,hr⟩:=JH.fin hJ;have hl:=zLu (hJ.lok (xgf _)) (fun a ha hn=>by rw[zGY (hJ.zero a ha hn)];decide);have hf:=zLX hJ hr hl;refine⟨v,L.length,_,_,_,_,rfl,hf,?_,hb⟩;rw[zI5 (n:=L.length) sI]at hv;have e:genM L.length C (fun a b=>y.s ((L.map (·.1)).getD a 0) b)=genM L.length C fun a b=>y.s (zG1 R C y.s L a) b:=zAG fun i hi j _=>by
  rw[zGd hi];unfold zBx;rw[xgb,List.getElem?_map,xgb,xga hi];rfl
 rw[e]at hv;exact hv
def zFx(C:Nat)(F:Nat->Nat->Int)(i:Nat):Prop:=
 lead C F i<0∨∃c:Nat,lead C F i=(c:Int)/\(∀k,k<i->0<=lead C F k/\lead C F k<c)/\0<F i c/\∀k,k<i->0<=F k c/\F k c<F i c
def zRf(R C:Int)(M:List (List Int)):Prop:=zBS R C M/\∀i,i<M.length->zFx C.toNat (ent M) i
theorem zFx.split{C:Nat}{F:Nat->Nat->Int}:∀n,(∀i,i<n->zFx C F i)->∃r,r<=n/\(∀k,k<r->0<=lead C F k)/\∀k,r<=k->k<n->lead C F k<0
 |0,_=>⟨0,xgf _,fun k hk=>oM,fun k _ hk=>oM⟩
 | n+1,h=>by
  obtain⟨r,h1,h2,h3⟩:=zFx.split n fun i hi=>h i oM
  rcases h n oM with hl|⟨c,hc,hk,-⟩
  ·refine⟨r,oM,h2,fun k hk1 hk2=>?_⟩
   by_cases e:k=n
   ·rw[e];exact hl
   exact h3 k hk1 oM
  refine⟨n+1,xgf _,fun k hk2=>?_,fun k _ _=>oM⟩;by_cases e:k=n
  ·rw[e,hc];omega
  exact(hk k oM).1
theorem zN3(h:∀i,i<n->zFx C F i):∃r c,Hnf C n r c F:=by
 obtain⟨r,h1,h2,h3⟩:=zFx.split n h;have hr:∀k,k<r->∃c:Nat,lead C F k=(c:Int)/\(∀j,j<k->0<=lead C F j/\lead C F j<c)/\0<F k c/\∀j,j<k->0<=F j c/\F j c<F k c:=fun k hk=>by
  rcases h k oM with hl|hl
  have:=h2 k hk;omega;exact hl
 refine⟨r,fun k=>(lead C F k).toNat,h1,⟨fun k hk=>zSo (by have:=h2 k hk;omega),fun k hk=>?_,fun k hk t ht=>?_,fun k l hkl hl=>?_⟩,fun i j hij hj _=>?_,fun a h1 h2 t ht=>zHg (h3 a h1 h2) t ht⟩
 ·obtain⟨c,e,-,hp,-⟩:=hr k hk
  simp only[e,Int.toNat_natCast];exact hp
 ·obtain⟨c,e,e2,e3,hz⟩:=zHh (C:=C) (F:=F) (i:=k) (by have:=h2 k hk;omega)
  simp only[e,Int.toNat_natCast]at ht;exact hz t ht
 ·obtain⟨c,e,e2,-⟩:=hr l hl
  have:=e2 k hkl;simp only[e,Int.toNat_natCast];omega
 obtain⟨c,e,-,-,e2⟩:=hr j hj;simp only[e,Int.toNat_natCast];exact e2 i hij
theorem Hnf.lead_lo(h:Hnf C n r c F)(hk:k<r):lead C F k=(c k:Int):=h.ech.lead hk
theorem Hnf.lead_hi(h:Hnf C n r c F)(h1:r<=k)(h2:k<n):lead C F k=-1:=zGY (h.zero k h1 h2)
theorem zOm(h:Hnf C n r c F)(hi:i<n):zFx C F i:=by
 rcases zG i r with hr|hr
 ·refine .inr ⟨c i,h.lead_lo hr,fun k hk=>?_,h.ech.pos i hr,fun k hk=>h.red k i hk hr trivial⟩
  rw[h.lead_lo (k:=k) oM];have:=h.ech.inc k i hk hr;omega
 exact .inl (by rw[h.lead_hi hr hi];decide)
theorem zFx.congr(hi:i<n)(e:∀a,a<n->∀b,b<C->G a b=F a b)(h:zFx C F i):zFx C G i:=by
 have hl:∀k,k<n->lead C G k=lead C F k:=fun k hk=>zQa (e k hk)
 rcases h with h|⟨c,h1,h2,h3,h4⟩
 exact .inl (by rw[hl i hi];exact h);have hc:=(zDi h1).1;refine .inr ⟨c,by rw[hl i hi];exact h1,fun k hk=>by rw[hl k oM];exact h2 k hk,by rw[e i hi c hc];exact h3,fun k hk=>by rw[e i hi c hc,e k oM c hc];exact h4 k hk⟩
theorem zMl:zRf R C (genM R C F)↔∃r c,Hnf C R r c F:=by
 have hlen:(genM R C F).length=R:=(yW R C F).1;constructor
 ·rintro⟨-,h⟩
  rw[hlen]at h;exact zN3 fun i hi=>(h i hi).congr (F:=ent (genM R C F)) hi fun a ha b hb=>(yR ha hb).symm
 rintro⟨r,c,h⟩;refine⟨(yW R C F).valid,fun i hi=>?_⟩;rw[hlen]at hi;exact(zOm h hi).congr hi fun a ha b hb=>yR ha hb
def qG(m C:Nat)(A:Nat->Nat->Int)(x:Nat->Int):Prop:=∃y:Nat->Int,∀b,b<C->x b=zT m fun a=>y a*A a b
def zNe(R C:Nat)(A:Nat->Nat->Int)(x:Nat->Int):Prop:=∀b,b<C->(zT R fun a=>x a*A a b)=0
def zZM(R C:Nat)(A:Nat->Nat->Int)(x:Nat->Int):Prop:=∀y:Nat->Int,(∀a,a<R->(zT C fun b=>A a b*y b)=0)->(zT C fun b=>x b*y b)=0
structure HB(C m:Nat)(G:Nat->Nat->Int)(L:(Nat->Int)->Prop):Prop where
 hnf:∃c,Hnf C m m c G
 iff:∀x,L x↔qG m C G x
theorem qG.row(A:Nat->Nat->Int)(ha:a<m):qG m C A (A a):=
 ⟨fun t=>if t=a then 1 else 0,fun b _=>by rw[zAB ha (fun i _ hne=>by dsimp only;rw[if_neg hne,zX])];dsimp only;rw[if_pos rfl,jX]⟩
theorem qG.sub(h:∀a,a<m->qG m' C G (A a))(hx:qG m C A x):qG m' C G x:=by
 obtain⟨y,hy⟩:=hx;have hY:∀a,∃Y:Nat->Int,a<m->∀b,b<C->A a b=zT m' fun t=>Y t*G t b:=fun a=>by
  by_cases ha:a<m
  ·obtain⟨Y,h⟩:=h a ha
   exact⟨Y,fun _=>h⟩
  exact⟨fun _=>0,fun h=>absurd h ha⟩
 refine⟨fun t=>zT m fun a=>y a*(hY a).choose t,fun b hb=>?_⟩;rw[hy b hb];have e:(zT m fun a=>y a*A a b)=zT m fun a=>zT m' fun t=>y a*(hY a).choose t*G t b:=zF fun a ha=>by
  rw[(hY a).choose_spec ha b hb,<-yX];exact zF fun t _=>by rw[qK]
 rw[e,zBj];exact zF fun t _=>zDC _ _ _
theorem qG.congr(h:∀a,a<m->∀b,b<C->A a b=B a b)(x:Nat->Int):qG m C A x↔qG m C B x:=by
 constructor<;>(rintro⟨y,hy⟩;refine⟨y,fun b hb=>(hy b hb).trans (zF fun a ha=>by rw[h a ha b hb])⟩)
theorem zNe.congr(h:∀a,a<R->∀b,b<C->A a b=B a b)(x:Nat->Int):zNe R C A x↔zNe R C B x:=by
 constructor<;>(intro hx b hb;rw[<-hx b hb];exact zF fun a ha=>by rw[h a ha b hb])
def zKJ(m:Nat)(G:Nat->Nat->Int):Nat->Nat->Int:=fun a b=>if a<m then G a b else 0
theorem zTB(h:Hnf C m m c G)(hm:m<=n):Hnf C n m c (zKJ m G):=by
 have e:∀a,a<m->∀b,zKJ m G a b=G a b:=fun a ha b=>if_pos ha
 exact⟨hm,⟨h.ech.lt,fun k hk=>by rw[e k hk];exact h.ech.pos k hk,fun k hk t ht=>by rw[e k hk];exact h.ech.zero k hk t ht,h.ech.inc⟩,
  fun i j h1 h2 h3=>by rw[e i oM,e j h2];exact h.red i j h1 h2 h3,fun a h1 _ t _=>if_neg oM⟩
theorem zPZ(hm:m<=n)(h:∀a,a<m'->qG m C G (G' a)):zKB n C (zKJ m G) (zKJ m' G'):=by
 have hY:∀a,∃Y:Nat->Int,a<m'->∀b,b<C->G' a b=zT m fun t=>Y t*G t b:=fun a=>by
  by_cases ha:a<m'
  ·obtain⟨Y,h⟩:=h a ha
   exact⟨Y,fun _=>h⟩
  exact⟨fun _=>0,fun h=>absurd h ha⟩
 refine⟨fun a t=>if a<m' then(hY a).choose t else 0,fun a _ b hb=>?_⟩;rw[zDm hm (fun t h1 _=>by rw[show zKJ m G t b=0 from if_neg oM,zP])];by_cases ha:a<m'
 ·rw[show zKJ m' G' a b=G' a b from if_pos ha,(hY a).choose_spec ha b hb]
  exact zF fun t ht=>by dsimp only;rw[if_pos ha,show zKJ m G t b=G t b from if_pos ht]
 rw[show zKJ m' G' a b=0 from if_neg ha];exact(zAS fun t _=>by dsimp only;rw[if_neg ha,zX]).symm
theorem HB.eq(h:HB C m G L)(h':HB C m' G' L')(e:∀x,L x↔L' x):m=m'/\∀a,a<m->∀b,b<C->G' a b=G a b:=by
 obtain⟨c,hc⟩:=h.hnf;obtain⟨c',hc'⟩:=h'.hnf;have s1:∀a,a<m'->qG m C G (G' a):=fun a ha=>(h.iff _).1 ((e _).2 ((h'.iff _).2 (qG.row G' ha)))
 have s2:∀a,a<m->qG m' C G' (G a):=fun a ha=>(h'.iff _).1 ((e _).1 ((h.iff _).2 (qG.row G ha)))
 obtain⟨e1,-,e2⟩:=zQO (zTB hc (zBs m m')) (zTB hc' (Nat.le_add_left m' m)) (zPZ (zBs m m') s1) (zPZ (Nat.le_add_left m' m) s2);refine⟨e1,fun a ha b hb=>?_⟩;have:=e2 a oM b hb;rwa[show zKJ m' G' a b=G' a b from if_pos oM,show zKJ m G a b=G a b from if_pos ha]at this
theorem HB.mat(h:HB C m G L)(h':HB C m' G' L')(e:∀x,L x↔L' x):m=m'/\genM m C G=genM m' C G':=by
 obtain⟨rfl,e2⟩:=h.eq h' e;exact⟨rfl,zAG fun a ha b hb=>(e2 a ha b hb).symm⟩
theorem HB.of(h:HB C m G L)(e:∀x,L x↔L' x):HB C m G L':=⟨h.hnf,fun x=>(e x).symm.trans (h.iff x)⟩
theorem zJI.hb(h:zJI R C r c A H):HB C r H (qG R C A):=by
 refine⟨⟨c,xgf _,h.hnf.ech,h.hnf.red,fun a h1 h2=>oM⟩,fun x=>⟨qG.sub fun a ha=>?_,qG.sub fun a ha=>?_⟩⟩
 ·obtain⟨X,hX⟩:=h.hnf.span h.sp
  exact⟨X a,fun b hb=>hX a ha b hb⟩
 obtain⟨X,hX⟩:=h.sp';exact⟨X a,fun b hb=>hX a (by have:=h.hnf.le;omega) b hb⟩
theorem zTy(hr:r<=R)(h:∀t,t<r->f t=0):zT R f=zT (R-r) fun a=>f (r+a):=by
 obtain⟨d,rfl⟩:=zAc hr;rw[qS];clear hr;induction d with
 |zero=>exact zAS h
 |succ d ih=>show zT (r+d) f+f (r+d)=_;rw[ih];rfl
theorem zYk{w:Nat->Int}(hd:det r F≠0)(h:∀b,b<r->(zT r fun t=>w t*F t b)=0):∀j,j<r->w j=0:=fun j hj=>by
 have e1:det r (zKA F j fun b=>zT r fun t=>w t*F t b)=0:=zCN hj fun b hb=>by unfold zKA;rw[if_pos rfl];exact h b hb
 rw[zHE hj,zAB hj (fun t ht hne=>?_),zTo]at e1
 ·rcases Int.mul_eq_zero.1 e1 with h0|h0
  ·exact h0
  exact absurd h0 hd
 have:det r (zKA F j (F t))=0:=by
  rcases zG t j with h2|h2
  exact zGR h2 hj fun b=>by unfold zKA;rw[if_pos rfl,if_neg oM]
  exact zGR (c:=j) (d:=t) oM ht fun b=>by unfold zKA;rw[if_pos rfl,if_neg oM]
 rw[this,zP]
theorem zSe(h:∀a,a<n->∀b,b<n->zT n (fun t=>U a t*V t b)=idf a b):∀a,a<n->∀b,b<n->zT n (fun t=>V a t*U t b)=idf a b:=by
 obtain⟨σ,hσ,hd⟩:=zPA h;have hV:det n V≠0:=fun h0=>by
  have:=zHX (A:=V) σ (fun b=>b) hσ fun a ha=>ha
  rw[h0]at this;exact hd (Int.zero_dvd.1 this)
 intro a ha b hb;have:=zYk (w:=fun b=>zT n (fun t=>V a t*U t b)-idf a b) hV (fun b' hb'=>by
  have e1:(zT n fun t=>(zT n (fun s=>V a s*U s t)-idf a t)*V t b')=(zT n fun t=>zT n (fun s=>V a s*U s t)*V t b')+-1*zT n fun t=>idf a t*V t b':=by
   rw[<-yX,<-zBQ];exact zF fun t _=>by rw[zDz];omega
  have e2:(zT n fun t=>zT n (fun s=>V a s*U s t)*V t b')=V a b':=by
   have:(zT n fun t=>zT n (fun s=>V a s*U s t)*V t b')=zT n fun t=>zT n fun s=>V a s*(U s t*V t b'):=zF fun t _=>by
    rw[<-zDC];exact zF fun s _=>qK _ _ _
   rw[this,zBj];have:(zT n fun s=>zT n fun t=>V a s*(U s t*V t b'))=zT n fun s=>V a s*idf s b':=zF fun s hs=>by rw[yX,h s hs b' hb']
   rw[this,zAB hb' (fun s _ hne=>by rw[show idf s b'=0 from if_neg hne,zP]),show idf b' b'=1 from if_pos rfl,zAT]
  have e3:(zT n fun t=>idf a t*V t b')=V a b':=by
   rw[zAB ha (fun s _ hne=>by rw[show idf a s=0 from if_neg (fun e=>hne e.symm),zX]),show idf a a=1 from if_pos rfl,jX]
  show(zT n fun t=>(zT n (fun s=>V a s*U s t)-idf a t)*V t b')=0;rw[e1,e2,e3];omega) b hb
 omega
def zNo(r:Nat)(U:Nat->Nat->Int):Nat->Nat->Int:=fun a b=>U (r+a) b
theorem zCZ(x:Nat->Int)(F:Nat->Nat->Int)(y:Nat->Int):(zT m fun t=>zT n (fun s=>x s*F s t)*y t)=zT n fun s=>x s*zT m fun t=>F s t*y t:=by
 have:(zT m fun t=>zT n (fun s=>x s*F s t)*y t)=zT m fun t=>zT n fun s=>x s*(F s t*y t):=zF fun t _=>by
  rw[<-zDC];exact zF fun s _=>qK _ _ _
 rw[this,zBj];exact zF fun s _=>yX _ _ _
theorem zE4.ker(h:zE4 R C r c A H U V)(x:Nat->Int):qG (R-r) R (zNo r U) x↔zNe R C A x:=by
 have hr:=h.hnf.le;constructor
 ·rintro⟨y,hy⟩ b hb
  have e:(zT R fun a=>x a*A a b)=zT R fun a=>zT (R-r) (fun s=>y s*zNo r U s a)*A a b:=zF fun a ha=>by rw[hy a ha]
  rw[e,zCZ];refine zAS fun s hs=>?_
  have:=h.mul (r+s) oM b hb;rw[h.hnf.zero (r+s) oM oM b hb]at this;rw[show(zT R fun t=>zNo r U s t*A t b)=0 from this.symm,zP]
 intro hx;obtain⟨z,hz⟩:∃z:Nat->Int,∀t,z t=zT R fun s=>x s*V s t:=⟨_,fun _=>rfl⟩
 have h0:∀b,b<C->(zT r fun t=>z t*H t b)=0:=fun b hb=>by
  rw[<-zDm hr (fun t h1 h2=>by rw[h.hnf.zero t h1 h2 b hb,zP])];have e:(zT R fun t=>z t*H t b)=zT R fun t=>zT R (fun s=>x s*V s t)*H t b:=zF fun t _=>by rw[hz]
  rw[e,zCZ,<-hx b hb];exact zF fun s hs=>by rw[h.back s hs b hb]
 have hz0:∀t,t<r->z t=0:=by
  refine fun t ht=>zL fun hne=>?_
  obtain⟨u,hu,hu1,hu2⟩:=zI0 ⟨t,ht,hne⟩;have e1:=zLO h.hnf.ech hu hu2;rw[h0 _ (h.hnf.ech.lt u hu)]at e1;rcases Int.mul_eq_zero.1 e1.symm with h3|h3
  exact hu1 h3;have:=h.hnf.ech.pos u hu;omega
 refine⟨fun a=>z (r+a),fun b hb=>?_⟩;have e:(zT R fun t=>z t*U t b)=x b:=by
  have e1:(zT R fun t=>z t*U t b)=zT R fun t=>zT R (fun s=>x s*V s t)*U t b:=zF fun t _=>by rw[hz]
  rw[e1,zCZ,zAB hb (fun s hs hne=>by rw[zSe h.inv s hs b hb,show idf s b=0 from if_neg hne,zP]),zSe h.inv b hb b hb,show idf b b=1 from if_pos rfl,zAT]
 rw[<-e,zTy hr (fun t ht=>by rw[hz0 t ht,zX])];rfl
def zDW(k R C:Nat)(A:Nat->Nat->Int):Prop:=∃σ τ:Nat->Nat,(∀a,a<k->σ a<R)/\(∀a,a<k->τ a<C)/\det k (fun a b=>A (σ a) (τ b))≠0
theorem zDW.tr(h:zDW k R C A):zDW k C R (trF A):=by
 obtain⟨σ,τ,h1,h2,h3⟩:=h;refine⟨τ,σ,h2,h1,fun h0=>h3 ?_⟩;rw[<-zC5,<-h0];rfl
theorem zIN(h:∀a,a<R->∀b,b<C->F a b=zT q fun t=>X a t*G t b)(hm:zDW k R C F):k<=q:=by
 obtain⟨σ,τ,hσ,hτ,hd⟩:=hm;refine zAD fun hlt=>hd ?_
 have h1:(0:Int)∣det k fun a b=>zT q fun t=>X (σ a) t*G t (τ b):=zCs (P:=fun a t=>X (σ a) t) (F:=fun t b=>G t (τ b)) fun ρ hρ=>by
  refine zDQ (R:=q) (F:=fun t b=>G t (τ b)) (fun ρ hρ hi=>?_) ρ hρ;have h2:=hi.le (k-1) oM;have h3:=hρ (k-1) oM;omega
 rw[zAe (G:=fun a b=>F (σ a) (τ b)) fun a ha b hb=>(h _ (hσ a ha) _ (hτ b hb)).symm]at h1;exact Int.zero_dvd.1 h1
theorem zDW.of_mul(h:∀a,a<R->∀b,b<C->F a b=zT q fun t=>X a t*G t b)(hm:zDW k R C F):zDW k q C G:=by
 obtain⟨σ,τ,hσ,hτ,hd⟩:=hm;refine zL fun hn=>hd ?_
 have h1:(0:Int)∣det k fun a b=>zT q fun t=>X (σ a) t*G t (τ b):=zCs (P:=fun a t=>X (σ a) t) (F:=fun t b=>G t (τ b)) fun ρ hρ=>by
  have:det k (fun a b=>G (ρ a) (τ b))=0:=zL fun h0=>hn ⟨ρ,τ,hρ,hτ,h0⟩
  rw[this];exact zAM 0
 rw[zAe (G:=fun a b=>F (σ a) (τ b)) fun a ha b hb=>(h _ (hσ a ha) _ (hτ b hb)).symm]at h1;exact Int.zero_dvd.1 h1
theorem zDW.cols(hm:zDW k R C A):k<=C:=by
 refine zIN (q:=C) (X:=A) (G:=idf) (C:=C) (fun a _ b hb=>?_) hm;rw[zAB hb (fun t _ hne=>by rw[show idf t b=0 from if_neg hne,zP]),show idf b b=1 from if_pos rfl,zAT]
theorem zLw(h:∀i,i<n->f i≠0):jB n f≠0:=by
 induction n with
 |zero=>exact(show(1:Int)≠0 by decide)
 |succ n ih=>
  intro h0;rcases Int.mul_eq_zero.1 (show jB n f*f n=0 from h0)with h1|h1
  exact ih (fun i hi=>h i oM) h1;exact h n oM h1
theorem Ech.min1(h:Ech C r c H):zDW r r C H:=by
 refine⟨fun a=>a,c,fun a ha=>ha,h.lt,?_⟩;rw[zFz fun a ha b hb hba=>h.zero a ha _ (h.inc b a hba ha)];exact zLw fun i hi=>by have:=h.pos i hi;omega
theorem zJI.min1(h:zJI R C r c A H):zDW r R C A:=by
 obtain⟨X,hX⟩:=h.sp';exact zDW.of_mul (F:=H) (fun a ha b hb=>hX a (by have:=h.hnf.le;omega) b hb) h.hnf.ech.min1
theorem zJI.rank(h:zJI R C r c A H)(hm:zDW k R C A):k<=r:=by
 obtain⟨X,hX⟩:=h.hnf.span h.sp;exact zIN hX hm
theorem HB.min1(h:HB C m G L):zDW m m C G:=by
 obtain⟨c,hc⟩:=h.hnf;exact hc.ech.min1
theorem zB6(h:∀a,a<p->qG q C G (F a)):∃X:Nat->Nat->Int,∀a,a<p->∀b,b<C->F a b=zT q fun t=>X a t*G t b:=by
 have hY:∀a,∃Y:Nat->Int,a<p->∀b,b<C->F a b=zT q fun t=>Y t*G t b:=fun a=>by
  by_cases ha:a<p
  ·obtain⟨Y,h⟩:=h a ha
   exact⟨Y,fun _=>h⟩
  exact⟨fun _=>0,fun h=>absurd h ha⟩
 exact⟨fun a=>(hY a).choose,fun a ha=>(hY a).choose_spec ha⟩
theorem zHc(h:zE4 R C r c A H U V)(hb:HB R m G (zNe R C A)):m+r=R:=by
 have hr:=h.hnf.le;have hK:zDW (R-r) (R-r) R (zNo r U):=by
  have h1:∀a,a<R-r->∀b,b<R-r->(zT R fun t=>zNo r U a t*V t (r+b))=idf a b:=fun a ha b hb=>by
   have:=h.inv (r+a) oM (r+b) oM;show(zT R fun t=>U (r+a) t*V t (r+b))=_;rw[this];unfold idf;by_cases e:a=b
   ·rw[if_pos e,if_pos oM]
   rw[if_neg e,if_neg oM]
  refine zL fun hn=>?_
  have h2:(0:Int)∣det (R-r) fun a b=>zT R fun t=>zNo r U a t*V t (r+b):=zEq (F:=zNo r U) (Q:=fun t b=>V t (r+b)) fun τ hτ=>by
   have:det (R-r) (fun a b=>zNo r U a (τ b))=0:=zL fun h0=>hn ⟨fun a=>a,τ,fun a ha=>ha,hτ,h0⟩
   rw[this];exact zAM 0
  rw[zAe (G:=idf) h1,zR7]at h2;have:=Int.zero_dvd.1 h2;omega
 obtain⟨X,hX⟩:=zB6 (F:=zNo r U) (G:=G) (p:=R-r) (q:=m) (C:=R) fun a ha=>(hb.iff _).1 ((h.ker _).1 (qG.row _ ha))
 obtain⟨Y,hY⟩:=zB6 (F:=G) (G:=zNo r U) (p:=m) (q:=R-r) (C:=R) fun a ha=>(h.ker _).2 ((hb.iff _).2 (qG.row _ ha))
 have h1:=zIN hX hK;have h2:=zIN hY hb.min1;omega
theorem zJj(h:¬ zDW k R C A):¬ zDW (k+1) (R+1) C A:=by
 rintro⟨σ,τ,hσ,hτ,hd⟩;refine hd (Int.zero_dvd.1 ?_);have h0:∀σ τ:Nat->Nat,(∀a,a<k->σ a<R)->(∀a,a<k->τ a<C)->det k (fun a b=>A (σ a) (τ b))=0:=fun σ τ h1 h2=>zL fun h3=>h ⟨σ,τ,h1,h2,h3⟩
 refine zDQ (R:=R+1) (F:=fun a b=>A a (τ b)) (fun σ hσ hi=>?_) σ hσ;have hlow:∀a,a<k->σ a<R:=fun a ha=>by
  have h1:=hi.lt a k ha oM;have h2:=hσ k oM;omega
 obtain⟨q,hq0,hq1⟩:∃q:Nat->Nat,q 0=σ k/\∀a,q (a+1)=σ a:=⟨fun a=>if a=0 then σ k else σ (a-1),rfl,fun a=>rfl⟩;have e1:det (k+1) (fun a b=>A (q a) (τ b))=0:=by
  rw[zCj];refine zAS fun j hj=>?_
  have:det k (mnr (fun a b=>A (q a) (τ b)) 0 j)=0:=by
   have:=h0 σ (fun b=>τ (sk j b)) hlow fun b hb=>hτ _ (zRC hb)
   rw[<-this];exact zAe fun a _ b _=>by
    show A (q (sk 0 a)) (τ (sk j b))=_;rw[zEf,hq1]
  rw[this,zP,zP]
 have e2:=zHX (n:=k+1) (A:=fun a b=>A (q a) (τ b)) (fun a=>if a=k then 0 else a+1) (fun b=>b) (fun a ha=>by split<;>omega) fun b hb=>hb
 rw[e1]at e2;rw[show det (k+1) (fun a b=>A (σ a) (τ b))=det (k+1) (fun a b=>A (q (if a=k then 0 else a+1)) (τ b)) from zAe fun a ha b hb=>by
  by_cases e:a=k
  ·rw[if_pos e,hq0,e]
  rw[if_neg e,hq1]]
 exact e2
theorem zDW.down(h:zDW (k+1) R C A):zDW k R C A:=zL fun hn=>by
 refine zJj hn ?_;obtain⟨σ,τ,a,b,c⟩:=h;exact⟨σ,τ,fun i hi=>by have:=a i hi;omega,b,c⟩
theorem zVg{c:Nat}(hc:c<n)(x:Int)(f:Nat->Int):(zT n fun s=>(if c=s then x else 0)*f s)=x*f c:=by
 rw[zAB hc (fun i _ hne=>by rw[if_neg (fun e=>hne e.symm),zX]),if_pos rfl]
theorem zSf(h1:1<=h)(hN:N<=5∨C<=4):∀R,R<=N->leM h R C A->∃r m,∃(ρ:Nat->Nat) (W:Nat->Nat->Int),m+r=R/\zDW r R C A/\¬ zDW (r+1) R C A∧
  (∀i,i<m->ρ i<R/\W i (ρ i)≠0/\(∀t,ρ i<t->W i t=0)/\zNe R C A (W i)/\∀t,(W i t).natAbs<=N*(24*h^4))/\∀i j,i<j->j<m->ρ i<ρ j:=by
 intro R;induction R with
 |zero=>
  intro _ _;refine⟨0,0,fun _=>0,fun _ _=>0,rfl,⟨fun a=>a,fun a=>a,fun a ha=>oM,fun a ha=>oM,show(1:Int)≠0 by decide⟩,?_,fun i hi=>oM,fun i j _ hj=>oM⟩;rintro⟨σ,τ,hσ,-,-⟩;have:=hσ 0 oM;omega
 | succ R ih=>
  intro hR hA;obtain⟨r,m,ρ,W,e1,hm,hn,hW,hρ⟩:=ih oM fun a ha b hb=>hA a oM b hb
  have up:zDW r (R+1) C A:=by
   obtain⟨σ,τ,a,b,c⟩:=hm;exact⟨σ,τ,fun i hi=>by have:=a i hi;omega,b,c⟩
  have old:∀i,i<m->ρ i<R+1/\W i (ρ i)≠0/\(∀t,ρ i<t->W i t=0)/\zNe (R+1) C A (W i)/\∀t,(W i t).natAbs<=N*(24*h^4):=fun i hi=>by
   obtain⟨a1,a2,a3,a4,a5⟩:=hW i hi;refine⟨oM,a2,a3,fun b hb=>?_,a5⟩;show(zT R fun a=>W i a*A a b)+W i R*A R b=0;rw[a4 b hb,a3 R a1,zX];rfl
  by_cases hx:zDW (r+1) (R+1) C A
  ·exact⟨r+1,m,ρ,W,oM,hx,zJj hn,old,hρ⟩
  have hr4:r<=4:=by
   have:=hm.cols;omega
  obtain⟨σ,τ,hσ,hτ,hd⟩:=hm;obtain⟨q,hq0,hq1⟩:∃q:Nat->Nat,q 0=R/\∀a,q (a+1)=σ a:=⟨fun a=>if a=0 then R else σ (a-1),rfl,fun a=>rfl⟩;have hqR:∀i,i<r+1->q i<R+1:=fun i hi=>by
   cases i with
   |zero=>rw[hq0];omega
   |succ i=>rw[hq1];have:=hσ i oM;omega
  have hqn:∀i,i<r+1->i≠0->q i<R:=fun i hi hne=>by
   cases i with
   |zero=>omega
   |succ i=>rw[hq1];exact hσ i oM
  obtain⟨cf,hcf⟩:∃cf:Nat->Int,∀i,cf i=sg1 i*det r fun a b=>A (q (sk i a)) (τ b):=⟨_,fun _=>rfl⟩
  obtain⟨w,hw⟩:∃w:Nat->Int,∀s,w s=zT (r+1) fun i=>if q i=s then cf i else 0:=⟨_,fun _=>rfl⟩
  have hc0:cf 0≠0:=by
   rw[hcf];have:(det r fun a b=>A (q (sk 0 a)) (τ b))=det r fun a b=>A (σ a) (τ b):=zAe fun a _ b _=>by rw[zEf,hq1]
   rw[this];simpa[sg1]using hd
  have hwR:w R=cf 0:=by
   rw[hw,zAB (c:=0) oM (fun i hi hne=>by rw[if_neg (by have:=hqn i hi hne;omega)]),if_pos hq0]
  have hker:zNe (R+1) C A w:=fun b hb=>by
   have e:(zT (R+1) fun s=>w s*A s b)=zT (r+1) fun i=>cf i*A (q i) b:=by
    have e2:(zT (R+1) fun s=>w s*A s b)=zT (R+1) fun s=>zT (r+1) fun i=>(if q i=s then cf i else 0)*A s b:=zF fun s _=>by rw[hw,<-zDC]
    rw[e2,zBj];exact zF fun i hi=>zVg (hqR i hi) (cf i) fun s=>A s b
   rw[e];have h0:det (r+1) (fun i j=>A (q i) (if j=0 then b else τ (j-1)))=0:=zL fun h0=>hx ⟨q,fun j=>if j=0 then b else τ (j-1),hqR,fun j hj=>by
    dsimp only;split;exact hb;exact hτ _ oM,h0⟩
   rw[zHW]at h0;rw[<-h0];refine zF fun i hi=>?_
   have:det r (mnr (fun i j=>A (q i) (if j=0 then b else τ (j-1))) i 0)=det r fun a b'=>A (q (sk i a)) (τ b'):=zAe fun a _ b' _=>by
    unfold mnr;dsimp only;rw[zEf,if_neg oM,Nat.add_sub_cancel]
   rw[this,hcf,if_pos rfl,qK,qH (A (q i) b)]
  have hbd:∀t,(w t).natAbs<=N*(24*h^4):=fun t=>by
   rw[hw];have:=zDN (n:=r+1) (f:=fun i=>if q i=t then cf i else 0) (B:=24*h^4) fun i hi=>by
    split
    ·rw[hcf,zTp]
     exact zO9 hr4 h1 fun a ha b hb=>hA _ (hqR _ (zRC ha)) _ (hτ b hb)
    exact zE _
   refine zB this ?_;exact zM _ oM
  refine⟨r,m+1,fun i=>if i=m then R else ρ i,fun i=>if i=m then w else W i,oM,up,hx,fun i hi=>?_,fun i j hij hj=>?_⟩
  ·by_cases e:i=m
   ·dsimp only
    rw[if_pos e,if_pos e];refine⟨oM,by rw[hwR];exact hc0,fun t ht=>?_,hker,hbd⟩;rw[hw];exact zAS fun k hk=>by rw[if_neg (by have:=hqR k hk;omega)]
   dsimp only;rw[if_neg e,if_neg e];exact old i oM
  dsimp only;rw[if_neg oM];by_cases e:j=m
  ·rw[if_pos e];exact(hW i oM).1
  rw[if_neg e];exact hρ i j hij oM
theorem HB.bound{W:Nat->Nat->Int}(hb:HB C m G L)(hm4:m<=4)(h1:1<=h)(hW:leM h R C W)(hL:∀a,a<R->L (W a))(hm:zDW m R C W):leM (24*(8*h)^4) m C G:=by
 obtain⟨c,hc⟩:=hb.hnf;obtain⟨X,hX⟩:=zB6 fun a ha=>(hb.iff _).1 (hL a ha)
 obtain⟨σ,τ,hσ,hτ,hd⟩:=hm;refine zKf (X:=fun t a=>X a t) hm4 h1 hc.ech hc.red hW hX hσ fun h0=>hd ?_
 have h2:(0:Int)∣det m fun a b=>zT m fun t=>X (σ a) t*G t (τ b):=zEq (F:=fun a t=>X (σ a) t) (Q:=fun t b=>G t (τ b)) fun ρ hρ=>by
  have:=zHX (A:=fun a t=>X (σ a) t) (fun a=>a) ρ (fun a ha=>ha) hρ;rw[show det m (fun a t=>X (σ a) t)=0 from h0]at this;exact this
 rw[zAe (G:=fun a b=>W (σ a) (τ b)) fun a ha b hb=>(hX _ (hσ a ha) _ (hτ b hb)).symm]at h2;exact Int.zero_dvd.1 h2
theorem zN2(hf:zE4 R C r c A H U V)(hb:HB R m G (zNe R C A))(hN:N<=5∨C<=4)(hN0:0<N)(hR:R<=N)(hm4:m<=4)(h1:1<=h)(hA:leM h R C A):leM (24*(8*(N*(24*h^4)))^4) m R G:=by
 obtain⟨r',m',ρ,W,e1,hm,hn,hW,hρ⟩:=zSf h1 hN R hR hA;have e2:=zHc hf hb;have e3:=hf.lat.rank hm;have e4:r<=r':=zAD fun hlt=>by
  refine hn ?_;have:=hf.lat.min1;obtain⟨d,rfl⟩:=Nat.exists_eq_add_of_lt hlt;clear e1 e2 e3 hlt hW hρ hm hn hf;induction d with
  |zero=>exact this
  |succ d ih=>exact ih this.down
 obtain rfl:m'=m:=oM;refine hb.bound (R:=m') (W:=W) oM (zB h1 (zB (Nat.le_pow oM) (zB (qQ _ (show 0<24 by omega)) (qQ _ hN0)))) (fun a ha b _=>(hW a ha).2.2.2.2 b) (fun a ha=>(hW a ha).2.2.2.1) ⟨fun a=>a,ρ,fun a ha=>ha,fun a ha=>(hW a ha).1,?_⟩;rw[zD6 fun a ha b hb' hab=>(hW a ha).2.2.1 _ (hρ a b hab hb')];exact zLw fun i hi=>(hW i hi).2.1
def zFO(C:Nat)(L1 L2:(Nat->Int)->Prop)(x:Nat->Int):Prop:=∃u v:Nat->Int,L1 u/\L2 v/\∀b,b<C->x b=u b+v b
def zIu(R:Nat)(A B:Nat->Nat->Int):Nat->Nat->Int:=fun a b=>if a<R then A a b else B (a-R) b
theorem zJX{Q:Nat}{N:List (List Int)}(h:zBU R C M)(hN:zBU Q C N)(b:Nat):ent (M++N) a b=zIu R (ent M) (ent N) a b:=by
 have hl:M.length=R:=h.1;unfold zIu;by_cases ha:a<R
 ·rw[if_pos ha]
  show((M++N).getD a []).getD b 0=(M.getD a []).getD b 0;rw[xgb (l:=M++N),List.getElem?_append_left oM,<-xgb]
 rw[if_neg ha];show((M++N).getD a []).getD b 0=(N.getD (a-R) []).getD b 0;rw[xgb (l:=M++N),List.getElem?_append_right oM,hl,<-xgb]
theorem zGK(R Q:Nat)(f:Nat->Int):zT (R+Q) f=zT R f+zT Q fun a=>f (R+a):=by
 induction Q with
 |zero=>exact(yY _).symm
 |succ Q ih=>
  show zT (R+Q) f+f (R+Q)=zT R f+(zT Q (fun a=>f (R+a))+f (R+Q));rw[ih,Int.add_assoc]
theorem zI9(R Q:Nat)(y:Nat->Int)(A B:Nat->Nat->Int)(b:Nat):(zT (R+Q) fun a=>y a*zIu R A B a b)=(zT R fun a=>y a*A a b)+zT Q fun a=>y (R+a)*B a b:=by
 rw[zGK];refine _root_.congr (congrArg _ (zF fun a ha=>?_)) (zF fun a ha=>?_)
 ·unfold zIu
  rw[if_pos ha]
 unfold zIu;rw[if_neg oM,qS]
theorem qG.stk{Q:Nat}(x:Nat->Int):qG (R+Q) C (zIu R A B) x↔zFO C (qG R C A) (qG Q C B) x:=by
 constructor
 ·rintro⟨y,hy⟩
  exact⟨fun b=>zT R fun a=>y a*A a b,fun b=>zT Q fun a=>y (R+a)*B a b,⟨y,fun b _=>rfl⟩,⟨fun a=>y (R+a),fun b _=>rfl⟩,fun b hb=>by rw[hy b hb,zI9]⟩
 rintro⟨u,v,⟨y,hy⟩,⟨z,hz⟩,hx⟩;refine⟨fun a=>if a<R then y a else z (a-R),fun b hb=>?_⟩;rw[zI9,hx b hb,hy b hb,hz b hb];refine _root_.congr (congrArg _ (zF fun a ha=>?_)) (zF fun a ha=>?_);rw[if_pos ha];rw[if_neg oM,qS]
theorem qG.zero(R C:Nat)(A:Nat->Nat->Int):qG R C A fun _=>0:=⟨fun _=>0,fun b _=>(zAS fun a _=>zX _).symm⟩
theorem qG.ext(h:qG R C A x)(e:∀b,b<C->y b=x b):qG R C A y:=by
 obtain⟨z,hz⟩:=h;exact⟨z,fun b hb=>(e b hb).trans (hz b hb)⟩
theorem qG.add(h:qG R C A x)(k:qG R C A y):qG R C A fun b=>x b+y b:=by
 obtain⟨z,hz⟩:=h;obtain⟨w,hw⟩:=k;exact⟨fun a=>z a+w a,fun b hb=>by
  dsimp only;rw[hz b hb,hw b hb,<-zBQ];exact zF fun a _=>(zA2 _ _ _).symm⟩
theorem qG.smul(k:Int)(h:qG R C A x):qG R C A fun b=>k*x b:=by
 obtain⟨z,hz⟩:=h;exact⟨fun a=>k*z a,fun b hb=>by
  dsimp only;rw[hz b hb,<-yX];exact zF fun a _=>(qK _ _ _).symm⟩
theorem zJe{s:Nat}(hG:HB (p+s) m G (zNe (p+s) C (zIu p P Q)))(x:Nat->Int):
  qG m C (fun a b=>zT p fun t=>G a t*P t b) x↔qG p C P x/\qG s C Q x:=by
 have hsum:∀(y:Nat->Int) (b:Nat),(zT m fun a=>y a*zT p fun t=>G a t*P t b)=zT p fun t=>(zT m fun a=>y a*G a t)*P t b:=fun y b=>(zCZ y G fun t=>P t b).symm
 constructor
 ·rintro⟨y,hy⟩
  have hk:zNe (p+s) C (zIu p P Q) fun t=>zT m fun a=>y a*G a t:=(hG.iff _).2 ⟨y,fun b _=>rfl⟩
  refine⟨⟨fun t=>zT m fun a=>y a*G a t,fun b hb=>by rw[hy b hb,hsum]⟩,⟨fun t=>-(zT m fun a=>y a*G a (p+t)),fun b hb=>?_⟩⟩;have h1:=hk b hb;rw[zI9]at h1;have h2:(zT s fun t=>-(zT m fun a=>y a*G a (p+t))*Q t b)=-1*zT s fun t=>(zT m fun a=>y a*G a (p+t))*Q t b:=by
   rw[<-yX];exact zF fun t _=>by rw[yA,zAz]
  rw[hy b hb,hsum,h2];omega
 rintro⟨⟨y,hy⟩,⟨w,hw⟩⟩;have hk:zNe (p+s) C (zIu p P Q) fun t=>if t<p then y t else-(w (t-p)):=fun b hb=>by
  rw[zI9];have h1:(zT p fun a=>(if a<p then y a else-(w (a-p)))*P a b)=zT p fun a=>y a*P a b:=zF fun a ha=>by rw[if_pos ha]
  have h2:(zT s fun a=>(if p+a<p then y (p+a)else-(w (p+a-p)))*Q a b)=-1*zT s fun a=>w a*Q a b:=by
   rw[<-yX];exact zF fun a _=>by rw[if_neg oM,qS,yA,zAz]
  rw[h1,h2,<-hy b hb,<-hw b hb];omega
 obtain⟨c,hc⟩:=(hG.iff _).1 hk;refine⟨c,fun b hb=>?_⟩;rw[hsum,hy b hb];refine zF fun t ht=>?_
 have h3:=hc t oM;dsimp only at h3;rw[if_pos ht]at h3;rw[h3]
def zRZ(m:Nat)(c:Nat->Nat)(G:Nat->Nat->Int):Int:=jB m fun i=>G i (c i)
theorem zTN(n:Nat)(f g:Nat->Int):jB n (fun i=>f i*g i)=jB n f*jB n g:=by
 induction n with
 |zero=>rfl
 |succ n ih=>
  show jB n (fun i=>f i*g i)*(f n*g n)=jB n f*f n*(jB n g*g n);rw[ih,qK,qK,jU (jB n g)]
theorem zUG(h:Ech C m c G):0<zRZ m c G:=zAI fun i hi=>h.pos i hi
theorem zOG(h:∃t,t<m/\f t≠0):∃t,t<m/\f t≠0/\∀s,s<t->f s=0:=by
 obtain⟨t,h1,h2⟩:=h;obtain⟨f0,⟨g1,g2⟩,g3⟩:=zPP (P:=fun t=>t<m/\f t≠0) t ⟨h1,h2⟩;exact⟨f0,g1,g2,fun s hs=>zL fun hn=>by have:=g3 s ⟨oM,hn⟩;omega⟩
theorem zYb{τ:Nat->Nat}(h1:∀i,i<m->τ i<m)(h2:∀i j,i<j->j<m->τ i<τ j):∀i,i<m->τ i=i:=by
 have hi:Inc m τ:=fun a ha=>h2 a (a+1) oM ha
 have hu:∀d i,i+d+1=m->τ i+d+1<=m:=fun d=>by
  induction d with
  |zero=>intro i hi;have:=h1 i oM;omega
  |succ d ih=>
   intro i hi;have:=ih (i+1) oM;have:=h2 i (i+1) oM oM;omega
 intro i him;have g1:=hi.le i him;have g2:=hu (m-1-i) i oM;omega
theorem zR6(hP:Ech C m c P)(hQ:Ech C m c' Q)(hK:∀i,i<m->∀b,b<C->Q i b=zT m fun t=>K i t*P t b):
  (∀i,i<m->c' i=c i)/\(∀i,i<m->∀t,t<i->K i t=0)/\∀i,i<m->K i i*P i (c i)=Q i (c i):=by
 have hex:∀i,i<m->∃t,t<m/\K i t≠0/\∀s,s<t->K i s=0:=fun i hi=>zOG (zL fun hn=>by
  have h0:Q i (c' i)=0:=by
   rw[hK i hi _ (hQ.lt i hi)];exact zAS fun t ht=>by rw[show K i t=0 from zL fun h=>hn ⟨t,ht,h⟩,zX]
  have:=hQ.pos i hi;omega)
 have hτ:∃τ:Nat->Nat,∀i,i<m->τ i<m/\K i (τ i)≠0/\∀s,s<τ i->K i s=0:=⟨fun i=>if h:i<m then(hex i h).choose else 0,fun i hi=>by
  dsimp only;rw[dif_pos hi];exact(hex i hi).choose_spec⟩
 obtain⟨τ,hτ⟩:=hτ;have hlow:∀i,i<m->∀b,b<C->b<c (τ i)->Q i b=0:=fun i hi b hb hlt=>by
  rw[hK i hi b hb];refine zAS fun t ht=>?_
  rcases zG t (τ i)with h|h
  rw[(hτ i hi).2.2 t h,zX];rw[hP.zero t ht b (by
   rcases zG (τ i) t with h2|h2
   have:=hP.inc (τ i) t h2 ht;omega;obtain rfl:t=τ i:=oM;exact hlt),zP]
 have hat:∀i,i<m->Q i (c (τ i))=K i (τ i)*P (τ i) (c (τ i)):=fun i hi=>by
  rw[hK i hi _ (hP.lt _ (hτ i hi).1)];refine zAB (hτ i hi).1 fun t ht hne=>?_
  rcases zAQ hne with h|h
  rw[(hτ i hi).2.2 t h,zX];rw[hP.zero t ht _ (hP.inc _ _ h ht),zP]
 have hc:∀i,i<m->c' i=c (τ i):=fun i hi=>by
  have hp:=hP.pos _ (hτ i hi).1;have hne:Q i (c (τ i))≠0:=by
   rw[hat i hi];intro h0;rcases Int.mul_eq_zero.1 h0 with h|h
   exact(hτ i hi).2.1 h;omega
  rcases yK (c' i) (c (τ i))with h|h|h
  ·have h1:=hlow i hi _ (hQ.lt i hi) h
   have h2:=hQ.pos i hi;omega
  exact h;exact absurd (hQ.zero i hi _ h) hne
 have hid:=zYb (fun i hi=>(hτ i hi).1) (fun i j hij hj=>by
  have h1:=hQ.inc i j hij hj;rw[hc i oM,hc j hj]at h1;refine zCT fun hle=>?_
  rcases Nat.eq_or_lt_of_le hle with h|h
  rw[h]at h1;omega;have:=hP.inc _ _ h (hτ i oM).1;omega)
 refine⟨fun i hi=>by rw[hc i hi,hid i hi],fun i hi t ht=>(hτ i hi).2.2 t (by rw[hid i hi];exact ht),fun i hi=>?_⟩;have:=hat i hi;rw[hid i hi]at this;exact this.symm
theorem zR5(hP:Ech C m c P)(hQ:Ech C m c' Q)(hK:∀i,i<m->∀b,b<C->Q i b=zT m fun t=>K i t*P t b):det m K*zRZ m c P=zRZ m c' Q:=by
 obtain⟨h1,h2,h3⟩:=zR6 hP hQ hK;rw[zFz fun a ha b _ hba=>h2 a ha b hba];unfold zRZ;rw[<-zTN];exact zJn fun i hi=>by rw[h3 i hi,h1 i hi]
theorem zXF(h:Inv m m r K F)(hd:0<det m K):r=m/\jB r (fun i=>F i i)=det m K:=by
 have hk:m<=min m m:=oM;have h1:=h.minors hk (fun a=>a) (fun b=>b) (fun a ha=>ha) fun b hb=>hb
 have h2:=h.gen hk (g:=det m K) fun σ τ hσ hτ=>zHX σ τ hσ hτ
 have h0:=h.dg.prod_nonneg (k:=m) hk;have he:jB m (fun i=>F i i)=det m K:=zDG h0 (zBa hd) h1 h2;have hr:r=m:=by
  have hle:r<=m:=by have:=h.dg.le;omega
  refine zB1 hle (zAD fun hlt=>?_);rw[zK0 (f:=fun i=>F i i) (c:=r) hlt (h.dg.zero r (xgf _) oM)]at he;omega
 rw[hr];exact⟨rfl,he⟩
def zRh(P:Prop)(w:World)(e:Ending)(w':World):Prop:=∃b,e= .returned (.bool b)/\(b=true↔P)/\BWq w w'
theorem zRh.no{P:Prop}(h:¬ P)(hb:BWq w w'):zRh P w (.returned (.bool false)) w':=⟨false,rfl,⟨nofun,fun hp=>absurd hp h⟩,hb⟩
theorem zRh.yes{P:Prop}(h:P)(hb:BWq w w'):zRh P w (.returned (.bool true)) w':=⟨true,rfl,⟨fun _=>h,fun _=>rfl⟩,hb⟩
theorem zBU.row_eq(h:zBU R C M){zs:List Int}(hz:M[i]?=some zs):zs=qZ C (ent M i):=by
 have hl:=h.2 zs (xgd hz);refine qT (by simp[qZ,hl]) fun j h1 h2=>?_
 simp only[qZ,List.getElem_map,List.getElem_range];rw[zEJ hz (xga h1)]
structure qAF(C:Nat)(F:Nat->Nat->Int)(i:Nat)(last:Int)(en:Bool):Prop where
 ok:∀k,k<i->zFx C F k
 ended:en=true↔∃k,k<i/\lead C F k<0
 lst:en=false->∀c:Int,0<=c->(last<c↔∀k,k<i->lead C F k<c)

def quo(C:Nat)(F:Nat->Nat->Int)(r:Nat->Int)(i:Nat):Int:=if lead C F i<0 then 0 else r (lead C F i).toNat/F i (lead C F i).toNat
def zE3(C:Nat)(F:Nat->Nat->Int)(x:Nat->Int):Nat->Nat->Int
 |0=>x
 |i+1=>fun t=>zE3 C F x i t+-(quo C F (zE3 C F x i) i)*F i t
def zFw(C:Nat)(F:Nat->Nat->Int)(x:Nat->Int)(i:Nat):Int:=quo C F (zE3 C F x i) i
structure zZc(B R C:Nat)(F:Nat->Nat->Int)(x:Nat->Int):Prop where
 mat:okF B R C F
 rest:∀i,i<=R->∀t,t<C->(zE3 C F x i t).natAbs<B
 quot:∀i,i<R->(zFw C F x i).natAbs<B/\∀t,t<C->(-(zFw C F x i)*F i t).natAbs<B
theorem mkV(m:Int)(n:Nat)(hm:m=n)(h:n<=1099511627776)(W:World):
  (Instr.makeSlice 57 (niq m) (niq m)).run Tryz.prog W= .ok (slq W.heap.size n n) (W.alloc (.cells (zeroCells n) tI)):=by
 subst hm;obtain⟨i0,hi,hz0,hz1,hz2⟩:=info_parts zDb;have:=zCW (P:=Tryz.prog) 57 tI i0 _ zC4 hi hz0 .i64 .i64 n n (xgf _) (by rw[hz2];omega) oM W;rw[this,hz1];rfl
def zWA(lo n:Nat):World->Value->Prop:=fun w v=>∃b,v=slq b n n/\lo<=b/\jJ w b (qZ n fun _=>0)
theorem zJh(lo n:Nat):zAK (zWA lo n):=fun _ _ _ hb ⟨b,h1,h2,h3⟩=>⟨b,h1,h2,h3.below hb⟩
theorem zP0{lo:Nat}(hlo:lo<=w.heap.size):zWA lo n (w.alloc (.cells (zeroCells n) tI)) (slq w.heap.size n n):=
 ⟨_,rfl,hlo,by
  have h:=zHt w n
  rwa[show List.replicate n (0:Int)=qZ n fun _=>0 from qT (by simp[qZ]) fun i h1 h2=>by simp[qZ]]at h⟩
def qAB(u v:Value):Prop:=∀a b n m c d,u=slq a n c->v=slq b m d->a≠b
theorem zQS(a b:Int):zAK (DMV a b):=fun _ _ _ x ⟨q,r,h1,h2,h3⟩=>⟨q,r,h1,h2.ext (lx x),h3.ext (lx x)⟩
def zXx(a b:Nat)(T:Array Value)(w:World):World:=
 match T[a]?,T[b]? with
 |some (.pointer (some ⟨g,o,none⟩)),some (.agg #[x,y])=>(w.setCell ⟨g,o,none⟩ x).setCell ⟨g,o+1,none⟩ y
 |_,_=>w
theorem zTO{g o:Nat}{x y:Value}(h1:T[a]?=some (.pointer (some ⟨g,o,none⟩)))(h2:T[b]?=some (.agg #[x,y])):zXx a b T w=(w.setCell ⟨g,o,none⟩ x).setCell ⟨g,o+1,none⟩ y:=by
 unfold zXx;rw[h1,h2];rfl
theorem zPc{c:Nat}(h1:c≠a)(h2:c≠b):zXx a b (T.setIfInBounds c v) w=zXx a b T w:=by
 unfold zXx;rw[xgc h1,xgc h2]
theorem zVK{W:World}(h:zB0 [] W w):BWq W w:=⟨h.bel.os,h.bel.tape,h.bel.output,h.bel.size,fun k hk=>h.old k hk sI⟩
theorem zLG(f g:Nat->Int):qZ n (yQ f g n)=qZ n f:=qY fun t ht=>by unfold yQ;rw[if_pos ht]
theorem zLH(f g:Nat->Int):qZ n (yQ f g 0)=qZ n g:=qY fun t _=>by unfold yQ;rw[if_neg oM]
theorem zNT{j:Nat}(f g:Nat->Int):(qZ n (yQ f g j)).set j (f j)=qZ n (yQ f g (j+1)):=by
 rw[zD1];exact qY fun t _=>by
  unfold yQ;by_cases h2:t=j
  ·subst h2;rw[if_pos rfl,if_pos oM]
  rw[if_neg h2];by_cases h1:t<j
  ·rw[if_pos h1,if_pos oM]
  rw[if_neg h1,if_neg oM]
theorem zOl{fn:Func}{a b c:Tmp}(h:fn.results=#[.tmp a,.tmp b,.tmp c])(tmps:Array Value)(P:Program)(W:World):(results fn tmps).run P W= .ok (.tuple #[tmps.getD a undef,tmps.getD b undef,tmps.getD c undef]) W:=by
 simp[results,h]
def zYG(R C:Nat)(q r:Nat->Int)(w:World)(e:Ending)(w':World):Prop:=∃qv rv,e= .returned (.tuple #[qv,rv,niq 0])/\zAv w' qv (qZ R q)/\zAv w' rv (qZ C r)/\BWq w w'
theorem zIc{B:Nat}(hB:BSd B)(hv vv:Value)(R C:Nat)(M:List (List Int))(x:Nat->Int)(w:World)(h:zAC w hv R C M)(hF:zBU R C M)(hx:zAv w vv (qZ C x))(hR:R<=1000000)(hC:C<=1000000)(hok:zZc B R C (ent M) x)(hB0:0<B):
  CPq 118 #[hv,vv] w (zYG R C (zFw C (ent M) x) (zE3 C (ent M) x R) w):=by
 have h0:=h;obtain⟨A,rfl,h⟩:=h;obtain⟨ao,n,cap,rfl,e2,e3,e4,-⟩:=id h;obtain rfl:R=n:=by rw[<-e2,hF.1]
 obtain⟨xo,xn,xcap,rfl,x2,x3,x4,-⟩:=id hx;rw[qA]at x2;subst x2;have hdv:decide (zBS R C M)=true:=decide_eq_true hF.valid;have HF:=xgv hF;have HOK:=xgv hok;have H0:=xgv h0;have HR:=xgv h;have HX:=xgv hx;have HB0:=xgv hB0;clear hok h0 hF e2 h hx hB0;go_enter Tryz.func118,Tryz.ntmps118;go_upto_region 1 with(fail)
 refine zD ?_;intro W0 hW0;obtain⟨hb0,bx1,hs0⟩:=qL hW0;obtain⟨c1,c2,c3,c4,c5,c6⟩:=bx1.three;clear hW0;go_wp2_with fail
 refine(zDR _ R C M W0 (H0.out.below hb0)).mono ?_;rintro e w1 ⟨rfl,hb1⟩;rw[hdv];have bx1:=bx1.below hb1;have hb:=nx hb0 hb1;clear c1 c2 c3 c4 c5 c6 hdv;obtain⟨c1,c2,c3,c4,c5,c6⟩:=bx1.three;have hmkR:=fun W=>mkV (R:Int) R rfl oM W
 have hmkC:=fun W=>mkV (C:Int) C rfl oM W
 have hl1:=zJh w1.heap.size R;have hl2:=zJh w1.heap.size C;go_upto_region 3 with(fail)
 refine zD3 rfl (RVP 2 26 5 29 qAB [⟨6,7,2,26⟩,⟨7,8,5,29⟩] w1 _ [⟨0,24,fun _ v=>v=ptq w.heap.size 0⟩,⟨1,25,fun _ v=>v=niq R⟩,⟨2,26,zWA w1.heap.size R⟩,⟨3,27,fun _ v=>v=ptq w.heap.size 1⟩,⟨4,28,fun _ v=>v=niq C⟩,⟨5,29,zWA w1.heap.size C⟩,⟨6,7,zWA w1.heap.size R⟩,⟨7,8,zWA w1.heap.size C⟩]) kR (RVP.start kR (by repeat' (first|exact zE9 _|exact zF5 _|exact zCc _ _ _|exact zBG _|assumption|refine xgm.2 ⟨?_,?_⟩|exact xgn _)) ⟨_,mm2⟩ ⟨_,mm5⟩ dE kR) ?fin1 ?steps1
 case steps1=>
  (repeat' constructor)<;>(intro L T wS hL hd hcl hI K hK;try refine qB rfl ?_)
  ·have zt:T[2]?=some (ptq w.heap.size 0):=hI.keep 2 sI
   go_simp;exact hK _ _ (hI.y mm0 rfl)
  ·obtain⟨_,zt0,rfl⟩:=hI.v mm0 (hd 0)
   have cc0:=hI.cell c1;go_simp;exact hK _ _ (hI.y mm1 rfl)
  ·obtain⟨_,zt1,rfl⟩:=hI.v mm1 (hd 1)
   go_simp;exact hK _ _ ((hI.world ((zA _ _).alloc (xgf _) _)).y mm2 (zP0 hI.bel.size) (fun u=>⟨fun _ hu hl=>by obtain⟨v',q1,b',q2,q3,q4⟩:=hI.v mm5 hl;have:=q4.lt;cases q1.symm.trans hu;intro a b n m c d e1 e2;subst q2;cases e1;cases e2;omega,fun e=>absurd e dE⟩))
  ·have zt:T[2]?=some (ptq w.heap.size 0):=hI.keep 2 sI
   go_simp;exact hK _ _ (hI.y mm3 rfl)
  ·obtain⟨_,zt3,rfl⟩:=hI.v mm3 (hd 3)
   have cc0:=hI.cell c2;go_simp;exact hK _ _ (hI.y mm4 rfl)
  ·obtain⟨_,zt4,rfl⟩:=hI.v mm4 (hd 4)
   go_simp;exact hK _ _ ((hI.world ((zA _ _).alloc (xgf _) _)).y mm5 (zP0 hI.bel.size) (fun u=>⟨fun e=>absurd e dE,fun _ hu hl=>by obtain⟨v',q1,b',q2,q3,q4⟩:=hI.v mm2 hl;have:=q4.lt;cases q1.symm.trans hu;intro a b n m c d e1 e2;subst q2;cases e1;cases e2;omega⟩))
  ·obtain⟨vc,ztc,hcv⟩:=hI.v mm2 (hd 2)
   go_simp;exact hK _ _ (hI.y mm6 hcv (hc:=.inr (by repeat' (first|refine xgm.2 ⟨?_,?_⟩|exact xgn _|(intro e;exact absurd e dE)|(intro _;exact⟨hd 2 kR,ztc⟩)))))
  obtain⟨vc,ztc,hcv⟩:=hI.v mm5 (hd 5);go_simp;exact hK _ _ (hI.y mm7 hcv (hc:=.inr (by repeat' (first|refine xgm.2 ⟨?_,?_⟩|exact xgn _|(intro e;exact absurd e dE)|(intro _;exact⟨hd 5 kR,ztc⟩)))))
 intro T w3 hI;obtain⟨va0,q0,rfl⟩:=hI.v mm0 rfl;obtain⟨va1,q1,rfl⟩:=hI.v mm1 rfl;obtain⟨va2,q2,ha2⟩:=hI.v mm2 rfl;obtain⟨va3,q3,rfl⟩:=hI.v mm3 rfl;obtain⟨va4,q4,rfl⟩:=hI.v mm4 rfl;obtain⟨va5,q5,ha5⟩:=hI.v mm5 rfl;obtain⟨va6,q6,ha6⟩:=hI.v mm6 rfl;obtain⟨va7,q7,ha7⟩:=hI.v mm7 rfl;have hT:=zGh [(24,ptq w.heap.size 0),(25,niq R),(26,va2),(27,ptq w.heap.size 1),(28,niq C),(29,va5),(7,va6),(8,va7)]
  (fun j hj=>hI.keep j (by simp only[xgm]at hj ⊢;simp[hj]))
  (by simp only[xgm];simp[q0,q1,q2,q3,q4,q5,q6,q7]) hI.size
 obtain⟨paa,pba,pua,pva,pqa⟩:=hI.pair rfl rfl;have pca:=hI.cpy;have hbw3:=hI.bel;clear hI;simp only[List.foldl_cons,List.foldl_nil,xgh,xgi,xgj,ptr]at hT;subst hT;clear q0 q1 q2 q3 q4 q5 q6 q7;have e6:va6=va2:=zW (pca _ mm0 rfl).2;have e7:va7=va5:=zW (pca _ mm1 rfl).2;have e8:va2=paa:=zW pua;have e9:va5=pba:=zW pva;subst e6 e7 e8 e9;obtain⟨qb,rfl,hq1,hq2⟩:zWA w1.heap.size R w3 va6:=ha6;obtain⟨rb,rfl,hr1,hr2⟩:zWA w1.heap.size C w3 va7:=ha7;have hqr:qb≠rb:=pqa _ _ _ _ _ _ rfl rfl;have hl01:=bx1.lt;have hb3:=nx hb hbw3;have bx1:=bx1.below hbw3;have hsz1:=hb.size;clear pca pqa ha2 ha5 hmkR hmkC hl1 hl2 c1 c2 c3 c4 c5 c6;obtain⟨c1,c2,c3,c4,c5,c6⟩:=bx1.three;have hrs:jJ w3 rb (qZ C (yQ x (fun _=>0) 0)):=by rw[zLH];exact hr2
 clear hr2;go_wp2;go_loopw [32] (fun jv wr=>∃j:Nat,j<=C/\jv=niq j/\BWq w wr/\Blk wr w.heap.size 32 #[niq R,niq C,.slice ao R cap]/\jJ wr qb (qZ R fun _=>0)/\jJ wr rb (qZ C (yQ x (fun _=>0) j))) (fun jv _=>C-(intOf jv).toNat)
 case atStart=>exact⟨0,oM,rfl,hb3,bx1,hq2,hrs⟩
 clear bx1 hq2 hrs c1 c2 c3 c4 c5 c6;obtain⟨j,hj,rfl,hbr,bx1,hq2,hrs⟩:=hrel;by_cases hlt:j<C
 ·obtain⟨bx,z,s,a,l,k,rfl,hbx,hz,p1,p2,hzv⟩:=(HX.out.below hbr).cell (k:=j) (by rw[qA];exact hlt)
  rw[yE hlt]at hz;obtain rfl:x j=z:=zW hz;clear hz;go_upto_region 7 with(fail)
  refine zD ?_;intro W6 hW6;obtain⟨hB6,T6,hs6⟩:=qL hW6;have bx1:=bx1.below hB6;have hq2:=hq2.below hB6;have hrs:=hrs.below hB6;have hzv:=hzv.ext (lx hB6);have hbr:=nx hbr hB6;have sx:jZ (Sm (x j)):=⟨hB.bsm.sm _ (HOK.out.rest 0 (zE _) j hlt)⟩;have sz:jZ (Sm (0:Int)):=⟨hB.bsm.sm _ (by simpa using HB0.out)⟩;have t1:=T6.two;clear p1 p2 hW6;go_wp2_with fail
  refine(zH2 _ _ (x j) 0 W6 hzv.weak (zF4 W6).weak sx.out sz.out).mono ?_;rintro e w7 ⟨u,rfl,hu,hb7⟩;rw[yY]at hu;obtain⟨un,ua,ul,uc,ux,rfl,hu'⟩:=id hu;have HU:=xgw hu';have bx1:=bx1.below hb7;have hq2:=hq2.below hb7;have hrs:=hrs.below hb7;have hbr:=nx hbr hb7;clear hu' t1;obtain⟨z0,z1,z2,z3,f1,f2,f3,f4,-⟩:=hrs.cell (yE hlt);have hset:=hrs.set (k:=j) (by rw[qA];exact hlt) hu;rw[zNT]at hset;have lb:=bx1.lt;have lq:=hq2.lt;go_wp2;go_roundw
  case rel=>
   exact⟨j+1,oM,by simp,yJ (yJ hbr oM _ _) oM _ _,(yO _ _ _ _ _ _ _ oM).trans bx1,hq2.old (yO _ _ _ _ _ _ _ hqr) hset.2,hset.1⟩
  case measure=>exact meq
 obtain rfl:j=C:=oM;rw[zLG]at hrs;obtain⟨c1,c2,c3,c4,c5,c6⟩:=bx1.three;have hqs:jJ wr qb (qZ R (yQ (zFw j (ent M) x) (fun _=>0) 0)):=by rw[zLH];exact hq2
 clear hq2;go_wp2;go_loopw [47] (fun iv wt=>∃i:Nat,i<=R/\iv=niq i/\BWq w wt/\jJ wt qb (qZ R (yQ (zFw j (ent M) x) (fun _=>0) i))/\jJ wt rb (qZ j (zE3 j (ent M) x i))) (fun iv _=>R-(intOf iv).toNat)
 case atStart=>exact⟨0,oM,rfl,hbr,hqs,hrs⟩
 rename World=>wt
 clear hbr hqs hrs bx1 c1 c2 c3 c4 c5 c6;obtain⟨i,hi,rfl,hbt,hqs,hrs⟩:=hrel;by_cases hlt:i<R
 ·obtain⟨b,ra,rn,rc,zs,rfl,hbl,hz,p1,hrv0⟩:=HR.out.row (k:=i) (by rw[HF.out.1];exact hlt)
  obtain rfl:=HF.out.row_eq hz;have hrn:=hrv0.len.1;have p1:=(hbt.cell (p:=⟨b,i,none⟩) hbl).trans p1;have hrv:=hrv0.below hbt;rw[qA]at hrn;subst hrn;clear hz;go_wp2_with fail
  refine(zEt _ (qZ j (ent M i)) wt hrv).mono ?_;rintro e w7 ⟨rfl,hb7⟩;obtain⟨d,hd⟩:∃d,zCL 0 (qZ j (ent M i))=d:=⟨_,rfl⟩;rw[hd];have HD:=xgw (show lead j (ent M) i=d from hd);have hbt:=nx hbt hb7;have hqs:=hqs.below hb7;have hrs:=hrs.below hb7;have hrv:=hrv.below hb7;clear hd p1;by_cases hneg:d<0
  ·have hdn:decide (0<=d)=false:=decide_eq_false oM
   have HN:=xgw hneg;clear hneg;go_wp2;go_roundw
   case rel=>
    have hqz:zFw j (ent M) x i=0:=by unfold zFw quo;rw[if_pos (by rw[HD.out];exact HN.out)]
    have e1:qZ R (yQ (zFw j (ent M) x) (fun _=>0) i)=qZ R (yQ (zFw j (ent M) x) (fun _=>0) (i+1)):=qY fun t _=>by
     unfold yQ;by_cases h1:t<i
     ·rw[if_pos h1,if_pos oM]
     by_cases h2:t=i
     ·rw[if_neg h1,if_pos oM,h2,hqz]
     rw[if_neg h1,if_neg oM]
    have e2:qZ j (zE3 j (ent M) x i)=qZ j (zE3 j (ent M) x (i+1)):=qY fun t _=>by
     show _=zE3 j (ent M) x i t+-(zFw j (ent M) x i)*ent M i t;rw[hqz];omega
    rw[e1]at hqs;rw[e2]at hrs;exact⟨i+1,oM,by simp,hbt,hqs,hrs⟩
   case measure=>exact meq
  obtain⟨c,rfl⟩:=jQ (Int.not_lt.1 hneg);obtain⟨hcC,hcz⟩:=zDi HD.out;have hqe:zFw j (ent M) x i=zE3 j (ent M) x i c/ent M i c:=by unfold zFw quo;rw[HD.out,if_neg hneg];rfl
  obtain⟨y,hy⟩:∃y,zE3 j (ent M) x i c=y:=⟨_,rfl⟩;obtain⟨p,hp⟩:∃p,ent M i c=p:=⟨_,rfl⟩;obtain⟨q,hq⟩:∃q,zFw j (ent M) x i=q:=⟨_,rfl⟩;have hyB:jZ (Sm y):=⟨by rw[<-hy];exact hB.bsm.sm _ (HOK.out.rest i oM c hcC)⟩;have hpB:jZ (Sm p):=⟨by rw[<-hp];exact hB.bsm.sm _ (HOK.out.mat i hlt c hcC)⟩;have hqB:jZ (q.natAbs<B/\∀t,t<j->(-q*ent M i t).natAbs<B):=⟨by rw[<-hq];exact HOK.out.quot i hlt⟩;have hp0:jZ (p≠0):=⟨by rw[<-hp];exact hcz⟩;rw[hq,hy,hp]at hqe;obtain⟨_,_,_,e1,-,g1,g2,g5⟩:=id hrv0;cases e1;obtain⟨bi,rfl,hrow⟩:=g5 (fun h=>by have:=congrArg List.length h;rw[qA]at this;simp at this;omega);have hbi:=hrow.lt;have hrow7:=hrow.below hbt;obtain⟨s,a,l,k,q1,q2,-,-,hzv⟩:=hrow7.cell (yE hcC);rw[hp]at hzv;clear g5;obtain⟨s2,a2,l2,k2,o1,o2,-,-,hov⟩:=hrs.cell (yE hcC);rw[hy]at hov;have HY:=xgw hy;have HP:=xgw hp;have HQ:=xgw hq;have HQE:=xgw hqe;have lq:=hqs.lt;have lr:=hrs.lt;have hl3:=zQS y p;have hl4:zAK (fun _ _=>True):=fun _ _ _ _ _=>trivial
  clear hy hp hq hqe hcz hneg hrv hrv0;go_upto_region 14 with(fail)
  refine zD3 rfl (RAS ([]) 99 w7 _ [⟨0,57,fun _ v=>v=slq qb R R⟩,⟨1,58,fun _ v=>v=niq i⟩,⟨2,59,fun _ v=>v=slq rb j j⟩,⟨3,60,fun _ v=>v=niq c⟩,⟨4,61,fun _ v=>v=ptq rb (c*2)⟩,⟨5,62,fun _ v=>v= .agg #[.bool s2,.slice a2 l2 k2]⟩,⟨6,63,fun _ v=>v=slq bi j rc⟩,⟨7,64,fun _ v=>v=niq c⟩,⟨8,65,fun _ v=>v=ptq bi (c*2)⟩,⟨9,66,fun _ v=>v= .agg #[.bool s,.slice a l k]⟩,⟨10,67,DMV y p⟩,⟨11,56,DMV y p⟩,⟨12,68,fun w v=>jY w v (y/p)⟩,⟨13,69,fun _ _=>True⟩,⟨14,70,fun _ v=>v=niq 0⟩,⟨15,71,fun _ v=>v=ptq qb (i*2)⟩] 16 (zXx 71 68)) kR (RAS.start (RA.start kR (by repeat' (first|exact zE9 _|exact zF5 _|exact zCc _ _ _|exact zBG _|assumption|refine xgm.2 ⟨?_,?_⟩|exact xgn _)))) ?fin2 ?steps2
  case steps2=>
   refine⟨?_,?_,?_,?_,?_,?_,?_,?_,?_,?_,?_,?_,?_,?_,?_,?_,?_,trivial⟩
   ·refine zAF.liftA kR dE ?_
    intro L T wS hL hd hcl hI K hK;try refine qB rfl ?_
    have zt:T[7]?=some (slq qb R R):=hI.keep 7 sI;go_simp;exact hK _ _ (hI.y mm0 rfl)
   ·refine zAF.liftA kR dE ?_
    intro L T wS hL hd hcl hI K hK;try refine qB rfl ?_
    have zt:T[11]?=some (niq i):=hI.keep 11 sI;go_simp;exact hK _ _ (hI.y mm1 rfl)
   ·refine zAF.liftA kR dE ?_
    intro L T wS hL hd hcl hI K hK;try refine qB rfl ?_
    have zt:T[8]?=some (slq rb j j):=hI.keep 8 sI;go_simp;exact hK _ _ (hI.y mm2 rfl)
   ·refine zAF.liftA kR dE ?_
    intro L T wS hL hd hcl hI K hK;try refine qB rfl ?_
    have zt:T[13]?=some (niq c):=hI.keep 13 sI;go_simp;exact hK _ _ (hI.y mm3 rfl)
   ·refine zAF.liftA kR dE ?_
    intro L T wS hL hd hcl hI K hK;try refine qB rfl ?_
    obtain⟨_,zt2,rfl⟩:=hI.v mm2 (hd 2);obtain⟨_,zt3,rfl⟩:=hI.v mm3 (hd 3);go_simp;exact hK _ _ (hI.y mm4 rfl)
   ·refine zAF.liftA kR dE ?_
    intro L T wS hL hd hcl hI K hK;try refine qB rfl ?_
    obtain⟨_,zt4,rfl⟩:=hI.v mm4 (hd 4);have cc0:=hI.cell (sI) oM o1;have cc1:=hI.cell (sI) oM o2;go_simp;exact hK _ _ (hI.y mm5 rfl)
   ·refine zAF.liftA kR dE ?_
    intro L T wS hL hd hcl hI K hK;try refine qB rfl ?_
    have zt:T[12]?=some (slq bi j rc):=hI.keep 12 sI;go_simp;exact hK _ _ (hI.y mm6 rfl)
   ·refine zAF.liftA kR dE ?_
    intro L T wS hL hd hcl hI K hK;try refine qB rfl ?_
    have zt:T[13]?=some (niq c):=hI.keep 13 sI;go_simp;exact hK _ _ (hI.y mm7 rfl)
   ·refine zAF.liftA kR dE ?_
    intro L T wS hL hd hcl hI K hK;try refine qB rfl ?_
    obtain⟨_,zt6,rfl⟩:=hI.v mm6 (hd 6);obtain⟨_,zt7,rfl⟩:=hI.v mm7 (hd 7);go_simp;exact hK _ _ (hI.y mm8 rfl)
   ·refine zAF.liftA kR dE ?_
    intro L T wS hL hd hcl hI K hK;try refine qB rfl ?_
    obtain⟨_,zt8,rfl⟩:=hI.v mm8 (hd 8);have cc0:=hI.cell (sI) oM q1;have cc1:=hI.cell (sI) oM q2;go_simp;exact hK _ _ (hI.y mm9 rfl)
   ·refine zAF.liftA kR dE ?_
    intro L T wS hL hd hcl hI K hK;try refine qB rfl ?_
    obtain⟨_,zt5,rfl⟩:=hI.v mm5 (hd 5);obtain⟨_,zt9,rfl⟩:=hI.v mm9 (hd 9);go_simp;refine(zLR _ _ y p _ (hov.ext hI.onl.lext).weak (hzv.ext hI.onl.lext).weak hyB.out hpB.out hp0.out).mono ?_;rintro e wa ⟨v,rfl,hv,hba⟩;exact hK _ _ ((hI.world hba).y zLl hv)
   ·refine zAF.liftA kR dE ?_
    intro L T wS hL hd hcl hI K hK;try refine qB rfl ?_
    obtain⟨v10,zt10,h10⟩:=hI.v zLl (hd 10);go_simp;exact hK _ _ (hI.y zKu h10)
   ·refine zAF.liftA kR dE ?_
    intro L T wS hL hd hcl hI K hK;try refine qB rfl ?_
    obtain⟨v11,zt11,h11⟩:=hI.v zKu (hd 11);obtain⟨qq,rr,rfl,hq,hr⟩:=h11;go_simp;exact hK _ _ (hI.y zL8 hq)
   ·intro L T wS hL hd hcl hI K hK
    try refine qB rfl ?_
    obtain⟨w0,hJ,-,-⟩:=id hI;obtain⟨z11,zt11,hz11⟩:=hJ.val _ zKu (hd 11);obtain⟨qq,rr,rfl,hq,hr⟩:DMV y p w0 z11:=hz11;go_simp;exact hK _ _ (hI.pure ⟨13,69,_⟩ zOL rfl (fun _=>trivial) dE (fun _=>zPc dE dE))
   ·intro L T wS hL hd hcl hI K hK
    try refine qB rfl ?_
    obtain⟨w0,hJ,-,-⟩:=id hI;obtain⟨z11,zt11,hz11⟩:=hJ.val _ zKu (hd 11);obtain⟨qq,rr,rfl,hq,hr⟩:DMV y p w0 z11:=hz11;go_simp;exact hK _ _ (hI.pure ⟨14,70,_⟩ zOM rfl (fun _=>rfl) dE (fun _=>zPc dE dE))
   ·refine zAF.liftA kR dE ?_
    intro L T wS hL hd hcl hI K hK;try refine qB rfl ?_
    obtain⟨_,zt0,rfl⟩:=hI.v mm0 (hd 0);obtain⟨_,zt1,rfl⟩:=hI.v mm1 (hd 1);go_simp;exact hK _ _ (hI.y zNZ rfl)
   intro L T wS hL hd hcl hI K hK;try refine qB rfl ?_
   replace hI:=hI.here hL;obtain⟨_,zt15,rfl⟩:=hI.v zNZ (hd 15);obtain⟨z12,zt12,hz12⟩:=hI.v zL8 (hd 12);obtain⟨vneg,vao,vlen,vcap,vls,rfl,hv'⟩:=id hz12;obtain⟨_,_,_,_,k1,k2,k3,k4,-⟩:=(hqs.only hI.onl sI).cell (yE hlt);go_simp;exact hK _ _ (RAS.store hI hL (by repeat' (first|exact xgn _|refine xgm.2 ⟨by dsimp only;decide,?_⟩)) dE (zTO zt15 zt12).symm)
  intro T w8f hJ;obtain⟨w8,hI,-,hstw8⟩:=hJ;replace hstw8:=hstw8 kR;obtain⟨vz0,q0,rfl⟩:=hI.v mm0 rfl;obtain⟨vz1,q1,rfl⟩:=hI.v mm1 rfl;obtain⟨vz2,q2,rfl⟩:=hI.v mm2 rfl;obtain⟨vz3,q3,rfl⟩:=hI.v mm3 rfl;obtain⟨vz4,q4,rfl⟩:=hI.v mm4 rfl;obtain⟨vz5,q5,rfl⟩:=hI.v mm5 rfl;obtain⟨vz6,q6,rfl⟩:=hI.v mm6 rfl;obtain⟨vz7,q7,rfl⟩:=hI.v mm7 rfl;obtain⟨vz8,q8,rfl⟩:=hI.v mm8 rfl;obtain⟨vz9,q9,rfl⟩:=hI.v mm9 rfl;obtain⟨vz10,q10,hz10⟩:=hI.v zLl rfl;obtain⟨vz11,q11,hz11⟩:=hI.v zKu rfl;obtain⟨vz12,q12,hz12⟩:=hI.v zL8 rfl;replace hz12:jY w8 vz12 (y/p):=hz12;obtain⟨vz13,q13,hz13⟩:=hI.v zOL rfl;obtain⟨vz14,q14,rfl⟩:=hI.v zOM rfl;obtain⟨vz15,q15,rfl⟩:=hI.v zNZ rfl;have hT:=zGh [(57,slq qb R R),(58,niq i),(59,slq rb j j),(60,niq c),(61,ptq rb (c*2)),(62,.agg #[.bool s2,.slice a2 l2 k2]),(63,slq bi j rc),(64,niq c),(65,ptq bi (c*2)),(66,.agg #[.bool s,.slice a l k]),(67,vz10),(56,vz11),(68,vz12),(69,vz13),(70,niq 0),(71,ptq qb (i*2))]
   (fun j hj=>hI.keep j (by simp only[xgm]at hj ⊢;simp[hj]))
   (by simp only[xgm];simp[q0,q1,q2,q3,q4,q5,q6,q7,q8,q9,q10,q11,q12,q13,q14,q15]) hI.size
  have how8:=hI.onl;clear hI;simp only[List.foldl_cons,List.foldl_nil,xgh,xgi,xgj,ptr]at hT;subst hT;clear q0 q1 q2 q3 q4 q5 q6 q7 q8 q9 q10 q11 q12 q13 q14 q15;have hbw8:=zVK how8;obtain⟨qn,qa,ql,qc,qx,rfl,hqx⟩:=id hz12;have HQX:=xgw hqx;have hw9:=hstw8.trans (zTO rfl rfl);have hq8:=hqs.below hbw8;have hset:=hq8.set (k:=i) (by rw[qA];exact hlt) hz12;rw[<-hw9,show y/p=zFw j (ent M) x i from by rw[HQ.out,HQE.out],zNT]at hset;have hx9:=hset.2;have hr9:jJ w8f rb (qZ j (zE3 j (ent M) x i)):=(hrs.below hbw8).old (by rw[hw9];exact yO _ _ _ _ _ _ _ (qD hqr)) hx9;have hrow9:jJ w8f bi (qZ j (ent M i)):=(hrow7.below hbw8).old (by rw[hw9];exact yO _ _ _ _ _ _ _ oM) hx9;have hb9:BWq w w8f:=by rw[hw9];exact yJ (yJ (nx hbt hbw8) oM _ _) oM _ _
  have hq9:=hset.1;obtain⟨s9,a9,l9,c9,f1,f2,-,-,hv9⟩:=hq9.cell (yE hlt);rw[show yQ (zFw j (ent M) x) (fun _=>0) (i+1) i=q from by unfold yQ;rw[if_pos oM,HQ.out]]at hv9;have sq:jZ (Sm q):=⟨hB.bsm.sm _ hqB.out.1⟩;have sq2:jZ (Sm (-q)):=⟨hB.bsm.sm _ (by rw[zR];exact hqB.out.1)⟩;have hlb:rb≠bi:=oM;clear hset hw9 hqx hstw8 hz12 q1 q2 o1 o2 hz10 hz11 hz13 hl3 hl4 how8;go_wp2_with fail
  refine(zBY _ q w8f hv9.weak sq.out).mono ?_;rintro e w10 ⟨u,rfl,hu,hb10⟩;obtain⟨un,ua,ul,uc,ux,rfl,hu'⟩:=id hu;have HU:=xgw hu';have hr9:=hr9.below hb10;have hrow9:=hrow9.below hb10;have hq9:=hq9.below hb10;have hb9:=nx hb9 hb10;clear f1 f2 hu';go_wp2_with fail
  refine(zKd rb bi j j rc (zE3 j (ent M) x i) (ent M i) _ (-q) w10 hr9 hrow9 hlb hu hC (xgf _) oM oM oM (fun t ht=>⟨hB.bsm.sm _ (HOK.out.rest i oM t ht),hB.bsm.sm _ (HOK.out.mat i hlt t ht),hB.bsm.sm _ (hqB.out.2 t ht)⟩) sq2.out).mono ?_;rintro e w11 ⟨⟨u11,rfl⟩,ho,hr11⟩;have hb11:BWq w w11:=Below.only hb9 ho (xgf _) (fun b hb=>by simp at hb;omega);have hq11:=hq9.only ho (by simpa using hqr);have hrr:qZ j (fun t=>zE3 j (ent M) x i t+-q*ent M i t)=qZ j (zE3 j (ent M) x (i+1)):=qY fun t _=>by
   show _=zE3 j (ent M) x i t+-(zFw j (ent M) x i)*ent M i t;rw[HQ.out]
  rw[hrr]at hr11;go_wp2;go_roundw
  case rel=>exact⟨i+1,oM,by simp,hb11,hq11,hr11⟩
  case measure=>exact meq
 obtain rfl:i=R:=oM;rw[zLG]at hqs;go_wp2;refine bodyPost_ret (zOl rfl _ _ _) rfl ?_;exact⟨_,_,rfl,hqs.vec (qA _ _) (xgf _) oM,hrs.vec (qA _ _) (xgf _) oM,hbt⟩
end Go.Proofs.YtkidaebmhlijlaaGreat
