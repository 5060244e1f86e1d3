/- hermite.Basis. hermite.Basis of small matrices; what a Hermite normal form is, row by row. hermite.Is: the closure and the search. Plain: the determinant and the pivots. -/
import Derived.Test.YtgnmdddaiefooaaGreatR21
import Derived.Test.YtgnmdddaiefooaaGreatR35
set_option linter.unusedVariables false
set_option linter.unusedSimpArgs false
set_option linter.unusedSectionVars false
set_option maxHeartbeats 16000000
set_option maxRecDepth 100000
namespace Go.Proofs.YtgnmdddaiefooaaGreat
open Go.RowKit
theorem zA3.keepZ{w w':World}{base:Nat}{v:Value}{xs:List Nat}{Z:Nat->Prop}(h:zA3 w base v xs)(ho:zM Z w w')(hz:∀g,v.ownBlock=some g->¬ Z g):zA3 w' base v xs:=by
 obtain⟨h1,h2,h3⟩:=id h;refine⟨h1,h2,?_⟩;rcases h3 with h3|⟨g,cap,cur,rfl,k1,k2,k3⟩
 ·exact .inl h3
 ·exact .inr ⟨g,cap,cur,rfl,k1,(ho.old g (Array.getElem?_eq_some_iff.1 k2).1 (hz g rfl)).trans k2,k3⟩
theorem zAJ.keepZ{w w':World}{base:Nat}{A:Value}{C:Nat}{bs:List Nat}{M:List (List Int)}{Z:Nat->Prop}(h:zAJ w base A C bs M)(ho:zM Z w w')(hz:∀b,Zn A bs b->¬ Z b):zAJ w' base A C bs M:=by
 refine⟨⟨h.own.1,?_⟩,h.len,fun k b r h1 h2=>?_,h.nodup,h.cb⟩
 ·rcases h.own.2 with h3|⟨g,cap,cur,rfl,k1,k2,k3⟩
  ·exact .inl h3
  ·exact .inr ⟨g,cap,cur,rfl,k1,(ho.old g (Array.getElem?_eq_some_iff.1 k2).1 (hz g (.inr rfl))).trans k2,k3⟩
 ·obtain⟨e2,e3⟩:=h.row k b r h1 h2
  exact⟨e2,e3.old (ho.old b e3.lt (hz b (.inl (xgd h1)))) ho.lext⟩
abbrev tMt:TypeId:=28
theorem zI0{B:Nat}(hB:BSd B)(v:Value)(M:List (List Int))(R C:Nat)(w:World)(h:zBm w v R C M)(hF:yG R C M)(hR:R<=1000000)(hC:C<=1000000)(hok:okF B R C (ent M))(s1:Sm 1){x0:Bst}(hx0:x0.s=ent M){J J':Nat->Bst->List (Nat × Nat)->Prop}(hE:zOK B R C 0 J J')(hJ:J 0 x0 []):
  Calls Tryz.prog 44 #[v] w fun e w'=>∃v y L,e= .returned v/\J R y L/\qL w' v L.length C ((L.map (·.1)).map fun i=>zQ C (y.s i))/\Below w.heap.size w w':=by
 have h0:=h;obtain⟨A,rfl,h⟩:=h;obtain⟨ao,n,cap,rfl,e2,e3,e4,-⟩:=id h;obtain rfl:R=n:=by rw[<-e2,hF.1]
 have hdv:decide (qR R C M)=true:=decide_eq_true hF.valid;have HF:=xgv hF;have HOK:=xgv hok;have H0:=xgv h0;have S1:=xgv s1;have HE:=xgv hE;have HJ:=xgv hJ;clear hok h0 hF e2 s1 hE hJ;go_enter Tryz.func44,Tryz.ntmps44;go_upto_region 1 with(fail)
 refine zC ?_;intro W0 hW0;obtain⟨hB0,bx1,br,hs0⟩:=qK hW0;obtain⟨c1,c2,c3,c4,c5,c6⟩:=bx1.three;clear hW0;go_wp2_with fail
 refine(zCG _ R C M W0 (H0.out.below hB0)).mono ?_;rintro e w1 ⟨rfl,hb1⟩;rw[hdv];have bx1:=bx1.below hb1;have br:=br.below hb1;have hB1:=nx hB0 hb1;have hs1:=hb1.size;clear c1 c2 c3 c4 c5 c6 hdv;obtain⟨c1,c2,c3,c4,c5,c6⟩:=bx1.three;go_wp2_with fail
 refine(zG5 hB.bsm _ M R C w1 (H0.out.below hB1) HF.out hR hC HOK.out S1.out).mono ?_;rintro e w2 ⟨v,rfl,hst,hb2⟩;obtain⟨bw,Ah,Au,Av,rfl,q1,q2,⟨bss,hws,hzs⟩,q3,q4⟩:=hst;have hB2:=nx hB1 hb2;have br:=br.below hb2;have bx1:=bx1.below hb2;have hs2:=hb2.size;clear c1 c2 c3 c4 c5 c6;obtain⟨c1,c2,c3,c4,c5,c6⟩:=bx1.three;go_upto_region 5 with(fail)
 refine zC ?_;intro W3 hW3;obtain⟨hB3',T4,hs3⟩:=zN hW3;have lbw:=q2.lt;have hB3:=nx hB2 hB3';have q2:=q2.below hB3';have br:=br.below hB3';have hws:=hws.below hB3';have q3:=q3.below hB3';have q4:=q4.below hB3';have hgz:∀g,Ah.ownBlock=some g->¬ g∈bss:=fun g hg hm=>hws.rown hws hm hg
 have hrun:zAj false (fun b=>b∈bss) W3 bw Ah R C 0 x0:=⟨rfl,Au,Av,bss,q2,by rw[hx0];exact hws,q3,q4,fun b hb=>hb⟩;have hnt:¬ w2.heap.size∈bss:=fun hm=>hws.nzb T4 dE dE (.inl hm)
 have hnr:¬ (w.heap.size+1)∈bss:=fun hm=>hws.nzb br dE dE (.inl hm)
 have hzl:∀b,b∈bss->b<W3.heap.size:=fun b hb=>hws.zlt (.inl hb)
 clear hW3 c1 c2 c3 c4 c5 c6;go_wp2_with fail
 refine(zIJ hB HE.out hrun HJ.out hR hC oM hzl hgz).mono ?_;rintro e w5 ⟨pv,y,Lp,rfl,hO,hz,hJ,hP⟩;obtain⟨hokx,hL⟩:=HE.out.ok R y Lp hJ;have T4:=hO.blk T4 hnt;have br:=hO.blk br hnr;have hB5:Below w.heap.size w w5:=jH hB3 (hO.mono (Z':=fun k=>w.heap.size<=k) (fun k _ hk=>by have:=hzs k (.inl hk);omega)) (xgf _) hB3.size;obtain⟨-,Au',Av',bsh,r1,r2,-,-,r5⟩:=hz;have hLl:Lp.length<=R:=hL.len;have hnd:=zFS hL;have hlt:∀k,k<Lp.length->yS Lp k<R:=fun k hk=>(hL.mem k hk).2.1
 obtain⟨po,pcap,rfl,-,-,-⟩:=hP.at_;obtain⟨so,scap,rfl⟩:=r2.shape;have HR2:=xgv r2;have HP:=xgv hP;have HND:=xgv hnd;have HLT:=xgv hlt;have HJ:=xgv hJ;have hs5:=hO.bel.size;have l5:=br.lt;simp only[List.length_map];clear hP hJ hnd hL hokx hrun;have hwr5:∀b,Zn (.slice so R scap) bsh b->¬ b=w2.heap.size:=by rintro b hb rfl;exact HR2.out.nzb T4 dE dE hb
 have hob5:∀g,(Value.slice po (Lp.map (·.1)).length pcap).ownBlock=some g->¬ g=w2.heap.size:=by rintro g hg rfl;exact HP.out.ne T4 dE hg
 have HW5:=xgv hwr5;have HO5:=xgv hob5;have hl4:=T4.lt;obtain⟨lL,hlL⟩:∃n,(Lp.map (·.1)).length=n:=⟨_,rfl⟩;have hlL':Lp.length=lL:=by rw[<-hlL];simp
 rw[hlL]at HP HO5;clear hwr5 hob5 r2 hlL;go_wp2;go_loopw [19] (fun iv wr=>∃(k:Nat) (v:Value),iv= .int .i64 k/\k<=lL/\zAJ wr w5.heap.size v C ((Lp.take k).map fun p=>bsh.getD p.1 0) ((Lp.take k).map fun p=>zQ C (y.s p.1))/\Blk wr w2.heap.size tMt #[.int .i64 k,.int .i64 C,v]/\zM (fun b=>b=w2.heap.size) w5 wr) (fun iv _=>lL-(intOf iv).toNat)
 case atStart=>exact⟨0,_,rfl,by omega,zAJ.nil _ _ _ oM,T4,zM.refl _ _⟩
 case round=>
  clear T4;obtain⟨k,uv,rfl,hk,hx,T4,hO⟩:=hrel;obtain⟨vo,vn,vc,rfl⟩:=hx.shape;have hwr:=HR2.out.keepZ hO HW5.out;have l4:=T4.lt;have hsz:=hO.bel.size;have r1:=hO.blk r1 oM;obtain⟨f1,f2,f3,f4,f5,f6⟩:=T4.three;obtain⟨g1,g2,g3,-,-,-⟩:=r1.three;have br:=hO.blk br oM;have HPW:=xgv (HP.out.keepZ hO HO5.out);by_cases hlt:k<lL
  ·have hlt':k<Lp.length:=by omega
   obtain⟨i,hi⟩:∃i,(Lp.map (·.1))[k]?=some i:=⟨_,xga (by simpa using hlt')⟩;obtain⟨qq,hqq⟩:∃qq,Lp[k]?=some qq:=⟨_,xga hlt'⟩;have hqi:qq.1=i:=by rw[List.getElem?_map,hqq]at hi;simpa using hi
   have hir:yS Lp k=i:=by unfold yS;rw[xgb,hqq];exact hqi
   have hin:i<R:=by rw[<-hir];exact HLT.out k hlt'
   obtain⟨og,oc,eo,lo,q0⟩:=HPW.out.cell hi;injection eo with eo1 eo2 eo3
   subst eo1;obtain⟨g,bi,eg,lg,hbi,-,o1,-⟩:=zJ.at_ hwr (i:=i) (by rw[hwr.len];exact hin);subst eg;have hrow:=hwr.rowAt hin hbi;have htk:∀{α:Type} (f:Nat × Nat->α),(Lp.take (k+1)).map f=(Lp.take k).map f++ [f qq]:=fun f=>by
    rw[List.take_add_one,List.map_append,hqq];rfl
   have HTB:=xgv (htk fun p=>bsh.getD p.1 0);have HTM:=xgv (htk fun p=>zQ C (y.s p.1));have HQI:=xgv hqi;have hgd:bsh.getD qq.1 0=bi:=by rw[hqi,xgb,hbi];rfl
   have hne:∀b∈(Lp.take k).map (fun p=>bsh.getD p.1 0),b≠bi:=by
    intro b hb' hbe;subst hbe;obtain⟨p,hp,he⟩:=List.mem_map.1 hb';obtain⟨t,ht1,ht2⟩:=List.getElem_of_mem hp;rw[List.getElem_take]at ht2;have ht3:t<k:=by simp at ht1;omega
    have hrt:yS Lp t=p.1:=by unfold yS;rw[xgb,xga oM,ht2];rfl
    have hpl:p.1<bsh.length:=by rw[hwr.len,<-hrt];exact HLT.out t oM
    have hil:i<bsh.length:=by rw[hwr.len];exact hin
    have e1:bsh.getD p.1 0=bsh[p.1]:=by rw[xgb,xga hpl];rfl
    have e2:bsh[i]=b:=(xge.1 hbi).2;have hji:p.1=i:=(List.getElem_inj (h₀:=hpl) (h₁:=hil) (zJ.nodup hwr)).1 (by rw[<-e1,e2];exact he);have h1:(Lp.map (·.1))[t]'(by simp;omega)=p.1:=by simp[ht2]
    have h2:(Lp.map (·.1))[k]'(by simp;omega)=i:=(xge.1 hi).2;have:=(List.getElem_inj (h₀:=(by simp;omega:t<(Lp.map (·.1)).length)) (h₁:=(by simp;omega:k<(Lp.map (·.1)).length)) HND.out).1 (by rw[h1,h2,hji]);omega
   have hlr:=zFO bi C;have hblen:((Lp.take k).map fun p=>bsh.getD p.1 0).length=k:=by simp;omega
   have HNE:=xgv hne;have HGD:=xgv hgd;clear htk hne hgd hi hbi hqi hir hqq eo2 eo3;go_upto_region 8 with(fail)
   refine zB 10 rfl (RV wr _ [VP 0 23 w2.heap.size 2,E 1 24 (.slice vo vn vc),VP 2 25 bw 0,VP 3 26 bw 0,VP 4 27 bw 0,VSl 5 28 g R scap,VN 6 29 i,VP 7 30 g i,VSl 8 31 bi C C,⟨9,32,SlR bi C⟩]) kR RV.start (RV.fin kR ?fin1) ?steps1
   case steps1=>
    refine⟨?_,?_,?_,?_,?_,?_,?_,?_,?_,?_,trivial⟩<;>(intro L T wS hL hd hcl hI K hK;try refine zA rfl ?_)
    ·exact xgs (hI.k 4 rfl kR)
    ·have zt0:=hI.e mm0 (hd 0)
     have cc0:=hI.cell f3;exact xgu
    ·exact xgs (hI.k 3 rfl kR)
    ·exact xgs (hI.e mm2 (hd 2))
    ·exact xgs (hI.e mm3 (hd 3))
    ·have zt4:=hI.e mm4 (hd 4)
     have cc0:=hI.cell g1;exact xgu
    ·exact xgs (hI.k 6 rfl kR)
    ·exact xgt (hI.e mm5 (hd 5)) (hI.e mm6 (hd 6))
    ·have zt7:=hI.e mm7 (hd 7)
     have cc0:=hI.cell o1;exact xgu
    ·have zt8:=hI.e mm8 (hd 8)
     go_simp;exact hK _ _ ((hI.world ((Below.refl _ _).alloc (xgf _) _)).y mm9 ⟨_,rfl,Blk.new _ _ _⟩)
   intro w7 hbw7 T hT;simp only[Fin,E,EI,VP,VSl,VN,xgg,xgh,xgi,xgj]at hT;obtain⟨vb9,hb9,rfl⟩:=hT;simp only[xgl,xgk];obtain⟨gs,rfl,hsl⟩:SlR bi C w7 vb9:=hb9;have hx7:=hx.below hbw7;have T47:=T4.below hbw7;have hr7:=hrow.below hbw7;have hO7:=hO.trans (zM.of (fun b=>b=w2.heap.size) hbw7);have l47:=T47.lt;have hs7:=hbw7.size;clear o1 f3 q0 f1 f2 f4 f5 f6;go_wp2_with (at_builtin;refine zQA rfl _ _ rfl w5.heap.size (.slice vo vn vc) C _ _ rfl hx7 gs 1 bi _ rfl hsl hr7 (zE _ _) HNE.out (by rw[hblen];omega) oM ?_;intro v' w' hown hgr hlx;obtain⟨so',pn,pc',rfl⟩:=hown.shape;have T4n:=(hgr.block _ l47 (fun e=>by have:=(hx7.ownb _ e.symm).1;omega)).trans T47;obtain⟨f1,f2,f3,f4,f5,f6⟩:=Blk.three (t:=28) T4n)
   have T4n:Blk w' w2.heap.size tMt #[.int .i64 k,.int .i64 C,.slice vo vn vc]:=T4n;have hO8:zM (fun b=>b=w2.heap.size) w5 w':=⟨hO7.bel.grown hgr (Nat.zero_le _) (fun _ _=>Nat.zero_le _),hO7.lext.trans hlx,fun b hb hn=>(hgr.block b oM (fun e=>by have:=(hx7.ownb _ e.symm).1;omega)).trans (hO7.old b hb hn)⟩;go_roundw
   case rel=>
    have hX:zAJ (w'.setCell ⟨w2.heap.size,2,none⟩ (.slice so' pn pc')) w5.heap.size (.slice so' pn pc') C ((Lp.take (k+1)).map fun p=>bsh.getD p.1 0) ((Lp.take (k+1)).map fun p=>zQ C (y.s p.1)):=by
     rw[HTB.out,HTM.out,HGD.out,HQI.out];exact hown.off T4n dE oM (fun b hb=>zT _ _ _ b _ hb) (T4n.lext dE _ _)
    have T4m:Blk (w'.setCell ⟨w2.heap.size,2,none⟩ (.slice so' pn pc')) w2.heap.size tMt #[.int .i64 k,.int .i64 C,.slice so' pn pc']:=by simpa using T4n.set_ 2 (.slice so' pn pc')
    refine⟨k+1,.slice so' pn pc',by simp,by omega,hX.off T4m dE oM (fun b hb=>zT _ _ _ b _ hb) (T4m.lext dE _ _),by simpa using T4m.set_ 0 (.int .i64 ((k:Int)+1)),?_⟩;exact⟨zP (zP hO8.bel (Nat.zero_le _) _ _) (Nat.zero_le _) _ _,(hO8.lext.trans (T4n.lext dE _ _)).trans (T4m.lext dE _ _),fun b hb hn=>(zT _ _ _ _ _ hn).trans ((zT _ _ _ _ _ hn).trans (hO8.old b hb hn))⟩
   case measure=>simp[intOf];omega
  ·obtain rfl:k=lL:=by omega
   obtain⟨e1,e2,e3,e4,e5,e6⟩:=br.three;have htk:Lp.take k=Lp:=List.take_of_length_le oM;rw[htk]at hx;have hBr:Below w.heap.size w wr:=jH hB5 (hO.mono (Z':=fun k=>w.heap.size<=k) (fun k _ hk=>by omega)) (xgf _) hB5.size;go_wp2;refine zX (r:=w.heap.size+1) rfl rfl rfl (br.put3 _ _ _) ⟨_,y,Lp,rfl,HJ.out,?_,zP (zP (zP hBr oM _ _) oM _ _) oM _ _⟩;rw[hlL'];have h2:=zJ.rows (hx.off br dE oM (fun b hbn=>qZ _ _ b _ _ _ hbn) (br.lext3 dE (.int .i64 k) (.int .i64 C) (.slice vo vn vc))).rows0;refine⟨_,rfl,?_⟩;rw[List.map_map];exact h2
structure zCX(R C r:Nat)(c:Nat->Nat)(A H:Nat->Nat->Int):Prop where
 hnf:Hnf C R r c H
 sp:zAq R C H A
 sp':zAq R C A H
theorem jI.lat{R C r:Nat}{c:Nat->Nat}{A H U V:Nat->Nat->Int}(h:jI R C r c A H U V):zCX R C r c A H:=⟨h.hnf,h.sp,h.sp'⟩
theorem zCX.eq{R C r r':Nat}{c c':Nat->Nat}{A H H':Nat->Nat->Int}(h:zCX R C r c A H)(h':zCX R C r' c' A H'):r=r'/\genM R C H=genM R C H':=by
 obtain⟨e1,-,e2⟩:=zDQ h.hnf h'.hnf (h.sp.trans h'.sp') (h'.sp.trans h.sp');exact⟨e1,zS fun i hi j hj=>(e2 i hi j hj).symm⟩
theorem zGk{M0:Nat}(hM1:1<=M0)(v:Value)(M:List (List Int))(R C:Nat)(w:World)(h:zBm w v R C M)(hF:yG R C M)(hR:R<=6)(hC:C<=1000000)(hg:gk (es R) M0<BD)(hA:leM M0 R C (ent M)):
  Calls Tryz.prog 44 #[v] w fun e w'=>∃v r c H U V,e= .returned v/\jI R C r c (ent M) H U V/\qL w' v r C (genM r C H)/\Below w.heap.size w w':=by
 have hB:=zGH;have hB0:leB M0 R C 0 ⟨ent M,idf,idf⟩:=⟨hA,fun _ _ b hb=>by omega,fun _ _ b hb=>by omega⟩;have hE:=zKF (r:=R) (Cs:=C) (x0:=⟨ent M,idf,idf⟩) (Ct:=0) hR hM1 (Nat.lt_of_le_of_lt (zAM hM1 (zGf R R)) hg) RkB.all;have hMB:M0<BD:=Nat.lt_of_le_of_lt (zGi _ hM1) hg;refine(zI0 hB v M R C w h hF oM hC (hA.ok hMB) (Smd.one (z:=1) dE).sm (x0:=⟨ent M,idf,idf⟩) rfl hE (zIM hB0 hM1)).mono ?_;rintro ee w' ⟨v,y,L,rfl,hJ,hv,hb⟩;obtain⟨hJ,hr⟩:=JH.fin hJ;have hl:=zIY (hJ.lok (xgf _)) (fun a ha hn=>by rw[zCE (hJ.zero a ha hn)];decide);have hf:=zIH hJ hr hl;refine⟨v,L.length,_,_,_,_,rfl,hf,?_,hb⟩;rw[zFt (n:=L.length) sI]at hv;have e:genM L.length C (fun a b=>y.s ((L.map (·.1)).getD a 0) b)=genM L.length C fun a b=>y.s (zCk R C y.s L a) b:=zS fun i hi j _=>by
  rw[zC9 hi];unfold yS;rw[xgb,List.getElem?_map,xgb,xga hi];rfl
 rw[e]at hv;exact hv
def zBU(C:Nat)(F:Nat->Nat->Int)(i:Nat):Prop:=
 lead C F i<0∨∃c:Nat,lead C F i=(c:Int)/\(∀k,k<i->0<=lead C F k/\lead C F k<c)/\0<F i c/\∀k,k<i->0<=F k c/\F k c<F i c
def zLl(R C:Int)(M:List (List Int)):Prop:=qR R C M/\∀i,i<M.length->zBU C.toNat (ent M) i
theorem zBU.split{C:Nat}{F:Nat->Nat->Int}:∀n,(∀i,i<n->zBU C F i)->∃r,r<=n/\(∀k,k<r->0<=lead C F k)/\∀k,r<=k->k<n->lead C F k<0
 |0,_=>⟨0,xgf _,fun k hk=>by omega,fun k _ hk=>by omega⟩
 | n+1,h=>by
  obtain⟨r,h1,h2,h3⟩:=zBU.split n fun i hi=>h i oM
  rcases h n oM with hl|⟨c,hc,hk,-⟩
  ·refine⟨r,by omega,h2,fun k hk1 hk2=>?_⟩
   by_cases e:k=n
   ·rw[e];exact hl
   ·exact h3 k hk1 oM
  ·refine⟨n+1,xgf _,fun k hk2=>?_,fun k _ _=>by omega⟩
   by_cases e:k=n
   ·rw[e,hc];omega
   ·exact(hk k oM).1
theorem zCd{C n:Nat}{F:Nat->Nat->Int}(h:∀i,i<n->zBU C F i):∃r c,Hnf C n r c F:=by
 obtain⟨r,h1,h2,h3⟩:=zBU.split n h;have hr:∀k,k<r->∃c:Nat,lead C F k=(c:Int)/\(∀j,j<k->0<=lead C F j/\lead C F j<c)/\0<F k c/\∀j,j<k->0<=F j c/\F j c<F k c:=fun k hk=>by
  rcases h k oM with hl|hl
  ·have:=h2 k hk;omega
  ·exact hl
 refine⟨r,fun k=>(lead C F k).toNat,h1,⟨fun k hk=>zNw (by have:=h2 k hk;omega),fun k hk=>?_,fun k hk t ht=>?_,fun k l hkl hl=>?_⟩,fun i j hij hj _=>?_,fun a h1 h2 t ht=>zD4 (h3 a h1 h2) t ht⟩
 ·obtain⟨c,e,-,hp,-⟩:=hr k hk
  simp only[e,Int.toNat_natCast];exact hp
 ·obtain⟨c,e,e2,e3,hz⟩:=zIR (C:=C) (F:=F) (i:=k) (by have:=h2 k hk;omega)
  simp only[e,Int.toNat_natCast]at ht;exact hz t ht
 ·obtain⟨c,e,e2,-⟩:=hr l hl
  have:=e2 k hkl;simp only[e,Int.toNat_natCast];omega
 ·obtain⟨c,e,-,-,e2⟩:=hr j hj
  simp only[e,Int.toNat_natCast];exact e2 i hij
theorem Hnf.lead_lo{C n r:Nat}{c:Nat->Nat}{F:Nat->Nat->Int}(h:Hnf C n r c F){k:Nat}(hk:k<r):lead C F k=(c k:Int):=h.ech.lead hk
theorem Hnf.lead_hi{C n r:Nat}{c:Nat->Nat}{F:Nat->Nat->Int}(h:Hnf C n r c F){k:Nat}(h1:r<=k)(h2:k<n):lead C F k=-1:=zCE (h.zero k h1 h2)
theorem zCm{C n r:Nat}{c:Nat->Nat}{F:Nat->Nat->Int}(h:Hnf C n r c F){i:Nat}(hi:i<n):zBU C F i:=by
 rcases Nat.lt_or_ge i r with hr|hr
 ·refine .inr ⟨c i,h.lead_lo hr,fun k hk=>?_,h.ech.pos i hr,fun k hk=>h.red k i hk hr trivial⟩
  rw[h.lead_lo (k:=k) oM];have:=h.ech.inc k i hk hr;omega
 ·exact .inl (by rw[h.lead_hi hr hi];decide)
theorem zBU.congr{C:Nat}{F G:Nat->Nat->Int}{n i:Nat}(hi:i<n)(e:∀a,a<n->∀b,b<C->G a b=F a b)(h:zBU C F i):zBU C G i:=by
 have hl:∀k,k<n->lead C G k=lead C F k:=fun k hk=>zJB (e k hk)
 rcases h with h|⟨c,h1,h2,h3,h4⟩
 ·exact .inl (by rw[hl i hi];exact h)
 ·have hc:=(zAA h1).1
  refine .inr ⟨c,by rw[hl i hi];exact h1,fun k hk=>by rw[hl k oM];exact h2 k hk,by rw[e i hi c hc];exact h3,fun k hk=>by rw[e i hi c hc,e k oM c hc];exact h4 k hk⟩
theorem zEW{R C:Nat}{F:Nat->Nat->Int}:zLl R C (genM R C F)↔∃r c,Hnf C R r c F:=by
 have hlen:(genM R C F).length=R:=(zV R C F).1;constructor
 ·rintro⟨-,h⟩
  rw[hlen]at h;exact zCd fun i hi=>(h i hi).congr (F:=ent (genM R C F)) hi fun a ha b hb=>(qG ha hb).symm
 ·rintro⟨r,c,h⟩
  refine⟨(zV R C F).valid,fun i hi=>?_⟩;rw[hlen]at hi;exact(zCm h hi).congr hi fun a ha b hb=>qG ha hb
theorem zL5{R C:Nat}{M:List (List Int)}(hF:yG R C M):zLl R C M↔∃r c,Hnf C R r c (ent M):=by
 rw[jU hF,zEW];constructor
 ·rintro⟨r,c,h⟩
  exact zCd fun i hi=>(zCm h hi).congr hi fun a ha b hb=>qG ha hb
 ·rintro⟨r,c,h⟩
  exact zCd fun i hi=>(zCm h hi).congr hi fun a ha b hb=>(qG ha hb).symm
def zIr(P:Prop)(w:World)(e:Ending)(w':World):Prop:=∃b,e= .returned (.bool b)/\(b=true↔P)/\Below w.heap.size w w'
theorem zIr.of{P:Prop}{w w':World}(b:Bool)(h:b=true↔P)(hb:Below w.heap.size w w'):zIr P w (.returned (.bool b)) w':=⟨b,rfl,h,hb⟩
theorem zIr.no{P:Prop}{w w':World}(h:¬ P)(hb:Below w.heap.size w w'):zIr P w (.returned (.bool false)) w':=⟨false,rfl,⟨nofun,fun hp=>absurd hp h⟩,hb⟩
theorem zIr.yes{P:Prop}{w w':World}(h:P)(hb:Below w.heap.size w w'):zIr P w (.returned (.bool true)) w':=⟨true,rfl,⟨fun _=>h,fun _=>rfl⟩,hb⟩
theorem qX.take{w:World}{ao:Option Addr}{n cap:Nat}{M:List (List Int)}(h:qX w (.slice ao n cap) M){i:Nat}(hi:i<=n):qX w (.slice ao i cap) (M.take i):=by
 obtain⟨ao',n',cap',e1,e2,e3,e4,e5⟩:=h;cases e1;refine⟨_,_,_,rfl,by simp;omega,by omega,e4,fun hn=>?_⟩;obtain⟨b,cs,h1,h2,h3⟩:=e5 (by rintro rfl;simp at hn);refine⟨b,cs,h1,h2,fun k zs hk=>h3 k zs ?_⟩;rw[List.getElem?_take]at hk;split at hk
 ·exact hk
 ·cases hk
theorem yG.row_eq{R C:Nat}{M:List (List Int)}(h:yG R C M){i:Nat}{zs:List Int}(hz:M[i]?=some zs):zs=zQ C (ent M i):=by
 have hl:=h.2 zs (xgd hz);refine List.ext_getElem (by simp[zQ,hl]) fun j h1 h2=>?_
 simp only[zQ,List.getElem_map,List.getElem_range];rw[zA7 hz (xga h1)]
structure zE4(C:Nat)(F:Nat->Nat->Int)(i:Nat)(last:Int)(en:Bool):Prop where
 ok:∀k,k<i->zBU C F k
 ended:en=true↔∃k,k<i/\lead C F k<0
 lst:en=false->∀c:Int,0<=c->(last<c↔∀k,k<i->lead C F k<c)
theorem zE4.start(C:Nat)(F:Nat->Nat->Int):zE4 C F 0 (-1) false:=
 ⟨fun k hk=>by omega,⟨(fun h=>by cases h),(fun⟨k,hk,_⟩=>by omega)⟩,fun _ c hc=>⟨fun _ k hk=>by omega,fun _=>by omega⟩⟩
theorem zE4.zero{C:Nat}{F:Nat->Nat->Int}{i:Nat}{last last':Int}{en:Bool}(h:zE4 C F i last en)(hl:lead C F i<0):zE4 C F (i+1) last' true:=
 ⟨fun k hk=>by
  by_cases e:k=i
  ·rw[e];exact .inl hl
  ·exact h.ok k oM,⟨fun _=>⟨i,by omega,hl⟩,fun _=>rfl⟩,fun e=>by cases e⟩
theorem zE4.row{C:Nat}{F:Nat->Nat->Int}{i c:Nat}{last:Int}{en:Bool}(h:zE4 C F i last en)(hl:lead C F i=(c:Int)):
  zBU C F i↔en=false/\last<c/\¬ F i c<0/\¬ ∃k,k<i/\(F k c<0∨F i c<=F k c):=by
 have hz:=(zAA hl).2;constructor
 ·rintro(h1|⟨c',h1,h2,h3,h4⟩)
  ·omega
  ·obtain rfl:c'=c:=by omega
   have he:en=false:=by
    cases en
    ·rfl
    ·obtain⟨k,hk,hk2⟩:=h.ended.1 rfl
     have:=(h2 k hk).1;omega
   exact⟨he,(h.lst he c' oM).2 fun k hk=>(h2 k hk).2,by omega,fun⟨k,hk,hk2⟩=>by have:=h4 k hk;omega⟩
 ·rintro⟨he,h2,h3,h4⟩
  refine .inr ⟨c,hl,fun k hk=>⟨?_,(h.lst he c oM).1 h2 k hk⟩,by omega,fun k hk=>?_⟩
  ·refine Int.not_lt.1 fun hn=>?_
   have:=h.ended.2 ⟨k,hk,hn⟩;rw[he]at this;cases this
  ·rcases Int.lt_or_le (F k c) 0 with g|g
   ·exact absurd ⟨k,hk,.inl g⟩ h4
   ·rcases Int.lt_or_le (F k c) (F i c)with g2|g2
    ·exact⟨g,g2⟩
    ·exact absurd ⟨k,hk,.inr g2⟩ h4
theorem zE4.step{C:Nat}{F:Nat->Nat->Int}{i c:Nat}{last:Int}(h:zE4 C F i last false)(hl:lead C F i=(c:Int))(hr:zBU C F i):zE4 C F (i+1) c false:=by
 refine⟨fun k hk=>?_,⟨(fun h=>by cases h),(fun⟨k,hk,hk2⟩=>?_)⟩,fun _ d hd=>⟨fun hlt k hk=>?_,fun hk=>by have:=hk i oM;omega⟩⟩
 ·by_cases e:k=i
  ·rw[e];exact hr
  ·exact h.ok k oM
 ·by_cases e:k=i
  ·rw[e]at hk2;omega
  ·exact h.ended.2 ⟨k,by omega,hk2⟩
 ·by_cases e:k=i
  ·rw[e];omega
  ·rcases hr with h1|⟨c',h1,h2,-⟩
   ·omega
   ·have:=(h2 k oM).2;omega
theorem zCu{n:Nat}{A:Nat->Nat->Int}(σ τ:Nat->Nat)(hσ:∀a,a<n->σ a<n)(hτ:∀a,a<n->τ a<n):det n A∣det n fun a b=>A (σ a) (τ b):=by
 refine zDk (R:=n) (C:=n) (F:=A) (fun σ τ hσ hτ hi hj=>?_) σ τ hσ hτ;have idn:∀σ:Nat->Nat,(∀a,a<n->σ a<n)->Inc n σ->∀a,a<n->σ a=a:=fun σ hσ hi a ha=>by
  have h1:=hi.le a ha;have h2:∀j,a+j<n->σ a+j<=σ (a+j):=fun j=>by
   induction j with
   |zero=>intro _;exact xgf _
   |succ j ih=>
    intro hj;have h3:=hi (a+j) oM;have h4:=ih oM;have h5:a+(j+1)=a+j+1:=rfl;rw[h5];omega
  have h3:=h2 (n-1-a) oM;have h4:=hσ (a+(n-1-a)) oM;omega
 have he:det n (fun a b=>A (σ a) (τ b))=det n A:=qS fun a ha b hb=>by rw[idn σ hσ hi a ha,idn τ hτ hj b hb]
 rw[he];exact Int.dvd_refl _
theorem zDj{n:Nat}{P F G:Nat->Nat->Int}(h:∀a,a<n->∀b,b<n->G a b=zI n fun t=>P a t*F t b):det n F∣det n G:=by
 rw[qS h];exact jA fun σ hσ=>zCu (A:=F) σ (fun b=>b) hσ fun a ha=>ha
theorem jI.det{n r:Nat}{c:Nat->Nat}{A H U V:Nat->Nat->Int}(h:jI n n r c A H U V):(yY n fun i=>H i i)=((Go.Proofs.YtgnmdddaiefooaaGreat.det n A).natAbs:Int):=by
 have hci:∀k,k<r->k<=c k:=by
  intro k;induction k with
  |zero=>intro _;omega
  |succ k ih=>
   intro hk;have h1:=ih oM;have h2:=h.hnf.ech.inc k (k+1) oM hk;omega
 have hup:∀a,a<n->∀b,b<n->b<a->H a b=0:=fun a ha b hb hab=>by
  by_cases hr:a<r
  ·exact h.hnf.ech.zero a hr b (by have:=hci a hr;omega)
  ·exact h.hnf.zero a oM ha b hb
 have e1:=zCv hup;have h1:=Int.natAbs_dvd_natAbs.2 (zDj (P:=U) h.mul);have h2:=Int.natAbs_dvd_natAbs.2 (zDj (P:=V) h.back);have h3:=Nat.dvd_antisymm h1 h2;have hnn:∀i,i<n->0<=H i i:=fun i hi=>by
  by_cases hr:i<r
  ·have h4:=hci i hr
   by_cases e:c i=i
   ·have:=h.hnf.ech.pos i hr
    rw[e]at this;omega
   ·rw[h.hnf.ech.zero i hr i oM]
    exact Int.le_refl _
  ·rw[h.hnf.zero i oM hi i hi]
   exact Int.le_refl _
 have hpn:∀m,m<=n->0<=yY m fun i=>H i i:=by
  intro m;induction m with
  |zero=>intro _;exact Int.le_of_lt Int.one_pos
  |succ m ih=>intro hm;exact Int.mul_nonneg (ih oM) (hnn m oM)
 have hp:=hpn n (xgf n);rw[h3,e1];omega
def zQx(n:Nat)(F:Nat->Nat->Int)(j:Nat):Int:=zI j fun t=>sg1 t*(F 0 t*det n (mnr F 0 t))
end Go.Proofs.YtgnmdddaiefooaaGreat
