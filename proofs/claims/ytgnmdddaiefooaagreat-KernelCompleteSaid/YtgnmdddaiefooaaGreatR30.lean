/- The law for regions that draw, where calls make matrices: one behind the other, so that they lie apart. hermite: start. hermite.Form: the rows in order. -/
import Derived.Test.YtgnmdddaiefooaaGreatR28
import Derived.Test.YtgnmdddaiefooaaGreatR29
set_option linter.unusedVariables false
set_option linter.unusedSimpArgs false
set_option linter.unusedSectionVars false
set_option maxHeartbeats 16000000
set_option maxRecDepth 100000
namespace Go.Proofs.YtgnmdddaiefooaaGreat
open Go.RowKit
def zCP(R C:Nat)(F:Nat->Nat->Int)(lo hi:Nat):World->Value->Prop:=fun w v=>∃o c bs,v= .agg #[.int .i64 R,.int .i64 C,.slice o R c]/\Wri w (.slice o R c) R C bs F/\∀b,Zn (.slice o R c) bs b->lo<=b/\b<hi
theorem zCP.below{R C:Nat}{F:Nat->Nat->Int}{lo hi:Nat}{w w':World}{v:Value}(h:zCP R C F lo hi w v)(hb:Below w.heap.size w w'):zCP R C F lo hi w' v:=by
 obtain⟨o,c,bs,h1,h2,h3⟩:=h;exact⟨o,c,bs,h1,h2.below hb,h3⟩
theorem zAc.within{w w':World}{R C:Nat}{F:Nat->Nat->Int}{e:Ending}(h:zAc w R C (genM R C F) e w'):∃v,e= .returned v/\zCP R C F w.heap.size w'.heap.size w' v/\Below w.heap.size w w':=by
 obtain⟨v,bs,rfl,⟨hl,A',rfl,ho⟩,hb⟩:=h;have hw:Wri w' A' R C bs F:=ho.mono (Nat.zero_le _);obtain⟨o,c,rfl⟩:=hw.shape;exact⟨_,rfl,⟨o,c,bs,rfl,hw,fun b hz=>⟨ho.fresh hz,hw.zlt hz⟩⟩,hb⟩
structure MS where
 op:Nat
 slot:Nat
 R:Nat
 C:Nat
 F:Nat->Nat->Int
def zIo(N:Nat)(vs:List VS)(ms:List MS):Bool:=decide ((vs.map (·.slot))++(ms.map (·.slot))).Nodup && decide ((vs.map (·.op))++(ms.map (·.op))).Nodup && ((vs.map (·.slot))++(ms.map (·.slot))).all (fun s=>decide (s<N))
theorem zDp{α:Type}{xs ys:List α}(h:(xs++ys).Nodup){a b:α}(ha:a∈xs)(hb:b∈ys):a≠b:=(List.nodup_append.1 h).2.2 a ha b hb
structure RG(W:World)(T0:Array Value)(vs:List VS)(ms:List MS)(L:Array Bool)(T:Array Value)(w:World):Prop where
 wf:zIo T0.size vs ms=true
 lv:∀s∈vs,qQ s.P
 size:T.size=T0.size
 keep:∀j,(∀s∈vs,s.slot≠j)->(∀m∈ms,m.slot≠j)->T[j]?=T0[j]?
 bel:Below W.heap.size W w
 val:∀s∈vs,L[s.op]?=some true->∃v,T[s.slot]?=some v/\s.P w v
 gh:∃bot top:Nat->Nat,(∀m∈ms,L[m.op]?=some true->W.heap.size<=bot m.op/\top m.op<=w.heap.size/\∃v,T[m.slot]?=some v/\zCP m.R m.C m.F (bot m.op) (top m.op) w v)∧
  ∀m∈ms,∀m'∈ms,m.op<m'.op->L[m.op]?=some true->L[m'.op]?=some true->top m.op<=bot m'.op
section
variable {W:World} {T0:Array Value} {vs:List VS} {ms:List MS} {L:Array Bool} {T:Array Value} {w w':World}
theorem RG.parts(h:RG W T0 vs ms L T w):(vs.map (·.slot)).Nodup/\(vs.map (·.op)).Nodup/\(ms.map (·.slot)).Nodup/\(ms.map (·.op)).Nodup/\(∀s∈vs,∀m∈ms,s.slot≠m.slot/\s.op≠m.op)/\(∀s∈vs,s.slot<T0.size)/\(∀m∈ms,m.slot<T0.size):=by
 have hwf:=h.wf;unfold zIo at hwf;simp only[Bool.and_eq_true,decide_eq_true_eq,List.all_eq_true]at hwf;obtain⟨⟨w1,w2⟩,w3⟩:=hwf;refine⟨(List.nodup_append.1 w1).1,(List.nodup_append.1 w2).1,(List.nodup_append.1 w1).2.1,(List.nodup_append.1 w2).2.1,fun s hs m hm=>⟨zDp w1 (List.mem_map.2 ⟨s,hs,rfl⟩) (List.mem_map.2 ⟨m,hm,rfl⟩),zDp w2 (List.mem_map.2 ⟨s,hs,rfl⟩) (List.mem_map.2 ⟨m,hm,rfl⟩)⟩,
  fun s hs=>w3 _ (List.mem_append.2 (.inl (List.mem_map.2 ⟨s,hs,rfl⟩))),fun m hm=>w3 _ (List.mem_append.2 (.inr (List.mem_map.2 ⟨m,hm,rfl⟩)))⟩
theorem RG.start(hwf:zIo T0.size vs ms=true:=by kernel_rfl)(hv:∀s∈vs,qQ s.P:=by repeat' (first|exact zCC _|exact zC2 _|exact yW _ _ _|exact zDS _|assumption|refine xgm.2 ⟨?_,?_⟩|exact xgn _)){n:Nat}:RG W T0 vs ms (Array.replicate n false) T0 W.drew:=by
 have hf:∀k:Nat,(Array.replicate n false)[k]?≠some true:=by
  intro k h;rw[Array.getElem?_replicate]at h;split at h<;>simp at h
 exact⟨hwf,hv,rfl,fun _ _ _=>rfl,dr _,fun s _ h=>absurd h (hf _),fun _=>0,fun _=>0,fun m _ h=>absurd h (hf _),fun m _ m' _ _ h=>absurd h (hf _)⟩
theorem RG.world(h:RG W T0 vs ms L T w)(hb:Below w.heap.size w w'):RG W T0 vs ms L T w':=by
 obtain⟨bot,top,g1,g2⟩:=h.gh;refine⟨h.wf,h.lv,h.size,h.keep,nx h.bel hb,fun s hs hl=>by
  obtain⟨v,h1,h2⟩:=h.val s hs hl;exact⟨v,h1,h.lv s hs _ _ _ hb h2⟩,bot,top,fun m hm hl=>?_,g2⟩
 obtain⟨e1,e2,v,e3,e4⟩:=g1 m hm hl;exact⟨e1,Nat.le_trans e2 hb.size,v,e3,e4.below hb⟩
theorem RG.value{k:Nat}{v:Value}(h:RG W T0 vs ms L T w)(s:VS)(hs:s∈vs)(hk:s.op=k)(hP:s.P w v):RG W T0 vs ms (L.setIfInBounds k true) (T.setIfInBounds s.slot v) w:=by
 subst hk;obtain⟨p1,p2,p3,p4,p5,p6,p7⟩:=h.parts;obtain⟨bot,top,g1,g2⟩:=h.gh;have hm':∀m∈ms,(L.setIfInBounds s.op true)[m.op]?=some true->L[m.op]?=some true:=fun m hm hl=>zK hl (p5 s hs m hm).2
 refine⟨h.wf,h.lv,by simp[h.size],fun j h1 h2=>by rw[xgc (h1 s hs)];exact h.keep j h1 h2,h.bel,?_,bot,top,fun m hm hl=>?_,fun m hm m' hm2 hlt l1 l2=>g2 m hm m' hm2 hlt (hm' m hm l1) (hm' m' hm2 l2)⟩
 ·intro t ht hl
  by_cases he:t=s
  ·subst he
   exact⟨v,by rw[Array.getElem?_setIfInBounds_self_of_lt (by rw[h.size];exact p6 _ hs)],hP⟩
  ·have n1:t.op≠s.op:=fun e=>he (zL p2 ht hs e)
   have n2:t.slot≠s.slot:=fun e=>he (zL p1 ht hs e)
   obtain⟨u,h1,h2⟩:=h.val t ht (zK hl (Ne.symm n1));exact⟨u,by rw[xgc (Ne.symm n2)];exact h1,h2⟩
 ·obtain⟨e1,e2,u,e3,e4⟩:=g1 m hm (hm' m hm hl)
  exact⟨e1,e2,u,by rw[xgc (p5 s hs m hm).1];exact e3,e4⟩
theorem RG.v{s:VS}(h:RG W T0 vs ms L T w)(hs:s∈vs)(hl:L[s.op]?=some true):∃v,T[s.slot]?=some v/\s.P w v:=h.val s hs hl
theorem RG.y{k:Nat}{v:Value}(h:RG W T0 vs ms L T w){s:VS}(hs:s∈vs)(hP:s.P w v)(hk:s.op=k:=by rfl):RG W T0 vs ms (L.setIfInBounds k true) (T.setIfInBounds s.slot v) w:=h.value s hs hk hP
theorem RG.mat{ops:Array Oper}{k:Nat}{v:Value}(h:RG W T0 vs ms L T w)(hcl:zAG ops L)(hL:L[k]?=some false)(m:MS)(hm:m∈ms)(hk:m.op=k)(hb:Below w.heap.size w w')(hw:zCP m.R m.C m.F w.heap.size w'.heap.size w' v)
  (hlt:(ms.all fun m'=>!decide (k<m'.op)||zE8 ops 9 m'.op k)=true):RG W T0 vs ms (L.setIfInBounds k true) (T.setIfInBounds m.slot v) w':=by
 subst hk;have h':=h.world hb;obtain⟨p1,p2,p3,p4,p5,p6,p7⟩:=h.parts;obtain⟨bot,top,g1,g2⟩:=h.gh;have hno:∀m'∈ms,m.op<m'.op->L[m'.op]?≠some true:=fun m' hm' hlt' hh=>by
  have h3:=List.all_eq_true.1 hlt m' hm';simp only[hlt',decide_true,Bool.not_true,Bool.false_or]at h3;have:=zBT hcl h3 hh;rw[hL]at this;cases this
 have hold:∀m'∈ms,m'≠m->(L.setIfInBounds m.op true)[m'.op]?=some true->L[m'.op]?=some true:=fun m' hm' hne hl=>zK hl (fun e=>hne (zL p4 hm' hm e.symm))
 refine⟨h.wf,h.lv,by simp[h.size],fun j h1 h2=>by rw[xgc (h2 m hm)];exact h.keep j h1 h2,h'.bel,?_,fun i=>if i=m.op then w.heap.size else bot i,fun i=>if i=m.op then w'.heap.size else top i,fun m' hm' hl=>?_,fun a ha b hb' hlt' l1 l2=>?_⟩
 ·intro t ht hl
  obtain⟨u,h1,h2⟩:=h'.val t ht (zK hl (Ne.symm (p5 t ht m hm).2));exact⟨u,by rw[xgc (Ne.symm (p5 t ht m hm).1)];exact h1,h2⟩
 ·by_cases he:m'=m
  ·subst he
   simp only[if_true];exact⟨h.bel.size,xgf _,v,by rw[Array.getElem?_setIfInBounds_self_of_lt (by rw[h.size];exact p7 _ hm)],hw⟩
  ·have n1:m'.op≠m.op:=fun e=>he (zL p4 hm' hm e)
   have n2:m'.slot≠m.slot:=fun e=>he (zL p3 hm' hm e)
   simp only[if_neg n1];obtain⟨e1,e2,u,e3,e4⟩:=g1 m' hm' (hold m' hm' he hl);exact⟨e1,Nat.le_trans e2 hb.size,u,by rw[xgc (Ne.symm n2)];exact e3,e4.below hb⟩
 ·by_cases hb2:b=m
  ·subst hb2
   by_cases ha2:a=b
   ·subst ha2;omega
   ·have n1:a.op≠b.op:=fun e=>ha2 (zL p4 ha hm e)
    simp only[if_true,if_neg n1];exact(g1 a ha (hold a ha ha2 l1)).2.1
  ·by_cases ha2:a=m
   ·subst ha2
    exact absurd (hold b hb' hb2 l2) (hno b hb' hlt')
   ·have n1:a.op≠m.op:=fun e=>ha2 (zL p4 ha hm e)
    have n2:b.op≠m.op:=fun e=>hb2 (zL p4 hb' hm e)
    simp only[if_neg n1,if_neg n2];exact g2 a ha b hb' hlt' (hold a ha ha2 l1) (hold b hb' hb2 l2)
theorem RG.cell{b o:Nat}{v:Value}(h:RG W T0 vs ms L T w)(hc:W.cell? ⟨b,o,none⟩=some v):w.cell? ⟨b,o,none⟩=some v:=qC hc h.bel
theorem RG.matv(h:RG W T0 vs ms L T w)(m:MS)(hm:m∈ms)(hl:L[m.op]?=some true):∃v,T[m.slot]?=some v/\∃o c,v= .agg #[.int .i64 m.R,.int .i64 m.C,.slice o m.R c]:=by
 obtain⟨bot,top,g1,g2⟩:=h.gh;obtain⟨e1,e2,v,e3,o,c,bs,e4,-⟩:=g1 m hm hl;exact⟨v,e3,o,c,e4⟩
end
structure zPN(n0 R C Cu Cw:Nat)(z:W5)(w:World)(v:Value):Prop where
 ex:∃so sc uo uc vo vc wo wc xo xc bS bU bV bW bX,v= .agg #[.int .i64 R,.int .i64 C,.slice so R sc,.int .i64 R,.int .i64 Cu,.slice uo R uc,.int .i64 R,.int .i64 Cu,.slice vo R vc,.int .i64 C,.int .i64 Cw,.slice wo C wc,.int .i64 C,.int .i64 Cw,.slice xo C xc]∧
  Wri w (.slice so R sc) R C bS z.s/\Wri w (.slice uo R uc) R Cu bU z.u/\Wri w (.slice vo R vc) R Cu bV z.v/\Wri w (.slice wo C wc) C Cw bW z.w/\Wri w (.slice xo C xc) C Cw bX z.x∧
  (∀b,Zn (.slice so R sc) bS b∨Zn (.slice uo R uc) bU b∨Zn (.slice vo R vc) bV b∨Zn (.slice wo C wc) bW b∨Zn (.slice xo C xc) bX b->n0<=b)∧
  Ap (.slice so R sc) bS (.slice uo R uc) bU/\Ap (.slice so R sc) bS (.slice vo R vc) bV/\Ap (.slice so R sc) bS (.slice wo C wc) bW/\Ap (.slice so R sc) bS (.slice xo C xc) bX/\Ap (.slice uo R uc) bU (.slice vo R vc) bV∧
  Ap (.slice uo R uc) bU (.slice wo C wc) bW/\Ap (.slice uo R uc) bU (.slice xo C xc) bX/\Ap (.slice vo R vc) bV (.slice wo C wc) bW/\Ap (.slice vo R vc) bV (.slice xo C xc) bX/\Ap (.slice wo C wc) bW (.slice xo C xc) bX
theorem yR{A A':Value}{bs bs':List Nat}{a b c d:Nat}(h:∀x,Zn A bs x->a<=x/\x<b)(h':∀x,Zn A' bs' x->c<=x/\x<d)(hbc:b<=c):Ap A bs A' bs':=fun x h1 h2=>by
 have:=h x h1;have:=h' x h2;omega
def StH(lo R C:Nat)(F:Nat->Nat->Int):World->Value->Prop:=fun w v=>∃bs,Wri w v R C bs F/\∀b,Zn v bs b->lo<=b
def StM(lo R C:Nat)(F:Nat->Nat->Int):World->Value->Prop:=fun w v=>∃o c,v= .agg #[.int .i64 R,.int .i64 C,.slice o R c]/\StH lo R C F w (.slice o R c)
def zPT(R:Nat):World->Value->Prop:=fun w v=>zBa w v R
def StB(lo R C:Nat)(F:Nat->Nat->Int):World->Value->Prop:=fun w v=>∃Ah Au Av,v= .agg #[Ah,Au,Av]/\StH lo R C F w Ah/\zBa w Au R/\zBa w Av R
def StP(lo R C:Nat)(F:Nat->Nat->Int):World->Value->Prop:=fun w v=>∃g Ah Au Av,v= .pointer (some ⟨g,0,none⟩)/\lo<=g/\Blk w g tHW #[Ah,Au,Av]/\StH lo R C F w Ah/\zBa w Au R/\zBa w Av R
theorem StH.below{lo R C:Nat}{F:Nat->Nat->Int}{w w':World}{v:Value}(h:StH lo R C F w v)(hb:Below w.heap.size w w'):StH lo R C F w' v:=by
 obtain⟨bs,h1,h2⟩:=h;exact⟨bs,h1.below hb,h2⟩
theorem zJA(lo R C:Nat)(F:Nat->Nat->Int):qQ (StM lo R C F):=fun _ _ _ x ⟨o,c,h1,h2⟩=>⟨o,c,h1,h2.below x⟩
theorem zI9(lo R C:Nat)(F:Nat->Nat->Int):qQ (StH lo R C F):=fun _ _ _ x h=>h.below x
theorem zI5(R:Nat):qQ (zPT R):=fun _ _ _ x h=>zBa.below h x
theorem zI8(lo R C:Nat)(F:Nat->Nat->Int):qQ (StB lo R C F):=fun _ _ _ x ⟨a,b,c,h1,h2,h3,h4⟩=>⟨a,b,c,h1,h2.below x,h3.below x,h4.below x⟩
theorem zFP(lo R C:Nat)(F:Nat->Nat->Int):qQ (StP lo R C F):=fun _ _ _ x ⟨g,a,b,c,h1,h0,h5,h2,h3,h4⟩=>⟨g,a,b,c,h1,h0,h5.below x,h2.below x,h3.below x,h4.below x⟩
theorem zFx(w:World)(n:Nat)(hn:n<=1000000):zBa (w.alloc (.cells (madeCells (Value.slice none 0 0).cells (n*1)) tR)) (.slice (some ⟨w.heap.size,0,none⟩) n n) n:=by
 refine⟨_,_,_,rfl,xgf _,by omega,Blk.new _ _ _,fun i hi=>?_⟩;unfold madeCells;rw[Array.getElem?_eq_getElem (by simp;omega)];simp[Value.cells,Nat.mod_one]
theorem zGs(w:World)(n:Nat)(hn:n<=1000000):zBa (w.alloc (.cells (madeCells #[Value.slice none 0 0] n) tR)) (.slice (some ⟨w.heap.size,0,none⟩) n n) n:=by
 have h:=zFx w n hn;rw[Nat.mul_one]at h;exact h
theorem zNm{B:Nat}(hB:BSm B)(v kv:Value)(M:List (List Int))(R C lo:Nat)(w:World)(h:zBm w v R C M)(hF:yG R C M)(hk:zR w kv 1)(hR:R<=1000000)(hC:C<=1000000)(hok:okF B R C (ent M))(s1:Sm 1)(hlo:lo<=w.heap.size):
  Calls Tryz.prog 123 #[v,kv] w fun e w'=>∃v,e= .returned v/\StM lo R C (ent M) w' v/\Below w.heap.size w w':=by
 refine(zJE v kv M R C 1 w h hF hk hR hC ?_ s1).mono fun e w' hr=>?_
 ·intro r hr z hz
  obtain⟨i,hi,ei⟩:=List.getElem_of_mem hr;obtain⟨j,hj,ej⟩:=List.getElem_of_mem hz;have e1:M[i]?=some r:=by rw[xga hi,ei]
  have e2:r[j]?=some z:=by rw[xga hj,ej]
  have e3:=hF.2 r hr;have:=hok i (by rw[<-hF.1];exact hi) j oM;rw[zA7 e1 e2]at this;exact hB.sm _ this
 ·have hq:genM R C (fun i j=>1*ent M i j)=genM R C (ent M):=zS fun i _ j _=>Int.one_mul _
  rw[hq]at hr;obtain⟨v,rfl,⟨o,c,bs,h1,h2,h3⟩,hb⟩:=zAc.within hr;exact⟨v,rfl,⟨o,c,h1,bs,h2,fun b hb=>Nat.le_trans hlo (h3 b hb).1⟩,hb⟩
theorem zG5{B:Nat}(hB:BSm B)(v:Value)(M:List (List Int))(R C:Nat)(w:World)(h:zBm w v R C M)(hF:yG R C M)(hR:R<=1000000)(hC:C<=1000000)(hok:okF B R C (ent M))(s1:Sm 1):
  Calls Tryz.prog 83 #[v] w fun e w'=>∃v,e= .returned v/\StP w.heap.size R C (ent M) w' v/\Below w.heap.size w w':=by
 have h0:=h;obtain⟨A,rfl,h⟩:=h;obtain⟨ao,n,cap,rfl,e2,e3,e4,-⟩:=id h;obtain rfl:R=n:=by rw[<-e2,hF.1]
 have HF:=xgv hF;have HOK:=xgv hok;have H0:=xgv h0;have S1:=xgv s1;clear hok h0 hF e2 s1;go_enter Tryz.func83,Tryz.ntmps83;go_upto_region 1 with(fail)
 refine zC ?_;intro W0 hW0;obtain⟨hB0,bx1,hs0⟩:=zN hW0;obtain⟨c1,c2,c3,c4,c5,c6⟩:=bx1.three;have hl1:=zJA W0.heap.size R C (ent M);have hl2:=zI9 W0.heap.size R C (ent M);have hl3:=zI5 R;have hl4:=zI8 W0.heap.size R C (ent M);have hl5:=zFP W0.heap.size R C (ent M);have hmk:=fun W=>mkR (R:Int) R rfl oM W
 clear hW0;refine zB 12 rfl (RV W0 _ [E 0 3 (.agg #[.int .i64 R,.int .i64 C,.slice ao R cap]),EI 1 4 (1),⟨2,5,StM W0.heap.size R C (ent M)⟩,⟨3,6,StH W0.heap.size R C (ent M)⟩,VP 4 7 w.heap.size 0,VN 5 8 R,⟨6,9,zPT R⟩,VP 7 10 w.heap.size 0,VN 8 11 R,⟨9,12,zPT R⟩,⟨10,13,StB W0.heap.size R C (ent M)⟩,⟨11,14,StP W0.heap.size R C (ent M)⟩]) kR RV.start (RV.fin kR ?fin1) ?steps1
 case steps1=>
  refine⟨?_,?_,?_,?_,?_,?_,?_,?_,?_,?_,?_,?_,trivial⟩<;>(intro L T wS hL hd hcl hI K hK;try refine zA rfl ?_)
  ·have zt:=hI.k 1 rfl kR
   have cc0:=hI.cell c1;have cc1:=hI.cell c2;have cc2:=hI.cell c3;exact xgu
  ·go_simp
   refine(zEi 1 _ oM oM).mono ?_;exact xgo
  ·have zt0:=hI.e mm0 (hd 0)
   obtain⟨v1,zt1,h1⟩:=hI.vi mm1 (hd 1);go_simp;refine(zNm hB _ _ M R C W0.heap.size _ ((H0.out.below hB0).below hI.bel) HF.out h1 hR hC HOK.out S1.out hI.bel.size).mono ?_;rintro e wa ⟨v,rfl,hv,hba⟩;exact hK _ _ ((hI.world hba).y mm2 hv)
  ·obtain⟨v2,zt2,h2⟩:=hI.v mm2 (hd 2)
   obtain⟨o,c,rfl,h2'⟩:StM W0.heap.size R C (ent M) wS v2:=h2;go_simp;exact hK _ _ (hI.y mm3 h2')
  ·exact xgs (hI.k 1 rfl kR)
  ·have zt4:=hI.e mm4 (hd 4)
   have cc0:=hI.cell c1;exact xgu
  ·obtain⟨_,zt5,rfl⟩:=hI.v mm5 (hd 5)
   go_simp;exact hK _ _ ((hI.world ((Below.refl _ _).alloc (xgf _) _)).y mm6 (by first|exact zFx wS R hR|exact zGs wS R hR))
  ·exact xgs (hI.k 1 rfl kR)
  ·have zt7:=hI.e mm7 (hd 7)
   have cc0:=hI.cell c1;exact xgu
  ·obtain⟨_,zt8,rfl⟩:=hI.v mm8 (hd 8)
   go_simp;exact hK _ _ ((hI.world ((Below.refl _ _).alloc (xgf _) _)).y mm9 (by first|exact zFx wS R hR|exact zGs wS R hR))
  ·obtain⟨v3,zt3,h3'⟩:=hI.v mm3 (hd 3)
   obtain⟨v6,zt6,h6'⟩:=hI.v mm6 (hd 6);obtain⟨v9,zt9,h9'⟩:=hI.v mm9 (hd 9);have h3q:StH W0.heap.size R C (ent M) wS v3:=h3';have h6q:zBa wS v6 R:=h6';have h9q:zBa wS v9 R:=h9';obtain⟨bs3,h3w,h3z⟩:=id h3q;obtain⟨o3,c3,rfl⟩:=h3w.shape;obtain⟨g6,c6,_,rfl,-⟩:=id h6q;obtain⟨g9,c9,_,rfl,-⟩:=id h9q;go_simp;exact hK _ _ (hI.y yD ⟨_,_,_,rfl,h3q,h6q,h9q⟩)
  ·obtain⟨v10,zt10,h10⟩:=hI.v yD (hd 10)
   obtain⟨Ah,Au,Av,rfl,h3q,h6q,h9q⟩:StB W0.heap.size R C (ent M) wS v10:=h10;have hba:=(Below.refl wS.heap.size wS).alloc (xgf _) (.cells #[Ah,Au,Av] tHW);obtain⟨bs3,h3w,h3z⟩:=id h3q;obtain⟨o3,c3,rfl⟩:=h3w.shape;obtain⟨g6,c6,_,rfl,-⟩:=id h6q;obtain⟨g9,c9,_,rfl,-⟩:=id h9q;go_simp;exact hK _ _ ((hI.world hba).y zAB ⟨_,_,_,_,rfl,hI.bel.size,Blk.new _ _ _,h3q.below hba,h6q.below hba,h9q.below hba⟩)
 intro w2 hbw2 T hT;simp only[Fin,E,EI,VP,VSl,VN,xgg,xgh,xgi,xgj]at hT;obtain⟨va1,ha1,va2,ha2,va3,ha3,va6,ha6,va9,ha9,va10,ha10,va11,ha11,rfl⟩:=hT;simp only[xgl,xgk];obtain⟨g,Ah,Au,Av,rfl,g1,g2,g3,g4,g5⟩:StP W0.heap.size R C (ent M) w2 va11:=ha11;obtain⟨bs,k1,k2⟩:=g3;have hsw:=hB0.size;clear c1 c2 c3 c4 c5 c6 hmk ha10 ha9 ha6 ha3 ha2;go_wp2;go_ret;exact⟨_,rfl,⟨g,Ah,Au,Av,rfl,by omega,g2,⟨bs,k1,fun b hb=>by have:=k2 b hb;omega⟩,g4,g5⟩,nx hB0 hbw2⟩
structure zAJ(w:World)(base:Nat)(A:Value)(C:Nat)(bs:List Nat)(M:List (List Int)):Prop where
 own:w.ownsRow base tR 1 A bs.length (qT C bs)
 len:M.length=bs.length
 row:∀(k:Nat) (b:Nat) (r:List Int),bs[k]?=some b->M[k]?=some r->r.length=C/\qF w b r
 nodup:bs.Nodup
 cb:C<=1099511627776
theorem zAJ.rows0{w:World}{base:Nat}{A:Value}{C:Nat}{bs:List Nat}{M:List (List Int)}(h:zAJ w base A C bs M):zJ w 0 A C bs M:=by
 refine⟨⟨h.own.1,?_⟩,h.len,fun k b r h1 h2=>⟨Nat.zero_le _,h.row k b r h1 h2⟩,h.nodup,h.cb⟩;rcases h.own.2 with h3|⟨g,cap,cur,rfl,k1,k2⟩
 ·exact .inl h3
 ·exact .inr ⟨g,cap,cur,rfl,Nat.zero_le _,k2⟩
theorem zAJ.below{w w':World}{base:Nat}{A:Value}{C:Nat}{bs:List Nat}{M:List (List Int)}(h:zAJ w base A C bs M)(hb:Below w.heap.size w w'):zAJ w' base A C bs M:=
 ⟨h.own.kept (row:=none) ⟨hb.os,hb.tape,hb.output,hb.size,fun k hk _=>hb.block k hk⟩ (by cases hv:A.ownBlock<;>simp),h.len,fun k b r h1 h2=>by
  obtain⟨e2,e3⟩:=h.row k b r h1 h2;exact⟨e2,e3.below hb⟩,h.nodup,h.cb⟩
theorem zAJ.nil(w:World)(base C:Nat)(hC:C<=1099511627776):zAJ w base (.slice none 0 0) C [] []:=⟨⟨rfl,.inl ⟨rfl,rfl⟩⟩,rfl,fun k b r h1=>by simp at h1,by simp,hC⟩
theorem zAJ.ownb{w:World}{base:Nat}{A:Value}{C:Nat}{bs:List Nat}{M:List (List Int)}(h:zAJ w base A C bs M):∀g,A.ownBlock=some g->base<=g/\g<w.heap.size:=World.ownsRow.lt h.own
theorem zAJ.mono{w:World}{base a:Nat}{A:Value}{C:Nat}{bs:List Nat}{M:List (List Int)}(h:zAJ w base A C bs M)(ha:a<=base):zAJ w a A C bs M:=by
 refine⟨⟨h.own.1,?_⟩,h.len,h.row,h.nodup,h.cb⟩;rcases h.own.2 with h3|⟨g,cap,cur,rfl,k1,k2⟩
 ·exact .inl h3
 ·exact .inr ⟨g,cap,cur,rfl,by omega,k2⟩
theorem zAJ.off{w w':World}{base:Nat}{A:Value}{C:Nat}{bs:List Nat}{M:List (List Int)}{g:Nat}{T:TypeId}{cs:Array Value}(h:zAJ w base A C bs M)(hg:Blk w g T cs)(hT:¬ T=tI)(hgb:g<base)(ho:∀k,k≠g->w'.heap[k]?=w.heap[k]?)(hx:yI w w'):zAJ w' base A C bs M:=by
 refine⟨⟨h.own.1,?_⟩,h.len,fun k b r h1 h2=>?_,h.nodup,h.cb⟩
 ·rcases h.own.2 with h3|⟨g',cap,cur,rfl,k1,k2,k3⟩
  ·exact .inl h3
  ·exact .inr ⟨g',cap,cur,rfl,k1,(ho g' oM).trans k2,k3⟩
 ·obtain⟨e2,e3⟩:=h.row k b r h1 h2
  exact⟨e2,e3.old (ho b (fun e=>zGU hg e3 hT e.symm)) hx⟩
theorem zAJ.shape{w:World}{base:Nat}{A:Value}{C:Nat}{bs:List Nat}{M:List (List Int)}(h:zAJ w base A C bs M):∃o n c,A= .slice o n c:=by
 rcases h.own.2 with⟨rfl,-⟩|⟨g,cap,cur,rfl,-⟩
 ·exact⟨_,_,_,rfl⟩
 ·exact⟨_,_,_,rfl⟩
theorem zQA{w:World}{ops:Array Oper}{rest:List Oper}{o:Oper}{a:Act}{Q:Exit->Act->World->Prop}(hgd:o.guard=none)(s x:Operand)
  (ho:o.op= .call {callee:=.builtin .append,args:=#[s,x],argTypes:=#[26,26]})
  (base:Nat) (v:Value) (C:Nat) (bs:List Nat) (M:List (List Int)) (hs:a.eval s=v) (hown:zAJ w base v C bs M) (b c nb:Nat) (r:List Int) (hx:a.eval x= .slice (some ⟨b,0,none⟩) 1 c)
  (hb:Blk w b tR #[.slice (some ⟨nb,0,none⟩) C C]) (hr:qF w nb r) (hrl:r.length=C) (hfr:∀g∈bs,g≠nb)
  (hlen:bs.length+1<=1099511627776) (hbase:base<=w.heap.size)
  (h:∀v' w',zAJ w' base v' C (bs++ [nb]) (M++ [r])->w.grownBy w' v.ownBlock->yI w w'->wpList Tryz.prog ops Q rest (a.put o.dst v') w'):wpList Tryz.prog ops Q (o::rest) a w:=by
 obtain⟨i0,hi,hz0,hz1,hz2⟩:=info_parts Tryz.infoR;have c0:=hb.cell 0;refine wpList_append_own w hgd s x 26 ho base tR i0 _ 1 24 Tryz.underlying26 hi hz0 hz1 hz2 rfl oM v bs.length _ hs hown.own ⟨b,0,none⟩ 1 c [.slice (some ⟨nb,0,none⟩) C C] hx rfl ?_ ?_ (by simp[maxLen];omega) oM hbase ?_
 ·intro j u hj
  rw[Addr.add_lit];match j with
  |0=>simp at hj;subst hj;exact c0
  |j+1=>simp at hj
 ·intro u hu
  simp at hu;subst hu;rfl
 ·intro v' w' k1 k2 _
  have hx:=zAm hown.own dE k2;have hkeep:∀g q,qF w g q->qF w' g q:=fun g q hq=>hq.old (k2.block g hq.lt (zCU hown.own hq)) hx
  refine h v' w' ⟨?_,by simp[hown.len],?_,?_,hown.cb⟩ k2 hx
  ·have:qT C (bs++ [nb])=qT C bs++ [.slice (some ⟨nb,0,none⟩) C C]:=by simp[qT]
   rw[this];simpa using k1
  ·intro k g q hg hq
   rcases Nat.lt_or_ge k bs.length with hlt|hge
   ·rw[List.getElem?_append_left hlt]at hg
    rw[List.getElem?_append_left (by rw[hown.len];exact hlt)]at hq;obtain⟨f2,f3⟩:=hown.row k g q hg hq;exact⟨f2,hkeep _ _ f3⟩
   ·rw[List.getElem?_append_right hge]at hg
    rw[List.getElem?_append_right (by rw[hown.len];exact hge),hown.len]at hq;have hk0:k-bs.length=0:=by
     have:=(xge.1 hg).1;simp at this;omega
    rw[hk0]at hg hq;simp at hg hq;subst hg;subst hq;exact⟨hrl,hkeep _ _ hr⟩
  ·rw[List.nodup_append]
   refine⟨hown.nodup,by simp,fun x hx y hy=>?_⟩;simp at hy;subst hy;exact hfr x hx
theorem zA3.cell{w:World}{base:Nat}{v:Value}{xs:List Nat}(h:zA3 w base v xs){k x:Nat}(hk:xs[k]?=some x):∃g cap,v= .slice (some ⟨g,0,none⟩) xs.length cap/\g<w.heap.size/\w.cell? ⟨g,k,none⟩=some (.int .i64 x):=by
 rcases h.2.2 with⟨rfl,h0⟩|⟨g,cap,cur,rfl,hg,hh,hn,hc,hs,ht⟩
 ·rw[List.eq_nil_of_length_eq_zero h0]at hk
  simp at hk
 ·refine⟨g,cap,rfl,(Array.getElem?_eq_some_iff.1 hh).1,?_⟩
  rw[cell_of_row w g k cur tNn _ hh];have hk':(xs.map fun n=>Value.int .i64 (n:Nat))[k]?=some (.int .i64 (x:Nat)):=by simp[hk]
  rw[<-ht,List.getElem?_take]at hk';split at hk'
  ·simpa using hk'
  ·cases hk'
abbrev SlR(b C:Nat):World->Value->Prop:=fun w v=>∃g,v= .slice (some ⟨g,0,none⟩) 1 1/\Blk w g tR #[.slice (some ⟨b,0,none⟩) C C]
theorem zFO(b C:Nat):qQ (SlR b C):=fun _ _ _ x ⟨g,h1,h2⟩=>⟨g,h1,h2.below x⟩
theorem zHh(Ah ov:Value)(n Cs nb ob base:Nat)(bss os:List Nat)(F:Nat->Nat->Int)(w:World)(hw:Wri w Ah n Cs bss F)(hnb:Blk w nb 3 #[.int .i64 n])(hob:Blk w ob 107 #[ov])(hov:zA3 w base ov os)
  (hos:∀x∈os,x<n) (hnd:os.Nodup) (hn:n<=1000000) (hCs:Cs<=1000000) (hlen:os.length<=n):
  Calls Tryz.prog 87 #[Ah,.int .i64 Cs,.pointer (some ⟨nb,0,none⟩),.pointer (some ⟨ob,0,none⟩)] w fun e w'=>∃v bs',e= .returned (.agg #[.int .i64 n,.int .i64 Cs,v])∧
   zAJ w' w.heap.size v Cs bs' (os.map fun i=>zQ Cs (F i))/\(∀b,b∈bs'->b∈bss)/\Below w.heap.size w w':=by
 have n0:=hnb.cell 0;have o0:=hob.cell 0;obtain⟨so,sn,scap,rfl,s1,-⟩:=id (zJ.rows hw);have e2:n=sn:=by rw[<-s1];simp[genM]
 subst e2;obtain⟨ao,ocap,rfl,-,-,-⟩:=hov.at_;have lnb:=hnb.lt;have lob:=hob.lt;have HW:=xgv hw;have HOV:=xgv hov;have HOS:=xgv hos;have HND:=xgv hnd;clear s1 hw hov hos hnd;go_enter Tryz.func87,Tryz.ntmps87;go_upto_region 2 with(fail)
 refine zC ?_;intro W0 hW0;obtain⟨hB0,T6,T7,hs0⟩:=qK hW0;have o0:=qC o0 hB0;clear hW0 n0;go_wp2;go_loopw [15] (fun iv wr=>∃(k:Nat) (v:Value),iv= .int .i64 k/\k<=os.length/\zAJ wr (w.heap.size+2) v Cs ((os.take k).map fun i=>bss.getD i 0) ((os.take k).map fun i=>zQ Cs (F i))∧
  Blk wr w.heap.size 28 #[.int .i64 0,.int .i64 0,.slice none 0 0]/\Blk wr (w.heap.size+1) 28 #[.int .i64 n,.int .i64 Cs,v]/\Below w.heap.size w wr) (fun iv _=>os.length-(intOf iv).toNat)
 case atStart=>exact⟨0,_,rfl,by omega,zAJ.nil _ _ _ oM,T6,T7,hB0⟩
 case round=>
  clear T6 T7 hB0 hs0;obtain⟨k,uv,rfl,hk,hx,T6,T7,hb⟩:=hrel;obtain⟨vo,vn,vc,rfl⟩:=hx.shape;have l7:=T7.lt;by_cases hlt:k<os.length
  ·obtain⟨i,hi⟩:∃i,os[k]?=some i:=⟨_,xga hlt⟩
   have hin:i<n:=HOS.out i (xgd hi);obtain⟨og,oc,eo,lo,q0⟩:=(HOV.out.below hb).cell hi;injection eo with eo1 eo2 eo3
   subst eo1;obtain⟨g,bi,eg,lg,hbi,-,o1,-⟩:=zJ.at_ (HW.out.below hb) (i:=i) (by rw[(HW.out.below hb).len];exact hin);subst eg;have hrow:=(HW.out.below hb).rowAt hin hbi;obtain⟨-,-,f3,-,-,-⟩:=T7.three;have htk:∀{α:Type} (f:Nat->α),(os.take (k+1)).map f=(os.take k).map f++ [f i]:=fun f=>by
    rw[List.take_add_one,List.map_append,hi];rfl
   have HTB:=xgv (htk fun i=>bss.getD i 0);have HTM:=xgv (htk fun i=>zQ Cs (F i));have hgd:bss.getD i 0=bi:=by rw[xgb,hbi];rfl
   have hne:∀b∈(os.take k).map (fun i=>bss.getD i 0),b≠bi:=by
    intro b hb' hbe;subst hbe;obtain⟨j,hj,he⟩:=List.mem_map.1 hb';have hjn:j<bss.length:=by rw[HW.out.len];exact HOS.out j (List.mem_of_mem_take hj)
    have hil:i<bss.length:=by rw[HW.out.len];exact hin
    have e1:bss.getD j 0=bss[j]:=by rw[xgb,xga hjn];rfl
    have e2:bss[i]=b:=(xge.1 hbi).2;have hji:j=i:=by
     have:=(List.getElem_inj (h₀:=hjn) (h₁:=hil) (zJ.nodup HW.out)).1 (by rw[<-e1,e2];exact he);exact this
    subst hji;obtain⟨t,ht1,ht2⟩:=List.getElem_of_mem hj;rw[List.getElem_take]at ht2;have ht3:t<k:=by simp at ht1;omega
    have:=(List.getElem_inj (h₀:=(by omega:t<os.length)) (h₁:=hlt) HND.out).1 (by rw[ht2];exact(xge.1 hi).2.symm);omega
   have hlr:=zFO bi Cs;have hblen:((os.take k).map fun i=>bss.getD i 0).length=k:=by simp;omega
   have HNE:=xgv hne;have HGD:=xgv hgd;clear htk hne hgd hi hbi;go_upto_region 5 with(fail)
   refine zB 7 rfl (RV wr _ [VP 0 19 (w.heap.size+1) 2,E 1 20 (.slice vo vn vc),VSl 2 21 g n scap,VN 3 22 i,VP 4 23 g i,VSl 5 24 bi Cs Cs,⟨6,25,SlR bi Cs⟩]) kR RV.start (RV.fin kR ?fin1) ?steps1
   case steps1=>
    refine⟨?_,?_,?_,?_,?_,?_,?_,trivial⟩<;>(intro L T wS hL hd hcl hI K hK;try refine zA rfl ?_)
    ·exact xgs (hI.k 7 rfl kR)
    ·have zt0:=hI.e mm0 (hd 0)
     have cc0:=hI.cell f3;exact xgu
    ·exact xgs (hI.k 0 rfl kR)
    ·exact xgs (hI.k 9 rfl kR)
    ·exact xgt (hI.e mm2 (hd 2)) (hI.e mm3 (hd 3))
    ·have zt4:=hI.e mm4 (hd 4)
     have cc0:=hI.cell o1;exact xgu
    ·have zt5:=hI.e mm5 (hd 5)
     go_simp;exact hK _ _ ((hI.world ((Below.refl _ _).alloc (xgf _) _)).y mm6 ⟨_,rfl,Blk.new _ _ _⟩)
   intro w5 hbw5 T hT;simp only[Fin,E,EI,VP,VSl,VN,xgg,xgh,xgi,xgj]at hT;obtain⟨vb6,hb6,rfl⟩:=hT;simp only[xgl,xgk];obtain⟨gs,rfl,hsl⟩:SlR bi Cs w5 vb6:=hb6;have hx5:=hx.below hbw5;have T75:=T7.below hbw5;have T65:=T6.below hbw5;have hr5:=hrow.below hbw5;have hb5:=nx hb hbw5;have l75:=T75.lt;clear o1 f3 q0;go_wp2_with (at_builtin;refine zQA rfl _ _ rfl (w.heap.size+2) (.slice vo vn vc) Cs _ _ rfl hx5 gs 1 bi _ rfl hsl hr5 (zE _ _) HNE.out (by rw[hblen];omega) oM ?_;intro v' w' hown hgr hlx;obtain⟨po,pn,pc',rfl⟩:=hown.shape;have T7n:=(hgr.block _ l75 (fun e=>by have:=(hx5.ownb _ e.symm).1;omega)).trans T75;have T6n:=(hgr.block _ oM (fun e=>by have:=(hx5.ownb _ e.symm).1;omega)).trans T65;obtain⟨f1,f2,f3,f4,f5,f6⟩:=Blk.three (t:=28) T7n)
   go_roundw
   case rel=>
    have T7n:Blk w' (w.heap.size+1) 28 #[.int .i64 n,.int .i64 Cs,.slice vo vn vc]:=T7n;have hX:zAJ (w'.setCell ⟨w.heap.size+1,2,none⟩ (.slice po pn pc')) (w.heap.size+2) (.slice po pn pc') Cs ((os.take (k+1)).map fun i=>bss.getD i 0) ((os.take (k+1)).map fun i=>zQ Cs (F i)):=by
     rw[HTB.out,HTM.out,HGD.out];exact hown.off T7n dE oM (fun b hb=>zT _ _ _ b _ hb) (T7n.lext dE _ _)
    refine⟨k+1,by simp,by omega,.slice po pn pc',by simpa using hX,?_,?_,?_⟩
    ·exact(zT _ _ _ _ _ oM).trans T6n
    ·have:=T7n.set_ 2 (.slice po pn pc')
     simpa using this
    ·exact zP (hb5.grown hgr oM (fun g hg=>by have:=(hx5.ownb g hg).1;omega)) oM _ _
   case measure=>simp[intOf];omega
  ·obtain rfl:k=os.length:=by omega
   obtain⟨f1,f2,f3,f4,f5,f6⟩:=T7.three;obtain⟨e1,e2,e3,e4,e5,e6⟩:=T6.three;have l6:=T6.lt;rw[List.take_length]at hx;go_wp2;refine zX (r:=w.heap.size) rfl rfl rfl (T6.put3 _ _ _) ⟨.slice vo vn vc,_,rfl,(hx.off T6 dE oM (fun b hbn=>qZ _ _ b _ _ _ hbn) (T6.lext3 dE _ _ _)).mono oM,?_,?_⟩
   ·intro b hb'
    obtain⟨j,hj,rfl⟩:=List.mem_map.1 hb';have hjn:j<bss.length:=by rw[HW.out.len];exact HOS.out j hj
    rw[xgb,xga hjn];exact List.getElem_mem hjn
   ·exact zP (zP (zP hb oM _ _) oM _ _) oM _ _
end Go.Proofs.YtgnmdddaiefooaaGreat
