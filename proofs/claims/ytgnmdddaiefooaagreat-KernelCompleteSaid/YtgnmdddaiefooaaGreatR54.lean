/- For torsionlaw15.KernelComplete: the kernel's rows annihilate; the relation that is built in; the rank of five rows. torsionref05.inside. torsionref05.Pick. Plain: the minors of Laplace's expansion as picked matrices. torsionref13.determinant. -/
import Derived.Test.YtgnmdddaiefooaaGreatR14
import Derived.Test.YtgnmdddaiefooaaGreatR16
import Derived.Test.YtgnmdddaiefooaaGreatR22
import Derived.Test.YtgnmdddaiefooaaGreatR26
import Derived.Test.YtgnmdddaiefooaaGreatR27
import Derived.Test.YtgnmdddaiefooaaGreatR53
set_option linter.unusedVariables false
set_option linter.unusedSimpArgs false
set_option linter.unusedSectionVars false
set_option maxHeartbeats 16000000
set_option maxRecDepth 100000
namespace Go.Proofs.YtgnmdddaiefooaaGreat
open Go.RowKit
theorem zBI.zero{R C m a b:Nat}{A G:Nat->Nat->Int}(h:zBI R C A m G)(ha:a<m)(hb:b<C):(zI R fun t=>G a t*A t b)=0:=(h.1.iff _).2 (jK.row G ha) b hb
theorem zOF{R C:Nat}{A B:Nat->Nat->Int}{x y:Nat->Int}(h1:∀a,a<R->∀b,b<C->B a b=A a b)(h2:∀b,b<C->B R b=zI R fun t=>x t*A t b)(hy:∀t,t<R->y t=x t)(hyR:y R=-1):zE1 (R+1) C B y:=fun b hb=>by
 show(zI R fun t=>y t*B t b)+y R*B R b=0;rw[hyR,h2 b hb,zD (g:=fun t=>x t*A t b) fun t ht=>by rw[hy t ht,h1 t ht b hb]];omega
theorem zNa{R:Nat}(hR:R<=5):eE R R<=2^34:=by
 rcases(by omega:R=0∨R=1∨R=2∨R=3∨R=4∨R=5)with rfl|rfl|rfl|rfl|rfl|rfl<;>decide
theorem zK2{h e:Nat}(h1:1<=h)(he:2*h<=2^e)(he2:e<=500)(v:Value)(M:List (List Int))(R C:Nat)(w:World)(hm:qL w v R C M)(hF:yG R C M)(hR:R<=5)(hC:C<=1000000)(hA:leM h R C (ent M)):
  Calls Tryz.prog 18 #[v] w fun e w'=>∃v,e= .returned v/\zPF R C (ent M) w' v/\Below w.heap.size w w':=
 (zHm h1 v M R C w hm.off hF oM hC hA (Nat.lt_of_le_of_lt (zAV h1 (zNa hR)) (zMx he dE (by rw[jB];omega)))).mono fun e w' ⟨v,r,c,H,U,V,h2,hf,hm,hb⟩=>⟨v,h2,⟨r,c,H,hf.lat,hm⟩,hb⟩
theorem zMS{h e m:Nat}{G:Nat->Nat->Int}(h1:1<=h)(he:2*h<=2^e)(he2:e<=500)(v:Value)(M:List (List Int))(R C:Nat)(w:World)(hm:qL w v R C M)(hF:yG R C M)(hR:R<=5)(hC:C<=1000000)(hA:leM h R C (ent M))(hs:zBI R C (ent M) m G):
  Calls Tryz.prog 31 #[v] w fun e w'=>∃v,e= .returned v/\v= .int .i64 ((R-m:Nat):Int)/\Below w.heap.size w w':=by
 obtain⟨g1,g2,g3,rfl⟩:=hm.agg;have HM:=xgv hm;have HF:=xgv hF;have HA:=xgv hA;have HH:=xgv (And.intro h1 he);have HQ:qM (∀r c H,zCX R C r c (ent M) H->R-m=r):=⟨fun r c H hl=>by
  obtain⟨hb,r',c',H',U,V,hf⟩:=hs;have e1:=zBN hf hb;have e2:=hl.rank hf.lat.min1;have e3:=hf.lat.rank hl.min1;omega⟩
 clear hm hF hA hs h1 he;go_enter Tryz.func31,Tryz.ntmps31;go_upto_region 1 with(fail)
 refine zC ?_;intro W0 hW0;obtain⟨hB0,bx,hs0⟩:=zN hW0;obtain⟨c1,c2,c3,c4,c5,c6⟩:=bx.three;clear hW0;go_wp2_with fail
 refine(zK2 HH.out.1 HH.out.2 he2 _ M R C W0 (HM.out.below hB0) HF.out hR hC HA.out).mono ?_;rintro e w1 ⟨u,rfl,⟨r,c,H,hl,hu⟩,hb1⟩;obtain⟨u1,u2,u3,rfl⟩:=hu.agg;have HR:=xgv (HQ.out r c H hl);have hB:=nx hB0 hb1;have hfl:=zIz;clear hl hu HQ c1 c2 c3 c4 c5 c6;go_wp2;go_ret;exact⟨_,rfl,congrArg (fun n:Nat=>Value.int .i64 (n:Int)) HR.out.symm,hB⟩
theorem zO8{R C:Nat}{M:List (List Int)}{x:Nat->Int}(hF:yG R C M)(hA:leM 9 R C (ent M))(hR:R<=4)(hx:∀b,(x b).natAbs<=9):yG (R+1) C (M++ [zQ C (zAT [zQ R x] M R 0)])/\leM 324 (R+1) C (ent (M++ [zQ C (zAT [zQ R x] M R 0)]))∧
  (∀a,a<R->∀b,b<C->ent (M++ [zQ C (zAT [zQ R x] M R 0)]) a b=ent M a b)/\∀b,b<C->ent (M++ [zQ C (zAT [zQ R x] M R 0)]) R b=zI R fun t=>x t*ent M t b:=by
 have h1:∀a,a<R->∀b,b<C->ent (M++ [zQ C (zAT [zQ R x] M R 0)]) a b=ent M a b:=fun a ha b hb=>by
  have e:(M++ [zQ C (zAT [zQ R x] M R 0)]).getD a []=M.getD a []:=by
   rw[xgb,List.getElem?_append_left (by rw[hF.1];exact ha),<-xgb]
  unfold ent;rw[e]
 have h2:∀b,b<C->ent (M++ [zQ C (zAT [zQ R x] M R 0)]) R b=zAT [zQ R x] M R 0 b:=fun b hb=>
  zA7 (by rw[List.getElem?_append_right (by rw[hF.1];exact xgf _),hF.1,Nat.sub_self];rfl) (zW hb)
 refine⟨⟨by simp[hF.1],fun r hr=>?_⟩,fun a ha b hb=>?_,h1,fun b hb=>?_⟩
 ·rcases List.mem_append.1 hr with h|h
  ·exact hF.2 r h
  ·rw[List.mem_singleton.1 h,zE]
 ·rcases Nat.lt_or_ge a R with h|h
  ·rw[h1 a h b hb];exact Nat.le_trans (hA a h b hb) dE
  ·obtain rfl:a=R:=by omega
   rw[h2 b hb];have:=zFw hA hx hb (xgf a);omega
 ·rw[h2 b hb]
  unfold zAT;rw[zAp];exact zD fun t ht=>by rw[zA7 (i:=0) (j:=t) rfl (zW ht)]
theorem zJF{h1 h2 e R m C:Nat}{A B:List (List Int)}(hA:leM h1 R m (ent A))(hB:leM h2 m C (ent B))(hm:m<=5)(he:2*(h1+h2+5*(h1*h2))<=2^e)(he2:e<=35000000000000):zCM A B R m C:=fun i hi j hj k hk=>by
 have hsm:∀z:Int,z.natAbs<=h1+h2+5*(h1*h2)->Sm z:=fun z hz=>zAi (Nat.lt_of_le_of_lt hz (zF7 he he2))
 have g1:=hA i hi k hk;have g2:=hB k hk j hj;have g3:(ent A i k*ent B k j).natAbs<=h1*h2:=by rw[Int.natAbs_mul];exact Nat.mul_le_mul g1 g2
 refine⟨hsm _ oM,hsm _ oM,hsm _ oM,hsm _ ?_⟩;unfold zAT;rw[zAp];refine Nat.le_trans (zAX (B:=h1*h2) fun t ht=>?_) (Nat.le_trans (Nat.mul_le_mul_right _ (show k<=5 by omega)) oM);rw[Int.natAbs_mul];exact Nat.mul_le_mul (hA i hi t oM) (hB t oM j hj)
theorem yZ.cell{w:World}{ao:Option Addr}{xs:List Nat}(h:yZ w ao xs){k:Nat}(hk:k<xs.length):
  ∃b off x,ao=some ⟨b,off,none⟩/\b<w.heap.size/\xs[k]?=some x/\w.cell? ⟨b,off+k,none⟩=some (.int .i64 (x:Nat))/\x<=1000000:=by
 obtain⟨b,off,cs,e1,e2,e3⟩:=h.2 (by rintro rfl;simp at hk);have hx:=xga hk;exact⟨b,off,_,e1,(Array.getElem?_eq_some_iff.1 e2).1,hx,by rw[cell_of_row w b (off+k) cs tNn _ e2];exact e3 k _ hx,h.1 _ (xgd hx)⟩
def zQe(M:List (List Int))(xs ys:List Nat):Nat->Nat->Int:=fun a b=>ent M (xs.getD a 0) (ys.getD b 0)
def zQg(n k:Nat):List Nat:=(List.range n).take k++(List.range n).drop (k+1)
def lap(n:Nat)(M:List (List Int))(j:Nat):Int:=zI j fun t=>sg1 t*(ent M 0 t*det n (mnr (ent M) 0 t))
theorem zA3.mono{w:World}{base base':Nat}{v:Value}{xs:List Nat}(h:zA3 w base v xs)(hb:base'<=base):zA3 w base' v xs:=
 ⟨h.1,h.2.1,h.2.2.imp id fun⟨g,cap,cur,e,k,r⟩=>⟨g,cap,cur,e,Nat.le_trans hb k,r⟩⟩
theorem zA3.first{w:World}{base:Nat}{v:Value}{xs:List Nat}(h:zA3 w base v xs)(hn:xs≠ []):
  ∃b cap,v= .slice (some ⟨b,0,none⟩) xs.length cap/\base<=b/\b<w.heap.size/\xs.length<=cap/\cap<=9223372036854775807/\yZ w (some ⟨b,0,none⟩) xs:=by
 obtain⟨ao,cap,rfl,h1,h2,h3⟩:=h.at_;obtain⟨b,off,cs,rfl,-,-⟩:=h3.2 hn;rcases h.2.2 with⟨h0,-⟩|⟨g,c,cur,e,k,r,-⟩
 ·cases h0
 ·injection e with e1 e2 e3
  injection e1 with e1
  injection e1 with e1 e4
  subst e1;subst e4;exact⟨b,cap,rfl,k,(Array.getElem?_eq_some_iff.1 r).1,h1,h2,h3⟩
theorem yZ.only{S:List Nat}{w w':World}{b o:Nat}{xs:List Nat}(h:yZ w (some ⟨b,o,none⟩) xs)(ho:yQ S w w')(hb:b ∉ S):yZ w' (some ⟨b,o,none⟩) xs:=
 h.block fun b' o' e hlt=>ho.old b' hlt (by injection e with e;injection e with e;subst e;exact hb)
def zP5(t:TypeId)(n0:Nat)(cs:Array Value)(w:World)(v:Value):Prop:=∃b,v= .pointer (some ⟨b,0,none⟩)/\n0<=b/\Blk w b t cs
theorem zI4(t:TypeId)(n0:Nat)(cs:Array Value):qQ (zP5 t n0 cs):=fun _ _ _ e ⟨b,h1,h2,h3⟩=>⟨b,h1,h2,h3.below e⟩
theorem qL.typed{w w':World}{v:Value}{R C:Int}{M:List (List Int)}(h:qL w v R C M)(e:∀(b:Nat) (cs:Array Value) (t:TypeId),w.heap[b]?=some (.cells cs t (0,0))->t=37∨t=tI->w'.heap[b]?=w.heap[b]?)(x:yI w w'):qL w' v R C M:=by
 obtain⟨A,h1,ao,n,cap,k1,k2,k3,k4,k5⟩:=h;refine⟨A,h1,ao,n,cap,k1,k2,k3,k4,fun hn=>?_⟩;obtain⟨b,cs,e1,e2,e3⟩:=k5 hn;refine⟨b,cs,e1,(e b cs _ e2 (.inl rfl)).trans e2,fun k zs hk=>?_⟩;obtain⟨rv,e4,ao',n',cap',j1,j2,j3,j4,j5⟩:=e3 k zs hk;refine⟨rv,e4,ao',n',cap',j1,j2,j3,j4,fun hz=>?_⟩;obtain⟨b',i1,cs',i2,i3⟩:=j5 hz;exact⟨b',i1,qF.old ⟨cs',i2,i3⟩ (e b' cs' _ i2 (.inr rfl)) x⟩
theorem qL.put3{w:World}{v:Value}{R C:Int}{M:List (List Int)}{b:Nat}{cs:Array Value}(h:qL w v R C M)(hb:Blk w b 28 cs)(x y z:Value)(hx:yI w (((w.setCell ⟨b,0,none⟩ x).setCell ⟨b,1,none⟩ y).setCell ⟨b,2,none⟩ z)):
  qL (((w.setCell ⟨b,0,none⟩ x).setCell ⟨b,1,none⟩ y).setCell ⟨b,2,none⟩ z) v R C M:=
 h.typed (fun b' cs' t hb' ht=>qZ _ _ _ _ _ _ (by
  rintro rfl
  have e:=congrArg (fun o:Option Obj=>match o with|some (Obj.cells _ t _)=>t|_=>0) (hb.symm.trans hb')
  replace e:(28:TypeId)=t:=e
  rcases ht with ht|ht<;>rw[ht]at e<;>exact absurd e dE)) hx
def zNK(R C:Int)(M:List (List Int))(w:World)(v:Value):Prop:=∃u,v= .tuple #[u,.int .i64 0]/\qL w u R C M
theorem zHX(R C:Int)(M:List (List Int)):qQ (zNK R C M):=fun _ _ _ e ⟨u,h1,h2⟩=>⟨u,h1,h2.below e⟩
end Go.Proofs.YtgnmdddaiefooaaGreat
