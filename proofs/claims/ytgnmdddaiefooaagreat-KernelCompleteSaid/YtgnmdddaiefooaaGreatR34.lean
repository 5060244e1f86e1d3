/- hermite.Form. -/
import Derived.Test.YtgnmdddaiefooaaGreatR30
import Derived.Test.YtgnmdddaiefooaaGreatR31
import Derived.Test.YtgnmdddaiefooaaGreatR32
import Derived.Test.YtgnmdddaiefooaaGreatR33
set_option linter.unusedVariables false
set_option linter.unusedSimpArgs false
set_option linter.unusedSectionVars false
set_option maxHeartbeats 16000000
set_option maxRecDepth 100000
namespace Go.Proofs.YtgnmdddaiefooaaGreat
open Go.RowKit
def zPR(t:TypeId)(n0:Nat)(cs:Array Value):World->Value->Prop:=fun w v=>∃b,v= .pointer (some ⟨b,0,none⟩)/\n0<=b/\Blk w b t cs
theorem zHV(t:TypeId)(n0:Nat)(cs:Array Value):qQ (zPR t n0 cs):=fun _ _ _ e ⟨b,h1,h2,h3⟩=>⟨b,h1,h2,h3.below e⟩
abbrev tHe:TypeId:=62
def SlP(R:Nat):World->Value->Prop:=fun _ v=>∃o c,v= .slice o R c
theorem zI7(R:Nat):qQ (SlP R):=fun _ _ _ _ h=>h
theorem Blk.neT{w:World}{a b:Nat}{T T':TypeId}{cs cs':Array Value}(h:Blk w a T cs)(k:Blk w b T' cs')(hT:T≠T'):a≠b:=by
 intro e;subst e;have h':w.heap[a]?=some (.cells cs T (0,0)):=h;have k':w.heap[a]?=some (.cells cs' T' (0,0)):=k;rw[h']at k';injection k' with q1
 injection q1 with _ ht
 exact hT ht
theorem zOL{al_:List AS}{k:Nat}(h:(al_.all fun a=>!(a.op==k))=true):∀a∈al_,a.op≠k:=fun a ha e=>by
 have:=List.all_eq_true.1 h a ha;simp[e]at this
theorem Wri.nzb{w:World}{A:Value}{R C:Nat}{bs:List Nat}{F:Nat->Nat->Int}(h:Wri w A R C bs F){wb:Nat}{T:TypeId}{cs:Array Value}(hw:Blk w wb T cs)(h1:T≠tR)(h2:T≠tI):¬ Zn A bs wb:=by
 intro hh;have hw':w.heap[wb]?=some (.cells cs T (0,0)):=hw;rcases hh with hb|hb
 ·obtain⟨r,cs',q1,-⟩:=h.blk hb
  rw[hw']at q1;injection q1 with q1
  injection q1 with _ ht
  exact h2 ht
 ·rcases(zJ.own h).2 with⟨rfl,-⟩|⟨g,cap,cur,rfl,-,hh,-⟩
  ·cases hb
  ·simp only[Value.ownBlock,Option.some.injEq]at hb
   subst hb;rw[hw']at hh;injection hh with q1
   injection q1 with _ ht
   exact h1 ht
theorem zBf:∀(l m:List Nat),l.Nodup->(∀x∈l,x∈m)->l.length<=m.length
 | [],m,_,_=>Nat.zero_le _
 |a::l,m,h,hs=>by
  have ha:=hs a (List.mem_cons_self ..);obtain⟨h1,h2⟩:=List.nodup_cons.1 h;have ih:=zBf l (m.erase a) h2 (fun x hx=>(List.mem_erase_of_ne (fun e=>by subst e;exact h1 hx)).2 (hs x (List.mem_cons_of_mem _ hx)));rw[List.length_erase_of_mem ha]at ih;have:=List.length_pos_of_mem ha;simp only[List.length_cons];omega
def zGG(n C:Nat)(F:Nat->Nat->Int)(L:List (Nat × Nat)):List Nat:=L.map (·.1)++(List.range n).filter fun i=>decide (lead C F i<0)
theorem zFS{n C m:Nat}{x:Bst}{L:List (Nat × Nat)}(h:LOk n C m x L):(L.map (·.1)).Nodup:=by
 rw[List.nodup_iff_pairwise_ne,List.pairwise_iff_getElem];intro i j hi hj hij;simp only[List.length_map]at hi hj;have:=h.inj i j hij hj;rw[xgb,xgb,xga hi,xga hj]at this;simpa using this
theorem zME{L:List (Nat × Nat)}{a:Nat}(h:a∈L.map (·.1)):∃k,k<L.length/\(L.getD k (0,0)).1=a:=by
 obtain⟨p,hp,rfl⟩:=List.mem_map.1 h;obtain⟨k,hk,e⟩:=List.getElem_of_mem hp;exact⟨k,hk,by rw[xgb,xga hk,e];rfl⟩
theorem zGy{n C m:Nat}{x:Bst}{L:List (Nat × Nat)}(h:LOk n C m x L){a:Nat}(ha:a∈L.map (·.1)):a<n/\¬ lead C x.s a<0:=by
 obtain⟨k,hk,rfl⟩:=zME ha;obtain⟨-,h2,h3,h4⟩:=h.mem k hk;exact⟨h2,fun hl=>h4 (zD4 hl _ h3)⟩
theorem zF1{n C m:Nat}{x:Bst}{L:List (Nat × Nat)}(h:LOk n C m x L):∀a∈zGG n C x.s L,a<n:=by
 intro a ha;rcases List.mem_append.1 ha with ha|ha
 ·exact(zGy h ha).1
 ·simp only[List.mem_filter,List.mem_range]at ha
  exact ha.1
theorem zDZ{n C m:Nat}{x:Bst}{L:List (Nat × Nat)}(h:LOk n C m x L):(zGG n C x.s L).Nodup:=by
 unfold zGG;rw[List.nodup_append];refine⟨zFS h,List.Nodup.sublist List.filter_sublist List.nodup_range,fun a ha b hb e=>?_⟩;subst e;simp only[List.mem_filter,decide_eq_true_eq]at hb;exact(zGy h ha).2 hb.2
theorem zIY{n C m:Nat}{x:Bst}{L:List (Nat × Nat)}(h:LOk n C m x L)(hz:∀a,a<n->(∀k,k<L.length->(L.getD k (0,0)).1≠a)->lead C x.s a<0):(zGG n C x.s L).length=n:=by
 have h1:=zBf _ (List.range n) (zDZ h) (fun a ha=>List.mem_range.2 (zF1 h a ha));have h2:=zBf (List.range n) (zGG n C x.s L) List.nodup_range (fun a ha=>by
  have ha:=List.mem_range.1 ha;by_cases hm:a∈L.map (·.1)
  ·exact List.mem_append.2 (.inl hm)
  ·refine List.mem_append.2 (.inr ?_)
   simp only[List.mem_filter,List.mem_range,decide_eq_true_eq];refine⟨ha,hz a ha fun k hk e=>hm ?_⟩;rw[<-e,xgb,xga hk];exact List.mem_map.2 ⟨_,List.getElem_mem hk,rfl⟩)
 simp only[List.length_range]at h1 h2;omega
theorem StP.mono{lo lo' R C:Nat}{F:Nat->Nat->Int}{w:World}{v:Value}(h:StP lo R C F w v)(hl:lo'<=lo):StP lo' R C F w v:=by
 obtain⟨g,a,b,c,h1,h0,h5,⟨bs,h2,h2'⟩,h3,h4⟩:=h;exact⟨g,a,b,c,h1,Nat.le_trans hl h0,h5,⟨bs,h2,fun b hb=>Nat.le_trans hl (h2' b hb)⟩,h3,h4⟩
theorem zER{T:Array Value}{i j:Nat}{v d:Value}(h:i≠j):(T.setIfInBounds i v).getD j d=T.getD j d:=by
 rw[Array.getD_eq_getD_getElem?,Array.getD_eq_getD_getElem?,xgc h]
theorem zH7{T:Array Value}{i:Nat}{v d:Value}(h:T[i]?=some v):T.getD i d=v:=by
 rw[Array.getD_eq_getD_getElem?,h];rfl
theorem zQk{vs:List VS}{k:Nat}(h:(vs.all fun a=>!(a.op==k))=true):∀a∈vs,a.op≠k:=fun a ha e=>by
 have:=List.all_eq_true.1 h a ha;simp[e]at this
theorem zQc{vs:List MS}{k:Nat}(h:(vs.all fun a=>!(a.op==k))=true):∀a∈vs,a.op≠k:=fun a ha e=>by
 have:=List.all_eq_true.1 h a ha;simp[e]at this
theorem zM.ofB{B:Nat}{w w':World}(h:Below B w w')(hx:yI w w'):zM (fun b=>B<=b) w w':=⟨h.mono (Nat.zero_le _),hx,fun k _ hn=>h.block k (Nat.lt_of_not_le hn)⟩
theorem zA3.type{w:World}{base:Nat}{v:Value}{xs:List Nat}(h:zA3 w base v xs):∀g,v.ownBlock=some g->∃cs,Blk w g tNn cs:=by
 intro g hg;rcases h.2.2 with⟨rfl,-⟩|⟨g',cap,cur,rfl,-,hh,-⟩
 ·cases hg
 ·simp only[Value.ownBlock,Option.some.injEq]at hg
  subst hg;exact⟨_,hh⟩
theorem zA3.ne{w:World}{base:Nat}{v:Value}{xs:List Nat}(h:zA3 w base v xs){b:Nat}{T:TypeId}{cs:Array Value}(hb:Blk w b T cs)(hT:T≠tNn):v.ownBlock≠some b:=by
 intro e;obtain⟨cs',h2⟩:=h.type b e;exact Blk.neT hb h2 hT rfl
theorem zA3.far{w:World}{base:Nat}{v:Value}{xs:List Nat}(h:zA3 w base v xs){b:Nat}{T:TypeId}{cs:Array Value}(hb:Blk w b T cs)(hT:T≠tNn)(i:Nat)(u:Value):zA3 (w.setCell ⟨b,i,none⟩ u) base v xs:=by
 obtain⟨h1,h2,h3⟩:=id h;refine⟨h1,h2,?_⟩;rcases h3 with h3|⟨g,cap,cur,rfl,k1,k2,k3⟩
 ·exact .inl h3
 ·exact .inr ⟨g,cap,cur,rfl,k1,(zT _ _ _ _ _ (fun e=>h.ne hb hT (by simp[Value.ownBlock,e]))).trans k2,k3⟩
def zMs(R C:Nat)(M:List (List Int)):World->Value->Prop:=fun w v=>∃o c,v= .agg #[.int .i64 R,.int .i64 C,.slice o R c]/\qX w (.slice o R c) M
theorem zBc(R C:Nat)(M:List (List Int)):qQ (zMs R C M):=fun _ _ _ x ⟨o,c,h1,h2⟩=>⟨o,c,h1,h2.below x⟩
theorem qX.slice{w:World}{v:Value}{M:List (List Int)}(h:qX w v M):∃o c,v= .slice o M.length c:=by
 obtain⟨ao,n,cap,e1,e2,-⟩:=h;exact⟨ao,cap,by rw[e1,e2]⟩
theorem zCl(Ah ov:Value)(n Cs nb ob base:Nat)(bss os:List Nat)(F:Nat->Nat->Int)(w:World)(hw:Wri w Ah n Cs bss F)(hnb:Blk w nb 3 #[.int .i64 n])(hob:Blk w ob 107 #[ov])(hov:zA3 w base ov os)
  (hos:∀x∈os,x<n) (hnd:os.Nodup) (hn:n<=1000000) (hCs:Cs<=1000000) (hlen:os.length=n):
  Calls Tryz.prog 87 #[Ah,.int .i64 Cs,.pointer (some ⟨nb,0,none⟩),.pointer (some ⟨ob,0,none⟩)] w fun e w'=>∃v,e= .returned v/\zMs n Cs (os.map fun i=>zQ Cs (F i)) w' v/\Below w.heap.size w w':=by
 refine(zHh Ah ov n Cs nb ob base bss os F w hw hnb hob hov hos hnd hn hCs oM).mono ?_;rintro e w' ⟨v,bs',rfl,h1,-,h3⟩;have h2:=zJ.rows h1.rows0;obtain⟨o,c,rfl⟩:=qX.slice h2;have hl:(os.map fun i=>zQ Cs (F i)).length=n:=by simp[hlen]
 rw[hl]at h2 ⊢
 exact⟨_,rfl,⟨o,c,rfl,h2⟩,h3⟩
structure zCY(w:World)(f:Value)(R C:Nat)(H U V:List (List Int)):Prop where
 ex:∃h u v,f= .agg #[.int .i64 R,.int .i64 C,h,.int .i64 R,.int .i64 R,u,.int .i64 R,.int .i64 R,v]/\qX w h H/\qX w u U/\qX w v V
theorem zCY.below{w w':World}{f:Value}{R C:Nat}{H U V:List (List Int)}(h:zCY w f R C H U V)(hb:Below w.heap.size w w'):zCY w' f R C H U V:=by
 obtain⟨a,b,c,h1,h2,h3,h4⟩:=h.ex;exact⟨a,b,c,h1,h2.below hb,h3.below hb,h4.below hb⟩
def zNI(R C:Nat)(H U V:List (List Int)):World->Value->Prop:=fun w f=>∃ho hc uo uc vo vc,f= .agg #[.int .i64 R,.int .i64 C,.slice ho R hc,.int .i64 R,.int .i64 R,.slice uo R uc,.int .i64 R,.int .i64 R,.slice vo R vc]/\qX w (.slice ho R hc) H/\qX w (.slice uo R uc) U/\qX w (.slice vo R vc) V
theorem zGo(R C:Nat)(H U V:List (List Int)):qQ (zNI R C H U V):=fun _ _ _ x ⟨a,b,c,d,e,f,h1,h2,h3,h4⟩=>⟨a,b,c,d,e,f,h1,h2.below x,h3.below x,h4.below x⟩
theorem Tryz.sizeHe:(Tryz.prog.info? tHe).map (·.size)=some 9:=by kernel_rfl
theorem zNd{os:List Nat}{C:Nat}{F:Nat->Nat->Int}{a b:Nat}(ha:a<os.length)(hb:b<C):ent (os.map fun i=>zQ C (F i)) a b=F (os.getD a 0) b:=by
 have h1:(os.map fun i=>zQ C (F i))[a]?=some (zQ C (F (os.getD a 0))):=by
  rw[List.getElem?_map,xga ha,Option.map_some,xgb,xga ha];rfl
 exact zA7 h1 (zW hb)
theorem zLz{os:List Nat}{C n:Nat}{F:Nat->Nat->Int}(h:os.length=n):yG n C (os.map fun i=>zQ C (F i)):=by
 refine⟨by simp[h],fun r hr=>?_⟩;obtain⟨i,-,rfl⟩:=List.mem_map.1 hr;exact zE _ _
theorem zJd{w:World}{v:Value}{n B:Nat}{os:List Nat}{F:Nat->Nat->Int}(hB:BSm B)(h:zMs n n (os.map fun i=>zQ n (F i)) w v)(hl:os.length=n)(ho:∀x∈os,x<n)(hok:okF B n n F)(hn:n<=1000000):
  Calls Tryz.prog 67 #[v] w fun e w'=>∃v,e= .returned v/\zMs n n (genM n n fun a b=>F (os.getD b 0) a) w' v/\Below w.heap.size w w':=by
 obtain⟨o,c,rfl,hr⟩:=h;refine(zCS _ n n _ w ⟨_,rfl,hr⟩ (zLz hl) hn hn ?_).mono ?_
 ·intro r hr z hz
  obtain⟨i,hi,rfl⟩:=List.mem_map.1 hr;obtain⟨j,hj,e⟩:=List.getElem_of_mem hz;rw[zE]at hj;have e2:=zW (f:=F i) hj;rw[xga (by rw[zE];exact hj),e]at e2;injection e2 with e2
  rw[e2];exact hB.sm _ (hok i (ho i hi) j hj)
 ·intro e w' hr
  have hq:genM n n (fun a b=>ent (os.map fun i=>zQ n (F i)) b a)=genM n n (fun a b=>F (os.getD b 0) a):=zS fun i hi j hj=>zNd oM hi
  rw[hq]at hr;obtain⟨v,rfl,⟨o,c,bs,h1,h2,h3⟩,hb⟩:=zAc.within hr;exact⟨v,rfl,⟨o,c,h1,zJ.rows h2⟩,hb⟩
theorem zIZ{C:Nat}{F:Nat->Nat->Int}(k:Nat):((List.range (k+1)).filter fun i=>decide (lead C F i<0))=((List.range k).filter fun i=>decide (lead C F i<0))++(if lead C F k<0 then [k]else []):=by
 rw[List.range_succ,List.filter_append];congr 1;by_cases h:lead C F k<0
 ·rw[if_pos h];simp[h]
 ·rw[if_neg h];simp[h]
theorem zKO{B:Nat}(hB:BSd B)(v:Value)(M:List (List Int))(R C:Nat)(w:World)(h:qL w v R C M)(hF:yG R C M)(hR:R<=1000000)(hC:C<=1000000)(hok:okF B R C (ent M))(s1:Sm 1){J J':Nat->Bst->List (Nat × Nat)->Prop}(hE:zOK B R C R J J')(hJ:J 0 ⟨ent M,idf,idf⟩ [])
  (hend:∀y L,J R y L->∀a,a<R->(∀k,k<L.length->(L.getD k (0,0)).1≠a)->lead C y.s a<0):
  Calls Tryz.prog 41 #[v] w fun e w'=>∃v y L,e= .returned v/\J R y L/\(zGG R C y.s L).length=R/\zCY w' v R C ((zGG R C y.s L).map fun i=>zQ C (y.s i)) ((zGG R C y.s L).map fun i=>zQ R (y.t i)) (genM R R fun a b=>y.i ((zGG R C y.s L).getD b 0) a)/\Below w.heap.size w w':=by
 have h0:=h;obtain⟨A,rfl,h⟩:=h;obtain⟨ao,n,cap,rfl,e2,e3,e4,-⟩:=id h;obtain rfl:R=n:=by rw[<-e2,hF.1]
 have hdv:decide (qR R C M)=true:=decide_eq_true hF.valid;have HF:=xgv hF;have HOK:=xgv hok;have H0:=xgv h0;have S1:=xgv s1;have HE:=xgv hE;have HJ:=xgv hJ;have HEND:=xgv hend;clear hok h0 hF e2 s1 hE hJ hend;go_enter Tryz.func41,Tryz.ntmps41;go_upto_region 1 with(fail)
 refine zC ?_;intro W0 hW0;obtain⟨hB0,bx1,br,hs0⟩:=qK hW0;obtain⟨c1,c2,c3,c4,c5,c6⟩:=bx1.three;clear hW0;go_wp2_with fail
 refine(zAn _ R C M W0 (H0.out.below hB0)).mono ?_;rintro e w1 ⟨rfl,hb1⟩;rw[hdv];have bx1:=bx1.below hb1;have br:=br.below hb1;have hB1:=nx hB0 hb1;have hs1:=hb1.size;clear c1 c2 c3 c4 c5 c6 hdv;obtain⟨c1,c2,c3,c4,c5,c6⟩:=bx1.three;have hl1:=zFP w1.heap.size R C (ent M);have hl2:=zHV 3 w1.heap.size #[.int .i64 0];go_upto_region 3 with(fail)
 refine zB 5 rfl (RV w1 _ [VP 0 13 w.heap.size 0,VN 1 14 R,E 2 15 (.agg #[.int .i64 R,.int .i64 C,.slice ao R cap]),⟨3,16,StP w1.heap.size R C (ent M)⟩,⟨4,3,zPR 3 w1.heap.size #[.int .i64 0]⟩]) kR RV.start (RV.fin kR ?fin1) ?steps1
 case steps1=>
  refine⟨?_,?_,?_,?_,?_,trivial⟩<;>(intro L T wS hL hd hcl hI K hK;try refine zA rfl ?_)
  ·exact xgs (hI.k 1 rfl kR)
  ·have zt0:=hI.e mm0 (hd 0)
   have cc0:=hI.cell c1;exact xgu
  ·have zt:=hI.k 1 rfl kR
   have cc0:=hI.cell c1;have cc1:=hI.cell c2;have cc2:=hI.cell c3;exact xgu
  ·obtain⟨_,zt2,rfl⟩:=hI.v mm2 (hd 2)
   go_simp;refine(zG5 hB.bsm _ M R C _ ((H0.out.below hB1).below hI.bel).off HF.out hR hC HOK.out S1.out).mono ?_;rintro e wa ⟨v,rfl,hv,hba⟩;exact hK _ _ ((hI.world hba).y mm3 (hv.mono hI.bel.size))
  ·go_simp
   exact hK _ _ ((hI.world ((Below.refl _ _).alloc (xgf _) _)).y mm4 ⟨_,rfl,hI.bel.size,Blk.new _ _ _⟩)
 intro w2 hbw2 T hT;simp only[Fin,E,EI,VP,VSl,VN,xgg,xgh,xgi,xgj]at hT;obtain⟨va3,ha3,va4,ha4,rfl⟩:=hT;simp only[xgl,xgk];obtain⟨bw,Ah,Au,Av,rfl,q1,q2,q3,-,-⟩:StP w1.heap.size R C (ent M) w2 va3:=ha3;obtain⟨bn,rfl,q4,q5⟩:zPR 3 w1.heap.size #[.int .i64 0] w2 va4:=ha4;obtain⟨bss,hws,hzs⟩:=q3;obtain⟨n1,n2⟩:w2.cell? ⟨bn,0,none⟩=some (.int .i64 0)/\w2.frozen? ⟨bn,0,none⟩=false:=⟨q5.cell 0,q5.frozen 0⟩;have hnbw:bn≠bw:=Blk.neT q5 q2 dE;have hB2:=nx hB1 hbw2;have br:=br.below hbw2;have bx1:=bx1.below hbw2;have hs2:=hbw2.size;clear c1 c2 c3 c4 c5 c6 hl1 hl2;go_upto_region 4 with(fail)
 refine zC ?_;intro W2 hW2;have ho2:zM (fun b=>b=bn) w2 W2:=by rw[hW2.out];exact⟨zP (Below.refl _ _) (Nat.zero_le _) _ _,q5.lext dE _ _,fun b _ hb=>zT _ _ _ _ _ hb⟩
 have hB2:Below w.heap.size w W2:=by rw[hW2.out];exact zP hB2 oM _ _
 have hws:=hws.keepZ ho2 (by rintro b hb rfl;exact hws.nzb q5 dE dE hb);have q2:=ho2.blk q2 (Ne.symm hnbw);have br:=ho2.blk br oM;have bx1:=ho2.blk bx1 oM;have q5:Blk W2 bn 3 #[.int .i64 R]:=by rw[hW2.out];simpa using q5.set_ 0 (.int .i64 R)
 have hs2:=Nat.le_trans hs2 ho2.bel.size;have n1:=q5.cell 0;have hl1:=zI7 R;have lws:∀b,Zn Ah bss b->b<W2.heap.size:=fun b hb=>hws.zlt hb
 have HWS:=xgv hws;have LWS:=xgv lws;have hlb:=q2.lt;obtain⟨so,sc,rfl⟩:=hws.shape;clear hW2 ho2 n2 hws lws;refine zB 11 rfl (RXS W2 _ [⟨0,17,fun _ v=>v= .pointer (some ⟨bw,0,none⟩)⟩,⟨1,18,fun _ v=>v= .pointer (some ⟨bw,0,none⟩)⟩,⟨2,19,fun _ v=>v= .int .i64 R⟩,⟨4,21,SlP R⟩,⟨5,22,fun _ v=>v= .int .i64 R⟩,⟨7,24,SlP R⟩,⟨8,25,fun _ v=>v= .pointer (some ⟨bw,0,none⟩)⟩,⟨9,26,fun _ v=>v= .pointer (some ⟨bw,1,none⟩)⟩] [⟨3,20,R,R,idf⟩,⟨6,23,R,R,idf⟩] [⟨4,21,⟨3,20,R,R,idf⟩⟩,⟨7,24,⟨6,23,R,R,idf⟩⟩] 10 (fun T w=>w.setCell ⟨bw,1,none⟩ (T.getD 21 undef))) kR (RXS.start (RX.start kR (by repeat' (first|exact zCC _|exact zC2 _|assumption|refine xgm.2 ⟨?_,?_⟩|exact xgn _)) (by
   refine xgm.2 ⟨⟨mm0,_,mm3,rfl,rfl⟩,xgm.2 ⟨⟨mm1,_,mm5,rfl,rfl⟩,xgn _⟩⟩))) ?finX ?stepsX
 case stepsX=>
  refine⟨?_,?_,?_,?_,?_,?_,?_,?_,?_,?_,?_,trivial⟩
  ·refine yU.liftX kR dE ?_
   intro L T wS hL hd hcl hI K hK;try refine zA rfl ?_
   have zt:T[4]?=some (.pointer (some ⟨bw,0,none⟩)):=hI.g.keep 4 sI sI;go_simp;exact hK _ _ (hI.y mm0 rfl (zOL kR))
  ·intro L T wS hL hd hcl hI K hK
   try refine zA rfl ?_
   have zt:T[4]?=some (.pointer (some ⟨bw,0,none⟩)):=by
    obtain⟨w0,h0,-,-⟩:=hI;exact h0.g.keep 4 sI sI
   go_simp;exact hK _ _ (hI.step (fun w0 h0=>h0.y mm1 rfl (zOL kR)) dE (fun w=>by rw[zER dE]))
  ·refine yU.liftX kR dE ?_
   intro L T wS hL hd hcl hI K hK;try refine zA rfl ?_
   have zt:T[3]?=some (.pointer (some ⟨bn,0,none⟩)):=hI.g.keep 3 sI sI;have cc0:=hI.g.cell n1;go_simp;exact hK _ _ (hI.y mm2 rfl (zOL kR))
  ·refine yU.liftX kR dE ?_
   intro L T wS hL hd hcl hI K hK;try refine zA rfl ?_
   obtain⟨_,zt2,rfl⟩:=hI.g.val _ mm2 (hd 2);go_simp;refine(zFR R _ hR).mono ?_;rintro e wa ⟨v,rfl,hv,hba⟩;exact hK _ _ (hI.mat hcl hL ⟨3,20,_,_,_⟩ mm0 rfl hba hv kR)
  ·refine yU.liftX kR dE ?_
   intro L T wS hL hd hcl hI K hK;try refine zA rfl ?_
   obtain⟨_,zt3,o,c,rfl⟩:=hI.g.matv ⟨3,20,R,R,idf⟩ mm0 (hd 3);go_simp;exact hK _ _ (hI.alias ⟨4,21,⟨3,20,R,R,idf⟩⟩ mm0 ⟨4,21,SlP R⟩ mm3 rfl rfl ⟨o,c,rfl⟩ (hd 3) (by
    refine xgm.2 ⟨fun _=>rfl,xgm.2 ⟨fun e=>absurd e (by dsimp only;omega),xgn _⟩⟩) zt3 rfl)
  ·refine yU.liftX kR dE ?_
   intro L T wS hL hd hcl hI K hK;try refine zA rfl ?_
   have zt:T[3]?=some (.pointer (some ⟨bn,0,none⟩)):=hI.g.keep 3 sI sI;have cc0:=hI.g.cell n1;go_simp;exact hK _ _ (hI.y mm4 rfl (zOL kR))
  ·refine yU.liftX kR dE ?_
   intro L T wS hL hd hcl hI K hK;try refine zA rfl ?_
   obtain⟨_,zt5,rfl⟩:=hI.g.val _ mm4 (hd 5);go_simp;refine(zFR R _ hR).mono ?_;rintro e wa ⟨v,rfl,hv,hba⟩;exact hK _ _ (hI.mat hcl hL ⟨6,23,_,_,_⟩ mm1 rfl hba hv kR)
  ·intro L T wS hL hd hcl hI K hK
   try refine zA rfl ?_
   obtain⟨o,c,zt6⟩:∃o c,T[23]?=some (.agg #[.int .i64 R,.int .i64 R,.slice o R c]):=by
    obtain⟨w0,h0,-,-⟩:=hI;obtain⟨_,zt6,o,c,rfl⟩:=h0.g.matv ⟨6,23,R,R,idf⟩ mm1 (hd 6);exact⟨o,c,zt6⟩
   have h6:=hd 6 kR;go_simp;exact hK _ _ (hI.step (fun w0 h0=>h0.alias ⟨7,24,⟨6,23,R,R,idf⟩⟩ mm1 ⟨7,24,SlP R⟩ mm5 rfl rfl ⟨o,c,rfl⟩ h6 (by
    refine xgm.2 ⟨fun e=>absurd e (by dsimp only;omega),xgm.2 ⟨fun _=>rfl,xgn _⟩⟩) zt6 rfl) dE (fun w=>by rw[zER dE]))
  ·refine yU.liftX kR dE ?_
   intro L T wS hL hd hcl hI K hK;try refine zA rfl ?_
   obtain⟨_,zt0,rfl⟩:=hI.g.val _ mm0 (hd 0);go_simp;exact hK _ _ (hI.y mm6 rfl (zOL kR))
  ·refine yU.liftX kR dE ?_
   intro L T wS hL hd hcl hI K hK;try refine zA rfl ?_
   obtain⟨_,zt8,rfl⟩:=hI.g.val _ mm6 (hd 8);go_simp;exact hK _ _ (hI.y mm7 rfl (zOL kR))
  ·intro L T wS hL hd hcl hJ K hK
   try refine zA rfl ?_
   have hI:=hJ.here hL;obtain⟨_,zt9,rfl⟩:=hI.g.val _ mm7 (hd 9);obtain⟨_,zt4,o,c,rfl⟩:=hI.g.val _ mm3 (hd 4);obtain⟨g1,g2,g3,g4,g5,g6⟩:=(q2.below hI.g.bel).three;go_simp;exact hK _ _ (RXS.store hI hL (zQk kR) (zQc kR) (by show _=World.setCell _ _ _;rw[zH7 zt4]))
 intro T w3 hJ;obtain⟨w0,hX,-,hst⟩:=hJ;replace hst:=hst kR;obtain⟨bot,top,g1,g2⟩:=hX.g.gh;obtain⟨k1,k2,m1,k3,k4⟩:=g1 ⟨3,20,R,R,idf⟩ mm0 rfl;obtain⟨k5,k6,m2,k7,k8⟩:=g1 ⟨6,23,R,R,idf⟩ mm1 rfl;have k9:=g2 ⟨3,20,R,R,idf⟩ mm0 ⟨6,23,R,R,idf⟩ mm1 (by dsimp only;omega) rfl rfl;obtain⟨-,o1,c1,a1,a2⟩:=hX.al ⟨4,21,⟨3,20,R,R,idf⟩⟩ mm0 rfl;obtain⟨-,o2,c2,a3,a4⟩:=hX.al ⟨7,24,⟨6,23,R,R,idf⟩⟩ mm1 rfl;have e21:T.getD 21 undef= .slice o1 R c1:=zH7 a2;replace hst:w3=w0.setCell ⟨bw,1,none⟩ (T.getD 21 undef):=hst;rw[e21]at hst;obtain⟨_,z17,rfl⟩:=hX.g.val _ mm0 rfl;obtain⟨_,z18,rfl⟩:=hX.g.val _ mm1 rfl;obtain⟨_,z19,rfl⟩:=hX.g.val _ mm2 rfl;obtain⟨_,z22,rfl⟩:=hX.g.val _ mm4 rfl;obtain⟨_,z25,rfl⟩:=hX.g.val _ mm6 rfl;obtain⟨_,z26,rfl⟩:=hX.g.val _ mm7 rfl;have hT:=zEC [(17,.pointer (some ⟨bw,0,none⟩)),(18,.pointer (some ⟨bw,0,none⟩)),(19,.int .i64 R),(21,.slice o1 R c1),(22,.int .i64 R),(24,.slice o2 R c2),(25,.pointer (some ⟨bw,0,none⟩)),(26,.pointer (some ⟨bw,1,none⟩)),(20,.agg #[.int .i64 R,.int .i64 R,.slice o1 R c1]),(23,.agg #[.int .i64 R,.int .i64 R,.slice o2 R c2])]
  (fun j hj=>hX.g.keep j (by simp only[xgm]at hj ⊢;simp[hj]) (by simp only[xgm]at hj ⊢;simp[hj]))
  (by simp only[xgm];simp[z17,z18,z19,a2,z22,a4,z25,z26,a1,a3]) hX.g.size
 have hbl:=hX.g.bel;obtain⟨bst,wt,zt⟩:∃bst,Wri w0 (.slice o1 R c1) R R bst idf/\∀b,Zn (.slice o1 R c1) bst b->bot 3<=b/\b<top 3:=by
  obtain⟨o',c',bst,e,q1,q2⟩:=k4;have e1:=k3.symm.trans a1;injection e1 with e1
  rw[e1]at e;injection e with e
  simp only[Array.mk.injEq,List.cons.injEq,Value.slice.injEq,true_and,and_true]at e;obtain⟨rfl,rfl⟩:=e;exact⟨bst,q1,q2⟩
 obtain⟨bsi,wi,zi⟩:∃bsi,Wri w0 (.slice o2 R c2) R R bsi idf/\∀b,Zn (.slice o2 R c2) bsi b->bot 6<=b/\b<top 6:=by
  obtain⟨o',c',bst,e,q1,q2⟩:=k8;have e1:=k7.symm.trans a3;injection e1 with e1
  rw[e1]at e;injection e with e
  simp only[Array.mk.injEq,List.cons.injEq,Value.slice.injEq,true_and,and_true]at e;obtain⟨rfl,rfl⟩:=e;exact⟨bst,q1,q2⟩
 dsimp only at k1 k2 k5 k6 k9;have hWA:=HWS.out.below hbl;have p1:Ap (.slice so R sc) bss (.slice o1 R c1) bst:=yR (a:=0) (b:=W2.heap.size) (fun x hx=>⟨Nat.zero_le _,LWS.out x hx⟩) zt k1;have p2:Ap (.slice so R sc) bss (.slice o2 R c2) bsi:=yR (a:=0) (b:=W2.heap.size) (fun x hx=>⟨Nat.zero_le _,LWS.out x hx⟩) zi k5;have p3:Ap (.slice o1 R c1) bst (.slice o2 R c2) bsi:=yR zt zi k9;have q20:=q2.below hbl;have hB3:=nx hB2 hbl;have br:=br.below hbl;have bx1:=bx1.below hbl;have q5:=q5.below hbl;have q23:Blk w3 bw tHW #[.slice so R sc,.slice o1 R c1,Av]:=by rw[hst];simpa using q20.set_ 1 (.slice o1 R c1)
 have ho3:zM (fun b=>b=bw) w0 w3:=by rw[hst];exact⟨zP (Below.refl _ _) (Nat.zero_le _) _ _,q20.lext dE _ _,fun b _ hb=>zT _ _ _ _ _ hb⟩
 have hB3:Below w.heap.size w w3:=by rw[hst];exact zP hB3 oM _ _
 have wA:=hWA.keepZ ho3 (by rintro b hb rfl;exact hWA.nzb q20 dE dE hb);have wT:=wt.keepZ ho3 (by rintro b hb rfl;exact wt.nzb q20 dE dE hb);have wI:=wi.keepZ ho3 (by rintro b hb rfl;exact wi.nzb q20 dE dE hb);have br:=ho3.blk br oM;have bx1:=ho3.blk bx1 oM;have q5:=ho3.blk q5 hnbw;have hs3:w1.heap.size<=w3.heap.size:=by have:=hbl.size;have:=ho3.bel.size;omega
 have WA:=xgv wA;have WT:=xgv wT;have WI:=xgv wI;have ZT:=xgv (fun b (hb:Zn (.slice o1 R c1) bst b)=>Nat.le_trans k1 (zt b hb).1);have ZI:=xgv (fun b (hb:Zn (.slice o2 R c2) bsi b)=>Nat.le_trans k5 (zi b hb).1);have P1:=xgv p1;have P2:=xgv p2;have P3:=xgv p3;clear hX g1 g2 k1 k2 k3 k4 k5 k6 k7 k8 k9 a1 a2 a3 a4 z17 z18 z19 z22 z25 z26 e21 hWA wt zt wi zi wA wT wI p1 p2 p3 q20 ho3 hst hbl HWS LWS n1 q2 bot top;simp only[List.foldl_cons,List.foldl_nil,xgh,xgi,xgj,ptr]at hT;subst hT;simp only[xgl,xgk];obtain⟨g1,g2,g3,g4,g5,g6⟩:=q23.three;go_upto_region 5 with(fail)
 refine zC ?_;intro W4 hW4;have ho4:zM (fun b=>b=bw) w3 W4:=by rw[hW4.out];exact⟨zP (Below.refl _ _) (Nat.zero_le _) _ _,q23.lext dE _ _,fun b _ hb=>zT _ _ _ _ _ hb⟩
 have hB4:Below w.heap.size w W4:=by rw[hW4.out];exact zP hB3 oM _ _
 have q24:Blk W4 bw tHW #[.slice so R sc,.slice o1 R c1,.slice o2 R c2]:=by rw[hW4.out];simpa using q23.set_ 2 (.slice o2 R c2)
 have wA:=WA.out.keepZ ho4 (by rintro b hb rfl;exact WA.out.nzb q23 dE dE hb);have wT:=WT.out.keepZ ho4 (by rintro b hb rfl;exact WT.out.nzb q23 dE dE hb);have wI:=WI.out.keepZ ho4 (by rintro b hb rfl;exact WI.out.nzb q23 dE dE hb);have br:=ho4.blk br oM;have bx1:=ho4.blk bx1 oM;have q5:=ho4.blk q5 hnbw;have hs4:w1.heap.size<=W4.heap.size:=by have:=ho4.bel.size;omega
 have hband:zDu W4 (.slice so R sc) (.slice o1 R c1) (.slice o2 R c2) R C R bss bst bsi (ent M) idf idf:=⟨wA,wT,wI,P1.out.far,P2.out.far,P3.out.far,P1.out.own,P2.out.own,P3.out.own⟩;obtain⟨Z,hZ⟩:∃Z:Nat->Prop,Z=fun b=>b∈bss∨b∈bst∨b∈bsi:=⟨_,rfl⟩
 have hrun:zAj true Z W4 bw (.slice so R sc) R C R ⟨ent M,idf,idf⟩:=⟨_,_,bss,bst,bsi,q24,hband,fun b hb=>by rw[hZ];exact hb⟩;have hzl:∀b,Z b->b<W4.heap.size:=fun b hb=>by
  rw[hZ]at hb;rcases hb with hb|hb|hb
  ·exact wA.zlt (.inl hb)
  ·exact wT.zlt (.inl hb)
  ·exact wI.zlt (.inl hb)
 have hzt:∀{b:Nat} {T:TypeId} {cs:Array Value},Blk W4 b T cs->T≠tR->T≠tI->¬ Z b:=fun hb h1 h2 hz=>by
  rw[hZ]at hz;rcases hz with hz|hz|hz
  ·exact wA.nzb hb h1 h2 (.inl hz)
  ·exact wT.nzb hb h1 h2 (.inl hz)
  ·exact wI.nzb hb h1 h2 (.inl hz)
 have hgz:∀g,(Value.slice so R sc).ownBlock=some g->¬ Z g:=fun g hg hz=>by
  rw[hZ]at hz;rcases hz with hz|hz|hz
  ·exact wA.rown wA hz hg
  ·exact wT.rown wA hz hg
  ·exact wI.rown wA hz hg
 have hlo:∀b,Zn (.slice so R sc) bss b∨Zn (.slice o1 R c1) bst b∨Zn (.slice o2 R c2) bsi b->b<W4.heap.size:=fun b hb=>by
  rcases hb with hb|hb|hb
  ·exact wA.zlt hb
  ·exact wT.zlt hb
  ·exact wI.zlt hb
 have hzw:∀b,Z b->w.heap.size<=b:=fun b hb=>by
  rw[hZ]at hb;rcases hb with hb|hb|hb
  ·have:=hzs b (.inl hb);omega
  ·have:=ZT.out b (.inl hb);omega
  ·have:=ZI.out b (.inl hb);omega
 have nz5:=hzt q5 dE dE;have nzb:=hzt q24 dE dE;have nzr:=hzt br dE dE;have nz1:=hzt bx1 dE dE;clear hzt hZ g1 g2 g3 g4 g5 g6 hW4 ho4 WA WT WI P1 P2 P3 hband wA wT wI;go_wp2_with fail
 refine(zIJ hB HE.out hrun HJ.out hR hC hR hzl hgz).mono ?_;rintro e w5 ⟨pv,y,Lp,rfl,hO,hz,hJ,hP⟩;obtain⟨hokx,hL⟩:=HE.out.ok R y Lp hJ;obtain⟨po,pcap,rfl,-,-,-⟩:=hP.at_;unfold zAj at hz;rw[if_pos rfl]at hz;obtain⟨Au',Av',bsh,bsu,bsv,r1,r2,r3⟩:=hz;have q25:=hO.blk q24 nzb;obtain⟨rfl,rfl⟩: .slice o1 R c1=Au'/\.slice o2 R c2=Av':=by
  have e1:w5.heap[bw]?=some (.cells #[.slice so R sc,.slice o1 R c1,.slice o2 R c2] tHW (0,0)):=q25;have e2:w5.heap[bw]?=some (.cells #[.slice so R sc,Au',Av'] tHW (0,0)):=r1;rw[e1]at e2;injection e2 with e2
  injection e2 with e2
  simp only[Array.mk.injEq,List.cons.injEq,true_and,and_true]at e2;exact e2
 have hlA:∀b,Zn (.slice so R sc) bsh b->¬ (W4.heap.size<=b):=fun b hb=>by
  rcases hb with hb|hb
  ·have:=hzl b (r3 b (.inl hb));omega
  ·have:=hlo b (.inl (.inr hb));omega
 have hlU:∀b,Zn (.slice o1 R c1) bsu b->¬ (W4.heap.size<=b):=fun b hb=>by
  rcases hb with hb|hb
  ·have:=hzl b (r3 b (.inr (.inl hb)));omega
  ·have:=hlo b (.inr (.inl (.inr hb)));omega
 have hlV:∀b,Zn (.slice o2 R c2) bsv b->¬ (W4.heap.size<=b):=fun b hb=>by
  rcases hb with hb|hb
  ·have:=hzl b (r3 b (.inr (.inr hb)));omega
  ·have:=hlo b (.inr (.inr (.inr hb)));omega
 have hB5:Below w.heap.size w w5:=jH hB4 (hO.mono (Z':=fun k=>w.heap.size<=k) (fun k _ hk=>hzw k hk)) (xgf _) hB4.size;have lbx:=bx1.lt;have lbr:=br.lt;have br:=hO.blk br nzr;have lbn:=q5.lt;have bx1:=hO.blk bx1 nz1;have q5:=hO.blk q5 nz5;have l24:=q24.lt;have l45:=hO.bel.size;have HL:=xgv hL;have HOX:=xgv hokx;have HJY:=xgv hJ;have hlenO:=zIY hL (HEND.out y Lp hJ);have HLT:=xgv (zF1 hL);have HND:=xgv (zDZ hL);have hLl:=hL.len;go_upto_region 6 with(fail)
 refine zC ?_;intro W6 hW6;obtain⟨hB6',T5,hs6⟩:=zN hW6;have hB6:=nx hB5 hB6';have HA:=xgv (r2.s.below hB6');have HU:=xgv (r2.t.below hB6');have HW:=xgv (r2.i.below hB6');have HP:=xgv (hP.below hB6');have q25:=q25.below hB6';have br:=br.below hB6';have bx1:=bx1.below hB6';have q5:=q5.below hB6';obtain⟨g1,g2,g3,g4,g5,g6⟩:=q25.three;have hs56:=hB6'.size;have hnd:=HND.out;clear hW6 hP hL hokx hJ r1 r2 hB6' hlo hzw hrun hzl hgz hnd;go_wp2;go_loopw [36] (fun iv wr=>∃(k:Nat) (v:Value),iv= .int .i64 k/\k<=R/\Blk wr w5.heap.size 107 #[v]/\qM (zA3 wr W4.heap.size v (Lp.map (·.1)++(List.range k).filter fun i=>decide (lead C y.s i<0)))/\Below W4.heap.size W6 wr/\yI W6 wr) (fun iv _=>R-(intOf iv).toNat)
 case atStart=>exact⟨0,_,rfl,by omega,T5,⟨by simpa using HP.out⟩,Below.refl _ _,yI.refl _⟩
 case round=>
  clear T5 HP;obtain⟨k,uv,rfl,hk,T5,HV,hb,hx⟩:=hrel;obtain⟨uo,ucap,rfl,-,-,-⟩:=HV.out.at_;obtain⟨un,hun⟩:∃un,(Lp.map (·.1)++(List.range k).filter fun i=>decide (lead C y.s i<0)).length=un:=⟨_,rfl⟩;rw[hun]at T5 HV;have hoB:=zM.ofB hb hx;have hwr:=HA.out.keepZ hoB hlA;have hsz:=hb.size;by_cases hlt:k<R
  ·obtain⟨g,bi,eg,lg,hbi,-,o1',-⟩:=zJ.at_ hwr (i:=k) (by rw[hwr.len];exact hlt)
   subst eg;have hrow:=hwr.rowAt hlt hbi;have hVec:=hrow.vec (zE _ _) (xgf _) oM;clear hwr;go_wp2_with fail
   refine(zBs _ _ _ hVec).mono ?_;rintro e w7 ⟨rfl,hb7⟩;rw[zFr];obtain⟨c0,hc0⟩:∃c0,lead C y.s k=c0:=⟨_,rfl⟩;rw[hc0];have T7:=T5.below hb7;have HV7:=xgv (HV.out.below hb7);have hbn7:Below W4.heap.size W6 w7:=hb.trans (hb7.mono oM);have hxn7:=hx.trans (lx hb7);have hs7:=hb7.size;by_cases hneg:c0<0
   ·have hst:(List.range (k+1)).filter (fun i=>decide (lead C y.s i<0))=(List.range k).filter (fun i=>decide (lead C y.s i<0))++ [k]:=by rw[zIZ,if_pos (by rw[hc0];exact hneg)]
    have HST:=xgv hst;obtain⟨t1,t2⟩:w7.cell? ⟨w5.heap.size,0,none⟩=some (.slice uo un ucap)/\w7.frozen? ⟨w5.heap.size,0,none⟩=false:=⟨T7.cell 0,T7.frozen 0⟩;have hys:∀w':World,yZ (w'.alloc (.cells #[.int .i64 k] tNn)) (some ⟨w'.heap.size,0,none⟩) [k]:=fun w'=>⟨by simp;omega,fun _=>⟨_,0,_,rfl,heap_alloc_new w' _,fun k x hk=>by
     match k with
     |0=>simp at hk;subst hk;rfl
     |k+1=>simp at hk⟩⟩
    have hfl:((List.range k).filter fun i=>decide (lead C y.s i<0)).length<=k:=by
     have:=List.length_filter_le (fun i=>decide (lead C y.s i<0)) (List.range k);simpa using this
    have l7:=T7.lt;clear hc0 hst hVec hrow o1';go_wp2_with (at_builtin;refine zP9 rfl _ _ rfl W4.heap.size (.slice uo un ucap) _ rfl (HV7.out.alloc _) (some ⟨w7.heap.size,0,none⟩) 1 1 [k] rfl (hys w7) rfl (by simp only[List.length_append,List.length_map];omega) (by simp;omega) ?_;intro v' w' hown hgr;obtain⟨vo,vn,vcap,rfl⟩:∃a b c,v'= .slice a b c:=(by obtain⟨p,q,r,-,-,-⟩:=hown.at_;exact⟨_,_,_,r⟩);have T8:Blk w' w5.heap.size 107 #[.slice uo un ucap]:=(hgr.block _ (T7.alloc _).lt (fun e=>HV7.out.ne T7 dE e.symm)).trans (T7.alloc _);obtain⟨t3,t4⟩:w'.cell? ⟨w5.heap.size,0,none⟩=some (.slice uo un ucap)/\w'.frozen? ⟨w5.heap.size,0,none⟩=false:=⟨T8.cell 0,T8.frozen 0⟩)
    have hgr:World.grownBy (w7.alloc (.cells #[.int .i64 k] tNn)) w' (Value.ownBlock (.slice uo un ucap)):=hgr;have T8:Blk w' w5.heap.size 107 #[.slice uo un ucap]:=T8;have hx8:yI w7 w':=(lx ((Below.refl _ _).alloc (xgf _) _)).trans (zAm (HV7.out.alloc _).2 dE hgr);have hb8:Below W4.heap.size W6 w':=(hbn7.alloc oM _).grown hgr (by simp;omega) (fun g hg=>(HV7.out.own g hg).1);go_roundw
    case rel=>
     refine⟨k+1,_,by simp,by omega,by simpa using T8.set_ 0 _,⟨?_⟩,zP hb8 oM _ _,(hxn7.trans hx8).trans (T8.lext dE _ _)⟩;rw[HST.out,<-List.append_assoc];exact hown.far T8 dE 0 _
    case measure=>simp[intOf];omega
   ·have hst:(List.range (k+1)).filter (fun i=>decide (lead C y.s i<0))=(List.range k).filter (fun i=>decide (lead C y.s i<0)):=by rw[zIZ,if_neg (by rw[hc0];exact hneg),List.append_nil]
    have HST:=xgv hst;clear hc0 hst hVec hrow o1';go_wp2;go_roundw
    case rel=>exact⟨k+1,_,by simp,by omega,T7,⟨by rw[HST.out];exact HV7.out⟩,hbn7,hxn7⟩
    case measure=>simp[intOf];omega
  ·obtain rfl:R=k:=by omega
   have hos:zGG R C y.s Lp=Lp.map (·.1)++(List.range R).filter fun i=>decide (lead C y.s i<0):=rfl
   rw[<-hos]at HV hun;obtain⟨os,hose⟩:∃os,zGG R C y.s Lp=os:=⟨_,rfl⟩;rw[hose]at HV hun HLT HND hlenO;have HOSE:=xgv hose;have HWR:=xgv hwr;have HUR:=xgv (HU.out.keepZ hoB hlU);have HVR:=xgv (HW.out.keepZ hoB hlV);have q25:=q25.belowB hb l24;have q5:=q5.belowB hb lbn;have bx1:=bx1.belowB hb lbx;have br:=br.belowB hb lbr;have hBr:Below w.heap.size w wr:=jH hB6 ((zM.ofB hb hx).mono (Z':=fun k=>w.heap.size<=k) (fun k _ hk=>by omega)) (xgf _) hB6.size;have n1:=q5.cell 0;obtain⟨k1,k2,k3,-,-,-⟩:=bx1.three;have hl1:=zBc R C (os.map fun i=>zQ C (y.s i));have hl2:=zBc R R (os.map fun i=>zQ R (y.t i));have hl3:=zBc R R (os.map fun i=>zQ R (y.i i));have hl4:=zBc R R (genM R R fun a b=>y.i (os.getD b 0) a);have hl5:=zGo R C (os.map fun i=>zQ C (y.s i)) (os.map fun i=>zQ R (y.t i)) (genM R R fun a b=>y.i (os.getD b 0) a);obtain⟨g1,g2,g3,-,-,-⟩:=q25.three;clear hos hose hwr hoB hlA hlU hlV HA HU HW hb hx g4 g5 g6;go_upto_region 13 with(fail)
   refine zB 24 rfl (RV wr _ [E 0 50 (.func (.func 87) #[] #[.pointer (some ⟨bn,0,none⟩),.pointer (some ⟨w5.heap.size,0,none⟩)]),VP 1 51 bw 0,VP 2 52 bw 0,VP 3 53 bw 0,E 4 54 (.slice so R sc),VP 5 55 w.heap.size 1,VN 6 56 C,⟨7,57,zMs R C (os.map fun i=>zQ C (y.s i))⟩,E 8 58 (.func (.func 87) #[] #[.pointer (some ⟨bn,0,none⟩),.pointer (some ⟨w5.heap.size,0,none⟩)]),VP 9 59 bw 0,VP 10 60 bw 0,VP 11 61 bw 1,E 12 62 (.slice o1 R c1),VN 13 63 R,⟨14,64,zMs R R (os.map fun i=>zQ R (y.t i))⟩,E 15 65 (.func (.func 87) #[] #[.pointer (some ⟨bn,0,none⟩),.pointer (some ⟨w5.heap.size,0,none⟩)]),VP 16 66 bw 0,VP 17 67 bw 0,VP 18 68 bw 2,E 19 69 (.slice o2 R c2),VN 20 70 R,⟨21,71,zMs R R (os.map fun i=>zQ R (y.i i))⟩,⟨22,72,zMs R R (genM R R fun a b=>y.i (os.getD b 0) a)⟩,⟨23,73,zNI R C (os.map fun i=>zQ C (y.s i)) (os.map fun i=>zQ R (y.t i)) (genM R R fun a b=>y.i (os.getD b 0) a)⟩]) kR RV.start (RV.fin kR ?fin2) ?steps2
   case steps2=>
    refine⟨?_,?_,?_,?_,?_,?_,?_,?_,?_,?_,?_,?_,?_,?_,?_,?_,?_,?_,?_,?_,?_,?_,?_,?_,trivial⟩<;>(intro L T wS hL hd hcl hI K hK;try refine zA rfl ?_)
    ·exact xgs (hI.k 8 rfl kR)
    ·exact xgs (hI.k 4 rfl kR)
    ·exact xgs (hI.e mm1 (hd 1))
    ·exact xgs (hI.e mm2 (hd 2))
    ·have zt3:=hI.e mm3 (hd 3)
     have cc0:=hI.cell g1;exact xgu
    ·exact xgs (hI.k 1 rfl kR)
    ·have zt5:=hI.e mm5 (hd 5)
     have cc0:=hI.cell k2;exact xgu
    ·have zt0:=hI.e mm0 (hd 0)
     have zt4:=hI.e mm4 (hd 4);have zt6:=hI.e mm6 (hd 6);go_simp;refine(zCl _ _ R C bn _ _ bsh _ _ _ (HWR.out.below hI.bel) (q5.below hI.bel) (T5.below hI.bel) (HV.out.below hI.bel) HLT.out HND.out hR hC hlenO).mono ?_;rintro e wa ⟨v,rfl,hv,hba⟩;exact hK _ _ ((hI.world hba).y mm7 hv)
    ·exact xgs (hI.k 8 rfl kR)
    ·exact xgs (hI.k 4 rfl kR)
    ·exact xgs (hI.e mm9 (hd 9))
    ·exact xgs (hI.e yD (hd 10))
    ·have zt11:=hI.e zAB (hd 11)
     have cc0:=hI.cell g2;exact xgu
    ·have zt:=hI.k 3 rfl kR
     have cc0:=hI.cell n1;exact xgu
    ·have zt8:=hI.e mm8 (hd 8)
     have zt12:=hI.e zAh (hd 12);have zt13:=hI.e zBv (hd 13);go_simp;refine(zCl _ _ R R bn _ _ bsu _ _ _ (HUR.out.below hI.bel) (q5.below hI.bel) (T5.below hI.bel) (HV.out.below hI.bel) HLT.out HND.out hR hR hlenO).mono ?_;rintro e wa ⟨v,rfl,hv,hba⟩;exact hK _ _ ((hI.world hba).y zBF hv)
    ·exact xgs (hI.k 8 rfl kR)
    ·exact xgs (hI.k 4 rfl kR)
    ·exact xgs (hI.e zCf (hd 16))
    ·exact xgs (hI.e zCg (hd 17))
    ·have zt18:=hI.e zCh (hd 18)
     have cc0:=hI.cell g3;exact xgu
    ·have zt:=hI.k 3 rfl kR
     have cc0:=hI.cell n1;exact xgu
    ·have zt15:=hI.e zCN (hd 15)
     have zt19:=hI.e zDW (hd 19);have zt20:=hI.e zD6 (hd 20);go_simp;refine(zCl _ _ R R bn _ _ bsv _ _ _ (HVR.out.below hI.bel) (q5.below hI.bel) (T5.below hI.bel) (HV.out.below hI.bel) HLT.out HND.out hR hR hlenO).mono ?_;rintro e wa ⟨v,rfl,hv,hba⟩;exact hK _ _ ((hI.world hba).y zEf hv)
    ·obtain⟨v21,zt21,h21⟩:=hI.v zEf (hd 21)
     go_simp;refine(zJd hB.bsm h21 hlenO HLT.out HOX.out.2.2 hR).mono ?_;rintro e wa ⟨v,rfl,hv,hba⟩;exact hK _ _ ((hI.world hba).y zEg hv)
    ·obtain⟨_,zt7,xo,xc,rfl,h7⟩:=hI.v mm7 (hd 7)
     obtain⟨_,zt14,yo,yc,rfl,h14⟩:=hI.v zBF (hd 14);obtain⟨_,zt22,zo,zc,rfl,h22⟩:=hI.v zEg (hd 22);go_simp;exact hK _ _ (hI.y zEh ⟨xo,xc,yo,yc,zo,zc,rfl,h7,h14,h22⟩)
   intro w9 hbw9 T hT;simp only[Fin,E,EI,VP,VSl,VN,xgg,xgh,xgi,xgj]at hT;obtain⟨vd7,hd7,vd14,hd14,vd21,hd21,vd22,hd22,vd23,hd23,rfl⟩:=hT;simp only[xgl,xgk];obtain⟨xo,xc,yo,yc,zo,zc,rfl,h7,h14,h22⟩:zNI R C (os.map fun i=>zQ C (y.s i)) (os.map fun i=>zQ R (y.t i)) (genM R R fun a b=>y.i (os.getD b 0) a) w9 vd23:=hd23;have br:=br.below hbw9;have hB9:=nx hBr hbw9;have H7:=xgv h7;have H14:=xgv h14;have H22:=xgv h22;obtain⟨⟨r0,r1,r2,r3,r4,r5,r6,r7,r8⟩,⟨f0,f1,f2,f3,f4,f5,f6,f7,f8⟩⟩:=br.all9;clear h7 h14 h22 hd7 hd14 hd21 hd22 g1 g2 g3 n1 k1 k2 k3;go_wp2;have hxr:=br.lext9 dE (.int .i64 R) (.int .i64 C) (.slice xo R xc) (.int .i64 R) (.int .i64 R) (.slice yo R yc) (.int .i64 R) (.int .i64 R) (.slice zo R zc);have offr:∀{v:Value} {M:List (List Int)},qX w9 v M->qX _ v M:=fun h=>h.off br dE dE (fun b hb=>zDE w9 (w.heap.size+1) b _ _ _ _ _ _ _ _ _ hb) hxr
   refine bodyPost_ret (results_cell_row rfl _ _ (w.heap.size+1) _ _ _ _ rfl (br.put9 _ _ _ _ _ _ _ _ _) Tryz.underlying62 rfl (by rw[Tryz.sizeHe];rfl)) rfl ⟨_,y,Lp,rfl,HJY.out,by rw[HOSE.out];exact hlenO,by rw[HOSE.out];exact⟨_,_,_,rfl,offr H7.out,offr H14.out,offr H22.out⟩,zGP hB9 oM _ _ _ _ _ _ _ _ _⟩
end Go.Proofs.YtgnmdddaiefooaaGreat
