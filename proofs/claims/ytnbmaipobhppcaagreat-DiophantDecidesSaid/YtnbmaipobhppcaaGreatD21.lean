/- Blocks of 9 cells (printed by genB9.py). hermite.Form. The Hermite normal form is unique. Plain Lean. Hermite normal forms: how large, square ones, and what determinants tell. Plain Lean. -/
import Derived.Test.YtnbmaipobhppcaaGreatD08
import Derived.Test.YtnbmaipobhppcaaGreatD13
import Derived.Test.YtnbmaipobhppcaaGreatD20
set_option linter.unusedVariables false
set_option linter.unusedSimpArgs false
set_option linter.unusedSectionVars false
set_option maxHeartbeats 16000000
set_option maxRecDepth 100000
namespace Go.Proofs.YtnbmaipobhppcaaGreat
open Go.RowKit
theorem Blk.all9{w:World}{g:Nat}{t:TypeId}{c0 c1 c2 c3 c4 c5 c6 c7 c8:Value}(h:Blk w g t #[c0,c1,c2,c3,c4,c5,c6,c7,c8]):
  (w.cell? ⟨g,0,none⟩=some c0/\w.cell? ⟨g,1,none⟩=some c1/\w.cell? ⟨g,2,none⟩=some c2/\w.cell? ⟨g,3,none⟩=some c3/\w.cell? ⟨g,4,none⟩=some c4/\w.cell? ⟨g,5,none⟩=some c5/\w.cell? ⟨g,6,none⟩=some c6/\w.cell? ⟨g,7,none⟩=some c7/\w.cell? ⟨g,8,none⟩=some c8)/\(w.frozen? ⟨g,0,none⟩=false/\w.frozen? ⟨g,1,none⟩=false/\w.frozen? ⟨g,2,none⟩=false/\w.frozen? ⟨g,3,none⟩=false/\w.frozen? ⟨g,4,none⟩=false/\w.frozen? ⟨g,5,none⟩=false/\w.frozen? ⟨g,6,none⟩=false/\w.frozen? ⟨g,7,none⟩=false/\w.frozen? ⟨g,8,none⟩=false):=
 ⟨⟨h.cell 0,h.cell 1,h.cell 2,h.cell 3,h.cell 4,h.cell 5,h.cell 6,h.cell 7,h.cell 8⟩,⟨h.frozen 0,h.frozen 1,h.frozen 2,h.frozen 3,h.frozen 4,h.frozen 5,h.frozen 6,h.frozen 7,h.frozen 8⟩⟩
theorem Blk.put9{w:World}{g:Nat}{t:TypeId}{c0 c1 c2 c3 c4 c5 c6 c7 c8:Value}(h:Blk w g t #[c0,c1,c2,c3,c4,c5,c6,c7,c8])(x0 x1 x2 x3 x4 x5 x6 x7 x8:Value):Blk (((((((((w.setCell ⟨g,0,none⟩ x0).setCell ⟨g,1,none⟩ x1).setCell ⟨g,2,none⟩ x2).setCell ⟨g,3,none⟩ x3).setCell ⟨g,4,none⟩ x4).setCell ⟨g,5,none⟩ x5).setCell ⟨g,6,none⟩ x6).setCell ⟨g,7,none⟩ x7).setCell ⟨g,8,none⟩ x8) g t #[x0,x1,x2,x3,x4,x5,x6,x7,x8]:=by
 simpa using(((((((((h.set_ 0 x0).set_ 1 x1).set_ 2 x2).set_ 3 x3).set_ 4 x4).set_ 5 x5).set_ 6 x6).set_ 7 x7).set_ 8 x8)
theorem Blk.lext9{w:World}{g:Nat}{t:TypeId}{cs:Array Value}(h:Blk w g t cs)(hne:t≠tU)(x0 x1 x2 x3 x4 x5 x6 x7 x8:Value):yO w (((((((((w.setCell ⟨g,0,none⟩ x0).setCell ⟨g,1,none⟩ x1).setCell ⟨g,2,none⟩ x2).setCell ⟨g,3,none⟩ x3).setCell ⟨g,4,none⟩ x4).setCell ⟨g,5,none⟩ x5).setCell ⟨g,6,none⟩ x6).setCell ⟨g,7,none⟩ x7).setCell ⟨g,8,none⟩ x8):=
 (((((((((h.lext hne 0 x0).trans ((h.set_ 0 x0).lext hne 1 x1)).trans (((h.set_ 0 x0).set_ 1 x1).lext hne 2 x2)).trans ((((h.set_ 0 x0).set_ 1 x1).set_ 2 x2).lext hne 3 x3)).trans (((((h.set_ 0 x0).set_ 1 x1).set_ 2 x2).set_ 3 x3).lext hne 4 x4)).trans ((((((h.set_ 0 x0).set_ 1 x1).set_ 2 x2).set_ 3 x3).set_ 4 x4).lext hne 5 x5)).trans (((((((h.set_ 0 x0).set_ 1 x1).set_ 2 x2).set_ 3 x3).set_ 4 x4).set_ 5 x5).lext hne 6 x6)).trans ((((((((h.set_ 0 x0).set_ 1 x1).set_ 2 x2).set_ 3 x3).set_ 4 x4).set_ 5 x5).set_ 6 x6).lext hne 7 x7)).trans (((((((((h.set_ 0 x0).set_ 1 x1).set_ 2 x2).set_ 3 x3).set_ 4 x4).set_ 5 x5).set_ 6 x6).set_ 7 x7).lext hne 8 x8))
theorem zM7(w:World)(g k:Nat)(x0 x1 x2 x3 x4 x5 x6 x7 x8:Value)(hk:k≠g):((((((((((w.setCell ⟨g,0,none⟩ x0).setCell ⟨g,1,none⟩ x1).setCell ⟨g,2,none⟩ x2).setCell ⟨g,3,none⟩ x3).setCell ⟨g,4,none⟩ x4).setCell ⟨g,5,none⟩ x5).setCell ⟨g,6,none⟩ x6).setCell ⟨g,7,none⟩ x7).setCell ⟨g,8,none⟩ x8)).heap[k]?=w.heap[k]?:=
 ((zV _ g 8 k x8 hk).trans ((zV _ g 7 k x7 hk).trans ((zV _ g 6 k x6 hk).trans ((zV _ g 5 k x5 hk).trans ((zV _ g 4 k x4 hk).trans ((zV _ g 3 k x3 hk).trans ((zV _ g 2 k x2 hk).trans ((zV _ g 1 k x1 hk).trans (zV _ g 0 k x0 hk)))))))))
theorem zO4{B:Nat}{a w:World}{g:Nat}(h:Below B a w)(hp:B<=g)(x0 x1 x2 x3 x4 x5 x6 x7 x8:Value):Below B a (((((((((w.setCell ⟨g,0,none⟩ x0).setCell ⟨g,1,none⟩ x1).setCell ⟨g,2,none⟩ x2).setCell ⟨g,3,none⟩ x3).setCell ⟨g,4,none⟩ x4).setCell ⟨g,5,none⟩ x5).setCell ⟨g,6,none⟩ x6).setCell ⟨g,7,none⟩ x7).setCell ⟨g,8,none⟩ x8):=
 (zT (zT (zT (zT (zT (zT (zT (zT (zT h hp 0 x0) hp 1 x1) hp 2 x2) hp 3 x3) hp 4 x4) hp 5 x5) hp 6 x6) hp 7 x7) hp 8 x8)
def zPq(t:TypeId)(n0:Nat)(cs:Array Value):World->Value->Prop:=fun w v=>∃b,v= .pointer (some ⟨b,0,none⟩)/\n0<=b/\Blk w b t cs
theorem zHh(t:TypeId)(n0:Nat)(cs:Array Value):qS (zPq t n0 cs):=fun _ _ _ e ⟨b,h1,h2,h3⟩=>⟨b,h1,h2,h3.below e⟩
abbrev tHe:TypeId:=132
def SlP(R:Nat):World->Value->Prop:=fun _ v=>∃o c,v= .slice o R c
theorem zJF(R:Nat):qS (SlP R):=fun _ _ _ _ h=>h
theorem Blk.neT{w:World}{a b:Nat}{T T':TypeId}{cs cs':Array Value}(h:Blk w a T cs)(k:Blk w b T' cs')(hT:T≠T'):a≠b:=by
 intro e;subst e;have h':w.heap[a]?=some (.cells cs T (0,0)):=h;have k':w.heap[a]?=some (.cells cs' T' (0,0)):=k;rw[h']at k';injection k' with q1
 injection q1 with _ ht
 exact hT ht
theorem zOm{al_:List AS}{k:Nat}(h:(al_.all fun a=>!(a.op==k))=true):∀a∈al_,a.op≠k:=fun a ha e=>by
 have:=List.all_eq_true.1 h a ha;simp[e]at this
theorem Wri.nzb{w:World}{A:Value}{R C:Nat}{bs:List Nat}{F:Nat->Nat->Int}(h:Wri w A R C bs F){wb:Nat}{T:TypeId}{cs:Array Value}(hw:Blk w wb T cs)(h1:T≠tR)(h2:T≠tI):¬ Zn A bs wb:=by
 intro hh;have hw':w.heap[wb]?=some (.cells cs T (0,0)):=hw;rcases hh with hb|hb
 ·obtain⟨r,cs',q1,-⟩:=h.blk hb
  rw[hw']at q1;injection q1 with q1
  injection q1 with _ ht
  exact h2 ht
 ·rcases(zS.own h).2 with⟨rfl,-⟩|⟨g,cap,cur,rfl,-,hh,-⟩
  ·cases hb
  ·simp only[Value.ownBlock,Option.some.injEq]at hb
   subst hb;rw[hw']at hh;injection hh with q1
   injection q1 with _ ht
   exact h1 ht
theorem zBm:∀(l m:List Nat),l.Nodup->(∀x∈l,x∈m)->l.length<=m.length
 | [],m,_,_=>Nat.zero_le _
 |a::l,m,h,hs=>by
  have ha:=hs a (List.mem_cons_self ..);obtain⟨h1,h2⟩:=List.nodup_cons.1 h;have ih:=zBm l (m.erase a) h2 (fun x hx=>(List.mem_erase_of_ne (fun e=>by subst e;exact h1 hx)).2 (hs x (List.mem_cons_of_mem _ hx)));rw[List.length_erase_of_mem ha]at ih;have:=List.length_pos_of_mem ha;simp only[List.length_cons];omega
def zGJ(n C:Nat)(F:Nat->Nat->Int)(L:List (Nat × Nat)):List Nat:=L.map (·.1)++(List.range n).filter fun i=>decide (lead C F i<0)
theorem zJO{n C m:Nat}{x:Bst}{L:List (Nat × Nat)}(h:LOk n C m x L):(L.map (·.1)).Nodup:=by
 rw[List.nodup_iff_pairwise_ne,List.pairwise_iff_getElem];intro i j hi hj hij;simp only[List.length_map]at hi hj;have:=h.inj i j hij hj;rw[xgb,xgb,xga hi,xga hj]at this;simpa using this
theorem zMh{L:List (Nat × Nat)}{a:Nat}(h:a∈L.map (·.1)):∃k,k<L.length/\(L.getD k (0,0)).1=a:=by
 obtain⟨p,hp,rfl⟩:=List.mem_map.1 h;obtain⟨k,hk,e⟩:=List.getElem_of_mem hp;exact⟨k,hk,by rw[xgb,xga hk,e];rfl⟩
theorem zG3{n C m:Nat}{x:Bst}{L:List (Nat × Nat)}(h:LOk n C m x L){a:Nat}(ha:a∈L.map (·.1)):a<n/\¬ lead C x.s a<0:=by
 obtain⟨k,hk,rfl⟩:=zMh ha;obtain⟨-,h2,h3,h4⟩:=h.mem k hk;exact⟨h2,fun hl=>h4 (zF0 hl _ h3)⟩
theorem zF7{n C m:Nat}{x:Bst}{L:List (Nat × Nat)}(h:LOk n C m x L):∀a∈zGJ n C x.s L,a<n:=by
 intro a ha;rcases List.mem_append.1 ha with ha|ha
 ·exact(zG3 h ha).1
 ·simp only[List.mem_filter,List.mem_range]at ha
  exact ha.1
theorem zDb{n C m:Nat}{x:Bst}{L:List (Nat × Nat)}(h:LOk n C m x L):(zGJ n C x.s L).Nodup:=by
 unfold zGJ;rw[List.nodup_append];refine⟨zJO h,List.Nodup.sublist List.filter_sublist List.nodup_range,fun a ha b hb e=>?_⟩;subst e;simp only[List.mem_filter,decide_eq_true_eq]at hb;exact(zG3 h ha).2 hb.2
theorem zMq{n C m:Nat}{x:Bst}{L:List (Nat × Nat)}(h:LOk n C m x L)(hz:∀a,a<n->(∀k,k<L.length->(L.getD k (0,0)).1≠a)->lead C x.s a<0):(zGJ n C x.s L).length=n:=by
 have h1:=zBm _ (List.range n) (zDb h) (fun a ha=>List.mem_range.2 (zF7 h a ha));have h2:=zBm (List.range n) (zGJ n C x.s L) List.nodup_range (fun a ha=>by
  have ha:=List.mem_range.1 ha;by_cases hm:a∈L.map (·.1)
  ·exact List.mem_append.2 (.inl hm)
  ·refine List.mem_append.2 (.inr ?_)
   simp only[List.mem_filter,List.mem_range,decide_eq_true_eq];refine⟨ha,hz a ha fun k hk e=>hm ?_⟩;rw[<-e,xgb,xga hk];exact List.mem_map.2 ⟨_,List.getElem_mem hk,rfl⟩)
 simp only[List.length_range]at h1 h2;omega
theorem StP.mono{lo lo' R C:Nat}{F:Nat->Nat->Int}{w:World}{v:Value}(h:StP lo R C F w v)(hl:lo'<=lo):StP lo' R C F w v:=by
 obtain⟨g,a,b,c,h1,h0,h5,⟨bs,h2,h2'⟩,h3,h4⟩:=h;exact⟨g,a,b,c,h1,Nat.le_trans hl h0,h5,⟨bs,h2,fun b hb=>Nat.le_trans hl (h2' b hb)⟩,h3,h4⟩
theorem zEU{T:Array Value}{i j:Nat}{v d:Value}(h:i≠j):(T.setIfInBounds i v).getD j d=T.getD j d:=by
 rw[Array.getD_eq_getD_getElem?,Array.getD_eq_getD_getElem?,xgc h]
theorem zII{T:Array Value}{i:Nat}{v d:Value}(h:T[i]?=some v):T.getD i d=v:=by
 rw[Array.getD_eq_getD_getElem?,h];rfl
theorem zQ3{vs:List VS}{k:Nat}(h:(vs.all fun a=>!(a.op==k))=true):∀a∈vs,a.op≠k:=fun a ha e=>by
 have:=List.all_eq_true.1 h a ha;simp[e]at this
theorem zQu{vs:List MS}{k:Nat}(h:(vs.all fun a=>!(a.op==k))=true):∀a∈vs,a.op≠k:=fun a ha e=>by
 have:=List.all_eq_true.1 h a ha;simp[e]at this
theorem zY.ofB{B:Nat}{w w':World}(h:Below B w w')(hx:yO w w'):zY (fun b=>B<=b) w w':=⟨h.mono (Nat.zero_le _),hx,fun k _ hn=>h.block k (Nat.lt_of_not_le hn)⟩
theorem zBe.type{w:World}{base:Nat}{v:Value}{xs:List Nat}(h:zBe w base v xs):∀g,v.ownBlock=some g->∃cs,Blk w g tNn cs:=by
 intro g hg;rcases h.2.2 with⟨rfl,-⟩|⟨g',cap,cur,rfl,-,hh,-⟩
 ·cases hg
 ·simp only[Value.ownBlock,Option.some.injEq]at hg
  subst hg;exact⟨_,hh⟩
theorem zBe.ne{w:World}{base:Nat}{v:Value}{xs:List Nat}(h:zBe w base v xs){b:Nat}{T:TypeId}{cs:Array Value}(hb:Blk w b T cs)(hT:T≠tNn):v.ownBlock≠some b:=by
 intro e;obtain⟨cs',h2⟩:=h.type b e;exact Blk.neT hb h2 hT rfl
theorem zBe.far{w:World}{base:Nat}{v:Value}{xs:List Nat}(h:zBe w base v xs){b:Nat}{T:TypeId}{cs:Array Value}(hb:Blk w b T cs)(hT:T≠tNn)(i:Nat)(u:Value):zBe (w.setCell ⟨b,i,none⟩ u) base v xs:=by
 obtain⟨h1,h2,h3⟩:=id h;refine⟨h1,h2,?_⟩;rcases h3 with h3|⟨g,cap,cur,rfl,k1,k2,k3⟩
 ·exact .inl h3
 ·exact .inr ⟨g,cap,cur,rfl,k1,(zV _ _ _ _ _ (fun e=>h.ne hb hT (by simp[Value.ownBlock,e]))).trans k2,k3⟩
def zNR(R C:Nat)(M:List (List Int)):World->Value->Prop:=fun w v=>∃o c,v= .agg #[.int .i64 R,.int .i64 C,.slice o R c]/\jB w (.slice o R c) M
theorem zBk(R C:Nat)(M:List (List Int)):qS (zNR R C M):=fun _ _ _ x ⟨o,c,h1,h2⟩=>⟨o,c,h1,h2.below x⟩
theorem jB.slice{w:World}{v:Value}{M:List (List Int)}(h:jB w v M):∃o c,v= .slice o M.length c:=by
 obtain⟨ao,n,cap,e1,e2,-⟩:=h;exact⟨ao,cap,by rw[e1,e2]⟩
theorem zCl(Ah ov:Value)(n Cs nb ob base:Nat)(bss os:List Nat)(F:Nat->Nat->Int)(w:World)(hw:Wri w Ah n Cs bss F)(hnb:Blk w nb 3 #[.int .i64 n])(hob:Blk w ob 52 #[ov])(hov:zBe w base ov os)
  (hos:∀x∈os,x<n) (hnd:os.Nodup) (hn:n<=1000000) (hCs:Cs<=1000000) (hlen:os.length=n):
  Calls Tryz.prog 154 #[Ah,.int .i64 Cs,.pointer (some ⟨nb,0,none⟩),.pointer (some ⟨ob,0,none⟩)] w fun e w'=>∃v,e= .returned v/\zNR n Cs (os.map fun i=>zM Cs (F i)) w' v/\Below w.heap.size w w':=by
 refine(zHr Ah ov n Cs nb ob base bss os F w hw hnb hob hov hos hnd hn hCs oM).mono ?_;rintro e w' ⟨v,bs',rfl,h1,-,h3⟩;have h2:=zS.rows h1.rows0;obtain⟨o,c,rfl⟩:=jB.slice h2;have hl:(os.map fun i=>zM Cs (F i)).length=n:=by simp[hlen]
 rw[hl]at h2 ⊢
 exact⟨_,rfl,⟨o,c,rfl,h2⟩,h3⟩
structure zHO(w:World)(f:Value)(R C:Nat)(H U V:List (List Int)):Prop where
 ex:∃h u v,f= .agg #[.int .i64 R,.int .i64 C,h,.int .i64 R,.int .i64 R,u,.int .i64 R,.int .i64 R,v]/\jB w h H/\jB w u U/\jB w v V
def zNh(R C:Nat)(H U V:List (List Int)):World->Value->Prop:=fun w f=>∃ho hc uo uc vo vc,f= .agg #[.int .i64 R,.int .i64 C,.slice ho R hc,.int .i64 R,.int .i64 R,.slice uo R uc,.int .i64 R,.int .i64 R,.slice vo R vc]/\jB w (.slice ho R hc) H/\jB w (.slice uo R uc) U/\jB w (.slice vo R vc) V
theorem zGl(R C:Nat)(H U V:List (List Int)):qS (zNh R C H U V):=fun _ _ _ x ⟨a,b,c,d,e,f,h1,h2,h3,h4⟩=>⟨a,b,c,d,e,f,h1,h2.below x,h3.below x,h4.below x⟩
theorem Tryz.sizeHe:(Tryz.prog.info? tHe).map (·.size)=some 9:=by kernel_rfl
theorem zN0{os:List Nat}{C:Nat}{F:Nat->Nat->Int}{a b:Nat}(ha:a<os.length)(hb:b<C):ent (os.map fun i=>zM C (F i)) a b=F (os.getD a 0) b:=by
 have h1:(os.map fun i=>zM C (F i))[a]?=some (zM C (F (os.getD a 0))):=by
  rw[List.getElem?_map,xga ha,Option.map_some,xgb,xga ha];rfl
 exact zAU h1 (zO hb)
theorem zMD{os:List Nat}{C n:Nat}{F:Nat->Nat->Int}(h:os.length=n):jK n C (os.map fun i=>zM C (F i)):=by
 refine⟨by simp[h],fun r hr=>?_⟩;obtain⟨i,-,rfl⟩:=List.mem_map.1 hr;exact zD _ _
theorem zJj{w:World}{v:Value}{n B:Nat}{os:List Nat}{F:Nat->Nat->Int}(hB:BSm B)(h:zNR n n (os.map fun i=>zM n (F i)) w v)(hl:os.length=n)(ho:∀x∈os,x<n)(hok:okF B n n F)(hn:n<=1000000):
  Calls Tryz.prog 155 #[v] w fun e w'=>∃v,e= .returned v/\zNR n n (zX n n fun a b=>F (os.getD b 0) a) w' v/\Below w.heap.size w w':=by
 obtain⟨o,c,rfl,hr⟩:=h;refine(zCU _ n n _ w ⟨_,rfl,hr⟩ (zMD hl) hn hn ?_).mono ?_
 ·intro r hr z hz
  obtain⟨i,hi,rfl⟩:=List.mem_map.1 hr;obtain⟨j,hj,e⟩:=List.getElem_of_mem hz;rw[zD]at hj;have e2:=zO (f:=F i) hj;rw[xga (by rw[zD];exact hj),e]at e2;injection e2 with e2
  rw[e2];exact hB.sm _ (hok i (ho i hi) j hj)
 ·intro e w' hr
  have hq:zX n n (fun a b=>ent (os.map fun i=>zM n (F i)) b a)=zX n n (fun a b=>F (os.getD b 0) a):=qK fun i hi j hj=>zN0 oM hi
  rw[hq]at hr;obtain⟨v,rfl,⟨o,c,bs,h1,h2,h3⟩,hb⟩:=zAs.within hr;exact⟨v,rfl,⟨o,c,h1,zS.rows h2⟩,hb⟩
theorem zIe{C:Nat}{F:Nat->Nat->Int}(k:Nat):((List.range (k+1)).filter fun i=>decide (lead C F i<0))=((List.range k).filter fun i=>decide (lead C F i<0))++(if lead C F k<0 then [k]else []):=by
 rw[List.range_succ,List.filter_append];congr 1;by_cases h:lead C F k<0
 ·rw[if_pos h];simp[h]
 ·rw[if_neg h];simp[h]
theorem zKY{B:Nat}(hB:BSd B)(v:Value)(M:List (List Int))(R C:Nat)(w:World)(h:yP w v R C M)(hF:jK R C M)(hR:R<=1000000)(hC:C<=1000000)(hok:okF B R C (ent M))(s1:Sm 1){J J':Nat->Bst->List (Nat × Nat)->Prop}(hE:zOu B R C R J J')(hJ:J 0 ⟨ent M,idf,idf⟩ [])
  (hend:∀y L,J R y L->∀a,a<R->(∀k,k<L.length->(L.getD k (0,0)).1≠a)->lead C y.s a<0):
  Calls Tryz.prog 69 #[v] w fun e w'=>∃v y L,e= .returned v/\J R y L/\(zGJ R C y.s L).length=R/\zHO w' v R C ((zGJ R C y.s L).map fun i=>zM C (y.s i)) ((zGJ R C y.s L).map fun i=>zM R (y.t i)) (zX R R fun a b=>y.i ((zGJ R C y.s L).getD b 0) a)/\Below w.heap.size w w':=by
 have h0:=h;obtain⟨A,rfl,h⟩:=h;obtain⟨ao,n,cap,rfl,e2,e3,e4,-⟩:=id h;obtain rfl:R=n:=by rw[<-e2,hF.1]
 have hdv:decide (qX R C M)=true:=decide_eq_true hF.valid;have HF:=xgv hF;have HOK:=xgv hok;have H0:=xgv h0;have S1:=xgv s1;have HE:=xgv hE;have HJ:=xgv hJ;have HEND:=xgv hend;clear hok h0 hF e2 s1 hE hJ hend;go_enter Tryz.func69,Tryz.ntmps69;go_upto_region 1 with(fail)
 refine zB ?_;intro W0 hW0;obtain⟨hB0,bx1,br,hs0⟩:=qI hW0;obtain⟨c1,c2,c3,c4,c5,c6⟩:=bx1.three;clear hW0;go_wp2_with fail
 refine(yK _ R C M W0 (H0.out.below hB0)).mono ?_;rintro e w1 ⟨rfl,hb1⟩;rw[hdv];have bx1:=bx1.below hb1;have br:=br.below hb1;have hB1:=nx hB0 hb1;have hs1:=hb1.size;clear c1 c2 c3 c4 c5 c6 hdv;obtain⟨c1,c2,c3,c4,c5,c6⟩:=bx1.three;have hl1:=zFP w1.heap.size R C (ent M);have hl2:=zHh 3 w1.heap.size #[.int .i64 0];go_upto_region 3 with(fail)
 refine zC 5 rfl (RV w1 _ [VP 0 13 w.heap.size 0,VN 1 14 R,E 2 15 (.agg #[.int .i64 R,.int .i64 C,.slice ao R cap]),⟨3,16,StP w1.heap.size R C (ent M)⟩,⟨4,3,zPq 3 w1.heap.size #[.int .i64 0]⟩]) kR RV.start (RV.fin kR ?fin1) ?steps1
 case steps1=>
  refine⟨?_,?_,?_,?_,?_,trivial⟩<;>(intro L T wS hL hd hcl hI K hK;try refine zA rfl ?_)
  ·exact xgs (hI.k 1 rfl kR)
  ·have zt0:=hI.e mm0 (hd 0)
   have cc0:=hI.cell c1;exact xgu
  ·have zt:=hI.k 1 rfl kR
   have cc0:=hI.cell c1;have cc1:=hI.cell c2;have cc2:=hI.cell c3;exact xgu
  ·obtain⟨_,zt2,rfl⟩:=hI.v mm2 (hd 2)
   go_simp;refine(zLb hB.bsm _ M R C _ ((H0.out.below hB1).below hI.bel).off HF.out hR hC HOK.out S1.out).mono ?_;rintro e wa ⟨v,rfl,hv,hba⟩;exact hK _ _ ((hI.world hba).y mm3 (hv.mono hI.bel.size))
  ·go_simp
   exact hK _ _ ((hI.world ((Below.refl _ _).alloc (xgf _) _)).y mm4 ⟨_,rfl,hI.bel.size,Blk.new _ _ _⟩)
 intro w2 hbw2 T hT;simp only[Fin,E,EI,VP,VSl,VN,xgg,xgh,xgi,xgj]at hT;obtain⟨va3,ha3,va4,ha4,rfl⟩:=hT;simp only[xgl,xgk];obtain⟨bw,Ah,Au,Av,rfl,q1,q2,q3,-,-⟩:StP w1.heap.size R C (ent M) w2 va3:=ha3;obtain⟨bn,rfl,q4,q5⟩:zPq 3 w1.heap.size #[.int .i64 0] w2 va4:=ha4;obtain⟨bss,hws,hzs⟩:=q3;obtain⟨n1,n2⟩:w2.cell? ⟨bn,0,none⟩=some (.int .i64 0)/\w2.frozen? ⟨bn,0,none⟩=false:=⟨q5.cell 0,q5.frozen 0⟩;have hnbw:bn≠bw:=Blk.neT q5 q2 dE;have hB2:=nx hB1 hbw2;have br:=br.below hbw2;have bx1:=bx1.below hbw2;have hs2:=hbw2.size;clear c1 c2 c3 c4 c5 c6 hl1 hl2;go_upto_region 4 with(fail)
 refine zB ?_;intro W2 hW2;have ho2:zY (fun b=>b=bn) w2 W2:=by rw[hW2.out];exact⟨zT (Below.refl _ _) (Nat.zero_le _) _ _,q5.lext dE _ _,fun b _ hb=>zV _ _ _ _ _ hb⟩
 have hB2:Below w.heap.size w W2:=by rw[hW2.out];exact zT hB2 oM _ _
 have hws:=hws.keepZ ho2 (by rintro b hb rfl;exact hws.nzb q5 dE dE hb);have q2:=ho2.blk q2 (Ne.symm hnbw);have br:=ho2.blk br oM;have bx1:=ho2.blk bx1 oM;have q5:Blk W2 bn 3 #[.int .i64 R]:=by rw[hW2.out];simpa using q5.set_ 0 (.int .i64 R)
 have hs2:=Nat.le_trans hs2 ho2.bel.size;have n1:=q5.cell 0;have hl1:=zJF R;have lws:∀b,Zn Ah bss b->b<W2.heap.size:=fun b hb=>hws.zlt hb
 have HWS:=xgv hws;have LWS:=xgv lws;have hlb:=q2.lt;obtain⟨so,sc,rfl⟩:=hws.shape;clear hW2 ho2 n2 hws lws;refine zC 11 rfl (RXS W2 _ [⟨0,17,fun _ v=>v= .pointer (some ⟨bw,0,none⟩)⟩,⟨1,18,fun _ v=>v= .pointer (some ⟨bw,0,none⟩)⟩,⟨2,19,fun _ v=>v= .int .i64 R⟩,⟨4,21,SlP R⟩,⟨5,22,fun _ v=>v= .int .i64 R⟩,⟨7,24,SlP R⟩,⟨8,25,fun _ v=>v= .pointer (some ⟨bw,0,none⟩)⟩,⟨9,26,fun _ v=>v= .pointer (some ⟨bw,1,none⟩)⟩] [⟨3,20,R,R,idf⟩,⟨6,23,R,R,idf⟩] [⟨4,21,⟨3,20,R,R,idf⟩⟩,⟨7,24,⟨6,23,R,R,idf⟩⟩] 10 (fun T w=>w.setCell ⟨bw,1,none⟩ (T.getD 21 undef))) kR (RXS.start (RX.start kR (by repeat' (first|exact yJ _|exact jD _|assumption|refine xgm.2 ⟨?_,?_⟩|exact xgn _)) (by
   refine xgm.2 ⟨⟨mm0,_,mm3,rfl,rfl⟩,xgm.2 ⟨⟨mm1,_,mm5,rfl,rfl⟩,xgn _⟩⟩))) ?finX ?stepsX
 case stepsX=>
  refine⟨?_,?_,?_,?_,?_,?_,?_,?_,?_,?_,?_,trivial⟩
  ·refine zF.liftX kR dE ?_
   intro L T wS hL hd hcl hI K hK;try refine zA rfl ?_
   have zt:T[4]?=some (.pointer (some ⟨bw,0,none⟩)):=hI.g.keep 4 sI sI;go_simp;exact hK _ _ (hI.y mm0 rfl (zOm kR))
  ·intro L T wS hL hd hcl hI K hK
   try refine zA rfl ?_
   have zt:T[4]?=some (.pointer (some ⟨bw,0,none⟩)):=by
    obtain⟨w0,h0,-,-⟩:=hI;exact h0.g.keep 4 sI sI
   go_simp;exact hK _ _ (hI.step (fun w0 h0=>h0.y mm1 rfl (zOm kR)) dE (fun w=>by rw[zEU dE]))
  ·refine zF.liftX kR dE ?_
   intro L T wS hL hd hcl hI K hK;try refine zA rfl ?_
   have zt:T[3]?=some (.pointer (some ⟨bn,0,none⟩)):=hI.g.keep 3 sI sI;have cc0:=hI.g.cell n1;go_simp;exact hK _ _ (hI.y mm2 rfl (zOm kR))
  ·refine zF.liftX kR dE ?_
   intro L T wS hL hd hcl hI K hK;try refine zA rfl ?_
   obtain⟨_,zt2,rfl⟩:=hI.g.val _ mm2 (hd 2);go_simp;refine(zFS R _ hR).mono ?_;rintro e wa ⟨v,rfl,hv,hba⟩;exact hK _ _ (hI.mat hcl hL ⟨3,20,_,_,_⟩ mm0 rfl hba hv kR)
  ·refine zF.liftX kR dE ?_
   intro L T wS hL hd hcl hI K hK;try refine zA rfl ?_
   obtain⟨_,zt3,o,c,rfl⟩:=hI.g.matv ⟨3,20,R,R,idf⟩ mm0 (hd 3);go_simp;exact hK _ _ (hI.alias ⟨4,21,⟨3,20,R,R,idf⟩⟩ mm0 ⟨4,21,SlP R⟩ mm3 rfl rfl ⟨o,c,rfl⟩ (hd 3) (by
    refine xgm.2 ⟨fun _=>rfl,xgm.2 ⟨fun e=>absurd e (by dsimp only;omega),xgn _⟩⟩) zt3 rfl)
  ·refine zF.liftX kR dE ?_
   intro L T wS hL hd hcl hI K hK;try refine zA rfl ?_
   have zt:T[3]?=some (.pointer (some ⟨bn,0,none⟩)):=hI.g.keep 3 sI sI;have cc0:=hI.g.cell n1;go_simp;exact hK _ _ (hI.y mm4 rfl (zOm kR))
  ·refine zF.liftX kR dE ?_
   intro L T wS hL hd hcl hI K hK;try refine zA rfl ?_
   obtain⟨_,zt5,rfl⟩:=hI.g.val _ mm4 (hd 5);go_simp;refine(zFS R _ hR).mono ?_;rintro e wa ⟨v,rfl,hv,hba⟩;exact hK _ _ (hI.mat hcl hL ⟨6,23,_,_,_⟩ mm1 rfl hba hv kR)
  ·intro L T wS hL hd hcl hI K hK
   try refine zA rfl ?_
   obtain⟨o,c,zt6⟩:∃o c,T[23]?=some (.agg #[.int .i64 R,.int .i64 R,.slice o R c]):=by
    obtain⟨w0,h0,-,-⟩:=hI;obtain⟨_,zt6,o,c,rfl⟩:=h0.g.matv ⟨6,23,R,R,idf⟩ mm1 (hd 6);exact⟨o,c,zt6⟩
   have h6:=hd 6 kR;go_simp;exact hK _ _ (hI.step (fun w0 h0=>h0.alias ⟨7,24,⟨6,23,R,R,idf⟩⟩ mm1 ⟨7,24,SlP R⟩ mm5 rfl rfl ⟨o,c,rfl⟩ h6 (by
    refine xgm.2 ⟨fun e=>absurd e (by dsimp only;omega),xgm.2 ⟨fun _=>rfl,xgn _⟩⟩) zt6 rfl) dE (fun w=>by rw[zEU dE]))
  ·refine zF.liftX kR dE ?_
   intro L T wS hL hd hcl hI K hK;try refine zA rfl ?_
   obtain⟨_,zt0,rfl⟩:=hI.g.val _ mm0 (hd 0);go_simp;exact hK _ _ (hI.y mm6 rfl (zOm kR))
  ·refine zF.liftX kR dE ?_
   intro L T wS hL hd hcl hI K hK;try refine zA rfl ?_
   obtain⟨_,zt8,rfl⟩:=hI.g.val _ mm6 (hd 8);go_simp;exact hK _ _ (hI.y mm7 rfl (zOm kR))
  ·intro L T wS hL hd hcl hJ K hK
   try refine zA rfl ?_
   have hI:=hJ.here hL;obtain⟨_,zt9,rfl⟩:=hI.g.val _ mm7 (hd 9);obtain⟨_,zt4,o,c,rfl⟩:=hI.g.val _ mm3 (hd 4);obtain⟨g1,g2,g3,g4,g5,g6⟩:=(q2.below hI.g.bel).three;go_simp;exact hK _ _ (RXS.store hI hL (zQ3 kR) (zQu kR) (by show _=World.setCell _ _ _;rw[zII zt4]))
 intro T w3 hJ;obtain⟨w0,hX,-,hst⟩:=hJ;replace hst:=hst kR;obtain⟨bot,top,g1,g2⟩:=hX.g.gh;obtain⟨k1,k2,m1,k3,k4⟩:=g1 ⟨3,20,R,R,idf⟩ mm0 rfl;obtain⟨k5,k6,m2,k7,k8⟩:=g1 ⟨6,23,R,R,idf⟩ mm1 rfl;have k9:=g2 ⟨3,20,R,R,idf⟩ mm0 ⟨6,23,R,R,idf⟩ mm1 (by dsimp only;omega) rfl rfl;obtain⟨-,o1,c1,a1,a2⟩:=hX.al ⟨4,21,⟨3,20,R,R,idf⟩⟩ mm0 rfl;obtain⟨-,o2,c2,a3,a4⟩:=hX.al ⟨7,24,⟨6,23,R,R,idf⟩⟩ mm1 rfl;have e21:T.getD 21 undef= .slice o1 R c1:=zII a2;replace hst:w3=w0.setCell ⟨bw,1,none⟩ (T.getD 21 undef):=hst;rw[e21]at hst;obtain⟨_,z17,rfl⟩:=hX.g.val _ mm0 rfl;obtain⟨_,z18,rfl⟩:=hX.g.val _ mm1 rfl;obtain⟨_,z19,rfl⟩:=hX.g.val _ mm2 rfl;obtain⟨_,z22,rfl⟩:=hX.g.val _ mm4 rfl;obtain⟨_,z25,rfl⟩:=hX.g.val _ mm6 rfl;obtain⟨_,z26,rfl⟩:=hX.g.val _ mm7 rfl;have hT:=zAH [(17,.pointer (some ⟨bw,0,none⟩)),(18,.pointer (some ⟨bw,0,none⟩)),(19,.int .i64 R),(21,.slice o1 R c1),(22,.int .i64 R),(24,.slice o2 R c2),(25,.pointer (some ⟨bw,0,none⟩)),(26,.pointer (some ⟨bw,1,none⟩)),(20,.agg #[.int .i64 R,.int .i64 R,.slice o1 R c1]),(23,.agg #[.int .i64 R,.int .i64 R,.slice o2 R c2])]
  (fun j hj=>hX.g.keep j (by simp only[xgm]at hj ⊢;simp[hj]) (by simp only[xgm]at hj ⊢;simp[hj]))
  (by simp only[xgm];simp[z17,z18,z19,a2,z22,a4,z25,z26,a1,a3]) hX.g.size
 have hbl:=hX.g.bel;obtain⟨bst,wt,zt⟩:∃bst,Wri w0 (.slice o1 R c1) R R bst idf/\∀b,Zn (.slice o1 R c1) bst b->bot 3<=b/\b<top 3:=by
  obtain⟨o',c',bst,e,q1,q2⟩:=k4;have e1:=k3.symm.trans a1;injection e1 with e1
  rw[e1]at e;injection e with e
  simp only[Array.mk.injEq,List.cons.injEq,Value.slice.injEq,true_and,and_true]at e;obtain⟨rfl,rfl⟩:=e;exact⟨bst,q1,q2⟩
 obtain⟨bsi,wi,zi⟩:∃bsi,Wri w0 (.slice o2 R c2) R R bsi idf/\∀b,Zn (.slice o2 R c2) bsi b->bot 6<=b/\b<top 6:=by
  obtain⟨o',c',bst,e,q1,q2⟩:=k8;have e1:=k7.symm.trans a3;injection e1 with e1
  rw[e1]at e;injection e with e
  simp only[Array.mk.injEq,List.cons.injEq,Value.slice.injEq,true_and,and_true]at e;obtain⟨rfl,rfl⟩:=e;exact⟨bst,q1,q2⟩
 dsimp only at k1 k2 k5 k6 k9;have hWA:=HWS.out.below hbl;have p1:Ap (.slice so R sc) bss (.slice o1 R c1) bst:=yZ (a:=0) (b:=W2.heap.size) (fun x hx=>⟨Nat.zero_le _,LWS.out x hx⟩) zt k1;have p2:Ap (.slice so R sc) bss (.slice o2 R c2) bsi:=yZ (a:=0) (b:=W2.heap.size) (fun x hx=>⟨Nat.zero_le _,LWS.out x hx⟩) zi k5;have p3:Ap (.slice o1 R c1) bst (.slice o2 R c2) bsi:=yZ zt zi k9;have q20:=q2.below hbl;have hB3:=nx hB2 hbl;have br:=br.below hbl;have bx1:=bx1.below hbl;have q5:=q5.below hbl;have q23:Blk w3 bw tHW #[.slice so R sc,.slice o1 R c1,Av]:=by rw[hst];simpa using q20.set_ 1 (.slice o1 R c1)
 have ho3:zY (fun b=>b=bw) w0 w3:=by rw[hst];exact⟨zT (Below.refl _ _) (Nat.zero_le _) _ _,q20.lext dE _ _,fun b _ hb=>zV _ _ _ _ _ hb⟩
 have hB3:Below w.heap.size w w3:=by rw[hst];exact zT hB3 oM _ _
 have wA:=hWA.keepZ ho3 (by rintro b hb rfl;exact hWA.nzb q20 dE dE hb);have wT:=wt.keepZ ho3 (by rintro b hb rfl;exact wt.nzb q20 dE dE hb);have wI:=wi.keepZ ho3 (by rintro b hb rfl;exact wi.nzb q20 dE dE hb);have br:=ho3.blk br oM;have bx1:=ho3.blk bx1 oM;have q5:=ho3.blk q5 hnbw;have hs3:w1.heap.size<=w3.heap.size:=by have:=hbl.size;have:=ho3.bel.size;omega
 have WA:=xgv wA;have WT:=xgv wT;have WI:=xgv wI;have ZT:=xgv (fun b (hb:Zn (.slice o1 R c1) bst b)=>Nat.le_trans k1 (zt b hb).1);have ZI:=xgv (fun b (hb:Zn (.slice o2 R c2) bsi b)=>Nat.le_trans k5 (zi b hb).1);have P1:=xgv p1;have P2:=xgv p2;have P3:=xgv p3;clear hX g1 g2 k1 k2 k3 k4 k5 k6 k7 k8 k9 a1 a2 a3 a4 z17 z18 z19 z22 z25 z26 e21 hWA wt zt wi zi wA wT wI p1 p2 p3 q20 ho3 hst hbl HWS LWS n1 q2 bot top;simp only[List.foldl_cons,List.foldl_nil,xgh,xgi,xgj,ptr]at hT;subst hT;simp only[xgl,xgk];obtain⟨g1,g2,g3,g4,g5,g6⟩:=q23.three;go_upto_region 5 with(fail)
 refine zB ?_;intro W4 hW4;have ho4:zY (fun b=>b=bw) w3 W4:=by rw[hW4.out];exact⟨zT (Below.refl _ _) (Nat.zero_le _) _ _,q23.lext dE _ _,fun b _ hb=>zV _ _ _ _ _ hb⟩
 have hB4:Below w.heap.size w W4:=by rw[hW4.out];exact zT hB3 oM _ _
 have q24:Blk W4 bw tHW #[.slice so R sc,.slice o1 R c1,.slice o2 R c2]:=by rw[hW4.out];simpa using q23.set_ 2 (.slice o2 R c2)
 have wA:=WA.out.keepZ ho4 (by rintro b hb rfl;exact WA.out.nzb q23 dE dE hb);have wT:=WT.out.keepZ ho4 (by rintro b hb rfl;exact WT.out.nzb q23 dE dE hb);have wI:=WI.out.keepZ ho4 (by rintro b hb rfl;exact WI.out.nzb q23 dE dE hb);have br:=ho4.blk br oM;have bx1:=ho4.blk bx1 oM;have q5:=ho4.blk q5 hnbw;have hs4:w1.heap.size<=W4.heap.size:=by have:=ho4.bel.size;omega
 have hband:zDy W4 (.slice so R sc) (.slice o1 R c1) (.slice o2 R c2) R C R bss bst bsi (ent M) idf idf:=⟨wA,wT,wI,P1.out.far,P2.out.far,P3.out.far,P1.out.own,P2.out.own,P3.out.own⟩;obtain⟨Z,hZ⟩:∃Z:Nat->Prop,Z=fun b=>b∈bss∨b∈bst∨b∈bsi:=⟨_,rfl⟩
 have hrun:zAv true Z W4 bw (.slice so R sc) R C R ⟨ent M,idf,idf⟩:=⟨_,_,bss,bst,bsi,q24,hband,fun b hb=>by rw[hZ];exact hb⟩;have hzl:∀b,Z b->b<W4.heap.size:=fun b hb=>by
  rw[hZ]at hb;rcases hb with hb|hb|hb
  ·exact wA.zlt (.inl hb)
  ·exact wT.zlt (.inl hb)
  ·exact wI.zlt (.inl hb)
 have hzt:∀{b:Nat} {T:TypeId} {cs:Array Value},Blk W4 b T cs->T≠tR->T≠tI->¬ Z b:=fun hb h1 h2 hz=>by
  rw[hZ]at hz;rcases hz with hz|hz|hz
  ·exact wA.nzb hb h1 h2 (.inl hz)
  ·exact wT.nzb hb h1 h2 (.inl hz)
  ·exact wI.nzb hb h1 h2 (.inl hz)
 have hgz:∀g,(Value.slice so R sc).ownBlock=some g->¬ Z g:=fun g hg hz=>by
  rw[hZ]at hz;rcases hz with hz|hz|hz
  ·exact wA.rown wA hz hg
  ·exact wT.rown wA hz hg
  ·exact wI.rown wA hz hg
 have hlo:∀b,Zn (.slice so R sc) bss b∨Zn (.slice o1 R c1) bst b∨Zn (.slice o2 R c2) bsi b->b<W4.heap.size:=fun b hb=>by
  rcases hb with hb|hb|hb
  ·exact wA.zlt hb
  ·exact wT.zlt hb
  ·exact wI.zlt hb
 have hzw:∀b,Z b->w.heap.size<=b:=fun b hb=>by
  rw[hZ]at hb;rcases hb with hb|hb|hb
  ·have:=hzs b (.inl hb);omega
  ·have:=ZT.out b (.inl hb);omega
  ·have:=ZI.out b (.inl hb);omega
 have nz5:=hzt q5 dE dE;have nzb:=hzt q24 dE dE;have nzr:=hzt br dE dE;have nz1:=hzt bx1 dE dE;clear hzt hZ g1 g2 g3 g4 g5 g6 hW4 ho4 WA WT WI P1 P2 P3 hband wA wT wI;go_wp2_with fail
 refine(zMO hB HE.out hrun HJ.out hR hC hR hzl hgz).mono ?_;rintro e w5 ⟨pv,y,Lp,rfl,hO,hz,hJ,hP⟩;obtain⟨hokx,hL⟩:=HE.out.ok R y Lp hJ;obtain⟨po,pcap,rfl,-,-,-⟩:=hP.at_;unfold zAv at hz;rw[if_pos rfl]at hz;obtain⟨Au',Av',bsh,bsu,bsv,r1,r2,r3⟩:=hz;have q25:=hO.blk q24 nzb;obtain⟨rfl,rfl⟩: .slice o1 R c1=Au'/\.slice o2 R c2=Av':=by
  have e1:w5.heap[bw]?=some (.cells #[.slice so R sc,.slice o1 R c1,.slice o2 R c2] tHW (0,0)):=q25;have e2:w5.heap[bw]?=some (.cells #[.slice so R sc,Au',Av'] tHW (0,0)):=r1;rw[e1]at e2;injection e2 with e2
  injection e2 with e2
  simp only[Array.mk.injEq,List.cons.injEq,true_and,and_true]at e2;exact e2
 have hlA:∀b,Zn (.slice so R sc) bsh b->¬ (W4.heap.size<=b):=fun b hb=>by
  rcases hb with hb|hb
  ·have:=hzl b (r3 b (.inl hb));omega
  ·have:=hlo b (.inl (.inr hb));omega
 have hlU:∀b,Zn (.slice o1 R c1) bsu b->¬ (W4.heap.size<=b):=fun b hb=>by
  rcases hb with hb|hb
  ·have:=hzl b (r3 b (.inr (.inl hb)));omega
  ·have:=hlo b (.inr (.inl (.inr hb)));omega
 have hlV:∀b,Zn (.slice o2 R c2) bsv b->¬ (W4.heap.size<=b):=fun b hb=>by
  rcases hb with hb|hb
  ·have:=hzl b (r3 b (.inr (.inr hb)));omega
  ·have:=hlo b (.inr (.inr (.inr hb)));omega
 have hB5:Below w.heap.size w w5:=zE5 hB4 (hO.mono (Z':=fun k=>w.heap.size<=k) (fun k _ hk=>hzw k hk)) (xgf _) hB4.size;have lbx:=bx1.lt;have lbr:=br.lt;have br:=hO.blk br nzr;have lbn:=q5.lt;have bx1:=hO.blk bx1 nz1;have q5:=hO.blk q5 nz5;have l24:=q24.lt;have l45:=hO.bel.size;have HL:=xgv hL;have HOX:=xgv hokx;have HJY:=xgv hJ;have hlenO:=zMq hL (HEND.out y Lp hJ);have HLT:=xgv (zF7 hL);have HND:=xgv (zDb hL);have hLl:=hL.len;go_upto_region 6 with(fail)
 refine zB ?_;intro W6 hW6;obtain⟨hB6',T5,hs6⟩:=zK hW6;have hB6:=nx hB5 hB6';have HA:=xgv (r2.s.below hB6');have HU:=xgv (r2.t.below hB6');have HW:=xgv (r2.i.below hB6');have HP:=xgv (hP.below hB6');have q25:=q25.below hB6';have br:=br.below hB6';have bx1:=bx1.below hB6';have q5:=q5.below hB6';obtain⟨g1,g2,g3,g4,g5,g6⟩:=q25.three;have hs56:=hB6'.size;have hnd:=HND.out;clear hW6 hP hL hokx hJ r1 r2 hB6' hlo hzw hrun hzl hgz hnd;go_wp2;go_loopw [36] (fun iv wr=>∃(k:Nat) (v:Value),iv= .int .i64 k/\k<=R/\Blk wr w5.heap.size 52 #[v]/\qF (zBe wr W4.heap.size v (Lp.map (·.1)++(List.range k).filter fun i=>decide (lead C y.s i<0)))/\Below W4.heap.size W6 wr/\yO W6 wr) (fun iv _=>R-(intOf iv).toNat)
 case atStart=>exact⟨0,_,rfl,by omega,T5,⟨by simpa using HP.out⟩,Below.refl _ _,yO.refl _⟩
 case round=>
  clear T5 HP;obtain⟨k,uv,rfl,hk,T5,HV,hb,hx⟩:=hrel;obtain⟨uo,ucap,rfl,-,-,-⟩:=HV.out.at_;obtain⟨un,hun⟩:∃un,(Lp.map (·.1)++(List.range k).filter fun i=>decide (lead C y.s i<0)).length=un:=⟨_,rfl⟩;rw[hun]at T5 HV;have hoB:=zY.ofB hb hx;have hwr:=HA.out.keepZ hoB hlA;have hsz:=hb.size;by_cases hlt:k<R
  ·obtain⟨g,bi,eg,lg,hbi,-,o1',-⟩:=zS.at_ hwr (i:=k) (by rw[hwr.len];exact hlt)
   subst eg;have hrow:=hwr.rowAt hlt hbi;have hVec:=hrow.vec (zD _ _) (xgf _) oM;clear hwr;go_wp2_with fail
   refine(zBD _ _ _ hVec).mono ?_;rintro e w7 ⟨rfl,hb7⟩;rw[zFz];obtain⟨c0,hc0⟩:∃c0,lead C y.s k=c0:=⟨_,rfl⟩;rw[hc0];have T7:=T5.below hb7;have HV7:=xgv (HV.out.below hb7);have hbn7:Below W4.heap.size W6 w7:=hb.trans (hb7.mono oM);have hxn7:=hx.trans (lx hb7);have hs7:=hb7.size;by_cases hneg:c0<0
   ·have hst:(List.range (k+1)).filter (fun i=>decide (lead C y.s i<0))=(List.range k).filter (fun i=>decide (lead C y.s i<0))++ [k]:=by rw[zIe,if_pos (by rw[hc0];exact hneg)]
    have HST:=xgv hst;obtain⟨t1,t2⟩:w7.cell? ⟨w5.heap.size,0,none⟩=some (.slice uo un ucap)/\w7.frozen? ⟨w5.heap.size,0,none⟩=false:=⟨T7.cell 0,T7.frozen 0⟩;have hys:∀w':World,zAy (w'.alloc (.cells #[.int .i64 k] tNn)) (some ⟨w'.heap.size,0,none⟩) [k]:=fun w'=>⟨by simp;omega,fun _=>⟨_,0,_,rfl,heap_alloc_new w' _,fun k x hk=>by
     match k with
     |0=>simp at hk;subst hk;rfl
     |k+1=>simp at hk⟩⟩
    have hfl:((List.range k).filter fun i=>decide (lead C y.s i<0)).length<=k:=by
     have:=List.length_filter_le (fun i=>decide (lead C y.s i<0)) (List.range k);simpa using this
    have l7:=T7.lt;clear hc0 hst hVec hrow o1';go_wp2_with (at_builtin;refine zPw rfl _ _ rfl W4.heap.size (.slice uo un ucap) _ rfl (HV7.out.alloc _) (some ⟨w7.heap.size,0,none⟩) 1 1 [k] rfl (hys w7) rfl (by simp only[List.length_append,List.length_map];omega) (by simp;omega) ?_;intro v' w' hown hgr;obtain⟨vo,vn,vcap,rfl⟩:∃a b c,v'= .slice a b c:=(by obtain⟨p,q,r,-,-,-⟩:=hown.at_;exact⟨_,_,_,r⟩);have T8:Blk w' w5.heap.size 52 #[.slice uo un ucap]:=(hgr.block _ (T7.alloc _).lt (fun e=>HV7.out.ne T7 dE e.symm)).trans (T7.alloc _);obtain⟨t3,t4⟩:w'.cell? ⟨w5.heap.size,0,none⟩=some (.slice uo un ucap)/\w'.frozen? ⟨w5.heap.size,0,none⟩=false:=⟨T8.cell 0,T8.frozen 0⟩)
    have hgr:World.grownBy (w7.alloc (.cells #[.int .i64 k] tNn)) w' (Value.ownBlock (.slice uo un ucap)):=hgr;have T8:Blk w' w5.heap.size 52 #[.slice uo un ucap]:=T8;have hx8:yO w7 w':=(lx ((Below.refl _ _).alloc (xgf _) _)).trans (zAM (HV7.out.alloc _).2 dE hgr);have hb8:Below W4.heap.size W6 w':=(hbn7.alloc oM _).grown hgr (by simp;omega) (fun g hg=>(HV7.out.own g hg).1);go_roundw
    case rel=>
     refine⟨k+1,_,by simp,by omega,by simpa using T8.set_ 0 _,⟨?_⟩,zT hb8 oM _ _,(hxn7.trans hx8).trans (T8.lext dE _ _)⟩;rw[HST.out,<-List.append_assoc];exact hown.far T8 dE 0 _
    case measure=>simp[intOf];omega
   ·have hst:(List.range (k+1)).filter (fun i=>decide (lead C y.s i<0))=(List.range k).filter (fun i=>decide (lead C y.s i<0)):=by rw[zIe,if_neg (by rw[hc0];exact hneg),List.append_nil]
    have HST:=xgv hst;clear hc0 hst hVec hrow o1';go_wp2;go_roundw
    case rel=>exact⟨k+1,_,by simp,by omega,T7,⟨by rw[HST.out];exact HV7.out⟩,hbn7,hxn7⟩
    case measure=>simp[intOf];omega
  ·obtain rfl:R=k:=by omega
   have hos:zGJ R C y.s Lp=Lp.map (·.1)++(List.range R).filter fun i=>decide (lead C y.s i<0):=rfl
   rw[<-hos]at HV hun;obtain⟨os,hose⟩:∃os,zGJ R C y.s Lp=os:=⟨_,rfl⟩;rw[hose]at HV hun HLT HND hlenO;have HOSE:=xgv hose;have HWR:=xgv hwr;have HUR:=xgv (HU.out.keepZ hoB hlU);have HVR:=xgv (HW.out.keepZ hoB hlV);have q25:=q25.belowB hb l24;have q5:=q5.belowB hb lbn;have bx1:=bx1.belowB hb lbx;have br:=br.belowB hb lbr;have hBr:Below w.heap.size w wr:=zE5 hB6 ((zY.ofB hb hx).mono (Z':=fun k=>w.heap.size<=k) (fun k _ hk=>by omega)) (xgf _) hB6.size;have n1:=q5.cell 0;obtain⟨k1,k2,k3,-,-,-⟩:=bx1.three;have hl1:=zBk R C (os.map fun i=>zM C (y.s i));have hl2:=zBk R R (os.map fun i=>zM R (y.t i));have hl3:=zBk R R (os.map fun i=>zM R (y.i i));have hl4:=zBk R R (zX R R fun a b=>y.i (os.getD b 0) a);have hl5:=zGl R C (os.map fun i=>zM C (y.s i)) (os.map fun i=>zM R (y.t i)) (zX R R fun a b=>y.i (os.getD b 0) a);obtain⟨g1,g2,g3,-,-,-⟩:=q25.three;clear hos hose hwr hoB hlA hlU hlV HA HU HW hb hx g4 g5 g6;go_upto_region 13 with(fail)
   refine zC 24 rfl (RV wr _ [E 0 50 (.func (.func 154) #[] #[.pointer (some ⟨bn,0,none⟩),.pointer (some ⟨w5.heap.size,0,none⟩)]),VP 1 51 bw 0,VP 2 52 bw 0,VP 3 53 bw 0,E 4 54 (.slice so R sc),VP 5 55 w.heap.size 1,VN 6 56 C,⟨7,57,zNR R C (os.map fun i=>zM C (y.s i))⟩,E 8 58 (.func (.func 154) #[] #[.pointer (some ⟨bn,0,none⟩),.pointer (some ⟨w5.heap.size,0,none⟩)]),VP 9 59 bw 0,VP 10 60 bw 0,VP 11 61 bw 1,E 12 62 (.slice o1 R c1),VN 13 63 R,⟨14,64,zNR R R (os.map fun i=>zM R (y.t i))⟩,E 15 65 (.func (.func 154) #[] #[.pointer (some ⟨bn,0,none⟩),.pointer (some ⟨w5.heap.size,0,none⟩)]),VP 16 66 bw 0,VP 17 67 bw 0,VP 18 68 bw 2,E 19 69 (.slice o2 R c2),VN 20 70 R,⟨21,71,zNR R R (os.map fun i=>zM R (y.i i))⟩,⟨22,72,zNR R R (zX R R fun a b=>y.i (os.getD b 0) a)⟩,⟨23,73,zNh R C (os.map fun i=>zM C (y.s i)) (os.map fun i=>zM R (y.t i)) (zX R R fun a b=>y.i (os.getD b 0) a)⟩]) kR RV.start (RV.fin kR ?fin2) ?steps2
   case steps2=>
    refine⟨?_,?_,?_,?_,?_,?_,?_,?_,?_,?_,?_,?_,?_,?_,?_,?_,?_,?_,?_,?_,?_,?_,?_,?_,trivial⟩<;>(intro L T wS hL hd hcl hI K hK;try refine zA rfl ?_)
    ·exact xgs (hI.k 8 rfl kR)
    ·exact xgs (hI.k 4 rfl kR)
    ·exact xgs (hI.e mm1 (hd 1))
    ·exact xgs (hI.e mm2 (hd 2))
    ·have zt3:=hI.e mm3 (hd 3)
     have cc0:=hI.cell g1;exact xgu
    ·exact xgs (hI.k 1 rfl kR)
    ·have zt5:=hI.e mm5 (hd 5)
     have cc0:=hI.cell k2;exact xgu
    ·have zt0:=hI.e mm0 (hd 0)
     have zt4:=hI.e mm4 (hd 4);have zt6:=hI.e mm6 (hd 6);go_simp;refine(zCl _ _ R C bn _ _ bsh _ _ _ (HWR.out.below hI.bel) (q5.below hI.bel) (T5.below hI.bel) (HV.out.below hI.bel) HLT.out HND.out hR hC hlenO).mono ?_;rintro e wa ⟨v,rfl,hv,hba⟩;exact hK _ _ ((hI.world hba).y mm7 hv)
    ·exact xgs (hI.k 8 rfl kR)
    ·exact xgs (hI.k 4 rfl kR)
    ·exact xgs (hI.e mm9 (hd 9))
    ·exact xgs (hI.e zAC (hd 10))
    ·have zt11:=hI.e zAJ (hd 11)
     have cc0:=hI.cell g2;exact xgu
    ·have zt:=hI.k 3 rfl kR
     have cc0:=hI.cell n1;exact xgu
    ·have zt8:=hI.e mm8 (hd 8)
     have zt12:=hI.e zAo (hd 12);have zt13:=hI.e zCF (hd 13);go_simp;refine(zCl _ _ R R bn _ _ bsu _ _ _ (HUR.out.below hI.bel) (q5.below hI.bel) (T5.below hI.bel) (HV.out.below hI.bel) HLT.out HND.out hR hR hlenO).mono ?_;rintro e wa ⟨v,rfl,hv,hba⟩;exact hK _ _ ((hI.world hba).y zBp hv)
    ·exact xgs (hI.k 8 rfl kR)
    ·exact xgs (hI.k 4 rfl kR)
    ·exact xgs (hI.e zDs (hd 16))
    ·exact xgs (hI.e zEs (hd 17))
    ·have zt18:=hI.e zCT (hd 18)
     have cc0:=hI.cell g3;exact xgu
    ·have zt:=hI.k 3 rfl kR
     have cc0:=hI.cell n1;exact xgu
    ·have zt15:=hI.e zCS (hd 15)
     have zt19:=hI.e zEt (hd 19);have zt20:=hI.e zEZ (hd 20);go_simp;refine(zCl _ _ R R bn _ _ bsv _ _ _ (HVR.out.below hI.bel) (q5.below hI.bel) (T5.below hI.bel) (HV.out.below hI.bel) HLT.out HND.out hR hR hlenO).mono ?_;rintro e wa ⟨v,rfl,hv,hba⟩;exact hK _ _ ((hI.world hba).y zEa hv)
    ·obtain⟨v21,zt21,h21⟩:=hI.v zEa (hd 21)
     go_simp;refine(zJj hB.bsm h21 hlenO HLT.out HOX.out.2.2 hR).mono ?_;rintro e wa ⟨v,rfl,hv,hba⟩;exact hK _ _ ((hI.world hba).y zFT hv)
    ·obtain⟨_,zt7,xo,xc,rfl,h7⟩:=hI.v mm7 (hd 7)
     obtain⟨_,zt14,yo,yc,rfl,h14⟩:=hI.v zBp (hd 14);obtain⟨_,zt22,zo,zc,rfl,h22⟩:=hI.v zFT (hd 22);go_simp;exact hK _ _ (hI.y zFU ⟨xo,xc,yo,yc,zo,zc,rfl,h7,h14,h22⟩)
   intro w9 hbw9 T hT;simp only[Fin,E,EI,VP,VSl,VN,xgg,xgh,xgi,xgj]at hT;obtain⟨vd7,hd7,vd14,hd14,vd21,hd21,vd22,hd22,vd23,hd23,rfl⟩:=hT;simp only[xgl,xgk];obtain⟨xo,xc,yo,yc,zo,zc,rfl,h7,h14,h22⟩:zNh R C (os.map fun i=>zM C (y.s i)) (os.map fun i=>zM R (y.t i)) (zX R R fun a b=>y.i (os.getD b 0) a) w9 vd23:=hd23;have br:=br.below hbw9;have hB9:=nx hBr hbw9;have H7:=xgv h7;have H14:=xgv h14;have H22:=xgv h22;obtain⟨⟨r0,r1,r2,r3,r4,r5,r6,r7,r8⟩,⟨f0,f1,f2,f3,f4,f5,f6,f7,f8⟩⟩:=br.all9;clear h7 h14 h22 hd7 hd14 hd21 hd22 g1 g2 g3 n1 k1 k2 k3;go_wp2;have hxr:=br.lext9 dE (.int .i64 R) (.int .i64 C) (.slice xo R xc) (.int .i64 R) (.int .i64 R) (.slice yo R yc) (.int .i64 R) (.int .i64 R) (.slice zo R zc);have offr:∀{v:Value} {M:List (List Int)},jB w9 v M->jB _ v M:=fun h=>h.off br dE dE (fun b hb=>zM7 w9 (w.heap.size+1) b _ _ _ _ _ _ _ _ _ hb) hxr
   refine bodyPost_ret (results_cell_row rfl _ _ (w.heap.size+1) _ _ _ _ rfl (br.put9 _ _ _ _ _ _ _ _ _) Tryz.underlying132 rfl (by rw[Tryz.sizeHe];rfl)) rfl ⟨_,y,Lp,rfl,HJY.out,by rw[HOSE.out];exact hlenO,by rw[HOSE.out];exact⟨_,_,_,rfl,offr H7.out,offr H14.out,offr H22.out⟩,zO4 hB9 oM _ _ _ _ _ _ _ _ _⟩
theorem zMC{r:Nat}{x:Nat->Int}(h:∃t,t<r/\x t≠0):∃t,t<r/\x t≠0/\∀s,s<t->x s=0:=by
 obtain⟨t,ht⟩:=h;induction t using Nat.strongRecOn with
 | ind t ih=>
  by_cases he:∃s,s<t/\x s≠0
  ·obtain⟨s,h1,h2⟩:=he
   exact ih s h1 ⟨by omega,h2⟩
  ·exact⟨t,ht.1,ht.2,fun s hs=>Classical.byContradiction fun hn=>he ⟨s,hs,hn⟩⟩
theorem zNr{C r:Nat}{c:Nat->Nat}{H:Nat->Nat->Int}{x:Nat->Int}(hE:Ech C r c H){t:Nat}(ht:t<r)(hx:∀s,s<t->x s=0):(qE r fun s=>x s*H s (c t))=x t*H t (c t):=
 zAG ht fun s hs hne=>by
  rcases Nat.lt_or_ge s t with h|h
  ·rw[hx s h,Int.zero_mul]
  ·rw[hE.zero s hs _ (hE.inc t s oM hs),Int.mul_zero]
def zO2(n C:Nat)(H G:Nat->Nat->Int):Prop:=∃X:Nat->Nat->Int,∀a,a<n->∀b,b<C->G a b=qE n fun t=>X a t*H t b
theorem zHY{k R:Nat}{F:Nat->Nat->Int}{i:Nat}{c:Nat->Int}{v:Nat->Nat->Int}(h:i<k):
  det k (zAp F i fun a=>qE R fun t=>c t*v a t)=qE R fun t=>c t*det k (zAp F i fun a=>v a t):=by
 have:=zES (k:=k) (R:=R) (F:=trp F) (i:=i) (c:=c) (v:=fun t a=>v a t) h;rw[<-zBK]at this;refine this.trans (zU fun t ht=>?_);rw[<-zBK];rfl
theorem zNs(k:Nat):det k idf=1:=by
 rw[zCx (fun a _ b _ h=>by unfold idf;rw[if_neg oM])];induction k with
 |zero=>rfl
 |succ k ih=>unfold jE;rw[ih];simp[idf]
theorem zN5{k:Nat}(hk:k<=4):zHc k<=24:=by
 have:∀k,k<=4->zHc k<=24:=by decide
 exact this k hk
theorem zO7{k h:Nat}{F:Nat->Nat->Int}(hk:k<=4)(h1:1<=h)(hF:∀a,a<k->∀b,b<k->(F a b).natAbs<=h):(det k F).natAbs<=24*h^4:=
 Nat.le_trans (zI8 hF) (Nat.mul_le_mul (zN5 hk) (zOF h1 hk))
theorem zL5{r R:Nat}{P V:Nat->Nat->Int}(h:∀a,a<r->∀b,b<r->qE R (fun t=>P a t*V t b)=idf a b):∃σ:Nat->Nat,(∀a,a<r->σ a<R)/\det r (fun a b=>V (σ a) b)≠0:=by
 refine Classical.byContradiction fun hn=>?_
 have h1:(0:Int)∣det r fun a b=>qE R fun t=>P a t*V t b:=zBx fun σ hσ=>by
  have:det r (fun a b=>V (σ a) b)=0:=Classical.byContradiction fun h0=>hn ⟨σ,hσ,h0⟩
  rw[this];exact Int.dvd_refl 0
 rw[zA1 (G:=idf) h,zNs]at h1;have:=Int.zero_dvd.1 h1;omega
theorem zJB{R C r h:Nat}{c σ:Nat->Nat}{A H X:Nat->Nat->Int}(hr4:r<=4)(h1:1<=h)(hE:Ech C r c H)(hred:zHS (fun _ _=>True) r c H)(hA:leM h R C A)(hback2:∀a,a<R->∀b,b<C->A a b=qE r fun t=>X t a*H t b)
  (hσ:∀a,a<r->σ a<R) (hdet:det r (fun a b=>X b (σ a))≠0):leM (24*(8*h)^4) r C H:=by
 have hpivz:∀j,j<r->∀t,j<t->t<r->H t (c j)=0:=fun j hj t h2 h3=>hE.zero t h3 _ (hE.inc j t h2 h3)
 have hV:∀j,j<r->∀a,a<R->(X j a).natAbs<=h*2^j:=by
  intro j;induction j using Nat.strongRecOn with
  | ind j ih=>
   intro hj a ha;have e:=hback2 a ha (c j) (hE.lt j hj);have hp:=hE.pos j hj;rw[zEC (n:=j+1) oM (fun t h2 h3=>by rw[hpivz j hj t oM h3,Int.mul_zero])]at e;have hs:qE (j+1) (fun t=>X t a*H t (c j))=qE j (fun t=>X t a*H t (c j))+X j a*H j (c j):=rfl;rw[hs]at e;obtain⟨p,hpp⟩:∃p:Nat,H j (c j)=(p:Int):=⟨(H j (c j)).toNat,by omega⟩;have hsum:∀m,m<=j->(qE m (fun t=>X t a*H t (c j))).natAbs<=(h*2^m-h)*p:=by
    intro m;induction m with
    |zero=>intro _;simp[qE]
    | succ m ihm=>
     intro hm;have g1:=ihm oM;have g2:=ih m oM oM a ha;have g3:=hred m j oM hj trivial;have g4:(H m (c j)).natAbs<=p:=by omega
     have g5:(X m a*H m (c j)).natAbs<=h*2^m*p:=by rw[Int.natAbs_mul];exact Nat.mul_le_mul g2 g4
     have g6:(qE (m+1) (fun t=>X t a*H t (c j))).natAbs<=(qE m (fun t=>X t a*H t (c j))).natAbs+(X m a*H m (c j)).natAbs:=by
      show(qE m (fun t=>X t a*H t (c j))+X m a*H m (c j)).natAbs<=_;omega
     have g7:(h*2^m-h)*p+h*2^m*p=(h*2^(m+1)-h)*p:=by
      rw[<-Nat.add_mul];congr 1;have:h<=h*2^m:=Nat.le_mul_of_pos_right _ (Nat.pow_pos oM);rw[Nat.pow_succ,<-Nat.mul_assoc];omega
     omega
   have g1:=hsum j (xgf _);have g2:=hA a ha (c j) (hE.lt j hj);have g3:(X j a*H j (c j)).natAbs<=h+(h*2^j-h)*p:=by omega
   rw[Int.natAbs_mul,hpp,Int.natAbs_natCast]at g3;have g4:h<=h*p:=Nat.le_mul_of_pos_right _ oM;have g5:h*p+(h*2^j-h)*p=h*2^j*p:=by
    rw[<-Nat.add_mul];congr 1;have:h<=h*2^j:=Nat.le_mul_of_pos_right _ (Nat.pow_pos oM);omega
   have g6:(X j a).natAbs*p<=h*2^j*p:=by omega
   exact Nat.le_of_mul_le_mul_right g6 oM
 have hV8:∀j,j<r->∀a,a<R->(X j a).natAbs<=8*h:=fun j hj a ha=>by
  have g1:=hV j hj a ha;have g2:2^j<=2^3:=Nat.pow_le_pow_right oM oM;have g3:h*2^j<=h*2^3:=Nat.mul_le_mul_left _ g2;omega
 intro i hir b hb;have e1:det r (zAp (fun a b=>X b (σ a)) i fun a=>A (σ a) b)=H i b*det r (fun a b=>X b (σ a)):=by
  have e2:det r (zAp (fun a b=>X b (σ a)) i fun a=>A (σ a) b)=det r (zAp (fun a b=>X b (σ a)) i fun a=>qE r fun t=>H t b*X t (σ a)):=zA1 fun a ha b' hb'=>by
   unfold zAp;split
   ·dsimp only
    rw[hback2 _ (hσ a ha) b hb];exact zU fun t ht=>Int.mul_comm _ _
   ·rfl
  rw[e2,zHY (v:=fun a t=>X t (σ a)) hir,zAG (c:=i) hir]
  ·rw[zEk (fun a b=>X b (σ a)) i]
  ·intro t ht hne
   have:det r (zAp (fun a b=>X b (σ a)) i fun a=>X t (σ a))=0:=by
    rcases Nat.lt_or_ge t i with h2|h2
    ·exact zDQ h2 hir fun a=>by unfold zAp;rw[if_pos rfl,if_neg oM]
    ·exact zDQ (c:=i) (d:=t) oM ht fun a=>by unfold zAp;rw[if_pos rfl,if_neg oM]
   rw[this,Int.mul_zero]
 have e3:(det r (zAp (fun a b=>X b (σ a)) i fun a=>A (σ a) b)).natAbs<=24*(8*h)^4:=zO7 hr4 oM fun a ha b' hb'=>by
  unfold zAp;split
  ·have:=hA _ (hσ a ha) b hb
   dsimp only;omega
  ·exact hV8 b' hb' _ (hσ a ha)
 rw[e1,Int.natAbs_mul]at e3;exact Nat.le_trans (Nat.le_mul_of_pos_right _ oM) e3
theorem zKa{R C r h:Nat}{c:Nat->Nat}{A H U X:Nat->Nat->Int}(hR:R<=4)(h1:1<=h)(hH:Hnf C R r c H)(hA:leM h R C A)(hback:∀a,a<R->∀b,b<C->A a b=qE R fun t=>X t a*H t b)
  (huv:∀a,a<R->∀b,b<R->dot R U X a b=idf a b):leM (24*(8*h)^4) R C H:=by
 obtain⟨σ,hσ,hdet⟩:=zL5 (r:=r) (R:=R) (P:=U) (V:=fun t b=>X b t) (fun a ha b hb=>huv a (by have:=hH.le;omega) b (by have:=hH.le;omega));have hb:=zJB (Nat.le_trans hH.le hR) h1 hH.ech hH.red hA (fun a ha b hb=>by
  rw[hback a ha b hb];exact zEC hH.le fun t h2 h3=>by rw[hH.zero t h2 h3 b hb,Int.mul_zero]) hσ hdet
 intro i hi b hb';rcases Nat.lt_or_ge i r with hir|hir
 ·exact hb i hir b hb'
 ·rw[hH.zero i hir hi b hb']
  exact Nat.zero_le _
theorem zFN{n m r r':Nat}{c σ:Nat->Nat}{F H X:Nat->Nat->Int}(hH:Hnf m n r c H)(hback:∀a,a<n->∀b,b<m->F a b=qE n fun t=>X t a*H t b)(hcol:∀a,a<n->∀b,r'<=b->b<m->H a b=0)(hr':r'<=m)
  (hσ:∀a,a<r'->σ a<n) (hdet:det r' (fun a b=>F (σ a) b)≠0):r=r'/\∀k,k<r->c k=k:=by
 have hc:∀k,k<r->c k<r':=fun k hk=>by
  rcases Nat.lt_or_ge (c k) r' with h|h
  ·exact h
  ·have h1:=hcol k (by have:=hH.le;omega) (c k) h (hH.ech.lt k hk)
   have h2:=hH.ech.pos k hk;omega
 have hck:∀k,k<r->k<=c k:=by
  intro k;induction k with
  |zero=>intro _;omega
  |succ k ih=>
   intro hk;have h1:=ih oM;have h2:=hH.ech.inc k (k+1) oM hk;omega
 have hle:r<=r':=by
  rcases Nat.eq_zero_or_pos r with h|h
  ·omega
  ·have h1:=hck (r-1) oM
   have h2:=hc (r-1) oM;omega
 have hge:r'<=r:=by
  rcases Nat.lt_or_ge r r' with h|h
  ·have h1:(0:Int)∣det r' fun a b=>qE n fun t=>X t (σ a)*H t b:=zBx (P:=fun a t=>X t (σ a)) (F:=H) fun τ hτ=>by
    refine zDr (R:=n) (F:=H) (fun τ hτ hi=>?_) τ hτ;have h2:=hi.le (r'-1) oM;rw[zA9 (c:=r'-1) oM fun b hb=>hH.zero _ oM (hτ _ oM) b oM];exact Int.dvd_refl 0
   rw[zA1 (G:=fun a b=>F (σ a) b) fun a ha b hb=>(hback _ (hσ a ha) b oM).symm]at h1;exact absurd (Int.zero_dvd.1 h1) hdet
  ·exact h
 refine⟨by omega,fun k hk=>?_⟩;have hup:∀d k,k+d+1=r->c k+d<r':=by
  intro d;induction d with
  |zero=>intro k hk;exact hc k oM
  |succ d ih=>
   intro k hk;have h1:=ih (k+1) oM;have h2:=hH.ech.inc k (k+1) oM oM;omega
 have h1:=hup (r-1-k) k oM;have h2:=hck k hk;omega
theorem zKb{n m r j:Nat}{F H X:Nat->Nat->Int}(hH:Hnf m n r (fun k=>k) H)(hback:∀a,a<n->∀b,b<m->F a b=qE n fun t=>X t a*H t b)(hj:j<=r)(hlow:∀a,a<j->∀b,b<j->a<b->F a b=0):
  jE j (fun i=>H i i)∣jE j (fun i=>F i i):=by
 have hrn:=hH.le;have hrm:r<=m:=by
  rcases Nat.eq_zero_or_pos r with h|h
  ·omega
  ·have:=hH.ech.lt (r-1) oM
   omega
 rw [<-zCx hlow];have h1:jE j (fun i=>H i i)∣det j fun a b=>qE n fun t=>X t a*H t b:=zBx (P:=fun a t=>X t a) (F:=H) fun τ hτ=>by
  refine zDr (R:=n) (F:=H) (fun τ hτ hi=>?_) τ hτ;rcases Nat.eq_zero_or_pos j with hj0|hj0
  ·subst hj0;exact Int.dvd_refl _
  ·rcases Nat.lt_or_ge (τ (j-1)) j with h|h
   ·have hid:∀d,d<j->τ (j-1-d)=j-1-d:=by
     intro d hd;have h2:=hi.le (j-1-d) oM;rcases Nat.eq_zero_or_pos d with h3|h3
     ·subst h3
      have:=hi.le (j-1) oM;simp only[Nat.sub_zero]at*;omega
     ·have:∀d,d<j->τ (j-1-d)+d<=τ (j-1):=by
       intro d;induction d with
       |zero=>intro _;simp
       |succ d ihd=>
        intro hd;have g1:=ihd oM;have g2:=hi (j-1-(d+1)) oM;rw[show j-1-(d+1)+1=j-1-d by omega]at g2;omega
      have:=this d hd;omega
    rw[zA1 (G:=H) fun a ha b hb=>by
     have:=hid (j-1-a) oM;rw[show j-1-(j-1-a)=a by omega]at this;rw[this]]
    rw[zGc fun a ha b hb hab=>hH.ech.zero a oM b hab];exact Int.dvd_refl _
   ·rw[zA9 (c:=j-1) oM fun b hb=>?_]
    ·exact Int.dvd_zero _
    ·rcases Nat.lt_or_ge (τ (j-1)) r with h2|h2
     ·exact hH.ech.zero _ h2 b oM
     ·exact hH.zero _ h2 (hτ _ oM) b oM
 rwa[zA1 (G:=F) fun a ha b hb=>(hback a oM b oM).symm]at h1
theorem zMN{n m r:Nat}{F H X:Nat->Nat->Int}(hH:Hnf m n r (fun k=>k) H)(hback:∀a,a<n->∀b,b<m->F a b=qE n fun t=>X t a*H t b)(hlow:∀a,a<r->∀b,b<r->a<b->F a b=0)(hp:∀i,i<r->F i i=H i i)(hrm:r<=m):
  ∀i,i<r->∀b,b<r->i<b->H i b=0:=by
 have hrn:=hH.le;have hback2:∀a,a<n->∀b,b<m->F a b=qE r fun t=>X t a*H t b:=fun a ha b hb=>by
  rw[hback a ha b hb];refine zEC hH.le fun t h2 h3=>?_
  rw[hH.zero t h2 h3 b hb,Int.mul_zero]
 intro i;induction i using Nat.strongRecOn with
 | ind i ihi=>
  intro hi;have hpi:0<H i i:=hH.ech.pos i hi;have hone:X i i=1:=by
   have e:=hback2 i oM i oM;rw[zAG (c:=i) hi (fun t ht hne=>by
    rcases Nat.lt_or_ge t i with h|h
    ·rw[ihi t h ht i hi h,Int.mul_zero]
    ·rw[hH.ech.zero t ht i (by show i<t;omega),Int.mul_zero]),hp i hi]at e
   have h2:(X i i-1)*H i i=0:=by rw[Int.sub_mul,Int.one_mul];omega
   rcases Int.mul_eq_zero.1 h2 with h|h<;>omega
  have key:∀b,b<r->i<b->H i b=0/\X b i=0:=by
   intro b;induction b using Nat.strongRecOn with
   | ind b ihb=>
    intro hb hib;have e:=hback2 i oM b oM;rw[hlow i hi b hb hib]at e;have hsplit:qE r (fun t=>X t i*H t b)=X i i*H i b+X b i*H b b:=by
     have g1:qE r (fun t=>X t i*H t b)=qE r (fun t=>(if t=i then X i i*H i b else 0)+(if t=b then X b i*H b b else 0)):=zU fun t ht=>by
      by_cases e1:t=i
      ·rw[if_pos e1,if_neg oM,e1];omega
      ·rw[if_neg e1]
       by_cases e2:t=b
       ·rw[if_pos e2,e2];omega
       ·rw[if_neg e2]
        rcases Nat.lt_or_ge t b with h|h
        ·rcases Nat.lt_or_ge t i with h3|h3
         ·rw[ihi t h3 ht b hb oM,Int.mul_zero];rfl
         ·rw[(ihb t h ht oM).2,Int.zero_mul];rfl
        ·rw[hH.ech.zero t ht b (by show b<t;omega),Int.mul_zero];rfl
     rw[g1,zAb,zAG (c:=i) hi (fun t _ hne=>if_neg hne),zAG (c:=b) hb (fun t _ hne=>if_neg hne),if_pos rfl,if_pos rfl]
    rw[hsplit,hone,Int.one_mul]at e;have hr:0<=H i b/\H i b<H b b:=hH.red i b hib hb trivial;have hX:X b i=0:=by
     rcases Int.lt_trichotomy (X b i) 0 with h|h|h
     ·have:X b i*H b b<=-1*H b b:=Int.mul_le_mul_of_nonneg_right oM oM
      omega
     ·exact h
     ·have:1*H b b<=X b i*H b b:=Int.mul_le_mul_of_nonneg_right oM oM
      omega
    rw[hX,Int.zero_mul]at e;exact⟨by omega,hX⟩
  exact fun b hb hib=>(key b hb hib).1
end Go.Proofs.YtnbmaipobhppcaaGreat
