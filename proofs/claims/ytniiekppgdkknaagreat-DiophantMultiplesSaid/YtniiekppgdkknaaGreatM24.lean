/- Joined. -/
import Derived.Test.YtniiekppgdkknaaGreatM19
import Derived.Test.YtniiekppgdkknaaGreatM20
set_option linter.unusedVariables false
set_option linter.unusedSimpArgs false
set_option linter.unusedSectionVars false
set_option maxHeartbeats 16000000
set_option maxRecDepth 100000
variable{cs:Array Go.Value}{d x y:Int}{bs os xs:List Nat}{B C Cs Ct M M0 R a b base c e g i j k m n q r:Nat}{κ ρ:Nat->Nat}{F:Nat->Nat->Int}{T:Go.TypeId}{A v:Go.Value}{w w':Go.World}
namespace Go.Proofs.YtniiekppgdkknaaGreat
open Go.RowKit
structure zDg(w:World)(base:Nat)(A:Value)(C:Nat)(bs:List Nat)(M:List (List Int)):Prop where
 own:w.ownsRow base tR 1 A bs.length (zA3 C bs)
 len:M.length=bs.length
 row:∀(k:Nat) (b:Nat) (r:List Int),bs[k]?=some b->M[k]?=some r->r.length=C/\yY w b r
 nodup:bs.Nodup
 cb:C<=1099511627776
theorem zDg.rows0{M:List (List Int)}(h:zDg w base A C bs M):yH w 0 A C bs M:=by
 refine⟨⟨h.own.1,?_⟩,h.len,fun k b r d e=>⟨zG _,h.row k b r d e⟩,h.nodup,h.cb⟩;rcases h.own.2 with f|⟨g,a,c,rfl,j,i⟩
 exact .inl f;exact .inr ⟨g,a,c,rfl,zG _,i⟩
theorem zDg.I{M:List (List Int)}(h:zDg w base A C bs M)(a:BWq w w'):zDg w' base A C bs M:=
 ⟨h.own.kept (row:=none) ⟨a.os,a.tape,a.output,a.size,fun k g _=>a.block k g⟩ (by cases i:A.ownBlock<;>simp),h.len,fun k b r e f=>by
  obtain⟨c,d⟩:=h.row k b r e f;exact⟨c,d.I a⟩,h.nodup,h.cb⟩
theorem zDg.nil(w:World)(base C:Nat)(c:C<=1099511627776):zDg w base (.slice none 0 0) C [] []:=⟨⟨rfl,.inl ⟨rfl,rfl⟩⟩,rfl,fun k b r a=>by simp at a,by simp,c⟩
theorem zDg.ownb{M:List (List Int)}(h:zDg w base A C bs M):∀g,A.ownBlock=some g->base<=g/\g<w.heap.size:=zBz h.own
theorem zDg.mono{M:List (List Int)}(h:zDg w base A C bs M)(f:a<=base):zDg w a A C bs M:=by
 refine⟨⟨h.own.1,?_⟩,h.len,h.row,h.nodup,h.cb⟩;rcases h.own.2 with d|⟨g,b,c,rfl,i,e⟩
 exact .inl d;exact .inr ⟨g,b,c,rfl,oM,e⟩
theorem zDg.off{M:List (List Int)}(h:zDg w base A C bs M)(p:Blk w g T cs)(o:¬ T=tI)(v:g<base)(d:∀k,k≠g->w'.heap[k]?=w.heap[k]?)(q:zBC w w'):zDg w' base A C bs M:=by
 refine⟨⟨h.own.1,?_⟩,h.len,fun k b r l m=>?_,h.nodup,h.cb⟩
 .rcases h.own.2 with n|⟨c,f,i,rfl,s,t,u⟩
  .exact .inl n
  exact .inr ⟨c,f,i,rfl,s,(d c oM).trans t,u⟩
 obtain⟨j,a⟩:=h.row k b r l m;exact⟨j,a.old (d b (fun e=>zKX p a o e.symm)) q⟩
theorem zDg.shape{M:List (List Int)}(h:zDg w base A C bs M):∃o n c,A= .slice o n c:=by
 rcases h.own.2 with⟨rfl,-⟩|⟨g,a,b,rfl,-⟩
 exact⟨_,_,_,rfl⟩;exact⟨_,_,_,rfl⟩
theorem zXP{w:World}{ops:Array Oper}{rest:List Oper}{o:Oper}{a:Act}{Q:Exit->Act->World->Prop}(L:o.guard=none)(s x:Operand)
  (P:o.op= .call {callee:=.builtin .append,args:=#[s,x],argTypes:=#[27,27]})
  (base:Nat) (v:Value) (C:Nat) (f:List Nat) (M:List (List Int)) (T:a.eval s=v) (d:zDg w base v C f M) (b c l:Nat) (r:List Int) (m:a.eval x=slq b 1 c)
  (I:Blk w b tR #[slq l C C]) (R:yY w l r) (S:r.length=C) (K:∀g∈f,g≠l)
  (Z:f.length+1<=1099511627776) (J:base<=w.heap.size)
  (h:∀n w',zDg w' base n C (f++ [l]) (M++ [r])->w.grownBy w' v.ownBlock->zBC w w'->wpList Tryz.prog ops Q rest (a.put o.dst n) w'):wpList Tryz.prog ops Q (o::rest) a w:=by
 obtain⟨X,N,U,V,W⟩:=info_parts zCt;have F:=I.cell 0;refine wpList_append_own w L s x 27 P base tR X _ 1 24 Tryz.underlying27 N U V W rfl oM v f.length _ T d.own ⟨b,0,none⟩ 1 c [slq l C C] m rfl ?_ ?_ (by simp[maxLen];omega) oM J ?_
 .intro j u p
  rw[jI];match j with
  |0=>simp at p;subst p;exact F
  |j+1=>simp at p
 .intro u D
  simp at D;subst D;rfl
 intro n w' Y t _;have m:=zCA d.own dE t;have A:∀g q,yY w g q->yY w' g q:=fun g q e=>e.old (t.block g e.lt (zGO d.own e)) m
 refine h n w' ⟨?_,by simp[d.len],?_,?_,d.cb⟩ t m
 .have:zA3 C (f++ [l])=zA3 C f++ [slq l C C]:=by simp[zA3]
  rw[this];simpa using Y
 .intro k g q i e
  rcases zJ k f.length with B|z
  .rw[List.getElem?_append_left B]at i
   rw[List.getElem?_append_left (by rw[d.len];exact B)]at e;obtain⟨G,H⟩:=d.row k g q i e;exact⟨G,A _ _ H⟩
  rw[List.getElem?_append_right z]at i;rw[List.getElem?_append_right (by rw[d.len];exact z),d.len]at e;have O:k-f.length=0:=by
   have:=(xge.1 i).1;simp at this;omega
  rw[O]at i e;simp at i e;subst i;subst e;exact⟨S,A _ _ R⟩
 rw[yI];refine⟨d.nodup,by simp,fun x m y E=>?_⟩;simp at E;subst E;exact K x m
theorem zDV.cell(h:zDV w base v xs){x:Nat}(c:xs[k]?=some x):∃g b,v= .slice (some ⟨g,0,none⟩) xs.length b/\g<w.heap.size/\w.cell? ⟨g,k,none⟩=some (.int .i64 x):=by
 rcases h.2.2 with⟨rfl,f⟩|⟨g,b,e,rfl,l,d,m,j,o,i⟩
 .rw[zY f]at c
  simp at c
 refine⟨g,b,rfl,(Array.getElem?_eq_some_iff.1 d).1,?_⟩;rw[cell_of_row w g k e tNn _ d];have a:(xs.map fun n=>Value.int .i64 (n:Nat))[k]?=some (.int .i64 (x:Nat)):=by simp[c]
 rw[<-i,List.getElem?_take]at a;split at a;simpa using a;cases a
abbrev SlR(b C:Nat):World->Value->Prop:=fun w v=>∃g,v=slq g 1 1/\Blk w g tR #[slq b C C]
theorem zOA(b C:Nat):zAA (SlR b C):=fun _ _ _ x ⟨g,a,c⟩=>⟨g,a,c.I x⟩
theorem zMS(T ov:Value)(n Cs nb ob base:Nat)(c a:List Nat)(F:Nat->Nat->Int)(w:World)(O:Wri w T n Cs c F)(a0:Blk w nb 3 #[.int .i64 n])(a3:Blk w ob 34 #[ov])(M:zDV w base ov a)
  (a4:∀x∈a,x<n) (a1:a.Nodup) (hn:n<=1000000) (d5:Cs<=1000000) (d6:a.length<=n):
  CPq 70 #[T,.int .i64 Cs,.pointer (some ⟨nb,0,none⟩),.pointer (some ⟨ob,0,none⟩)] w fun e w'=>∃v V,e= .returned (.agg #[.int .i64 n,.int .i64 Cs,v])∧
   zDg w' w.heap.size v Cs V (a.map fun i=>qQ Cs (F i))/\(∀b,b∈V->b∈c)/\BWq w w':=by
 have n0:=a0.cell 0;have o0:=a3.cell 0;obtain⟨so,sn,e9,rfl,s1,-⟩:=id (yH.rows O);have u:n=sn:=by rw[<-s1];simp[yV]
 subst u;obtain⟨ao,e8,rfl,-,-,-⟩:=M.at_;have e0:=a0.lt;have e7:=a3.lt;have l:=xgv O;have b2:=xgv M;have G:=xgv a4;have a9:=xgv a1;clear s1 O M a4 a1;go_enter Tryz.func70,Tryz.ntmps70;go_upto_region 2 with(fail)
 refine zE ?_;intro W0 X;obtain⟨I,d,m,c7⟩:=jW X;have o0:=qK o0 I;clear X n0;go_wp2;go_loopw [15] (fun P wr=>∃(k:Nat) (v:Value),P= .int .i64 k/\k<=a.length/\zDg wr (w.heap.size+2) v Cs ((a.take k).map fun i=>c.getD i 0) ((a.take k).map fun i=>qQ Cs (F i))∧
  Blk wr w.heap.size 29 #[.int .i64 0,.int .i64 0,.slice none 0 0]/\Blk wr (w.heap.size+1) 29 #[.int .i64 n,.int .i64 Cs,v]/\BWq w wr) (fun P _=>a.length-(intOf P).toNat)
 case atStart=>exact⟨0,_,rfl,oM,zDg.nil _ _ _ oM,d,m,I⟩
 clear d m I c7;obtain⟨k,uv,rfl,hk,A,d,m,h⟩:=hrel;obtain⟨S,R,Q,rfl⟩:=A.shape;have l7:=m.lt;by_cases Z:k<a.length
 .obtain⟨i,s⟩:∃i,a[k]?=some i:=⟨_,xga Z⟩
  have L:i<n:=G.out i (xgd s);obtain⟨og,oc,eo,lo,q0⟩:=(b2.out.I h).cell s;injection eo with b7 d3 d4
  subst b7;obtain⟨g,p,eg,lg,y,-,o1,-⟩:=yH.at_ (l.out.I h) (i:=i) (by rw[(l.out.I h).len];exact L);subst eg;have c6:=(l.out.I h).rowAt L y;obtain⟨-,-,H,-,-,-⟩:=m.three;have N:∀{d2:Type} (f:Nat->d2),(a.take (k+1)).map f=(a.take k).map f++ [f i]:=fun f=>by
   rw[zAK,List.map_append,s];rfl
  have b3:=xgv (N fun i=>c.getD i 0);have b4:=xgv (N fun i=>qQ Cs (F i));have Y:c.getD i 0=p:=by rw[xgb,y];rfl
  have a2:∀b∈(a.take k).map (fun i=>c.getD i 0),b≠p:=by
   intro b J c0;subst c0;obtain⟨j,z,he⟩:=List.mem_map.1 J;have t:j<c.length:=by rw[l.out.len];exact G.out j (List.mem_of_mem_take z)
   have c3:i<c.length:=by rw[l.out.len];exact L
   have W:c.getD j 0=c[j]:=by rw[xgb,xga t];rfl
   have u:c[i]=b:=(xge.1 y).2;have c4:j=i:=by
    have:=(zAO (h₀:=t) (h₁:=c3) (yH.nodup l.out)).1 (by rw[<-W,u];exact he);exact this
   subst c4;obtain⟨a7,c9,a6⟩:=yL z;rw[List.getElem_take]at a6;have d9:a7<k:=by simp at c9;omega
   have:=(zAO (h₀:=(by omega:a7<a.length)) (h₁:=Z) a9.out).1 (by rw[a6];exact(xge.1 s).2.symm);omega
  have d7:=zOA p Cs;have c1:((a.take k).map fun i=>c.getD i 0).length=k:=by simp;omega
  have b0:=xgv a2;have a8:=xgv Y;clear N a2 Y s y;go_upto_region 5 with(fail)
  refine yD 7 [pcD 6 [] (SlR p Cs)] ?_;refine sRd ?_;refine sRc (fun wS hI Gk hG=>?_) (fun d1 _=>?_)
  .go_simp
   exact⟨hG _ _ ⟨_,rfl,yJ _ _ _⟩,(zB _ _).alloc (xgf _) _⟩
  refine sRe ?_;intro w5 q b9;obtain⟨gs,rfl,c8⟩:SlR p Cs w5 d1:=b9;have B:=A.I q;have U:=m.I q;have b5:=d.I q;have c5:=c6.I q;have b8:=nx h q;have d0:=U.lt;clear o1 H q0;go_wp2_with (at_builtin;refine zXP rfl _ _ rfl (w.heap.size+2) (.slice S R Q) Cs _ _ rfl B gs 1 p _ rfl c8 c5 (zO _ _) b0.out (by rw[c1];omega) oM ?_;intro v' w' a5 K d8;obtain⟨E,D,C,rfl⟩:=a5.shape;have o:=(K.block _ d0 (fun e=>by have:=(B.ownb _ e.symm).1;omega)).trans U;have b6:=(K.block _ oM (fun e=>by have:=(B.ownb _ e.symm).1;omega)).trans b5;obtain⟨f1,f2,H,f4,f5,f6⟩:=Blk.three (t:=29) o)
  go_roundw
  case rel=>
   have o:Blk w' (w.heap.size+1) 29 #[.int .i64 n,.int .i64 Cs,.slice S R Q]:=o;have hX:zDg (w'.setCell ⟨w.heap.size+1,2,none⟩ (.slice E D C)) (w.heap.size+2) (.slice E D C) Cs ((a.take (k+1)).map fun i=>c.getD i 0) ((a.take (k+1)).map fun i=>qQ Cs (F i)):=by
    rw[b3.out,b4.out,a8.out];exact a5.off o dE oM (fun b h=>yO _ _ _ b _ h) (o.lext dE _ _)
   refine⟨k+1,by simp,oM,.slice E D C,by simpa using hX,?_,?_,?_⟩;exact(yO _ _ _ _ _ oM).trans b6
   .have:=o.set_ 2 (.slice E D C)
    simpa using this
   exact yM (b8.grown K oM (fun g hg=>by have:=(B.ownb g hg).1;omega)) oM _ _
  case measure=>exact meq
 obtain rfl:k=a.length:=oM;obtain⟨f1,f2,H,f4,f5,f6⟩:=m.three;obtain⟨W,u,e3,e4,e5,e6⟩:=d.three;have l6:=d.lt;rw[zAG]at A;go_wp2;refine zAy (r:=w.heap.size) rfl rfl rfl (d.put3 _ _ _) ⟨.slice S R Q,_,rfl,(A.off d dE oM (fun b c2=>zBS _ _ b _ _ _ c2) (d.lext3 dE _ _ _)).mono oM,?_,?_⟩
 .intro b J
  obtain⟨j,z,rfl⟩:=List.mem_map.1 J;have t:j<c.length:=by rw[l.out.len];exact G.out j z
  rw[xgb,xga t];exact jE t
 exact yM (yM (yM h oM _ _) oM _ _) oM _ _
def gk:Nat->Nat->Nat
 |0,M=>M
 |k+1,M=>gk k (2*M*M)
theorem zI0(h:1<=M):M<=2*M*M:=zF (show M<=2*M by omega) (qJ _ oM)
theorem zMC:∀(k:Nat) {M:Nat},1<=M->M<=gk k M
 |0,M,_=>xgf _
 |k+1,M,h=>zF (zI0 h) (zMC k (zF h (zI0 h)))
theorem zGF:∀(a b M:Nat),gk (a+b) M=gk b (gk a M)
 |0,b,M=>by rw[jC];rfl
 |a+1,b,M=>by
  have:a+1+b=(a+b)+1:=oM;rw[this];show gk (a+b) _=gk b (gk a _);exact zGF a b _
theorem zH6(k:Nat)(h:1<=M):1<=gk k M:=zF h (zMC k h)
theorem zDj(h:1<=M)(c:a<=b):gk a M<=gk b M:=by
 obtain⟨d,rfl⟩:=Nat.exists_eq_add_of_le c;rw[zGF];exact zMC d (zH6 a h)
theorem zTL:∀(k M:Nat),2*gk k M=(2*M)^(2^k)
 |0,M=>by simp[gk]
 |k+1,M=>by
  show 2*gk k (2*M*M)=_;rw[zTL k,qE 2 k,zP (2^k),zDG (2*M) 2];congr 1;rw[Nat.pow_two,<-zN 2 (2*M) M,zP 2 (2*M),zN (2*M) 2 M]
theorem leB.mono{b:Nat}{x:Bst}(h:leB M n Cs Ct x)(a:M<=b):leB b n Cs Ct x:=⟨h.1.mono a,h.2.1.mono a,h.2.2.mono a⟩
theorem leB.ok{x:Bst}(h:leB M n Cs Ct x)(a:M<B):okB B n Cs Ct x:=⟨h.1.ok a,h.2.1.ok a,h.2.2.ok a⟩
theorem zJ6(a:1<=M)(b:q<=M):M*(1+q)<=2*M*M:=by
 have c:M*q<=M*M:=qA _ b;have d:M*1<=M*M:=qA _ a;rw[jT,zN];omega
theorem zKf{a b:Int}(c:0<b)(f:a.natAbs<=M):(a/b).natAbs<=M:=by
 rcases Int.le_total 0 a with h|h
 .have d:=Int.ediv_nonneg h (Int.le_of_lt c)
  have e:=Int.ediv_le_self b h;omega
 have d:a/b<=0:=Int.ediv_nonpos_of_nonpos_of_neg h c;have e:a<=a/b:=by
  rw[Int.le_ediv_iff_mul_le c];have:a*b<=a*1:=Int.mul_le_mul_of_nonpos_left h oM;omega
 omega
def vw(ρ:Nat->Nat)(F:Nat->Nat->Int):Nat->Nat->Int:=fun a t=>F (ρ a) t
theorem zOV{B:Nat}(v:∀k,k<r->ρ k<n)(G:∀a b,a<b->b<r->ρ a≠ρ b)(hi:i<r):∀(m j:Nat) (x:Bst) (M:Nat),j+m=r->i<j->leB M n Cs Ct x->1<=M->Ech Cs r κ (vw ρ x.s)->
  (∀c,i<c->c<j->0<=x.s (ρ i) (κ c)/\x.s (ρ i) (κ c)<x.s (ρ c) (κ c))->gk m M<B->
  ∃l,zIR B n Cs Ct ρ κ i m j x=some (zDv l x)/\zA2 n l/\leB (gk m M) n Cs Ct (zDv l x)/\Ech Cs r κ (vw ρ (zDv l x).s)/\(∀a,a≠ρ i->∀t,(zDv l x).s a t=x.s a t)∧
   (∀c,i<c->c<r->0<=(zDv l x).s (ρ i) (κ c)/\(zDv l x).s (ρ i) (κ c)<(zDv l x).s (ρ c) (κ c)):=by
 intro m;induction m with
 |zero=>
  intro j x M hj F p g d A P;exact⟨[],rfl,zA2.nil,p,d,fun a _ t=>rfl,fun c h1 E=>A c h1 oM⟩
 | succ m W=>
  intro j x M hj F p g d A P;have o:j<r:=oM;have I:0<x.s (ρ j) (κ j):=d.pos j o;have a1:gk m M<=gk (m+1) M:=zDj g oM;have Q:ρ i≠ρ j:=G i j F o;have U:(0<=x.s (ρ i) (κ j)/\x.s (ρ i) (κ j)<x.s (ρ j) (κ j))->∃l,zIR B n Cs Ct ρ κ i m (j+1) x=some (zDv l x)/\zA2 n l/\leB (gk (m+1) M) n Cs Ct (zDv l x)/\Ech Cs r κ (vw ρ (zDv l x).s)/\(∀a,a≠ρ i->∀t,(zDv l x).s a t=x.s a t)∧
   (∀c,i<c->c<r->0<=(zDv l x).s (ρ i) (κ c)/\(zDv l x).s (ρ i) (κ c)<(zDv l x).s (ρ c) (κ c)):=fun a2=>by
   obtain⟨l,w,D,y,z⟩:=W (j+1) x M oM oM p g d (fun c h1 E=>by
    by_cases e:c=j
    .rw[e];exact a2
    exact A c h1 oM) oM
   exact⟨l,w,D,y.mono a1,z⟩
  unfold zIR;by_cases O:x.s (ρ i) (κ j)=0
  .rw[zC O]
   exact U oM
  rw[zA O,zA oM];by_cases J:x.s (ρ i) (κ j)/x.s (ρ j) (κ j)=0
  .rw[zC J]
   refine U ?_;have h1:=zBn (x.s (ρ i) (κ j)) (x.s (ρ j) (κ j));have E:=zAr (x.s (ρ i) (κ j)) (b:=x.s (ρ j) (κ j)) oM;have h3:=zCI (x.s (ρ i) (κ j)) I;rw[J,zZ]at h1;omega
  rw[zA J];have T:(x.s (ρ i) (κ j)/x.s (ρ j) (κ j)).natAbs<=M:=zKf I (p.1 _ (v i oM) _ (d.lt j o));obtain⟨q,S⟩:∃q,x.s (ρ i) (κ j)/x.s (ρ j) (κ j)=q:=⟨_,rfl⟩;rw[S]at T ⊢
  have Z:=zJ6 g T;have a3:zGu B n Cs Ct x (ρ i) (ρ j) (-q):=zNK p (v i oM) (v j o) Q g (by
   rw[qO];have:2*M*M<=gk (m+1) M:=zMC m (zF g (zI0 g));omega)
  rw[zC a3];have R:(Op.add (ρ i) (ρ j) (-q)).ok n:=⟨v i oM,v j o,Q⟩;have Y:leB (2*M*M) n Cs Ct (zDv [.add (ρ i) (ρ j) (-q)] x):=(zUK p R).mono (by simpa[Op.g]using Z);have u:∀a t,(zDv [.add (ρ i) (ρ j) (-q)] x).s a t=if a=ρ i then x.s (ρ i) t+-q*x.s (ρ j) t else x.s a t:=fun a t=>rfl
  have a0:=zBn (x.s (ρ i) (κ j)) (x.s (ρ j) (κ j));have a4:=zAr (x.s (ρ i) (κ j)) (b:=x.s (ρ j) (κ j)) oM;have a5:=zCI (x.s (ρ i) (κ j)) I;rw[S]at a0;have H:∀a,a<r->a≠i->ρ a≠ρ i:=fun a f e h=>by
   rcases jG e with h1|h1
   exact G a i h1 hi h;exact G i a h1 f h.symm
  have X:Ech Cs r κ (vw ρ (zDv [.add (ρ i) (ρ j) (-q)] x).s):=by
   have V:∀t,t<=κ i->x.s (ρ i) t+-q*x.s (ρ j) t=x.s (ρ i) t:=fun t C=>by
    have K:x.s (ρ j) t=0:=d.zero j o t (by have:=d.inc i j F o;omega);rw[K];omega
   refine⟨d.lt,fun a f=>?_,fun a f t C=>?_,d.inc⟩
   .show 0<(zDv [.add (ρ i) (ρ j) (-q)] x).s (ρ a) (κ a)
    rw[u];by_cases e:a=i
    .rw[e,zC rfl,V _ (xgf _)];exact d.pos i oM
    rw[zA (H a f e)];exact d.pos a f
   show(zDv [.add (ρ i) (ρ j) (-q)] x).s (ρ a) t=0;rw[u];by_cases e:a=i
   .rw[e]at C
    rw[e,zC rfl,V t oM];exact d.zero i oM t C
   rw[zA (H a f e)];exact d.zero a f t C
  obtain⟨l,w,D,y,z,L,N⟩:=W (j+1) (zDv [.add (ρ i) (ρ j) (-q)] x) (2*M*M) oM oM Y (zF g (zI0 g)) X
   (fun c h1 E=>by
    rw[u,u,zC rfl,zA (H c oM oM)];by_cases e:c=j
    .rw[e,yQ,yN q]
     constructor<;>omega
    have K:x.s (ρ j) (κ c)=0:=d.zero j o (κ c) (d.inc c j oM o);rw[K,zZ,jN];exact A c h1 oM) P
  rw[<-zHd]at w y z L N;refine⟨[Op.add (ρ i) (ρ j) (-q)]++l,w,(zA2.cons R zA2.nil).app D,y,z,fun a f t=>?_,N⟩;rw[L a f t,u,zA f]
theorem zOU{B:Nat}(N:∀k,k<r->ρ k<n)(u:∀a b,a<b->b<r->ρ a≠ρ b):∀(i:Nat) (x:Bst) (M:Nat),i<=r->leB M n Cs Ct x->1<=M->Ech Cs r κ (vw ρ x.s)->
  zLt (fun a _=>i<=a) r κ (vw ρ x.s)->gk (zTT r i) M<B->
  ∃l,zK6 B n Cs Ct ρ κ r i x=some (zDv l x)/\zA2 n l/\leB (gk (zTT r i) M) n Cs Ct (zDv l x)/\Ech Cs r κ (vw ρ (zDv l x).s)/\zLt (fun _ _=>True) r κ (vw ρ (zDv l x).s)∧
   (∀a,(∀k,k<r->ρ k≠a)->∀t,(zDv l x).s a t=x.s a t):=by
 intro i;induction i with
 |zero=>
  intro x M K o p m q f;exact⟨[],rfl,zA2.nil,o,m,fun a b h1 c _=>q a b h1 c (zG _),fun a _ t=>rfl⟩
 | succ i O=>
  intro x M K o p m q f;have L:gk (zTT r (i+1)) M=gk (zTT r i) (gk (r-(i+1)) M):=zGF _ _ _;rw[L]at f ⊢
  have v:=zH6 (r-(i+1)) p;have J:gk (r-(i+1)) M<B:=zM (zMC (zTT r i) v) f;obtain⟨d,E,F,G,H,j,I⟩:=zOV (B:=B) (Ct:=Ct) (i:=i) N u oM (r-(i+1)) (i+1) x M oM oM o p m (fun S h1 c=>by omega) J;have w:∀a,a<r->a≠i->ρ a≠ρ i:=fun a g e h=>by
   rcases jG e with h1|h1
   exact u a i h1 oM h;exact u i a h1 g h.symm
  obtain⟨Q,y,P,z,A,C,D⟩:=O (zDv d x) (gk (r-(i+1)) M) oM G v H
   (fun a b h1 c R=>by
    show 0<=(zDv d x).s (ρ a) (κ b)/\(zDv d x).s (ρ a) (κ b)<(zDv d x).s (ρ b) (κ b);by_cases e:a=i
    .rw[e];exact I b oM c
    rw[j _ (w a oM e),j _ (w b c oM)];exact q a b h1 c oM) f
  rw[<-zHd]at y z A C D;refine⟨d++Q,?_,F.app P,z,A,C,fun a g t=>?_⟩
  .unfold zK6
   rw[E,Option.bind_some];exact y
  rw[D a g t,j a (fun e=>g i oM e.symm)]
theorem zNk{a b:Int}(c:a.natAbs<=M)(d:b.natAbs<=M)(e:x.natAbs<=M)(f:y.natAbs<=M):(a*x+b*y).natAbs<=2*M*M:=by
 have g:(a*x).natAbs<=M*M:=by rw[qT];exact qP c e
 have h:(b*y).natAbs<=M*M:=by rw[qT];exact qP d f
 rw[zN];omega
theorem zGo{a b c:Int}(h:leM M n C F)(k:1<=M)(f:i<n)(g:j<n)(l:a.natAbs<=M)(m:b.natAbs<=M)(hc:c.natAbs<=M)(hd:d.natAbs<=M):leM (2*M*M) n C (zAQ F i j a b c d):=by
 intro r o t e;unfold zAQ;split;exact zNk l m (h i f t e) (h j g t e);split;exact zNk hc hd (h i f t e) (h j g t e);exact zF (h r o t e) (zI0 k)
theorem zPz{a b c:Int}{x:Bst}(h:leB M n Cs Ct x)(e:1<=M)(k:i<n)(l:j<n)(f:a.natAbs<=M)(g:b.natAbs<=M)(hc:c.natAbs<=M)(hd:d.natAbs<=M):leB (2*M*M) n Cs Ct (x.mix i j a b c d):=
 ⟨zGo h.1 e k l f g hc hd,zGo h.2.1 e k l f g hc hd,zGo h.2.2 e k l hd (by rw[qO];exact hc) (by rw[qO];exact g) f⟩
theorem zSI{a b c:Int}{x:Bst}(h:leB M n Cs Ct x)(q:1<=M)(k:i<n)(l:j<n)(m:a.natAbs<=M)(o:b.natAbs<=M)(hc:c.natAbs<=M)(hd:d.natAbs<=M)(p:2*M*M<B):zQD B n Cs Ct x i j a b c d:=by
 have w:=zI0 q;have g:∀u v:Int,u.natAbs<=M->v.natAbs<=M->(u*v).natAbs<B:=fun u v r s=>by
  have e:(u*v).natAbs<=M*M:=by rw[qT];exact qP r s
  rw[zN]at p;omega
 exact⟨⟨oM,oM,oM,oM⟩,fun t f=>⟨g _ _ m (h.1 i k t f),g _ _ o (h.1 j l t f),g _ _ hc (h.1 i k t f),g _ _ hd (h.1 j l t f)⟩,
  fun t f=>⟨g _ _ m (h.2.1 i k t f),g _ _ o (h.2.1 j l t f),g _ _ hc (h.2.1 i k t f),g _ _ hd (h.2.1 j l t f)⟩,
  fun t f=>⟨g _ _ hd (h.2.2 i k t f),g _ _ hc (h.2.2 j l t f),g _ _ o (h.2.2 i k t f),g _ _ m (h.2.2 j l t f)⟩,(zPz h q k l m o hc hd).ok p⟩
def zB4(L:List (Nat × Nat))(k:Nat):Nat:=(L.getD k (0,0)).1
def zGe(L:List (Nat × Nat))(k:Nat):Nat:=(L.getD k (0,0)).2
structure JC(n Cs Ct M0:Nat)(x0:Bst)(b g:Nat)(x:Bst)(L:List (Nat × Nat)):Prop where
 ops:∃l,zA2 n l/\x=zDv l x0
 row:∀k,k<L.length->zB4 L k<b
 inj:∀i j,i<j->j<L.length->zB4 L i≠zB4 L j
 len:L.length<=b
 ech:Ech Cs L.length (zGe L) (vw (zB4 L) x.s)
 zero:∀a,a<b->(∀k,k<L.length->zB4 L k≠a)->∀t,t<Cs->x.s a t=0
 bd:leB (gk g M0) n Cs Ct x
def es:Nat->Nat
 |0=>0
 |m+1=>es m+m+m*(m+1)/2
theorem zT7(h:a<=b):es a<=es b:=by
 obtain⟨d,rfl⟩:=Nat.exists_eq_add_of_le h;clear h;induction d with
 |zero=>exact xgf _
 |succ d c=>exact zF c (by show _<=es (a+d)+(a+d)+_;omega)
def esr(r:Nat):Nat->Nat
 |0=>0
 |m+1=>esr r m+min m r+min m r*(min m r+1)/2
theorem zNB(r:Nat):∀m,esr r m<=es m
 |0=>xgf _
 |m+1=>zC8 (zC8 (zNB r m) (zCs m r)) (Nat.div_le_div_right (qP (zCs m r) (Nat.succ_le_succ (zCs m r))))
def RkB(r n Cs:Nat)(x0:Bst):Prop:=∀(l:List Op) (k:Nat) (ρ κ:Nat->Nat),zA2 n l->k<=n->(∀j,j<k->ρ j<n)->(∀i j,i<j->j<k->ρ i≠ρ j)->Ech Cs k κ (vw ρ (zDv l x0).s)->k<=r
theorem RkB.all{x0:Bst}:RkB n n Cs x0:=fun _ _ _ _ _ h _ _ _=>h
theorem JC.rk{x0 x:Bst}{L:List (Nat × Nat)}(h:JC n Cs Ct M0 x0 b g x L)(a:b<=n)(f:RkB r n Cs x0):L.length<=r:=by
 obtain⟨l,c,d⟩:=h.ops;exact f l _ (zB4 L) (zGe L) c (zF h.len a) (fun j e=>zI (h.row j e) a) h.inj (d ▸ h.ech)
def JH(ex:Nat->Nat)(r n Cs Ct M0:Nat)(x0:Bst)(m:Nat)(x:Bst)(L:List (Nat × Nat)):Prop:=
 m<=n/\(∃g,g<=L.length/\(m<n->∀i,i<g->lead Cs x.s m<0∨(zGe L i:Int)<lead Cs x.s m)/\(m=n->g=0)/\JC n Cs Ct M0 x0 m (ex m+g) x L)/\(m=n->zLt (fun _ _=>True) L.length (zGe L) (vw (zB4 L) x.s))
def JH'(ex:Nat->Nat)(r n Cs Ct M0:Nat)(x0:Bst)(m:Nat)(x:Bst)(L:List (Nat × Nat)):Prop:=JC n Cs Ct M0 x0 (m+1) (ex m+min m r) x L
section
variable {ex:Nat->Nat} {B r n Cs Ct M0:Nat} {x0:Bst}
theorem JC.lok{x:Bst}{L:List (Nat × Nat)}(h:JC n Cs Ct M0 x0 b g x L)(c:b<=n):LOk n Cs b x L:=by
 refine⟨fun k a=>⟨h.row k a,zI (h.row k a) c,h.ech.lt k a,?_⟩,h.ech.inc,h.inj,zF h.len c⟩;have:0<x.s (zB4 L k) (zGe L k):=h.ech.pos k a;have e:x.s (L.getD k (0,0)).1 (L.getD k (0,0)).2=x.s (zB4 L k) (zGe L k):=rfl;rw[e];omega
theorem zMR{x y:Bst}{l a:List Op}(b:zA2 n l)(c:x=zDv l x0)(d:zA2 n a)(e:y=zDv a x):∃l,zA2 n l/\y=zDv l x0:=⟨l++a,b.app d,by rw[zHd,<-c];exact e⟩
theorem zKm{x y:Bst}{L:List (Nat × Nat)}(P:m<n)(w:1<=M0)(M:c<Cs)(h:JC n Cs Ct M0 x0 m g x L)(N:e<=k)(f:k<L.length)(hc:zGe L k=c)
  (H:∃l,zA2 n l/\y=zDv l x) (j:∀a,a≠m->a≠zB4 L k->∀t,y.s a t=x.s a t) (G:0<y.s (zB4 L k) c) (I:∀t,t<c->y.s (zB4 L k) t=0) (F:∀t,t<=c->y.s m t=0) (z:leB (gk (ex m+e+1) M0) n Cs Ct y):
  JH ex r n Cs Ct M0 x0 m y L/\(lead Cs y.s m<0∨(c:Int)<lead Cs y.s m):=by
 have A:lead Cs y.s m<0∨(c:Int)<lead Cs y.s m:=by
  rcases zDO Cs y.s m with⟨g,-⟩|⟨o,J,K,v,-⟩
  left;omega;right;rcases zJ c o with h|h
  omega;exact absurd (F o h) v
 have s:∀a,a<L.length->a≠k->zB4 L a≠zB4 L k:=fun a b e p=>by
  rcases jG e with h1|h1
  exact h.inj a k h1 f p;exact h.inj k a h1 b p.symm
 have u:∀a,a<L.length->zB4 L a≠m:=fun a b=>by have:=h.row a b;omega
 obtain⟨l,B,C⟩:=h.ops;obtain⟨Q,D,E⟩:=H;refine⟨⟨oM,⟨k+1,f,fun _ i O=>?_,fun e=>oM,⟨zMR B C D E,h.row,h.inj,h.len,⟨h.ech.lt,fun a b=>?_,fun a b t d=>?_,h.ech.inc⟩,fun a b q t d=>?_,z.mono (zDj w oM)⟩⟩,fun e=>oM⟩,A⟩
 .have:zGe L i<=c:=by
   rcases zJ i k with h1|h1
   have:=h.ech.inc i k h1 f;omega;obtain rfl:i=k:=oM;omega
  omega
 .show 0<y.s (zB4 L a) (zGe L a)
  by_cases e:a=k
  .rw[e,hc];exact G
  rw[j _ (u a b) (s a b e)];exact h.ech.pos a b
 .show y.s (zB4 L a) t=0
  by_cases e:a=k
  .rw[e,hc]at d
   rw[e];exact I t d
  rw[j _ (u a b) (s a b e)];exact h.ech.zero a b t d
 rw[j a oM (fun e=>q k f e.symm)];exact h.zero a b q t d
theorem zR0{x:Bst}{L:List (Nat × Nat)}(i:m<n)(j:1<=M0)(h:JC n Cs Ct M0 x0 m (ex m+e) x L)(A:e<=k)(B:lead Cs x.s m=(c:Int))(b:k<L.length)(hc:zGe L k=c)
  (hd:x.s m c%x.s (zB4 L k) c=0):JH ex r n Cs Ct M0 x0 m (x.add m (zB4 L k) (-(x.s m c/x.s (zB4 L k) c))) L/\(lead Cs (x.add m (zB4 L k) (-(x.s m c/x.s (zB4 L k) c))).s m<0∨(c:Int)<lead Cs (x.add m (zB4 L k) (-(x.s m c/x.s (zB4 L k) c))).s m):=by
 obtain⟨l,-⟩:=zDs B;have I:=h.row k b;have q:∀t,t<c->x.s (zB4 L k) t=0:=fun t f=>h.ech.zero k b t (by rw[hc];exact f)
 have p:0<x.s (zB4 L k) c:=by have:=h.ech.pos k b;rw[hc]at this;exact this
 have C:∀t,t<c->x.s m t=0:=by
  rcases zDO Cs x.s m with⟨g,-⟩|⟨u,E,F,G,w⟩
  omega;obtain rfl:u=c:=oM;exact w
 have z:=zH6 (ex m+e) j;have D:(x.s m c/x.s (zB4 L k) c).natAbs<=gk (ex m+e) M0:=zKf p (h.bd.1 m i c l);have o:(Op.add m (zB4 L k) (-(x.s m c/x.s (zB4 L k) c))).ok n:=⟨i,oM,oM⟩;have d:∀a t,(x.add m (zB4 L k) (-(x.s m c/x.s (zB4 L k) c))).s a t=if a=m then x.s m t+-(x.s m c/x.s (zB4 L k) c)*x.s (zB4 L k) t else x.s a t:=fun a t=>rfl
 refine zKm i j l h A b hc ⟨[_],zA2.cons o zA2.nil,rfl⟩ (fun a y H t=>by rw[d,zA y]) (by rw[d,zA oM];exact p) (fun t f=>by rw[d,zA oM];exact q t f) (fun t f=>?_) ?_
 .rw[d,zC rfl]
  by_cases v:t=c
  .subst v
   have:=zBn (x.s m t) (x.s (zB4 L k) t);rw[yQ,yN (x.s m t/_)];omega
  rw[C t oM,q t oM,zZ];rfl
 refine(zUK h.bd o).mono ?_;rw[zGF (ex m+e) 1];show _<=2*gk (ex m+e) M0*gk (ex m+e) M0;have:(Op.add m (zB4 L k) (-(x.s m c/x.s (zB4 L k) c))).g=1+(x.s m c/x.s (zB4 L k) c).natAbs:=by simp[Op.g]
 rw[this];exact zJ6 z D
theorem zTp(h:0<x){g:Int}(b:g=((Int.gcd x y:Nat):Int)):0<g/\g*(x/g)=x/\g*(y/g)=y/\(x/g).natAbs<=x.natAbs/\(y/g).natAbs<=y.natAbs:=by
 have f:Int.gcd x y≠0:=fun e=>by rw[Int.gcd_eq_zero_iff]at e;omega
 have a:0<g:=oM;have c:g∣x:=by rw[b];exact zBN ..
 have d:g∣y:=by rw[b];exact zAH ..
 exact⟨a,Int.mul_ediv_cancel' c,Int.mul_ediv_cancel' d,zKf a (xgf _),zKf a (xgf _)⟩
def zWB(x:Bst)(r m c:Nat)(s t:Int):Bst:=x.mix r m s t (-(x.s m c/((Int.gcd (x.s r c) (x.s m c):Nat):Int))) (x.s r c/((Int.gcd (x.s r c) (x.s m c):Nat):Int))
def zTR(B n Cs Ct G m c:Nat)(x:Bst)(r:Nat)(s t:Int):Prop:=G<B->zQD B n Cs Ct x r m s t (-(x.s m c/((Int.gcd (x.s r c) (x.s m c):Nat):Int))) (x.s r c/((Int.gcd (x.s r c) (x.s m c):Nat):Int))
theorem zND{x:Bst}{L:List (Nat × Nat)}(b:m<n)(y:1<=M0)(h:JC n Cs Ct M0 x0 m (ex m+e) x L)(U:e<=k)(V:lead Cs x.s m=(c:Int))(d:k<L.length)(hc:zGe L k=c)(s t:Int)
  (S:Bez (x.s (zB4 L k) c) (x.s m c) s t):zTR B n Cs Ct (gk (ex m+e+1) M0) m c x (zB4 L k) s t/\(JH ex r n Cs Ct M0 x0 m (zWB x (zB4 L k) m c s t) L/\(lead Cs (zWB x (zB4 L k) m c s t).s m<0∨(c:Int)<lead Cs (zWB x (zB4 L k) m c s t).s m)):=by
 obtain⟨j,-⟩:=zDs V;have a3:=h.row k d;have D:∀t,t<c->x.s (zB4 L k) t=0:=fun t X=>h.ech.zero k d t (by rw[hc];exact X)
 have W:0<x.s (zB4 L k) c:=by have:=h.ech.pos k d;rw[hc]at this;exact this
 have A:∀t,t<c->x.s m t=0:=by
  rcases zDO Cs x.s m with⟨g,-⟩|⟨I,g1,g2,g3,O⟩
  omega;obtain rfl:I=c:=oM;exact O
 have w:=zH6 (ex m+e) y;have bx:=h.bd.1 (zB4 L k) oM c j;have a0:=h.bd.1 m b c j;obtain⟨i,a1,a2⟩:=S;obtain⟨g,z⟩:∃g:Int,((Int.gcd (x.s (zB4 L k) c) (x.s m c):Nat):Int)=g:=⟨_,rfl⟩;obtain⟨J,p,q,d4,d5⟩:=zTp W z.symm;have E:s.natAbs<=gk (ex m+e) M0:=oM;have F:t.natAbs<=gk (ex m+e) M0:=oM;have G:(-(x.s m c/g)).natAbs<=gk (ex m+e) M0:=by rw[qO];omega
 have H:(x.s (zB4 L k) c/g).natAbs<=gk (ex m+e) M0:=oM;have R:=zPz h.bd w (by omega:zB4 L k<n) b E F G H;unfold zTR zWB;rw[z]at i ⊢
 refine⟨fun v=>zSI h.bd w oM b E F G H (by rw[zGF (ex m+e) 1]at v;exact v),?_⟩;have C:zB4 L k≠m:=oM;have T:s*(x.s (zB4 L k) c/g)-t*(-(x.s m c/g))=1:=by
  have K:g*(s*(x.s (zB4 L k) c/g)-t*(-(x.s m c/g)))=g*1:=by
   rw[zB9,Int.sub_neg,zDz,zBf g s,zBf g t,p,q,i,Int.mul_one]
  exact zAm oM K
 obtain⟨l,Y,Z⟩:=zUS (n:=n) (by omega:zB4 L k<n) b C _ s t (-(x.s m c/g)) (x.s (zB4 L k) c/g) rfl T;have f:∀a u,(x.mix (zB4 L k) m s t (-(x.s m c/g)) (x.s (zB4 L k) c/g)).s a u=if a=zB4 L k then s*x.s (zB4 L k) u+t*x.s m u else if a=m then-(x.s m c/g)*x.s (zB4 L k) u+x.s (zB4 L k) c/g*x.s m u else x.s a u:=fun a u=>rfl
 refine zKm b y j h U d hc ⟨l,Y,Z x⟩ (fun a P Q u=>by rw[f,zA Q,zA P]) (by rw[f,zC rfl,i];exact J) (fun u o=>by rw[f,zC rfl,D u o,A u o];simp) (fun u o=>?_) (by rw[zGF (ex m+e) 1];exact R);rw[f,zA (zL C),zC rfl];by_cases N:u=c
 .subst N
  have M:x.s m u/g*x.s (zB4 L k) u=x.s (zB4 L k) u/g*x.s m u:=by
   have:g*(x.s m u/g*x.s (zB4 L k) u)=g*(x.s (zB4 L k) u/g*x.s m u):=by
    rw[<-zBD,q,<-zBD,p,yN]
   exact zAm oM this
  rw[yQ,M];omega
 rw[A u oM,D u oM];simp
theorem zNa(L:List (Nat × Nat))(f:k<=L.length)(a:Nat):(L.take k++(m,c)::L.drop k).getD a (0,0)=if a<k then L.getD a (0,0)else if a=k then(m,c)else L.getD (a-1) (0,0):=by
 rw[xgb];split
 .rename_i h
  rw[List.getElem?_append_left (by simp;omega),List.getElem?_take_of_lt h,<-xgb]
 rename_i h;rw[List.getElem?_append_right (by simp;omega)];have e:(L.take k).length=k:=by simp;omega
 rw[e];split
 .rename_i b
  rw[b];simp
 rename_i b;obtain⟨d,hd⟩:∃d,a-k=d+1:=⟨a-k-1,oM⟩;rw[hd,List.getElem?_cons_succ,List.getElem?_drop,<-xgb];congr 1;omega
theorem zVb{x:Bst}{L:List (Nat × Nat)}(Z:m<n)(S:1<=M0)(h:JC n Cs Ct M0 x0 m (ex m+e) x L)(he:e<=min m r)(W:lead Cs x.s m=(c:Int))(K:k<=L.length)(M:∀i,i<k->zGe L i<c)(I:∀i,k<=i->i<L.length->c<zGe L i):
  JH' ex r n Cs Ct M0 x0 m (if x.s m c<0 then x.neg m else x) (L.take k++(m,c)::L.drop k):=by
 obtain⟨U,a2⟩:=zDs W;have N:∀t,t<c->x.s m t=0:=by
  rcases zDO Cs x.s m with⟨g,-⟩|⟨P,f,o,l,Q⟩
  omega;obtain rfl:P=c:=oM;exact Q
 obtain⟨A,G,R,B⟩:∃A,zA2 n A/\gro A=1/\(if x.s m c<0 then x.neg m else x)=zDv A x:=by
  by_cases O:x.s m c<0
  .rw[zC O];exact⟨[.neg m],zA2.cons Z zA2.nil,rfl,rfl⟩
  rw[zA O];exact⟨[],zA2.nil,rfl,rfl⟩
 have H:leB (gk (ex m+min m r) M0) n Cs Ct (if x.s m c<0 then x.neg m else x):=by
  rw[B];refine(zUL G h.bd).mono ?_;rw[R,zAp];exact zDj S oM
 obtain⟨y,z⟩:∃y,(if x.s m c<0 then x.neg m else x)=y:=⟨_,rfl⟩;have w:∀a,a≠m->∀t,y.s a t=x.s a t:=fun a p t=>by
  rw[<-z];split
  .show(if a=m then _ else x.s a t)=_
   rw[zA p]
  rfl
 have a0:0<y.s m c:=by
  rw[<-z];split
  .show 0<(if m=m then-(x.s m c)else _)
   rw[zC rfl];omega
  omega
 have hz:∀t,t<c->y.s m t=0:=fun t d=>by
  rw[<-z];split
  .show(if m=m then-(x.s m t)else _)=0
   rw[zC rfl,N t d];rfl
  exact N t d
 rw[z]at B H ⊢
 obtain⟨a3,X,Y⟩:=h.ops;have q:(L.take k++(m,c)::L.drop k).length=L.length+1:=by simp;omega
 have s:∀a,zB4 (L.take k++(m,c)::L.drop k) a=if a<k then zB4 L a else if a=k then m else zB4 L (a-1):=fun a=>by
  unfold zB4;rw[zNa L K];split;rfl;split<;>rfl
 have v:∀a,zGe (L.take k++(m,c)::L.drop k) a=if a<k then zGe L a else if a=k then c else zGe L (a-1):=fun a=>by
  unfold zGe;rw[zNa L K];split;rfl;split<;>rfl
 have u:=h.row;have E:=h.inj;have J:=h.ech.inc;have a1:=h.len;refine⟨zMR X Y G B,fun a p=>?_,fun a b C D=>?_,oM,⟨fun a p=>?_,fun a p=>?_,fun a p t d=>?_,fun a b C D=>?_⟩,fun a p F t d=>?_,H⟩
 .rw[q]at p
  rw[s];split;have:=u a oM;omega;split;omega;have:=u (a-1) oM;omega
 .rw[q]at D
  rw[s a,s b];by_cases f:a<k
  .rw[zC f]
   by_cases o:b<k
   .rw[zC o];exact E a b C oM
   rw[zA o];by_cases l:b=k
   .rw[zC l];have:=u a oM;omega
   rw[zA l];exact E a (b-1) oM oM
  rw[zA f,zA (show ¬ b<k by omega),zA (show ¬ b=k by omega)];by_cases l:a=k
  .rw[zC l];have:=u (b-1) oM;omega
  rw[zA l];exact E (a-1) (b-1) oM oM
 .rw[q]at p
  rw[v];split;exact h.ech.lt a oM;split;exact U;exact h.ech.lt (a-1) oM
 .rw[q]at p
  show 0<y.s (zB4 _ a) (zGe _ a);rw[s,v];split;rw[w _ (by have:=u a oM;omega)];exact h.ech.pos a oM;split;exact a0;rw[w _ (by have:=u (a-1) oM;omega)];exact h.ech.pos (a-1) oM
 .rw[q]at p
  show y.s (zB4 _ a) t=0;rw[v]at d;rw[s];split
  .rename_i f
   rw[zC f]at d;rw[w _ (by have:=u a oM;omega)];exact h.ech.zero a oM t d
  rename_i f;rw[zA f]at d;split
  .rename_i o
   rw[zC o]at d;exact hz t d
  rename_i o;rw[zA o]at d;rw[w _ (by have:=u (a-1) oM;omega)];exact h.ech.zero (a-1) oM t d
 .rw[q]at D
  rw[v a,v b];by_cases f:a<k
  .rw[zC f]
   by_cases o:b<k
   .rw[zC o];exact J a b C oM
   rw[zA o];by_cases l:b=k
   .rw[zC l];exact M a f
   rw[zA l];have i1:=M a f;have i2:=I (b-1) oM oM;omega
  rw[zA f,zA (show ¬ b<k by omega),zA (show ¬ b=k by omega)];by_cases l:a=k
  .rw[zC l];exact I (b-1) oM oM
  rw[zA l];exact J (a-1) (b-1) oM oM
 have T:a≠m:=fun e=>F k (by rw[q];omega) (by rw[s,zA oM,zC rfl];exact e.symm)
 rw[w a T];refine h.zero a oM (fun j hj=>?_) t d;by_cases V:j<k
 .have:=F j (by rw[q];omega)
  rw[s,zC V]at this;exact this
 have:=F (j+1) (by rw[q];omega);rw[s,zA oM,zA oM]at this;exact this
theorem zSb:∀m,m<6->∀r,r<=m+1->zTT r r<=m*(m+1)/2:=by decide
theorem zT2{p:Nat}(hn:n<=6)(v:1<=M0)(W:gk (ex n) M0<B)(F:RkB r n Cs x0)(P:∀m,p<=m->m<n->ex m+min m r+min m r*(min m r+1)/2<=ex (m+1)):
  zUz B n Cs Ct (fun m x L=>p<=m/\JH ex r n Cs Ct M0 x0 m x L) (fun m x L=>p<=m/\JH' ex r n Cs Ct M0 x0 m x L):=by
 have E:∀a,a<=ex n->gk a M0<B:=fun a G=>zM (zDj v G) W
 have a1:∀d m,p<=m->m+d=n->ex m<=ex n:=fun d=>by
  induction d with
  |zero=>
   intro m _ h;rw[show m=n by omega];exact xgf _
  |succ d ih=>
   intro m l h;have:=P m l oM;have:=ih (m+1) oM oM;omega
 have H:∀m,p<=m->m<n->ex m+min m r+min m r*(min m r+1)/2<=ex n:=fun m l j=>zF (P m l j) (a1 (n-(m+1)) (m+1) oM oM)
 refine⟨fun m x L h=>?_,fun m x L j h=>?_,fun m x L j h w=>?_,fun m x L k c j h w q D=>?_,fun m x L k c j h w q Z Y=>?_,fun m x L j h=>?_⟩
 .obtain⟨l,u,⟨g,A,-,M,z⟩,-⟩:=h
  refine⟨z.bd.ok (E _ ?_),z.lok u⟩;rcases zJ m n with j|j
  .have:=H m l j
   have:=z.len;have:=z.rk u F;omega
  obtain rfl:m=n:=oM;rw[M rfl];exact xgf _
 .obtain⟨l,h⟩:=h
  exact⟨h.bd.ok (E _ (by have:=H m l j;omega)),h.lok oM⟩
 .obtain⟨l,u,⟨g,A,-,-,f⟩,-⟩:=h
  refine⟨l,f.ops,fun k q=>Nat.lt_succ_of_lt (f.row k q),f.inj,Nat.le_succ_of_le f.len,f.ech,fun a G I t J=>?_,f.bd.mono (zDj v ?_)⟩
  .by_cases e:a=m
   .rw[e];exact zJw w t J
   exact f.zero a oM I t J
  have:=f.len;have:=f.rk u F;omega
 .obtain⟨l,u,⟨g,A,K,-,f⟩,-⟩:=h
  obtain⟨X,-⟩:=zDs w;have Q:g<=k:=by
   refine Nat.le_of_not_lt fun a0=>?_
   have:=K j k a0;rw[w,show zGe L k=c from D]at this;omega
  have O:ex m+g+1<=ex n:=by
   have:=H m l j;have:=f.len;have:=f.rk u F;have:g+1<=min m r:=oM;omega
  refine⟨fun hd=>?_,fun s t N=>?_,fun y hy=>?_⟩
  .have l:0<x.s (zB4 L k) c:=by
    have:=f.ech.pos k q;rw[show zGe L k=c from D]at this;exact this
   have S:=zH6 (ex m+g) v;have a3:=f.row k q;have hq:(x.s m c/x.s (zB4 L k) c).natAbs<=gk (ex m+g) M0:=zKf l (f.bd.1 m j c X);refine zNK f.bd j (show zB4 L k<n by omega) (show m≠zB4 L k by omega) S ?_;rw[qO];have T:=zJ6 S hq;have R:=E (ex m+g+1) O;rw[zGF (ex m+g) 1]at R;exact zM T R
  exact(zND (r:=r) (B:=B) j v f Q w q D s t N).1 (E _ O);cases hy with
  |add hd=>
   have C:=zR0 (r:=r) j v f Q w q D hd;exact⟨⟨l,C.1⟩,C.2⟩
  |mix s t hd N=>
   have C:=(zND (r:=r) (B:=B) j v f Q w q D s t N).2;exact⟨⟨l,C.1⟩,C.2⟩
 .obtain⟨l,u,⟨g,A,-,-,f⟩,-⟩:=h
  refine⟨l,?_⟩;exact zVb j v f (by have:=f.len;have:=f.rk u F;omega) w q Z Y
 obtain⟨l,h⟩:=h;have o:JC n Cs Ct M0 x0 (m+1) (ex m+min m r) x L:=h;have hr:zTT L.length L.length<=min m r*(min m r+1)/2:=zSb (min m r) oM L.length (by have:=o.len;have:=o.rk j F;omega);have O:=H m l j;obtain⟨a2,A,K,M,z,U,V⟩:=zOU (B:=B) (Ct:=Ct) (ρ:=zB4 L) (κ:=zGe L) (fun k q=>zI (o.row k q) oM) o.inj L.length x (gk (ex m+min m r) M0) (xgf _) o.bd (zH6 _ v) o.ech
  (fun a b u f h3=>by omega) (by rw[<-zGF];exact E _ oM)
 obtain⟨l',k1,k2⟩:=o.ops;refine⟨zDv a2 x,A,oM,oM,⟨0,zG _,fun _ i hi=>oM,fun _=>rfl,⟨zMR k1 k2 K rfl,o.row,o.inj,o.len,z,fun a G I t J=>?_,?_⟩⟩,fun _=>U⟩
 .rw[V a I]
  exact o.zero a G I t J
 refine M.mono ?_;rw[<-zGF];refine zDj v ?_;have:=P m l j;omega
theorem zT1(u:n<=6)(o:1<=M0)(l:gk (esr r n) M0<B)(v:RkB r n Cs x0):zUz B n Cs Ct (JH (esr r) r n Cs Ct M0 x0) (JH' (esr r) r n Cs Ct M0 x0):=by
 have h:=zT2 (p:=0) (Ct:=Ct) (ex:=esr r) u o l v fun m _ _=>xgf _
 exact⟨fun m x L k=>h.ok m x L ⟨zG _,k⟩,fun m x L a k=>h.ok' m x L a ⟨zG _,k⟩,fun m x L a k b=>(h.zero m x L a ⟨zG _,k⟩ b).2,fun m x L k c a g b f q=>by
  obtain⟨d,e,i⟩:=h.join m x L k c a ⟨zG _,g⟩ b f q;exact⟨d,e,fun y j=>⟨(i y j).1.2,(i y j).2⟩⟩,fun m x L k c a g b f t s=>(h.ins m x L k c a ⟨zG _,g⟩ b f t s).2,fun m x L a g=>by
  obtain⟨y,d,e⟩:=h.red m x L a ⟨zG _,g⟩;exact⟨y,d,e.2⟩⟩
theorem JH.fin{x:Bst}{L:List (Nat × Nat)}(h:JH ex r n Cs Ct M0 x0 n x L):JC n Cs Ct M0 x0 n (ex n) x L/\zLt (fun _ _=>True) L.length (zGe L) (vw (zB4 L) x.s):=by
 obtain⟨-,⟨g,-,-,b,a⟩,c⟩:=h;rw[b rfl]at a;exact⟨a,c rfl⟩
theorem zRz(h:leB M0 n Cs Ct x0)(d:1<=M0):JH (esr r) r n Cs Ct M0 x0 0 x0 []:=
 ⟨zG _,⟨0,zG _,fun _ i g=>oM,fun _=>rfl,⟨⟨[],zA2.nil,rfl⟩,fun k b=>by simp at b,fun i j _ c=>by simp at c,xgf _,⟨fun k b=>by simp at b,fun k b=>by simp at b,fun k b=>by simp at b,fun k l _ e=>by simp at e⟩,fun a f=>oM,h.mono (zMC _ d)⟩⟩,fun _ i j _ c=>by simp at c⟩
end
def zWK(t:TypeId)(n0:Nat)(cs:Array Value):World->Value->Prop:=fun w v=>∃b,v=ptq b 0/\n0<=b/\Blk w b t cs
theorem zMG(t:TypeId)(n0:Nat)(cs:Array Value):zAA (zWK t n0 cs):=fun _ _ _ e ⟨b,a,c,d⟩=>⟨b,a,c,d.I e⟩
abbrev tHe:TypeId:=78
def SlP(R:Nat):World->Value->Prop:=fun _ v=>∃o c,v= .slice o R c
theorem zN9(R:Nat):zAA (SlP R):=fun _ _ _ _ h=>h
theorem Blk.neT{c:TypeId}{d:Array Value}(h:Blk w a T cs)(k:Blk w b c d)(i:T≠c):a≠b:=by
 intro e;subst e;have g:w.heap[a]?=some (.cells cs T (0,0)):=h;have f:w.heap[a]?=some (.cells d c (0,0)):=k;rw[g]at f;injection f with l
 injection l with _ j
 exact i j
theorem zU3{b:List AS}(h:(b.all fun a=>!(a.op==k))=true):∀a∈b,a.op≠k:=fun a c e=>by
 have:=zW.1 h a c;simp[e]at this
theorem Wri.nzb(h:Wri w A R C bs F){e:Nat}(k:Blk w e T cs)(i:T≠tR)(j:T≠tI):¬ Zn A bs e:=by
 intro c;have f:w.heap[e]?=some (.cells cs T (0,0)):=k;rcases c with b|b
 .obtain⟨r,m,a,-⟩:=h.blk b
  rw[f]at a;injection a with a
  injection a with _ d
  exact j d
 rcases(yH.own h).2 with⟨rfl,-⟩|⟨g,l,n,rfl,-,c,-⟩
 cases b;simp only[Value.ownBlock,Option.some.injEq]at b;subst b;rw[f]at c;injection c with a
 injection a with _ d
 exact i d
theorem zEg:∀(l m:List Nat),l.Nodup->(∀x∈l,x∈m)->l.length<=m.length
 | [],m,_,_=>zG _
 |a::l,m,h,c=>by
  have b:=c a (zAP ..);obtain⟨f,g⟩:=zCr.1 h;have i:=zEg l (m.erase a) g (fun x d=>(List.mem_erase_of_ne (fun e=>by subst e;exact f d)).2 (c x (qG _ d)));rw[List.length_erase_of_mem b]at i;have:=List.length_pos_of_mem b;simp only[List.length_cons];omega
def zKK(n C:Nat)(F:Nat->Nat->Int)(L:List (Nat × Nat)):List Nat:=L.map (·.1)++(List.range n).filter fun i=>decide (lead C F i<0)
theorem zOI{x:Bst}{L:List (Nat × Nat)}(h:LOk n C m x L):(L.map (·.1)).Nodup:=by
 rw[List.nodup_iff_pairwise_ne,List.pairwise_iff_getElem];intro i j b a c;simp only[List.length_map]at b a;have:=h.inj i j c a;rw[xgb,xgb,xga b,xga a]at this;simpa using this
theorem zSC{L:List (Nat × Nat)}(h:a∈L.map (·.1)):∃k,k<L.length/\(L.getD k (0,0)).1=a:=by
 obtain⟨p,c,rfl⟩:=List.mem_map.1 h;obtain⟨k,b,e⟩:=yL c;exact⟨k,b,by rw[xgb,xga b,e];rfl⟩
theorem zK9{x:Bst}{L:List (Nat × Nat)}(h:LOk n C m x L)(e:a∈L.map (·.1)):a<n/\¬ lead C x.s a<0:=by
 obtain⟨k,f,rfl⟩:=zSC e;obtain⟨-,b,c,d⟩:=h.mem k f;exact⟨b,fun g=>d (zJw g _ c)⟩
theorem zJ7{x:Bst}{L:List (Nat × Nat)}(h:LOk n C m x L):∀a∈zKK n C x.s L,a<n:=by
 intro a ha;rcases List.mem_append.1 ha with ha|ha
 exact(zK9 h ha).1;simp only[List.mem_filter,List.mem_range]at ha;exact ha.1
theorem zGv{x:Bst}{L:List (Nat × Nat)}(h:LOk n C m x L):(zKK n C x.s L).Nodup:=by
 unfold zKK;rw[yI];refine⟨zOI h,List.Nodup.sublist List.filter_sublist List.nodup_range,fun a d b c e=>?_⟩;subst e;simp only[List.mem_filter,decide_eq_true_eq]at c;exact(zK9 h d).2 c.2
theorem zSN{x:Bst}{L:List (Nat × Nat)}(h:LOk n C m x L)(i:∀a,a<n->(∀k,k<L.length->(L.getD k (0,0)).1≠a)->lead C x.s a<0):(zKK n C x.s L).length=n:=by
 have f:=zEg _ (List.range n) (zGv h) (fun a b=>yR.2 (zJ7 h a b));have g:=zEg (List.range n) (zKK n C x.s L) List.nodup_range (fun a b=>by
  have b:=yR.1 b;by_cases d:a∈L.map (·.1)
  .exact List.mem_append.2 (.inl d)
  refine List.mem_append.2 (.inr ?_);simp only[List.mem_filter,List.mem_range,decide_eq_true_eq];refine⟨b,i a b fun k c e=>d ?_⟩;rw[<-e,xgb,xga c];exact List.mem_map.2 ⟨_,jE c,rfl⟩)
 simp only[List.length_range]at f g;omega
theorem StP.mono{lo e:Nat}(h:StP lo R C F w v)(d:e<=lo):StP e R C F w v:=by
 obtain⟨g,a,b,c,i,f,n,⟨bs,j,k⟩,l,m⟩:=h;exact⟨g,a,b,c,i,zF d f,n,⟨bs,j,fun b o=>zF d (k b o)⟩,l,m⟩
theorem zH4{T:Array Value}{d:Value}(h:i≠j):(T.setIfInBounds i v).getD j d=T.getD j d:=by
 rw[zAC,zAC,xgc h]
theorem zM2{T:Array Value}{d:Value}(h:T[i]?=some v):T.getD i d=v:=by
 rw[zAC,h];rfl
theorem zXd{vs:List VS}(h:(vs.all fun a=>!(a.op==k))=true):∀a∈vs,a.op≠k:=fun a b e=>by
 have:=zW.1 h a b;simp[e]at this
theorem zXW{vs:List MS}(h:(vs.all fun a=>!(a.op==k))=true):∀a∈vs,a.op≠k:=fun a b e=>by
 have:=zW.1 h a b;simp[e]at this
theorem jB.ofB(h:Below B w w')(c:zBC w w'):jB (fun b=>B<=b) w w':=⟨h.mono (zG _),c,fun k _ a=>h.block k (Nat.lt_of_not_le a)⟩
theorem zDV.type(h:zDV w base v xs):∀g,v.ownBlock=some g->∃cs,Blk w g tNn cs:=by
 intro g a;rcases h.2.2 with⟨rfl,-⟩|⟨e,c,d,rfl,-,b,-⟩
 cases a;simp only[Value.ownBlock,Option.some.injEq]at a;subst a;exact⟨_,b⟩
theorem zDV.ne(h:zDV w base v xs)(d:Blk w b T cs)(c:T≠tNn):v.ownBlock≠some b:=by
 intro e;obtain⟨f,a⟩:=h.type b e;exact Blk.neT d a c rfl
theorem zDV.far(h:zDV w base v xs)(l:Blk w b T cs)(k:T≠tNn)(i:Nat)(u:Value):zDV (w.setCell ⟨b,i,none⟩ u) base v xs:=by
 obtain⟨f,j,a⟩:=id h;refine⟨f,j,?_⟩;rcases a with a|⟨g,c,d,rfl,m,n,o⟩
 exact .inl a;exact .inr ⟨g,c,d,rfl,m,(yO _ _ _ _ _ (fun e=>h.ne l k (by simp[Value.ownBlock,e]))).trans n,o⟩
def zTF(R C:Nat)(M:List (List Int)):World->Value->Prop:=fun w v=>∃o c,v= .agg #[niq R,niq C,.slice o R c]/\zBl w (.slice o R c) M
theorem zEc(R C:Nat)(M:List (List Int)):zAA (zTF R C M):=fun _ _ _ x ⟨o,c,a,b⟩=>⟨o,c,a,b.I x⟩
theorem zBl.slice{M:List (List Int)}(h:zBl w v M):∃o c,v= .slice o M.length c:=by
 obtain⟨a,n,b,d,e,-⟩:=h;exact⟨a,b,by rw[d,e]⟩
theorem zF2(b h:Value)(n Cs f g base:Nat)(j a:List Nat)(F:Nat->Nat->Int)(w:World)(A:Wri w b n Cs j F)(s:Blk w f 3 #[niq n])(u:Blk w g 34 #[h])(z:zDV w base h a)
  (y:∀x∈a,x<n) (t:a.Nodup) (r:n<=1000000) (m:Cs<=1000000) (q:a.length=n):
  CPq 70 #[b,niq Cs,ptq f 0,ptq g 0] w fun e w'=>∃v,e= .returned v/\zTF n Cs (a.map fun i=>qQ Cs (F i)) w' v/\BWq w w':=by
 refine(zMS b h n Cs f g base j a F w A s u z y t r m oM).mono ?_;rintro e w' ⟨v,B,rfl,k,-,l⟩;have d:=yH.rows k.rows0;obtain⟨o,c,rfl⟩:=zBl.slice d;have p:(a.map fun i=>qQ Cs (F i)).length=n:=by simp[q]
 rw[p]at d ⊢
 exact⟨_,rfl,⟨o,c,rfl,d⟩,l⟩
structure zLp(w:World)(f:Value)(R C:Nat)(H U V:List (List Int)):Prop where
 ex:∃h u v,f= .agg #[niq R,niq C,h,niq R,niq R,u,niq R,niq R,v]/\zBl w h H/\zBl w u U/\zBl w v V
def zTe(R C:Nat)(H U V:List (List Int)):World->Value->Prop:=fun w f=>∃ho hc uo uc vo vc,f= .agg #[niq R,niq C,.slice ho R hc,niq R,niq R,.slice uo R uc,niq R,niq R,.slice vo R vc]/\zBl w (.slice ho R hc) H/\zBl w (.slice uo R uc) U/\zBl w (.slice vo R vc) V
theorem zKo(R C:Nat)(H U V:List (List Int)):zAA (zTe R C H U V):=fun _ _ _ x ⟨a,b,c,d,e,f,g,h,i,j⟩=>⟨a,b,c,d,e,f,g,h.I x,i.I x,j.I x⟩
theorem Tryz.sizeHe:(Tryz.prog.info? tHe).map (·.size)=some 9:=by kernel_rfl
theorem zT4(c:a<os.length)(e:b<C):ent (os.map fun i=>qQ C (F i)) a b=F (os.getD a 0) b:=by
 have d:(os.map fun i=>qQ C (F i))[a]?=some (qQ C (F (os.getD a 0))):=by
  rw[List.getElem?_map,xga c,Option.map_some,xgb,xga c];rfl
 exact zDL d (qU e)
theorem zRf(h:os.length=n):zBe n C (os.map fun i=>qQ C (F i)):=by
 refine⟨by simp[h],fun r a=>?_⟩;obtain⟨i,-,rfl⟩:=List.mem_map.1 a;exact zO _ _
theorem zOs(s:BSm B)(h:zTF n n (os.map fun i=>qQ n (F i)) w v)(u:os.length=n)(y:∀x∈os,x<n)(A:okF B n n F)(m:n<=1000000):
  CPq 71 #[v] w fun e w'=>∃v,e= .returned v/\zTF n n (yV n n fun a b=>F (os.getD b 0) a) w' v/\BWq w w':=by
 obtain⟨o,c,rfl,d⟩:=h;refine(zFi _ n n _ w ⟨_,rfl,d⟩ (zRf u) m m ?_).mono ?_
 .intro r d z D
  obtain⟨i,l,rfl⟩:=List.mem_map.1 d;obtain⟨j,g,e⟩:=yL D;rw[zO]at g;have k:=qU (f:=F i) g;rw[xga (by rw[zO];exact g),e]at k;injection k with k
  rw[k];exact s.sm _ (A i (y i l) j g)
 intro e w' d;have C:yV n n (fun a b=>ent (os.map fun i=>qQ n (F i)) b a)=yV n n (fun a b=>F (os.getD b 0) a):=zAE fun i l j g=>zT4 oM l
 rw[C]at d;obtain⟨v,rfl,⟨o,c,bs,p,q,E⟩,t⟩:=zDW.within d;exact⟨v,rfl,⟨o,c,p,yH.rows q⟩,t⟩
theorem zNP(k:Nat):((List.range (k+1)).filter fun i=>decide (lead C F i<0))=((List.range k).filter fun i=>decide (lead C F i<0))++(if lead C F k<0 then [k]else []):=by
 rw[List.range_succ,List.filter_append];congr 1;by_cases h:lead C F k<0
 .rw[zC h];simp[h]
 rw[zA h];simp[h]
theorem zPq(hB:BSd B)(v:Value)(M:List (List Int))(R C:Nat)(w:World)(h:zAo w v R C M)(hF:zBe R C M)(P:R<=1000000)(hC:C<=1000000)(o5:okF B R C (ent M))(s1:Sm 1){d8 J':Nat->Bst->List (Nat × Nat)->Prop}(hE:zUz B R C R d8 J')(O:d8 0 ⟨ent M,idf,idf⟩ [])
  (n5:∀y L,d8 R y L->∀a,a<R->(∀k,k<L.length->(L.getD k (0,0)).1≠a)->lead C y.s a<0):
  CPq 36 #[v] w fun e w'=>∃v y L,e= .returned v/\d8 R y L/\(zKK R C y.s L).length=R/\zLp w' v R C ((zKK R C y.s L).map fun i=>qQ C (y.s i)) ((zKK R C y.s L).map fun i=>qQ R (y.t i)) (yV R R fun a b=>y.i ((zKK R C y.s L).getD b 0) a)/\BWq w w':=by
 have Y:=h;obtain⟨A,rfl,h⟩:=h;obtain⟨ao,n,A2,rfl,X,e3,e4,-⟩:=id h;obtain rfl:R=n:=by rw[<-X,hF.1]
 have n4:decide (zAq R C M)=true:=zT hF.valid;have HF:=xgv hF;have s8:=xgv o5;have H0:=xgv Y;have S1:=xgv s1;have HE:=xgv hE;have HJ:=xgv O;have s6:=xgv n5;clear o5 Y hF X s1 hE O n5;go_enter Tryz.func36,Tryz.ntmps36;go_upto_region 1 with(fail)
 refine zE ?_;intro W0 m7;obtain⟨l9,l,d,A9⟩:=jW m7;obtain⟨p,s,c3,c4,c5,c6⟩:=l.three;clear m7;go_wp2_with fail
 refine(zBM _ R C M W0 (H0.out.I l9)).mono ?_;rintro e w1 ⟨rfl,e5⟩;rw[n4];have l:=l.I e5;have d:=d.I e5;have m0:=nx l9 e5;have B0:=e5.size;clear p s c3 c4 c5 c6 n4;obtain⟨p,s,c3,c4,c5,c6⟩:=l.three;have h9:=zI6 w1.heap.size R C (ent M);have n7:=zMG 3 w1.heap.size #[.int .i64 0];go_upto_region 3 with(fail)
 refine yD 5 [pcD 3 [] (StP w1.heap.size R C (ent M)),pcD 4 [] (zWK 3 w1.heap.size #[.int .i64 0])] ?_;refine sRd ?_;refine sRc (fun u hI Gk G=>?_) (fun x7 _=>?_)
 .go_simp
  refine(zQx hB.bsm _ M R C _ ((H0.out.I m0).I hI.bel).off HF.out P hC s8.out S1.out).mono ?_;rintro e wa ⟨v,rfl,hv,d0⟩;exact⟨_,rfl,G _ _ (hv.mono hI.bel.size),d0⟩
 refine sRc (fun u hI Gk G=>?_) (fun x8 _=>?_)
 .go_simp
  exact⟨G _ _ ⟨_,rfl,hI.bel.size,yJ _ _ _⟩,(zB _ _).alloc (xgf _) _⟩
 refine sRe ?_;intro w2 e6 v2 v3;obtain⟨o,Ah,Au,Av,rfl,q1,Q,q3,-,-⟩:StP w1.heap.size R C (ent M) w2 x7:=v2;obtain⟨V,rfl,q4,f⟩:zWK 3 w1.heap.size #[.int .i64 0] w2 x8:=v3;obtain⟨a9,b0,w6⟩:=q3;obtain⟨n1,n2⟩:w2.cell? ⟨V,0,none⟩=some (.int .i64 0)/\w2.frozen? ⟨V,0,none⟩=false:=⟨f.cell 0,f.frozen 0⟩;have i0:V≠o:=Blk.neT f Q dE;have g9:=nx m0 e6;have d:=d.I e6;have l:=l.I e6;have p0:=e6.size;clear p s c3 c4 c5 c6 h9 n7;go_upto_region 4 with(fail)
 refine zE ?_;intro W2 d9;have b4:jB (fun b=>b=V) w2 W2:=by rw[d9.out];exact⟨yM (zB _ _) (zG _) _ _,f.lext dE _ _,fun b _ hb=>yO _ _ _ _ _ hb⟩
 have g9:BWq w W2:=by rw[d9.out];exact yM g9 oM _ _
 have b0:=b0.keepZ b4 (by rintro b hb rfl;exact b0.nzb f dE dE hb);have Q:=b4.blk Q (zL i0);have d:=b4.blk d oM;have l:=b4.blk l oM;have f:Blk W2 V 3 #[.int .i64 R]:=by rw[d9.out];simpa using f.set_ 0 (.int .i64 R)
 have p0:=zF p0 b4.bel.size;have n1:=f.cell 0;have h9:=zN9 R;have p6:∀b,Zn Ah a9 b->b<W2.heap.size:=fun b hb=>b0.zlt hb
 have l1:=xgv b0;have g7:=xgv p6;have A8:=Q.lt;obtain⟨U,S,rfl⟩:=b0.shape;clear d9 b4 n2 b0 p6;refine zBF 11 rfl (RXS W2 _ [⟨0,17,fun _ v=>v= .pointer (some ⟨o,0,none⟩)⟩,⟨1,18,fun _ v=>v= .pointer (some ⟨o,0,none⟩)⟩,⟨2,19,fun _ v=>v= .int .i64 R⟩,⟨4,21,SlP R⟩,⟨5,22,fun _ v=>v= .int .i64 R⟩,⟨7,24,SlP R⟩,⟨8,25,fun _ v=>v= .pointer (some ⟨o,0,none⟩)⟩,⟨9,26,fun _ v=>v= .pointer (some ⟨o,1,none⟩)⟩] [⟨3,20,R,R,idf⟩,⟨6,23,R,R,idf⟩] [⟨4,21,⟨3,20,R,R,idf⟩⟩,⟨7,24,⟨6,23,R,R,idf⟩⟩] 10 (fun T w=>w.setCell ⟨o,1,none⟩ (T.getD 21 undef))) kR (RXS.start (RX.start kR (by repeat' (first|exact zBU _|exact zBs _|assumption|refine xgm.2 ⟨?_,?_⟩|exact xgn _)) (by
   refine xgm.2 ⟨⟨mm0,_,mm3,rfl,rfl⟩,xgm.2 ⟨⟨mm1,_,mm5,rfl,rfl⟩,xgn _⟩⟩))) ?finX ?stepsX
 case stepsX=>
  refine⟨?_,?_,?_,?_,?_,?_,?_,?_,?_,?_,?_,trivial⟩
  .refine zV.liftX kR dE ?_
   intro L T u m hd I hI K hK;try refine zD rfl ?_
   have zt:T[4]?=some (.pointer (some ⟨o,0,none⟩)):=hI.g.keep 4 sI sI;go_simp;exact hK _ _ (hI.y mm0 rfl (zU3 kR))
  .intro L T u m hd I hI K hK
   try refine zD rfl ?_
   have zt:T[4]?=some (.pointer (some ⟨o,0,none⟩)):=by
    obtain⟨w0,Y,-,-⟩:=hI;exact Y.g.keep 4 sI sI
   go_simp;exact hK _ _ (hI.step (fun w0 Y=>Y.y mm1 rfl (zU3 kR)) dE (fun w=>by rw[zH4 dE]))
  .refine zV.liftX kR dE ?_
   intro L T u m hd I hI K hK;try refine zD rfl ?_
   have zt:T[3]?=some (.pointer (some ⟨V,0,none⟩)):=hI.g.keep 3 sI sI;have t7:=hI.g.cell n1;go_simp;exact hK _ _ (hI.y mm2 rfl (zU3 kR))
  .refine zV.liftX kR dE ?_
   intro L T u m hd I hI K hK;try refine zD rfl ?_
   obtain⟨_,C6,rfl⟩:=hI.g.val _ mm2 (hd 2);go_simp;refine(zJC R _ P).mono ?_;rintro e wa ⟨v,rfl,hv,d0⟩;exact hK _ _ (hI.mat I m ⟨3,20,_,_,_⟩ mm0 rfl d0 hv kR)
  .refine zV.liftX kR dE ?_
   intro L T u m hd I hI K hK;try refine zD rfl ?_
   obtain⟨_,A0,a7,c,rfl⟩:=hI.g.matv ⟨3,20,R,R,idf⟩ mm0 (hd 3);go_simp;exact hK _ _ (hI.alias ⟨4,21,⟨3,20,R,R,idf⟩⟩ mm0 ⟨4,21,SlP R⟩ mm3 rfl rfl ⟨a7,c,rfl⟩ (hd 3) (by
    refine xgm.2 ⟨fun _=>rfl,xgm.2 ⟨fun e=>absurd e (by dsimp only;omega),xgn _⟩⟩) A0 rfl)
  .refine zV.liftX kR dE ?_
   intro L T u m hd I hI K hK;try refine zD rfl ?_
   have zt:T[3]?=some (.pointer (some ⟨V,0,none⟩)):=hI.g.keep 3 sI sI;have t7:=hI.g.cell n1;go_simp;exact hK _ _ (hI.y mm4 rfl (zU3 kR))
  .refine zV.liftX kR dE ?_
   intro L T u m hd I hI K hK;try refine zD rfl ?_
   obtain⟨_,C7,rfl⟩:=hI.g.val _ mm4 (hd 5);go_simp;refine(zJC R _ P).mono ?_;rintro e wa ⟨v,rfl,hv,d0⟩;exact hK _ _ (hI.mat I m ⟨6,23,_,_,_⟩ mm1 rfl d0 hv kR)
  .intro L T u m hd I hI K hK
   try refine zD rfl ?_
   obtain⟨a7,c,i8⟩:∃a7 c,T[23]?=some (.agg #[.int .i64 R,.int .i64 R,.slice a7 R c]):=by
    obtain⟨w0,Y,-,-⟩:=hI;obtain⟨_,i8,a7,c,rfl⟩:=Y.g.matv ⟨6,23,R,R,idf⟩ mm1 (hd 6);exact⟨a7,c,i8⟩
   have h6:=hd 6 kR;go_simp;exact hK _ _ (hI.step (fun w0 Y=>Y.alias ⟨7,24,⟨6,23,R,R,idf⟩⟩ mm1 ⟨7,24,SlP R⟩ mm5 rfl rfl ⟨a7,c,rfl⟩ h6 (by
    refine xgm.2 ⟨fun e=>absurd e (by dsimp only;omega),xgm.2 ⟨fun _=>rfl,xgn _⟩⟩) i8 rfl) dE (fun w=>by rw[zH4 dE]))
  .refine zV.liftX kR dE ?_
   intro L T u m hd I hI K hK;try refine zD rfl ?_
   obtain⟨_,C5,rfl⟩:=hI.g.val _ mm0 (hd 0);go_simp;exact hK _ _ (hI.y mm6 rfl (zU3 kR))
  .refine zV.liftX kR dE ?_
   intro L T u m hd I hI K hK;try refine zD rfl ?_
   obtain⟨_,C8,rfl⟩:=hI.g.val _ mm6 (hd 8);go_simp;exact hK _ _ (hI.y mm7 rfl (zU3 kR))
  intro L T u m hd I O K hK;try refine zD rfl ?_
  have hI:=O.here m;obtain⟨_,C9,rfl⟩:=hI.g.val _ mm7 (hd 9);obtain⟨_,A1,a7,c,rfl⟩:=hI.g.val _ mm3 (hd 4);obtain⟨g1,g2,g3,g4,g5,g6⟩:=(Q.I hI.g.bel).three;go_simp;exact hK _ _ (RXS.store hI m (zXd kR) (zXW kR) (by show _=World.setCell _ _ _;rw[zM2 A1]))
 intro T w3 O;obtain⟨w0,H,-,D⟩:=O;replace D:=D kR;obtain⟨g8,i7,g1,g2⟩:=H.g.gh;obtain⟨k1,k2,m1,k3,k4⟩:=g1 ⟨3,20,R,R,idf⟩ mm0 rfl;obtain⟨k5,k6,m2,k7,k8⟩:=g1 ⟨6,23,R,R,idf⟩ mm1 rfl;have k9:=g2 ⟨3,20,R,R,idf⟩ mm0 ⟨6,23,R,R,idf⟩ mm1 (by dsimp only;omega) rfl rfl;obtain⟨-,z,p,a1,a2⟩:=H.al ⟨4,21,⟨3,20,R,R,idf⟩⟩ mm0 rfl;obtain⟨-,F,s,a3,a4⟩:=H.al ⟨7,24,⟨6,23,R,R,idf⟩⟩ mm1 rfl;have l5:T.getD 21 undef= .slice z R p:=zM2 a2;replace D:w3=w0.setCell ⟨o,1,none⟩ (T.getD 21 undef):=D;rw[l5]at D;obtain⟨_,p8,rfl⟩:=H.g.val _ mm0 rfl;obtain⟨_,p9,rfl⟩:=H.g.val _ mm1 rfl;obtain⟨_,r9,rfl⟩:=H.g.val _ mm2 rfl;obtain⟨_,s0,rfl⟩:=H.g.val _ mm4 rfl;obtain⟨_,s2,rfl⟩:=H.g.val _ mm6 rfl;obtain⟨_,s3,rfl⟩:=H.g.val _ mm7 rfl;have hT:=zCW [(17,.pointer (some ⟨o,0,none⟩)),(18,.pointer (some ⟨o,0,none⟩)),(19,.int .i64 R),(21,.slice z R p),(22,.int .i64 R),(24,.slice F R s),(25,.pointer (some ⟨o,0,none⟩)),(26,.pointer (some ⟨o,1,none⟩)),(20,.agg #[.int .i64 R,.int .i64 R,.slice z R p]),(23,.agg #[.int .i64 R,.int .i64 R,.slice F R s])]
  (fun j hj=>H.g.keep j (by simp only[xgm]at hj ⊢;simp[hj]) (by simp only[xgm]at hj ⊢;simp[hj]))
  (by simp only[xgm];simp[p8,p9,r9,a2,s0,a4,s2,s3,a1,a3]) H.g.size
 have a0:=H.g.bel;obtain⟨E,wt,zt⟩:∃E,Wri w0 (.slice z R p) R R E idf/\∀b,Zn (.slice z R p) E b->g8 3<=b/\b<i7 3:=by
  obtain⟨o',c',E,e,q1,Q⟩:=k4;have e1:=k3.symm.trans a1;injection e1 with e1
  rw[e1]at e;injection e with e
  simp only[Array.mk.injEq,List.cons.injEq,Value.slice.injEq,true_and,and_true]at e;obtain⟨rfl,rfl⟩:=e;exact⟨E,q1,Q⟩
 obtain⟨W,wi,zi⟩:∃W,Wri w0 (.slice F R s) R R W idf/\∀b,Zn (.slice F R s) W b->g8 6<=b/\b<i7 6:=by
  obtain⟨o',c',E,e,q1,Q⟩:=k8;have e1:=k7.symm.trans a3;injection e1 with e1
  rw[e1]at e;injection e with e
  simp only[Array.mk.injEq,List.cons.injEq,Value.slice.injEq,true_and,and_true]at e;obtain⟨rfl,rfl⟩:=e;exact⟨E,q1,Q⟩
 dsimp only at k1 k2 k5 k6 k9;have h5:=l1.out.I a0;have p1:Ap (.slice U R S) a9 (.slice z R p) E:=zBh (a:=0) (b:=W2.heap.size) (fun x hx=>⟨zG _,g7.out x hx⟩) zt k1;have p2:Ap (.slice U R S) a9 (.slice F R s) W:=zBh (a:=0) (b:=W2.heap.size) (fun x hx=>⟨zG _,g7.out x hx⟩) zi k5;have p3:Ap (.slice z R p) E (.slice F R s) W:=zBh zt zi k9;have b6:=Q.I a0;have h3:=nx g9 a0;have d:=d.I a0;have l:=l.I a0;have f:=f.I a0;have b7:Blk w3 o tHW #[.slice U R S,.slice z R p,Av]:=by rw[D];simpa using b6.set_ 1 (.slice z R p)
 have a5:jB (fun b=>b=o) w0 w3:=by rw[D];exact⟨yM (zB _ _) (zG _) _ _,b6.lext dE _ _,fun b _ hb=>yO _ _ _ _ _ hb⟩
 have h3:BWq w w3:=by rw[D];exact yM h3 oM _ _
 have J:=h5.keepZ a5 (by rintro b hb rfl;exact h5.nzb b6 dE dE hb);have wT:=wt.keepZ a5 (by rintro b hb rfl;exact wt.nzb b6 dE dE hb);have wI:=wi.keepZ a5 (by rintro b hb rfl;exact wi.nzb b6 dE dE hb);have d:=a5.blk d oM;have l:=a5.blk l oM;have f:=a5.blk f i0;have B1:w1.heap.size<=w3.heap.size:=by have:=a0.size;have:=a5.bel.size;omega
 have WA:=xgv J;have WT:=xgv wT;have WI:=xgv wI;have ZT:=xgv (fun b (hb:Zn (.slice z R p) E b)=>zF k1 (zt b hb).1);have ZI:=xgv (fun b (hb:Zn (.slice F R s) W b)=>zF k5 (zi b hb).1);have P1:=xgv p1;have P2:=xgv p2;have P3:=xgv p3;clear H g1 g2 k1 k2 k3 k4 k5 k6 k7 k8 k9 a1 a2 a3 a4 p8 p9 r9 s0 s2 s3 l5 h5 wt zt wi zi J wT wI p1 p2 p3 b6 a5 D a0 l1 g7 n1 Q g8 i7;simp only[List.foldl_cons,List.foldl_nil,xgh,xgi,xgj,ptr]at hT;subst hT;simp only[xgl,xgk];obtain⟨g1,g2,g3,g4,g5,g6⟩:=b7.three;go_upto_region 5 with(fail)
 refine zE ?_;intro t e0;have a6:jB (fun b=>b=o) w3 t:=by rw[e0.out];exact⟨yM (zB _ _) (zG _) _ _,b7.lext dE _ _,fun b _ hb=>yO _ _ _ _ _ hb⟩
 have m5:BWq w t:=by rw[e0.out];exact yM h3 oM _ _
 have e9:Blk t o tHW #[.slice U R S,.slice z R p,.slice F R s]:=by rw[e0.out];simpa using b7.set_ 2 (.slice F R s)
 have J:=WA.out.keepZ a6 (by rintro b hb rfl;exact WA.out.nzb b7 dE dE hb);have wT:=WT.out.keepZ a6 (by rintro b hb rfl;exact WT.out.nzb b7 dE dE hb);have wI:=WI.out.keepZ a6 (by rintro b hb rfl;exact WI.out.nzb b7 dE dE hb);have d:=a6.blk d oM;have l:=a6.blk l oM;have f:=a6.blk f i0;have B2:w1.heap.size<=t.heap.size:=by have:=a6.bel.size;omega
 have m9:zHO t (.slice U R S) (.slice z R p) (.slice F R s) R C R a9 E W (ent M) idf idf:=⟨J,wT,wI,P1.out.far,P2.out.far,P3.out.far,P1.out.own,P2.out.own,P3.out.own⟩;obtain⟨a8,hZ⟩:∃a8:Nat->Prop,a8=fun b=>b∈a9∨b∈E∨b∈W:=⟨_,rfl⟩
 have o9:zDd true a8 t o (.slice U R S) R C R ⟨ent M,idf,idf⟩:=⟨_,_,a9,E,W,e9,m9,fun b hb=>by rw[hZ];exact hb⟩;have d6:∀b,a8 b->b<t.heap.size:=fun b hb=>by
  rw[hZ]at hb;rcases hb with hb|hb|hb
  exact J.zlt (.inl hb);exact wT.zlt (.inl hb);exact wI.zlt (.inl hb)
 have d7:∀{b:Nat} {T:TypeId} {cs:Array Value},Blk t b T cs->T≠tR->T≠tI->¬ a8 b:=fun hb h1 h2 hz=>by
  rw[hZ]at hz;rcases hz with hz|hz|hz
  exact J.nzb hb h1 h2 (.inl hz);exact wT.nzb hb h1 h2 (.inl hz);exact wI.nzb hb h1 h2 (.inl hz)
 have n6:∀g,(Value.slice U R S).ownBlock=some g->¬ a8 g:=fun g hg hz=>by
  rw[hZ]at hz;rcases hz with hz|hz|hz
  exact J.rown J hz hg;exact wT.rown J hz hg;exact wI.rown J hz hg
 have e7:∀b,Zn (.slice U R S) a9 b∨Zn (.slice z R p) E b∨Zn (.slice F R s) W b->b<t.heap.size:=fun b hb=>by
  rcases hb with hb|hb|hb
  exact J.zlt hb;exact wT.zlt hb;exact wI.zlt hb
 have p5:∀b,a8 b->w.heap.size<=b:=fun b hb=>by
  rw[hZ]at hb;rcases hb with hb|hb|hb
  have:=w6 b (.inl hb);omega;have:=ZT.out b (.inl hb);omega;have:=ZI.out b (.inl hb);omega
 have x4:=d7 f dE dE;have x5:=d7 e9 dE dE;have x6:=d7 d dE dE;have x3:=d7 l dE dE;clear d7 hZ g1 g2 g3 g4 g5 g6 e0 a6 WA WT WI P1 P2 P3 m9 J wT wI;go_wp2_with fail
 refine(zRs hB HE.out o9 HJ.out P hC P d6 n6).mono ?_;rintro e Z ⟨pv,y,Lp,rfl,hO,hz,O,hP⟩;obtain⟨o6,m⟩:=HE.out.ok R y Lp O;obtain⟨po,B9,rfl,-,-,-⟩:=hP.at_;unfold zDd at hz;rw[zC rfl]at hz;obtain⟨i9,k0,l2,l3,l4,r1,r2,r3⟩:=hz;have b2:=hO.blk e9 x5;obtain⟨rfl,rfl⟩: .slice z R p=i9/\.slice F R s=k0:=by
  have e1:Z.heap[o]?=some (.cells #[.slice U R S,.slice z R p,.slice F R s] tHW (0,0)):=b2;have X:Z.heap[o]?=some (.cells #[.slice U R S,i9,k0] tHW (0,0)):=r1;rw[e1]at X;injection X with X
  injection X with X
  simp only[Array.mk.injEq,List.cons.injEq,true_and,and_true]at X;exact X
 have n8:∀b,Zn (.slice U R S) l2 b->¬ (t.heap.size<=b):=fun b hb=>by
  rcases hb with hb|hb
  have:=d6 b (r3 b (.inl hb));omega;have:=e7 b (.inl (.inr hb));omega
 have n9:∀b,Zn (.slice z R p) l3 b->¬ (t.heap.size<=b):=fun b hb=>by
  rcases hb with hb|hb
  have:=d6 b (r3 b (.inr (.inl hb)));omega;have:=e7 b (.inr (.inl (.inr hb)));omega
 have o0:∀b,Zn (.slice F R s) l4 b->¬ (t.heap.size<=b):=fun b hb=>by
  rcases hb with hb|hb
  have:=d6 b (r3 b (.inr (.inr hb)));omega;have:=e7 b (.inr (.inr (.inr hb)));omega
 have t9:BWq w Z:=zIq m5 (hO.mono (Z':=fun k=>w.heap.size<=k) (fun k _ hk=>p5 k hk)) (xgf _) m5.size;have x2:=l.lt;have x1:=d.lt;have d:=hO.blk d x6;have x0:=f.lt;have l:=hO.blk l x3;have f:=hO.blk f x4;have w8:=e9.lt;have B7:=hO.bel.size;have HL:=xgv m;have s9:=xgv o6;have s7:=xgv O;have b3:=zSN m (s6.out y Lp O);have b9:=xgv (zJ7 m);have c7:=xgv (zGv m);have A3:=m.len;go_upto_region 6 with(fail)
 refine zE ?_;intro W6 m8;obtain⟨N,T5,B4⟩:=qL m8;have m6:=nx t9 N;have HA:=xgv (r2.s.I N);have HU:=xgv (r2.t.I N);have HW:=xgv (r2.i.I N);have HP:=xgv (hP.I N);have b2:=b2.I N;have d:=d.I N;have l:=l.I N;have f:=f.I N;obtain⟨g1,g2,g3,g4,g5,g6⟩:=b2.three;have B3:=N.size;have v7:=c7.out;clear m8 hP m o6 O r1 r2 N e7 p5 o9 d6 n6 v7;go_wp2;go_loopw [36] (fun iv wr=>∃(k:Nat) (v:Value),iv= .int .i64 k/\k<=R/\Blk wr Z.heap.size 34 #[v]/\qS (zDV wr t.heap.size v (Lp.map (·.1)++(List.range k).filter fun i=>decide (lead C y.s i<0)))/\Below t.heap.size W6 wr/\zBC W6 wr) (fun iv _=>R-(intOf iv).toNat)
 case atStart=>exact⟨0,_,rfl,oM,T5,⟨by simpa using HP.out⟩,zB _ _,zBC.refl _⟩
 clear T5 HP;obtain⟨k,uv,rfl,hk,T5,HV,hb,hx⟩:=hrel;obtain⟨uo,b8,rfl,-,-,-⟩:=HV.out.at_;obtain⟨un,i5⟩:∃un,(Lp.map (·.1)++(List.range k).filter fun i=>decide (lead C y.s i<0)).length=un:=⟨_,rfl⟩;rw[i5]at T5 HV;have e8:=jB.ofB hb hx;have b5:=HA.out.keepZ e8 n8;have B6:=hb.size;by_cases o3:k<R
 .obtain⟨g,bi,eg,lg,v5,-,p7,-⟩:=yH.at_ b5 (i:=k) (by rw[b5.len];exact o3)
  subst eg;have i4:=b5.rowAt o3 v5;have h4:=i4.vec (zO _ _) (xgf _) oM;clear b5;go_wp2_with fail
  refine(zDr _ _ _ h4).mono ?_;rintro e w7 ⟨rfl,c9⟩;rw[zJv];obtain⟨c0,d1⟩:∃c0,lead C y.s k=c0:=⟨_,rfl⟩;rw[d1];have T7:=T5.I c9;have c8:=xgv (HV.out.I c9);have n0:Below t.heap.size W6 w7:=hb.trans (c9.mono oM);have p4:=hx.trans (lx c9);have B5:=c9.size;by_cases o4:c0<0
  .have D:(List.range (k+1)).filter (fun i=>decide (lead C y.s i<0))=(List.range k).filter (fun i=>decide (lead C y.s i<0))++ [k]:=by rw[zNP,zC (by rw[d1];exact o4)]
   have f9:=xgv D;obtain⟨t1,t2⟩:w7.cell? ⟨Z.heap.size,0,none⟩=some (.slice uo un b8)/\w7.frozen? ⟨Z.heap.size,0,none⟩=false:=⟨T7.cell 0,T7.frozen 0⟩;have w4:∀w':World,zBI (w'.alloc (.cells #[.int .i64 k] tNn)) (some ⟨w'.heap.size,0,none⟩) [k]:=fun w'=>⟨by simp;omega,fun _=>⟨_,0,_,rfl,heap_alloc_new w' _,fun k x hk=>by
    match k with
    |0=>simp at hk;subst hk;rfl
    |k+1=>simp at hk⟩⟩
   have A4:((List.range k).filter fun i=>decide (lead C y.s i<0)).length<=k:=by
    have:=List.length_filter_le (fun i=>decide (lead C y.s i<0)) (List.range k);simpa using this
   have l7:=T7.lt;clear d1 D h4 i4 p7;go_wp2_with (at_builtin;refine zV9 rfl _ _ rfl t.heap.size (.slice uo un b8) _ rfl (c8.out.alloc _) (some ⟨w7.heap.size,0,none⟩) 1 1 [k] rfl (w4 w7) rfl (by simp only[List.length_append,List.length_map];omega) (by simp;omega) ?_;intro v' w' o8 d5;obtain⟨vo,vn,C0,rfl⟩:∃a b c,v'= .slice a b c:=(by obtain⟨B8,q,r,-,-,-⟩:=o8.at_;exact⟨_,_,_,r⟩);have T8:Blk w' Z.heap.size 34 #[.slice uo un b8]:=(d5.block _ (T7.alloc _).lt (fun e=>c8.out.ne T7 dE e.symm)).trans (T7.alloc _);obtain⟨t3,t4⟩:w'.cell? ⟨Z.heap.size,0,none⟩=some (.slice uo un b8)/\w'.frozen? ⟨Z.heap.size,0,none⟩=false:=⟨T8.cell 0,T8.frozen 0⟩)
   have d5:World.grownBy (w7.alloc (.cells #[.int .i64 k] tNn)) w' (Value.ownBlock (.slice uo un b8)):=d5;have T8:Blk w' Z.heap.size 34 #[.slice uo un b8]:=T8;have v8:zBC w7 w':=(lx ((zB _ _).alloc (xgf _) _)).trans (zCA (c8.out.alloc _).2 dE d5);have v4:Below t.heap.size W6 w':=(n0.alloc oM _).grown d5 (by simp;omega) (fun g hg=>(c8.out.own g hg).1);go_roundw
   case rel=>
    refine⟨k+1,_,by simp,oM,by simpa using T8.set_ 0 _,⟨?_⟩,yM v4 oM _ _,(p4.trans v8).trans (T8.lext dE _ _)⟩;rw[f9.out,<-zAJ];exact o8.far T8 dE 0 _
   case measure=>exact meq
  have D:(List.range (k+1)).filter (fun i=>decide (lead C y.s i<0))=(List.range k).filter (fun i=>decide (lead C y.s i<0)):=by rw[zNP,zA (by rw[d1];exact o4),zCE]
  have f9:=xgv D;clear d1 D h4 i4 p7;go_wp2;go_roundw
  case rel=>exact⟨k+1,_,by simp,oM,T7,⟨by rw[f9.out];exact c8.out⟩,n0,p4⟩
  case measure=>exact meq
 obtain rfl:R=k:=oM;have o7:zKK R C y.s Lp=Lp.map (·.1)++(List.range R).filter fun i=>decide (lead C y.s i<0):=rfl
 rw[<-o7]at HV i5;obtain⟨os,i3⟩:∃os,zKK R C y.s Lp=os:=⟨_,rfl⟩;rw[i3]at HV i5 b9 c7 b3;have l0:=xgv i3;have t6:=xgv b5;have t0:=xgv (HU.out.keepZ e8 n9);have t5:=xgv (HW.out.keepZ e8 o0);have b2:=b2.belowB hb w8;have f:=f.belowB hb x0;have l:=l.belowB hb x2;have d:=d.belowB hb x1;have v1:BWq w wr:=zIq m6 ((jB.ofB hb hx).mono (Z':=fun k=>w.heap.size<=k) (fun k _ hk=>by omega)) (xgf _) m6.size;have n1:=f.cell 0;obtain⟨k1,k2,k3,-,-,-⟩:=l.three;have h9:=zEc R C (os.map fun i=>qQ C (y.s i));have n7:=zEc R R (os.map fun i=>qQ R (y.t i));have A5:=zEc R R (os.map fun i=>qQ R (y.i i));have A6:=zEc R R (yV R R fun a b=>y.i (os.getD b 0) a);have A7:=zKo R C (os.map fun i=>qQ C (y.s i)) (os.map fun i=>qQ R (y.t i)) (yV R R fun a b=>y.i (os.getD b 0) a);obtain⟨g1,g2,g3,-,-,-⟩:=b2.three;clear o7 i3 b5 e8 n8 n9 o0 HA HU HW hb hx g4 g5 g6;go_upto_region 13 with(fail)
 refine yD 24 [pcD 7 [] (zTF R C (os.map fun i=>qQ C (y.s i))),pcD 14 [] (zTF R R (os.map fun i=>qQ R (y.t i))),pcD 21 [] (zTF R R (os.map fun i=>qQ R (y.i i))),pcD 22 [21] (zTF R R (yV R R fun a b=>y.i (os.getD b 0) a)),pcD 23 [7,14,22] (zTe R C (os.map fun i=>qQ C (y.s i)) (os.map fun i=>qQ R (y.t i)) (yV R R fun a b=>y.i (os.getD b 0) a))] ?_;refine sRd ?_;refine sRc (fun u hI Gk G=>by go_simp;exact ck G (zF2 _ _ R C V _ _ l2 _ _ _ (t6.out.I hI.bel) (f.I hI.bel) (T5.I hI.bel) (HV.out.I hI.bel) b9.out c7.out P hC b3)) (fun C4 _=>?_);refine sRd ?_;refine sRc (fun u hI Gk G=>by go_simp;exact ck G (zF2 _ _ R R V _ _ l3 _ _ _ (t0.out.I hI.bel) (f.I hI.bel) (T5.I hI.bel) (HV.out.I hI.bel) b9.out c7.out P P b3)) (fun C1 _=>?_);refine sRd ?_;refine sRc (fun u hI Gk G=>by go_simp;exact ck G (zF2 _ _ R R V _ _ l4 _ _ _ (t5.out.I hI.bel) (f.I hI.bel) (T5.I hI.bel) (HV.out.I hI.bel) b9.out c7.out P P b3)) (fun C2 _=>?_);refine sRc (fun u hI h8 Gk G=>by go_simp;exact ck G (zOs hB.bsm h8 b3 b9.out s9.out.2.2 P)) (fun C3 _=>?_);refine sRc (fun u hI d4 d2 d3 Gk G=>?_) (fun x9 _=>?_)
 .obtain⟨xo,xc,rfl,d4⟩:=d4
  obtain⟨yo,yc,rfl,d2⟩:=d2;obtain⟨zo,zc,rfl,d3⟩:=d3;go_simp;exact⟨G _ _ ⟨xo,xc,yo,yc,zo,zc,rfl,d4,d2,d3⟩,zB _ _⟩
 refine sRe ?_;intro w9 n3 d4 d2 h8 d3 v6;obtain⟨xo,xc,yo,yc,zo,zc,rfl,h7,l6,l8⟩:zTe R C (os.map fun i=>qQ C (y.s i)) (os.map fun i=>qQ R (y.t i)) (yV R R fun a b=>y.i (os.getD b 0) a) w9 x9:=v6;have d:=d.I n3;have v0:=nx v1 n3;have H7:=xgv h7;have s4:=xgv l6;have s5:=xgv l8;obtain⟨⟨r0,r1,r2,r3,r4,r5,r6,r7,r8⟩,⟨f0,f1,f2,f3,f4,f5,f6,f7,f8⟩⟩:=d.all9;clear h7 l6 l8 d4 d2 h8 d3 g1 g2 g3 n1 k1 k2 k3;go_wp2;have v9:=d.lext9 dE (.int .i64 R) (.int .i64 C) (.slice xo R xc) (.int .i64 R) (.int .i64 R) (.slice yo R yc) (.int .i64 R) (.int .i64 R) (.slice zo R zc);have i6:∀{v:Value} {M:List (List Int)},zBl w9 v M->zBl _ v M:=fun h=>h.off d dE dE (fun b hb=>zSk w9 (w.heap.size+1) b _ _ _ _ _ _ _ _ _ hb) v9
 refine bodyPost_ret (results_cell_row rfl _ _ (w.heap.size+1) _ _ _ _ rfl (d.put9 _ _ _ _ _ _ _ _ _) Tryz.underlying78 rfl (by rw[Tryz.sizeHe];rfl)) rfl ⟨_,y,Lp,rfl,s7.out,by rw[l0.out];exact b3,by rw[l0.out];exact⟨_,_,_,rfl,i6 H7.out,i6 s4.out,i6 s5.out⟩,zVM v0 oM _ _ _ _ _ _ _ _ _⟩
structure zD7(R C r:Nat)(c:Nat->Nat)(A H U V:Nat->Nat->Int):Prop where
 hnf:Hnf C R r c H
 mul:∀a,a<R->∀b,b<C->H a b=yZ R fun t=>U a t*A t b
 inv:∀a,a<R->∀b,b<R->yZ R (fun t=>U a t*V t b)=idf a b
 back:∀a,a<R->∀b,b<C->A a b=yZ R fun t=>V a t*H t b
theorem zD7.bound{c:Nat->Nat}{A H U V:Nat->Nat->Int}(h:zD7 R C r c A H U V)(e:R<=4)(d:1<=M)(b:leM M R C A):leM (24*(8*M)^4) R C H:=
 zPs (U:=U) (X:=fun t a=>V a t) e d h.hnf b h.back h.inv
theorem zLL{σ:Nat->Nat}(f:Nat->Int)(o:∀k,k<n->σ k<n)(m:∀a b,a<n->b<n->σ a=σ b->a=b)(p:∀t,t<n->∃k,k<n/\σ k=t):yZ n f=yZ n fun k=>f (σ k):=by
 have l:yZ n f=yZ n fun t=>yZ n fun k=>if σ k=t then f t else 0:=yF fun t q=>by
  obtain⟨k,d,e⟩:=p t q;rw[zCF (c:=k) d (fun i h g=>zA fun j=>g (m i k h d (j.trans e.symm))),zC e]
 rw[l,zGW];refine yF fun k d=>?_
 rw[zCF (c:=σ k) (o k d) (fun i h g=>zA fun e=>g e.symm),zC rfl]
theorem zSO{L:List (Nat × Nat)}(f:∀a,a<n->(∀k,k<L.length->(L.getD k (0,0)).1≠a)->lead C F a<0)(b:a<n):a∈zKK n C F L:=by
 by_cases d:a∈L.map (·.1)
 .exact List.mem_append.2 (.inl d)
 refine List.mem_append.2 (.inr ?_);simp only[List.mem_filter,List.mem_range,decide_eq_true_eq];refine⟨b,f a b fun k c e=>d ?_⟩;rw[<-e,xgb,xga c];exact List.mem_map.2 ⟨_,jE c,rfl⟩
def zF9(n C:Nat)(F:Nat->Nat->Int)(L:List (Nat × Nat))(a:Nat):Nat:=(zKK n C F L).getD a 0
theorem zHe{L:List (Nat × Nat)}(a:k<L.length):zF9 n C F L k=zB4 L k:=by
 unfold zF9 zKK zB4;rw[xgb,List.getElem?_append_left (by simpa using a),List.getElem?_map,xga a,xgb,xga a];rfl
theorem zQJ{L:List (Nat × Nat)}(b:L.length<=k)(a:k<(zKK n C F L).length):lead C F (zF9 n C F L k)<0:=by
 unfold zF9;have e:(zKK n C F L)[k]?=((List.range n).filter fun i=>decide (lead C F i<0))[k-L.length]?:=by
  unfold zKK;rw[List.getElem?_append_right (by simpa using b)];simp
 rw[xgb,xga a];rw[xga a]at e;have:=xgd e.symm;simp only[List.mem_filter,decide_eq_true_eq]at this;exact this.2
theorem zRq{A:Nat->Nat->Int}{y:Bst}{L:List (Nat × Nat)}(h:JC R C Ct M0 ⟨A,idf,idf⟩ R g y L)(D:zLt (fun _ _=>True) L.length (zGe L) (vw (zB4 L) y.s))(H:(zKK R C y.s L).length=R):
  zD7 R C L.length (zGe L) A (fun a b=>y.s (zF9 R C y.s L a) b) (fun a b=>y.t (zF9 R C y.s L a) b) (fun a b=>y.i (zF9 R C y.s L b) a):=by
 obtain⟨l,p,n⟩:=h.ops;rw[zQG]at n;have u:y.s=zEH l A:=by rw[n]
 have d:y.t=zEH l idf:=by rw[n]
 have q:y.i=zQH l idf:=by rw[n]
 have s:=h.lok (xgf _);have E:∀a,a<R->(∀k,k<L.length->(L.getD k (0,0)).1≠a)->lead C y.s a<0:=fun a c B=>by
  rw[zJx (h.zero a c B)];decide
 have o:∀a,a<R->zF9 R C y.s L a<R:=fun a c=>by
  unfold zF9;rw[xgb,xga oM];exact zJ7 s _ (jE _)
 have v:∀a b,a<R->b<R->zF9 R C y.s L a=zF9 R C y.s L b->a=b:=fun a b c f e=>by
  unfold zF9 at e;rw[xgb,xga oM,xgb,xga oM]at e;exact(zAO (h₀:=by omega) (h₁:=by omega) (zGv s)).1 e
 have F:∀t,t<R->∃a,a<R/\zF9 R C y.s L a=t:=fun t d=>by
  obtain⟨a,c,e⟩:=yL (zSO E d);refine⟨a,oM,?_⟩;unfold zF9;rw[xgb,xga c];exact e
 refine⟨⟨zF h.len (xgf _),⟨h.ech.lt,fun k m=>?_,fun k m t d=>?_,h.ech.inc⟩,fun i j z r _=>?_,fun a x G t d=>?_⟩,fun a c b f=>?_,fun a c b f=>?_,?_⟩
 .show 0<y.s (zF9 R C y.s L k) (zGe L k)
  rw[zHe m];exact h.ech.pos k m
 .show y.s (zF9 R C y.s L k) t=0
  rw[zHe m];exact h.ech.zero k m t d
 .show 0<=y.s (zF9 R C y.s L i) (zGe L j)/\y.s (zF9 R C y.s L i) (zGe L j)<y.s (zF9 R C y.s L j) (zGe L j)
  rw[zHe oM,zHe r];exact D i j z r trivial
 exact zJw (zQJ x oM) t d
 .show y.s (zF9 R C y.s L a) b=yZ R fun t=>y.t (zF9 R C y.s L a) t*A t b
  rw[d];conv=>lhs;rw[show y.s (zF9 R C y.s L a) b=zEH l A (zF9 R C y.s L a) b from by rw[<-u]]
  exact zQI p A _ (o a c) b
 .show yZ R (fun t=>y.t (zF9 R C y.s L a) t*y.i (zF9 R C y.s L b) t)=idf a b
  rw[d,q];have:=zUa p (P:=idf) (Q:=idf) (C:=R) (fun a c b f=>zTx R a c b f) _ (o a c) _ (o b f);unfold dot at this;rw[this];unfold idf;by_cases e:a=b
  .rw[zC e,zC (by rw[e])]
  rw[zA e,zA (fun w=>e (v a b c f w))]
 intro a c b f;show A a b=yZ R fun t=>y.i (zF9 R C y.s L t) a*y.s (zF9 R C y.s L t) b
 rw[<-zLL (σ:=zF9 R C y.s L) (fun t=>y.i t a*y.s t b) o v F,q,u];exact zFO p A a c b
theorem zNH(h:os.length=n):(os.map fun i=>qQ C (F i))=yV n C fun a b=>F (os.getD a 0) b:=by
 refine qI (by simp[yV,h]) fun i c d=>?_
 simp only[List.length_map]at c;simp only[yV,qQ,List.getElem_map,List.getElem_range];rw[xgb,xga c];rfl
theorem zU6:∃n:Nat,n=B32^zO7:=⟨_,rfl⟩
noncomputable def BD:Nat:=zU6.choose
theorem zO5:BD=B32^zO7:=zU6.choose_spec
theorem zO4:BSd BD:=⟨fun z a=>by rw[zO5]at a;exact⟨a⟩⟩
theorem zTD:∃n:Nat,n=2^40:=⟨_,rfl⟩
noncomputable def E40:Nat:=zTD.choose
theorem zTC:E40=2^40:=zTD.choose_spec
theorem zJU:E40=1099511627776:=by rw[zTC]
theorem zRk(M:Nat):2*gk 40 M=(2*M)^E40:=by rw[zTC];exact zTL 40 M
theorem zVX(d:k<=40)(a:1<=M0)(c:2*M0<=2^e):gk k M0<2^(e*E40):=by
 have f:=zDj a d;have g:=zRk M0;have b:(2*M0)^E40<=(2^e)^E40:=zAb c _;rw[<-zDG]at b;have h:=zH6 40 a;omega
theorem zFP{D:Nat}(h:a<=32*D):2^a<=B32^D:=by
 rw[show B32=2^32 from rfl,<-zDG];exact zX oM h
theorem zWV(d:k<=40)(b:1<=M0)(a:2*M0<=2^e)(c:e<=31):gk k M0<BD:=by
 rw[zO5];refine zI (zVX d b a) (zFP ?_);rw[zCp];have:e*E40<=31*E40:=zK _ c;rw[zJU]at this ⊢
 omega
theorem zPv(n M:Nat)(h:1<=M):leM M n n idf:=fun a _ b _=>by
 unfold idf;split<;>simp<;>omega
theorem zPr(g:1<=M0)(v:Value)(M:List (List Int))(R C:Nat)(w:World)(h:zAo w v R C M)(hF:zBe R C M)(A:R<=6)(t:C<=1000000)(m:gk (esr q R) M0<BD)(k:leM M0 R C (ent M))(E:RkB q R C ⟨ent M,idf,idf⟩):
  CPq 36 #[v] w fun e w'=>∃v r c H U V,e= .returned v/\zD7 R C r c (ent M) H U V/\leM (gk (esr q R) M0) R R U/\leM (gk (esr q R) M0) R R V/\zLp w' v R C (yV R C H) (yV R R U) (yV R R V)/\BWq w w':=by
 have p:=zO4;have s:leB M0 R C R ⟨ent M,idf,idf⟩:=⟨k,zPv R M0 g,zPv R M0 g⟩;have u:=zT1 (Cs:=C) (x0:=⟨ent M,idf,idf⟩) (Ct:=R) A g m E;have x:M0<BD:=zM (zMC _ g) m;refine(zPq p v M R C w h hF oM t (k.ok x) (zFG (z:=1) dE).sm u (zRz s g) (fun y L d a f B=>?_)).mono ?_;rw[zJx ((JH.fin d).1.zero a f B)];decide;rintro F w' ⟨v,y,L,rfl,d,j,n,i⟩;obtain⟨d,D⟩:=JH.fin d;have l:=d.bd;have o:∀a,a<R->zF9 R C y.s L a<R:=fun a f=>by
  unfold zF9;rw[xgb,xga oM];exact zJ7 (d.lok (xgf _)) _ (jE _)
 refine⟨v,_,_,_,_,_,rfl,zRq d D j,fun a f b i=>l.2.1 _ (o a f) b i,fun a f b i=>l.2.2 _ (o b i) a f,?_,i⟩;rw[zNH j,zNH j]at n;exact n
theorem zRp(a:1<=M0)(v:Value)(M:List (List Int))(R C:Nat)(w:World)(h:zAo w v R C M)(hF:zBe R C M)(l:R<=6)(k:C<=1000000)(m:gk (es R) M0<BD)(j:leM M0 R C (ent M)):
  CPq 36 #[v] w fun e w'=>∃v r c H U V,e= .returned v/\zD7 R C r c (ent M) H U V/\leM (gk (es R) M0) R R U/\leM (gk (es R) M0) R R V/\zLp w' v R C (yV R C H) (yV R R U) (yV R R V)/\BWq w w':=
 (zPr (q:=R) a v M R C w h hF l k (zM (zDj a (zNB R R)) m) j RkB.all).mono fun e w' ⟨v,r,c,H,U,V,b,d,f,g,i⟩=>⟨v,r,c,H,U,V,b,d,f.mono (zDj a (zNB R R)),g.mono (zDj a (zNB R R)),i⟩
theorem zPd(h:R<=4):es R<=40:=zF (zT7 h) dE
theorem zME(a:1<=M0)(i:2*M0<=2^e)(m:e<=31)(v:Value)(M:List (List Int))(R C:Nat)(w:World)(h:zAo w v R C M)(hF:zBe R C M)(b:R<=4)(p:C<=4)(d:leM M0 R C (ent M)):
  CPq 36 #[v] w fun e w'=>∃v r c H U V,e= .returned v/\zD7 R C r c (ent M) H U V/\leM (24*(8*M0)^4) R C H/\leM (gk 40 M0) R R U/\leM (gk 40 M0) R R V/\zLp w' v R C (yV R C H) (yV R R U) (yV R R V)/\BWq w w':=by
 refine(zRp a v M R C w h hF oM oM (zWV (zPd b) a i m) d).mono ?_;rintro o w' ⟨v,r,c,H,U,V,rfl,f,j,k,n,l⟩;have g:=zDj a (zPd b);exact⟨v,r,c,H,U,V,rfl,f,f.bound b a d,j.mono g,k.mono g,n,l⟩
abbrev tMt:TypeId:=29
structure zXD(R C r:Nat)(c:Nat->Nat)(A H:Nat->Nat->Int):Prop where
 hnf:Hnf C R r c H
 sp:zVI R C H A
 sp':zVI R C A H
def zQg(C:Nat)(F:Nat->Nat->Int)(i:Nat):Prop:=
 lead C F i<0∨∃c:Nat,lead C F i=(c:Int)/\(∀k,k<i->0<=lead C F k/\lead C F k<c)/\0<F i c/\∀k,k<i->0<=F k c/\F k c<F i c
def zWI(R C:Int)(M:List (List Int)):Prop:=zAq R C M/\∀i,i<M.length->zQg C.toNat (ent M) i
def zXm(P:Prop)(w:World)(e:Ending)(w':World):Prop:=∃b,e= .returned (.bool b)/\(b=true↔P)/\BWq w w'
theorem zBe.row_eq{M:List (List Int)}(h:zBe R C M){zs:List Int}(a:M[i]?=some zs):zs=qQ C (ent M i):=by
 have c:=h.2 zs (xgd a);refine qI (by simp[qQ,c]) fun j b d=>?_
 simp only[qQ,List.getElem_map,List.getElem_range];rw[zDL a (xga b)]
structure zXF(C:Nat)(F:Nat->Nat->Int)(i:Nat)(last:Int)(en:Bool):Prop where
 ok:∀k,k<i->zQg C F k
 ended:en=true↔∃k,k<i/\lead C F k<0
 lst:en=false->∀c:Int,0<=c->(last<c↔∀k,k<i->lead C F k<c)

end Go.Proofs.YtniiekppgdkknaaGreat
