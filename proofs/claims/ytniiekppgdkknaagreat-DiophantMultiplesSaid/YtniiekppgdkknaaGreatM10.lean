/- Joined. -/
import Derived.ScopeJumps
import Derived.WalkMore
import Derived.Test.YtniiekppgdkknaaGreatM09
set_option linter.unusedVariables false
set_option linter.unusedSimpArgs false
set_option linter.unusedSectionVars false
set_option maxHeartbeats 16000000
set_option maxRecDepth 100000
variable{a:Go.Act}{cs:Array Go.Value}{k m0 m1 m2 m3 z:Int}{M:List (List Int)}{r zs:List Int}{S bs:List Nat}{xs:List Go.Value}{C R b base bi bj cap g i j l n:Nat}{F f:Nat->Nat->Int}{Z:Nat->Prop}{T t:Go.TypeId}{A c0 c1 c2 u v x y:Go.Value}{W c w w':Go.World}
namespace Go.Proofs.YtniiekppgdkknaaGreat
open Go.RowKit
theorem zGt(v:Value)(R C:Int)(M:List (List Int))(w:World)(h:zLq w v R C M):
  CPq 35 #[v] w fun e w'=>e= .returned (.bool (decide (zAq R C M)))/\BWq w w':=by
 obtain⟨A,rfl,h⟩:=h;obtain⟨P,n,cap,rfl,D,e3,e4,-⟩:=id h;have q:=xgw D;clear D;by_cases f:0<=R/\0<=C/\(n:Int)=R
 .obtain⟨Q,S,rfl⟩:=f
  have hd:decide (zAq n C M)=decide (∀r∈M,(r.length:Int)=C):=decide_eq_decide.2 ⟨fun h=>h.2.2.2,fun h=>⟨Q,S,by rw[q.out],h⟩⟩;rw[hd];clear hd;go_enter Tryz.func35,Tryz.ntmps35;go_upto_region 1 with(fail)
  refine zE ?_;intro x o;obtain⟨g,d,y⟩:=qL o;have c1:=d.three;go_wp2;clear c1;go_loopw [26] (fun i wr=>∃k:Nat,k<=n/\i=niq k/\BWq w wr/\Blk wr w.heap.size 29 #[niq n,niq C,.slice P n cap]/\Hid (∀r∈M.take k,(r.length:Int)=C)) (fun i _=>n-(intOf i).toNat)
  case atStart=>exact⟨0,oM,rfl,g,d,by rw[zAW];exact xgw (fun r hr=>by cases hr)⟩
  obtain⟨k,hk,rfl,s,d,f⟩:=hrel;have c1:=d.three;by_cases a0:k<n
  .obtain⟨b,a9,ra,p,rc,zs,rfl,a4,K,p1,I⟩:=(h.I s).row (k:=k) (by rw[q.out];exact a0)
   have B:=xgw K;have J:=I.len;have u:=xgw J.1;obtain⟨-,a6,a7⟩:=J;clear K;by_cases H:(p:Int)=C
   .go_wp2
    clear c1;go_loopw [37] (fun j L=>∃m:Nat,m<=p/\j=niq m/\BWq wr L) (fun j _=>p-(intOf j).toNat)
    case atStart=>exact⟨0,oM,rfl,zB _ _⟩
    rename World=>L
    obtain⟨m,hm,rfl,t⟩:=hrel;by_cases a1:m<p
    .obtain⟨b',z,b0,a,l,c,rfl,a5,a2,q1,q2,a3⟩:=(I.I t).cell (k:=m) (by rw[u.out];exact a1)
     clear a2;go_upto_region 11 with(fail)
     refine zE ?_;intro O F;obtain⟨E,N,a8⟩:=qL F;have d1:=N.two;clear q1 q2 F;go_wp2_with fail
     refine(zGc _ z O (a3.ext (lx E))).mono ?_;rintro e w7 ⟨rfl,X⟩;go_wp2;go_roundw
     case rel=>exact⟨m+1,oM,by simp,nx (nx t E) X⟩
     case measure=>exact meq
    obtain rfl:m=p:=oM;have d:=d.I t;go_wp2;go_roundw
    case rel=>
     refine⟨k+1,oM,by simp,nx s t,d,xgw ?_⟩;rw[zAK,B.out];intro r hr;rcases List.mem_append.1 hr with hr|hr
     exact f.out r hr;simp at hr;rw[hr,u.out,H]
    case measure=>exact meq
   go_wp2;go_ret;refine⟨?_,s⟩;have Y:¬ ∀r∈M,(r.length:Int)=C:=fun Z=>H (by rw[<-u.out];exact Z zs (xgd B.out))
   rw[zR Y];rfl
  obtain rfl:k=n:=oM;go_wp2;go_ret;refine⟨?_,s⟩;have:=f.out;rw[<-q.out,zAG]at this;rw[zT this];rfl
 have G:¬ zAq R C M:=by
  rintro⟨a,b,c,-⟩;exact f ⟨a,b,by rw[<-q.out];exact c⟩
 rw[zR G];clear G;by_cases V:0<=R
 .have W:¬ R<0:=oM
  by_cases T:0<=C
  .have hn:¬ (n:Int)=R:=fun h=>f ⟨V,T,h⟩
   have U:¬ C<0:=oM;clear f;go_enter Tryz.func35,Tryz.ntmps35;go_upto_region 1 with(fail)
   refine zE ?_;intro x o;obtain⟨g,d,y⟩:=qL o;have c1:=d.three;go_wp2;go_ret;exact⟨rfl,g⟩
  have U:C<0:=oM;clear f;go_enter Tryz.func35,Tryz.ntmps35;go_upto_region 1 with(fail)
  refine zE ?_;intro x o;obtain⟨g,d,y⟩:=qL o;have c1:=d.three;go_wp2;go_ret;exact⟨rfl,g⟩
 have W:R<0:=oM;clear f;go_enter Tryz.func35,Tryz.ntmps35;go_upto_region 1 with(fail)
 refine zE ?_;intro x o;obtain⟨g,d,y⟩:=qL o;have c1:=d.three;go_wp2;go_ret;exact⟨rfl,g⟩
theorem zBM(v:Value)(R C:Int)(M:List (List Int))(w:World)(h:zAo w v R C M):
  CPq 35 #[v] w fun e w'=>e= .returned (.bool (decide (zAq R C M)))/\BWq w w':=zGt v R C M w h.off
def zTI:Nat->List (List Int)->Bool
 |_,[]=>true
 |i,r::rs=>decide (zLr i r.length r) && zTI (i+1) rs
theorem Tryz.infoI:(Tryz.prog.info? tI).map (fun i=>(i.zero,i.size,i.bytes))=some (some (.agg #[.bool false,.slice none 0 0]),2,32):=by kernel_rfl
def zTB(w:World)(cells:List Value)(zs:List Int):Prop:=
 ∀(k:Nat) (z:Int),zs[k]?=some z->∃s a l c,cells[k*2]?=some (.bool s)/\cells[k*2+1]?=some (.slice a l c)/\yA w (.agg #[.bool s,.slice a l c]) z
def zXo(w:World)(base:Nat)(v:Value)(zs:List Int):Prop:=∃cells,w.ownsRow base tI 2 v zs.length cells/\zTB w cells zs
theorem zCA{e:TypeId}{size:Nat}(h:w.ownsRow base e size v n xs)(f:e≠tU)(i:w.grownBy w' v.ownBlock):zBC w w':=by
 intro b cs p a;have l:=(Array.getElem?_eq_some_iff.1 a).1;by_cases c:v.ownBlock=some b
 .exfalso
  rcases h.2 with⟨rfl,-⟩|⟨g,cap,o,rfl,-,d,-⟩
  cases c;simp only[Value.ownBlock,Option.some.injEq]at c;subst c;rw[d]at a;injection a with a
  injection a with _ m
  exact f m
 have q:∀k,v.ownBlock=some k->b≠k:=fun k j e=>c (by rw[j,e])
 rw[i.block b l (by
  intro d;exact c d.symm)]
 exact a
def zWT(M:List (List Int))(n:Nat):List Int:=(List.range n).map fun k=>(M.getD k []).getD k 0
def zPL:Int->List Int->Bool
 |_,[]=>true
 |last,d::ds=>decide (0<=d) && decide (last∣d) && zPL d ds
def zXG(R C:Int)(M:List (List Int)):Bool:=decide (zAq R C M) && (zTI 0 M && zPL 1 (zWT M (min R.toNat C.toNat)))
abbrev tR:TypeId:=31
theorem Tryz.infoR:(Tryz.prog.info? tR).map (fun i=>(i.zero,i.size,i.bytes))=some (some (.slice none 0 0),1,24):=by kernel_rfl
abbrev zCt:=@Tryz.infoR
def zeroCells(n:Nat):Array Value:=madeCells (Value.agg #[.bool false,.slice none 0 0]).cells (n*2)
theorem mkI(m:Int)(n:Nat)(b:m=n)(h:n<=1099511627776)(W:World):
  (Instr.makeSlice 31 (niq m) (niq m)).run Tryz.prog W= .ok (slq W.heap.size n n) (W.alloc (.cells (zeroCells n) tI)):=by
 subst b;obtain⟨f,a,c,d,e⟩:=info_parts Tryz.infoI;have:=zC3 (P:=Tryz.prog) 31 tI f _ Tryz.underlying31 a c .i64 .i64 n n (xgf _) (by rw[e];omega) oM W;rw[this,d];rfl
theorem zGS(w:World)(n:Nat):yY (w.alloc (.cells (zeroCells n) tI)) w.heap.size (List.replicate n 0):=by
 refine⟨zeroCells n,heap_alloc_new w _,fun k z c=>?_⟩;have d:=(xge.1 c);obtain⟨b,a⟩:=d;rw[List.length_replicate]at b;rw[List.getElem_replicate]at a;subst a;refine⟨false,none,0,0,?_,?_,zCe _⟩
 .unfold zeroCells madeCells
  rw[Array.getElem?_eq_getElem (by simp;omega)];simp[Value.cells]
 unfold zeroCells madeCells;rw[Array.getElem?_eq_getElem (by simp;omega)];have:(k*2+1)%2=1:=oM;simp[Value.cells,this]
def zA3(C:Nat)(bs:List Nat):List Value:=bs.map fun b=>slq b C C
structure yH(w:World)(base:Nat)(A:Value)(C:Nat)(bs:List Nat)(M:List (List Int)):Prop where
 own:w.ownsRow base tR 1 A bs.length (zA3 C bs)
 len:M.length=bs.length
 row:∀(k:Nat) (b:Nat) (r:List Int),bs[k]?=some b->M[k]?=some r->base<=b/\r.length=C/\yY w b r
 nodup:bs.Nodup
 cb:C<=1099511627776
theorem yH.I(h:yH w base A C bs M)(a:BWq w w'):yH w' base A C bs M:=
 ⟨h.own.kept (row:=none) ⟨a.os,a.tape,a.output,a.size,fun k i _=>a.block k i⟩ (by cases j:A.ownBlock<;>simp),h.len,fun k b r f g=>by
  obtain⟨c,d,e⟩:=h.row k b r f g;exact⟨c,d,e.I a⟩,h.nodup,h.cb⟩
theorem yH.keep(h:yH w base A C bs M)(e:∀k,base<=k->w'.heap[k]?=w.heap[k]?)(x:zBC w w'):yH w' base A C bs M:=by
 refine⟨⟨h.own.1,?_⟩,h.len,fun k b r f j=>by
  obtain⟨a,c,d⟩:=h.row k b r f j;exact⟨a,c,d.old (e _ a) x⟩,h.nodup,h.cb⟩
 rcases h.own.2 with f|⟨g,cap,i,a,c,d⟩
 exact .inl f;exact .inr ⟨g,cap,i,a,c,(e _ c).trans d.1,d.2⟩
theorem Blk.put3{r:Nat}(h:Blk w r T #[c0,c1,c2])(x y z:Value):Blk (((w.setCell ⟨r,0,none⟩ x).setCell ⟨r,1,none⟩ y).setCell ⟨r,2,none⟩ z) r T #[x,y,z]:=by
 simpa using((h.set_ 0 x).set_ 1 y).set_ 2 z
theorem Blk.lext3{r:Nat}(h:Blk w r T cs)(a:T≠tU)(x y z:Value):zBC w (((w.setCell ⟨r,0,none⟩ x).setCell ⟨r,1,none⟩ y).setCell ⟨r,2,none⟩ z):=
 ((h.lext a 0 _).trans ((h.set_ 0 _).lext a 1 _)).trans (((h.set_ 0 _).set_ 1 _).lext a 2 _)
theorem zBS(w:World)(b k:Nat)(x y z:Value)(h:k≠b):(((w.setCell ⟨b,0,none⟩ x).setCell ⟨b,1,none⟩ y).setCell ⟨b,2,none⟩ z).heap[k]?=w.heap[k]?:=
 (yO _ b 2 k z h).trans (yG w b 0 1 k x y h)
theorem yH.mono{e:Nat}(h:yH w base A C bs M)(l:e<=base):yH w e A C bs M:=by
 refine⟨⟨h.own.1,?_⟩,h.len,fun k b r d j=>by
  obtain⟨f,a,c⟩:=h.row k b r d j;exact⟨oM,a,c⟩,h.nodup,h.cb⟩
 rcases h.own.2 with d|⟨g,cap,i,f,a,c⟩
 exact .inl d;exact .inr ⟨g,cap,i,f,zF l a,c⟩
theorem yH.fits(h:yH w base A C bs M):zBe bs.length C M:=by
 refine⟨h.len,fun r c=>?_⟩;obtain⟨k,a,e⟩:=yL c;have b:k<bs.length:=by have:=h.len;omega
 exact(h.row k bs[k] r (xga b) (by rw[xga a,e])).2.1
theorem yH.rows(h:yH w base A C bs M):zBl w A M:=by
 rcases h.own.2 with⟨rfl,m⟩|⟨g,cap,c,rfl,n,d,e,f,o,i⟩
 .have:M= []:=zY (by rw[h.len];exact m)
  subst this;exact zBl.nil w
 refine⟨some ⟨g,0,none⟩,bs.length,cap,rfl,h.len,e,f,fun _=>⟨g,c,rfl,d,fun k zs a=>?_⟩⟩;have q:=(xge.1 a).1;have b:k<bs.length:=by have:=h.len;omega
 obtain⟨p,j,l⟩:=h.row k bs[k] zs (xga b) a;refine⟨slq (bs[k]) C C,?_,some ⟨bs[k],0,none⟩,C,C,rfl,j,xgf _,by have:=h.cb;omega,fun _=>⟨_,rfl,l⟩⟩;have:(zA3 C bs)[k]?=some (slq (bs[k]) C C):=by simp[zA3,b]
 rw[<-i,List.getElem?_take_of_lt oM]at this;simpa using this
def zU2(w:World)(base:Nat)(v:Value)(R C:Nat)(bs:List Nat)(M:List (List Int)):Prop:=bs.length=R/\∃A,v= .agg #[niq R,niq C,A]/\yH w base A C bs M
theorem zU2.mat(h:zU2 w base v R C bs M):zAo w v R C M/\zBe R C M:=by
 obtain⟨rfl,A,rfl,h⟩:=h;exact⟨⟨A,rfl,h.rows⟩,h.fits⟩
theorem zBe.valid(h:zBe R C M):zAq R C M:=⟨oM,oM,by rw[h.1],fun r a=>by rw[h.2 r a]⟩
def zDW(w:World)(R C:Nat)(M:List (List Int))(e:Ending)(w':World):Prop:=∃v bs,e= .returned v/\zU2 w' w.heap.size v R C bs M/\BWq w w'
theorem Tryz.sizeM:(Tryz.prog.info? 29).map (·.size)=some 3:=by kernel_rfl
abbrev zEV:=@Tryz.sizeM
theorem zAy{fn:Func}{W:World}{Q:Ending->World->Prop}{r:Nat}{x y z:Value}{p:Tmp}(h:fn.results=#[.cell p 29])(hd:a.defers= [])
  (d:a.tmps.getD p undef=ptq r 0) (c:Blk W r 29 #[x,y,z]) (b:Q (.returned (.agg #[x,y,z])) W):bodyPost Tryz.prog fn Q .ret a W:=
 bodyPost_ret (results_cell_row h _ W r _ _ _ _ d c Tryz.underlying29 rfl (by rw[zEV];rfl)) hd b
theorem zGO(h:w.ownsRow base tR 1 v n xs)(d:yY w b r):some b≠v.ownBlock:=by
 intro e;rcases h.2 with⟨rfl,-⟩|⟨g,cap,i,rfl,-,c,-⟩
 cases e;simp only[Value.ownBlock,Option.some.injEq]at e;subst e;obtain⟨cs,a,-⟩:=d;rw[c]at a;injection a with a
 injection a with _ f
 exact absurd f dE
theorem zXO{w:World}{ops:Array Oper}{rest:List Oper}{o:Oper}{a:Act}{Q:Exit->Act->World->Prop}(L:o.guard=none)(s x:Operand)
  (R:o.op= .call {callee:=.builtin .append,args:=#[s,x],argTypes:=#[27,27]})
  (base:Nat) (v:Value) (C:Nat) (f:List Nat) (M:List (List Int)) (U:a.eval s=v) (d:yH w base v C f M) (b c i:Nat) (r:List Int) (m:a.eval x=slq b 1 c)
  (I:Blk w b tR #[slq i C C]) (S:yY w i r) (T:r.length=C) (P:base<=i) (K:∀g∈f,g≠i)
  (a0:f.length+1<=1099511627776) (J:base<=w.heap.size)
  (h:∀n w',yH w' base n C (f++ [i]) (M++ [r])->w.grownBy w' v.ownBlock->zBC w w'->wpList Tryz.prog ops Q rest (a.put o.dst n) w'):wpList Tryz.prog ops Q (o::rest) a w:=by
 obtain⟨Y,N,V,W,X⟩:=info_parts zCt;have c0:=I.cell 0;refine wpList_append_own w L s x 27 R base tR Y _ 1 24 Tryz.underlying27 N V W X rfl oM v f.length _ U d.own ⟨b,0,none⟩ 1 c [slq i C C] m rfl ?_ ?_ (by simp[maxLen];omega) oM J ?_
 .intro j u p
  rw[jI];match j with
  |0=>simp at p;subst p;exact c0
  |j+1=>simp at p
 .intro u D
  simp at D;subst D;rfl
 intro n w' Z t _;have m:=zCA d.own dE t;have A:∀g q,yY w g q->yY w' g q:=fun g q e=>e.old (t.block g e.lt (zGO d.own e)) m
 refine h n w' ⟨?_,by simp[d.len],?_,?_,d.cb⟩ t m
 .have:zA3 C (f++ [i])=zA3 C f++ [slq i C C]:=by simp[zA3]
  rw[this];simpa using Z
 .intro k g q l e
  rcases zJ k f.length with B|z
  .rw[List.getElem?_append_left B]at l
   rw[List.getElem?_append_left (by rw[d.len];exact B)]at e;obtain⟨F,G,H⟩:=d.row k g q l e;exact⟨F,G,A _ _ H⟩
  rw[List.getElem?_append_right z]at l;rw[List.getElem?_append_right (by rw[d.len];exact z),d.len]at e;have O:k-f.length=0:=by
   have:=(xge.1 l).1;simp at this;omega
  rw[O]at l e;simp at l e;subst l;subst e;exact⟨P,T,A _ _ S⟩
 rw[yI];refine⟨d.nodup,by simp,fun x m y E=>?_⟩;simp at E;subst E;exact K x m
def zCn(R C:Nat):List (List Int):=List.replicate R (List.replicate C 0)
theorem zDk(R C:Nat)(w:World)(U:R<=1000000)(T:C<=1000000):
  CPq 17 #[niq R,niq C] w (zDW w R C (zCn R C)):=by
 have o:=fun W=>mkI (C:Int) C rfl oM W
 go_enter Tryz.func17,Tryz.ntmps17;go_upto_block 0 with(fail)
 refine zE ?_;intro I v;obtain⟨t,a,q,Y⟩:=jW v;go_wp2;go_loopw [5,6] (fun A l wr=>∃(k:Nat) (bs:List Nat),k<=R/\l=niq k/\yH wr (w.heap.size+1) A C bs (zCn k C)/\BWq w wr/\Blk wr w.heap.size 29 #[niq 0,niq 0,.slice none 0 0]) (fun _ l _=>R-(intOf l).toNat)
 case atStart=>
  refine⟨0,[],oM,rfl,⟨⟨by simp[zA3],.inr ⟨w.heap.size+1,0,#[],rfl,xgf _,q,xgf _,by simp[maxLen],rfl,rfl⟩⟩,rfl,fun k b r h=>by simp at h,by simp,oM⟩,t,a⟩
 obtain⟨k,bs,D,rfl,c,f,a⟩:=hrel;have x:bs.length=k:=by rw[<-c.len];simp[zCn]
 by_cases X:k<R
 .have o:=o wr
  have i:BWq wr ((wr.alloc (.cells (zeroCells C) tI)).alloc (.cells #[slq wr.heap.size C C] tR)):=((zB _ _).alloc (xgf _) _).alloc sI _;have y:Blk ((wr.alloc (.cells (zeroCells C) tI)).alloc (.cells #[slq wr.heap.size C C] tR)) (wr.heap.size+1) tR #[slq wr.heap.size C C]:=by
   simpa using Blk.new (wr.alloc (.cells (zeroCells C) tI)) tR #[slq wr.heap.size C C]
  have G:=(zGS wr C).I ((zB (wr.alloc (.cells (zeroCells C) tI)).heap.size _).alloc (xgf _) (.cells #[slq wr.heap.size C C] tR));have z:∀g∈bs,g≠wr.heap.size:=by
   intro g d;obtain⟨j,n,e⟩:=yL d;have:=(c.row j g _ (by rw[xga n,e]) (xga (by rw[c.len];exact n))).2.2.lt;omega
  have H:=f.size;have V:=a.lt;have E:=c.I i;have a0:=lx i;go_wp2_with (at_builtin;refine zXO rfl _ _ rfl (w.heap.size+1) u5 C bs (zCn k C) rfl E (wr.heap.size+1) 1 wr.heap.size (List.replicate C 0) rfl y G sI oM z oM (by simp;omega) ?_;intro v' w' F m Z)
  have p:∀g,u5.ownBlock=some g->w.heap.size+1<=g:=by
   intro g d;rcases c.own.2 with⟨rfl,-⟩|⟨Q,cap,P,rfl,S,-⟩
   cases d;simp only[Value.ownBlock,Option.some.injEq]at d;omega
  have u:BWq w w':=(nx f i).grown m (by simp;omega) (fun g d=>by have:=p g d;omega);have s:=(m.block _ (by simp;omega) (fun B=>by have:=p _ B.symm;omega)).trans (a.I i);go_roundw
  case rel=>
   refine⟨k+1,bs++ [wr.heap.size],oM,by simp,?_,u,s⟩;have:zCn (k+1) C=zCn k C++ [List.replicate C 0]:=by unfold zCn;rw[List.replicate_succ']
   rw[this];exact F
  case measure=>exact meq
 obtain rfl:k=R:=oM;have c1:=a.three;obtain⟨O,N,M,rfl,J,K,L,-⟩:=id c.rows;have H:=f.size;go_wp2;refine zAy rfl rfl rfl (a.put3 _ _ _) ⟨_,bs,rfl,⟨x,_,rfl,?_⟩,yM (yM (yM f (xgf _) 0 _) (xgf _) 1 _) (xgf _) 2 _⟩;exact(c.keep (fun k D=>zBS _ _ k _ _ _ oM) (a.lext3 dE _ _ _)).mono (Nat.le_succ _)
def yV(R C:Nat)(f:Nat->Nat->Int):List (List Int):=(List.range R).map fun i=>(List.range C).map (f i)
def ent(M:List (List Int))(i j:Nat):Int:=(M.getD i []).getD j 0
theorem zAE{g:Nat->Nat->Int}(h:∀i,i<R->∀j,j<C->f i j=g i j):yV R C f=yV R C g:=by
 unfold yV;refine zA1 fun i a=>zA1 fun j b=>h i (yR.1 a) j (yR.1 b)
theorem zCy(R C:Nat)(f:Nat->Nat->Int)(a:i<R):(yV R C f)[i]?=some ((List.range C).map (f i)):=by
 simp[yV,a]
theorem zA9(a:i<R)(b:j<C):ent (yV R C f) i j=f i j:=by
 unfold ent;rw[zD2 (zCy R C f a)];simp[xgb,b]
theorem zB7(R C:Nat)(f:Nat->Nat->Int):zBe R C (yV R C f):=by
 refine⟨by simp[yV],fun r a=>?_⟩;unfold yV at a;obtain⟨i,-,rfl⟩:=List.mem_map.1 a;simp
theorem zDL(a:M[i]?=some r)(b:r[j]?=some z):ent M i j=z:=by
 unfold ent;rw[zD2 a,zD2 b]
theorem zPf(h:zBe R C M):M=yV R C (ent M):=by
 apply qI;rw[h.1];simp[yV];intro i b e;have g:i<R:=by rw[<-h.1];exact b
 have a:M[i]?=some M[i]:=xga b;have d:=h.2 _ (xgd a);apply qI;rw[d];simp[yV];intro j c f;have:=zDL a (xga c);simp[yV,this]
theorem zFW(R C:Nat):zCn R C=yV R C (fun _ _=>0):=by
 unfold zCn yV;apply qI;simp;intro i a b;apply qI;simp;intro j c d;simp
def zQn(M:List (List Int))(i j:Nat)(z:Int):List (List Int):=M.set i ((M.getD i []).set j z)
theorem zFC(z:Int)(m:i<R)(r:j<C):zQn (yV R C f) i j z=yV R C (fun g k=>if g=i/\k=j then z else f g k):=by
 unfold zQn;rw[zD2 (zCy R C f m)];apply qI;simp[yV];intro a n l;have q:a<R:=by simpa[yV]using l
 by_cases e:a=i
 .subst e
  rw[zAi];apply qI;simp[yV];intro b o p;by_cases c:b=j
  .subst c;simp[yV]
  have d:j≠b:=fun h=>c h.symm
  simp[yV,c,d]
 have d:i≠a:=fun h=>e h.symm
 rw[zA0 d];simp[yV,e]
theorem yH.set(h:yH w base A C bs M)(m:bs[i]?=some b)(N:j<C)
  {s:Bool} {a:Option Addr} {l c:Nat} {z:Int} (hv:yA w (.agg #[.bool s,.slice a l c]) z):
  yH ((w.setCell ⟨b,j*2,none⟩ (.bool s)).setCell ⟨b,j*2+1,none⟩ (.slice a l c)) base A C bs (zQn M i j z)/\zBC w ((w.setCell ⟨b,j*2,none⟩ (.bool s)).setCell ⟨b,j*2+1,none⟩ (.slice a l c))/\base<=b:=by
 have L:=(xge.1 m).1;have q:i<M.length:=by rw[h.len];exact L
 obtain⟨v,x,y⟩:=h.row i b M[i] m (xga q);obtain⟨O,B⟩:=y.set (k:=j) (by rw[x];exact N) hv;refine⟨⟨⟨h.own.1,?_⟩,by simp[zQn,h.len],?_,h.nodup,h.cb⟩,B,v⟩
 .rcases h.own.2 with o|⟨g,cap,D,u,E,F,G⟩
  .exact .inl o
  refine .inr ⟨g,cap,D,u,E,?_,G⟩;have t:g≠b:=by
   have:=zGO h.own y;rw[u]at this;simp only[Value.ownBlock]at this;intro p;exact this (by rw[p])
  exact(yG w b _ _ g _ _ t).trans F
 intro k n r f d;by_cases e:k=i
 .subst e
  rw[m]at f;injection f with f
  subst f;unfold zQn at d;rw[List.getElem?_set_self q]at d;injection d with d
  subst d;rw[zD2 (xga q)];exact⟨v,by rw[List.length_set];exact x,O⟩
 unfold zQn at d;rw[List.getElem?_set_ne (zL e)]at d;obtain⟨H,I,J⟩:=h.row k n r f d;have P:=(xge.1 f).1;have t:n≠b:=by
  intro p;subst p;have o:=(xge.1 f).2;have K:=(xge.1 m).2;exact e ((zAO h.nodup).1 (o.trans K.symm))
 exact⟨H,I,J.old (yG w b _ _ n _ _ t) B⟩
theorem yH.at_{c:Option Addr}(h:yH w base (.slice c n cap) C bs M)(a:i<bs.length):
  ∃g b,c=some ⟨g,0,none⟩/\g<w.heap.size/\bs[i]?=some b/\b<w.heap.size/\w.cell? ⟨g,i,none⟩=some (slq b C C)/\n=bs.length:=by
 rcases h.own.2 with⟨e,v⟩|⟨g,p,f,e,r,d,s,t,u,j⟩
 omega;injection e with k l q
 subst k;have m:i<M.length:=by rw[h.len];exact a
 have o:=h.row i bs[i] M[i] (xga a) (xga m);refine⟨g,bs[i],rfl,(Array.getElem?_eq_some_iff.1 d).1,xga a,o.2.2.lt,?_,l⟩;rw[cell_of_row w g i f _ _ d];have:(zA3 C bs)[i]?=some (slq (bs[i]) C C):=by simp[zA3,a]
 rw[<-j,List.getElem?_take_of_lt oM]at this;simpa using this
theorem yH.cellAt(h:yH w base A C bs M)(d:bs[i]?=some b)(k:j<C):
  ∃s a l c,w.cell? ⟨b,j*2,none⟩=some (.bool s)/\w.cell? ⟨b,j*2+1,none⟩=some (.slice a l c)/\w.frozen? ⟨b,j*2,none⟩=false/\w.frozen? ⟨b,j*2+1,none⟩=false/\yA w (.agg #[.bool s,.slice a l c]) (ent M i j):=by
 have g:=(xge.1 d).1;have e:i<M.length:=by rw[h.len];exact g
 obtain⟨o,m,n⟩:=h.row i b M[i] d (xga e);have f:j<M[i].length:=by rw[m];exact k
 have:=n.cell (xga f);rwa[zDL (xga e) (xga f)]
def zEQ(f:Nat->Nat->Int)(i j:Nat):Nat->Nat->Int:=fun a b=>if a<i∨(a=i/\b<j)then f a b else 0
theorem zER(R C:Nat)(f:Nat->Nat->Int):zCn R C=yV R C (zEQ f 0 0):=by
 rw[zFW];exact zAE fun i _ j _=>by unfold zEQ;rw[zA oM]
theorem zGZ:yV R C (zEQ f i C)=yV R C (zEQ f (i+1) 0):=
 zAE fun a _ b c=>by
  unfold zEQ;by_cases h:a<i∨(a=i/\b<C)
  .rw[zC h,zC oM]
  rw[zA h,zA oM]
theorem zGY:yV R C (zEQ f R 0)=yV R C f:=
 zAE fun a c b _=>by unfold zEQ;rw[zC oM]
theorem zGa(d:i<R)(e:j<C):zQn (yV R C (zEQ f i j)) i j (f i j)=yV R C (zEQ f i (j+1)):=by
 rw[zFC _ d e];exact zAE fun a _ b _=>by
  unfold zEQ;by_cases h:a=i/\b=j
  .obtain⟨rfl,rfl⟩:=h
   rw[zC ⟨rfl,rfl⟩,zC oM]
  rw[zA h];by_cases c:a<i∨(a=i/\b<j)
  .rw[zC c,zC oM]
  rw[zA c,zA oM]
theorem yH.lts(h:yH w base A C bs M):∀(i b:Nat),bs[i]?=some b->b<w.heap.size:=by
 intro i b a;have d:=(xge.1 a).1;have c:i<M.length:=by rw[h.len];exact d
 exact(h.row i b M[i] a (xga c)).2.2.lt
theorem zMa(v kv:Value)(R C:Nat)(M:List (List Int))(k:Int)(w:World)(h:zLq w v R C M)(hF:zBe R C M)(J:yA w kv k)(hR:R<=1000000)(hC:C<=1000000)(Q:∀r∈M,∀z∈r,Sm z)(W:Sm k):
  CPq 11 #[v,kv] w (zDW w R C (yV R C (fun i j=>ent M i j*k))):=by
 obtain⟨A,rfl,h⟩:=h;obtain⟨O,n,cap,rfl,F,e3,e4,-⟩:=id h;have HX:=xgw F;have HS:=xgv Q;have HK:=xgv W;have HF:=xgv hF;obtain rfl:n=R:=by rw[<-F,hF.1]
 have a7:=J;obtain⟨kn,ka,kl,kc,kx,rfl,X⟩:=id J;have b3:=xgw X;clear F Q W hF X;obtain⟨f,H⟩:∃f:Nat->Nat->Int,(fun i j=>ent M i j*k)=f:=⟨_,rfl⟩;rw[H];have V:∀i j,f i j=ent M i j*k:=fun i j=>by rw[<-H]
 clear H;have a3:=xgv V;clear V;go_enter Tryz.func11,Tryz.ntmps11;go_upto_region 1 with(fail)
 refine zE ?_;intro E S;obtain⟨P,e,o,m,c3⟩:=zBB S;have c1:=e.three;go_wp2_with fail
 refine(zDk n C E hR hC).mono ?_;rintro b6 w2 ⟨u,bs,rfl,⟨a5,A2,rfl,d⟩,x⟩;obtain⟨D,on,B,rfl,-,-,-,-⟩:=id d.rows;have a9:=d.lts;go_upto_region 2 with(fail)
 refine zE ?_;intro W3 T;obtain⟨t,p,c4⟩:=qL T;have e:=(e.I x).I t;have o:=(o.I x).I t;have m:=(m.I x).I t;have d:=d.I t;rw[zER n C f]at d;have a4:=nx (nx P x) t;have q2:=x.size;clear T S c1;go_wp2;go_loopw [6] (fun L wr=>∃i:Nat,i<=n/\L=niq i/\BWq w wr/\Blk wr w.heap.size 29 #[niq n,niq C,.slice O n cap]/\Blk wr (w.heap.size+1) 51 #[.bool kn,.slice ka kl kc]∧
  Blk wr (w.heap.size+1+1) 29 #[niq 0,niq 0,.slice none 0 0]/\Blk wr w2.heap.size 29 #[niq n,niq C,.slice D on B]/\yH wr E.heap.size (.slice D on B) C bs (yV n C (zEQ f i 0))) (fun L _=>n-(intOf L).toNat)
 case atStart=>exact⟨0,oM,rfl,a4,e,o,m,p,d⟩
 obtain⟨i,hi,rfl,q,e,o,m,p,d⟩:=hrel;have c1:=e.three;by_cases Y:i<n
 .go_wp2
  clear c1;go_loopw [7] (fun N wr=>∃j:Nat,j<=C/\N=niq j/\BWq w wr/\Blk wr w.heap.size 29 #[niq n,niq C,.slice O n cap]/\Blk wr (w.heap.size+1) 51 #[.bool kn,.slice ka kl kc]∧
   Blk wr (w.heap.size+1+1) 29 #[niq 0,niq 0,.slice none 0 0]/\Blk wr w2.heap.size 29 #[niq n,niq C,.slice D on B]/\yH wr E.heap.size (.slice D on B) C bs (yV n C (zEQ f i j))) (fun N _=>C-(intOf N).toNat)
  case atStart=>exact⟨0,oM,rfl,q,e,o,m,p,d⟩
  obtain⟨j,hj,rfl,q,e,o,m,p,d⟩:=hrel;have c1:=e.three;by_cases I:j<C
  .obtain⟨b,c9,ra,rn,rc,zs,rfl,b8,y,p1,hv⟩:=(h.I q).row (k:=i) (by rw[HX.out];exact Y)
   have b0:=HF.out.2 zs (xgd y);have c5:=hv.len;obtain rfl:rn=C:=oM;obtain⟨b',z,d2,a,l,c,rfl,b7,K,q1,d0,b2⟩:=hv.cell (k:=j) oM;have a6:=xgw (zDL y K);have SZ:qS (Sm z):=⟨HS.out _ (xgd y) _ (xgd K)⟩;clear y K b0;obtain⟨g,bo,rfl,hg,G,b9,o1,Z⟩:=d.at_ (i:=i) oM;have d1:=o.two;have f1:=p.three;have c2:i<on:=oM;have b4:=xgw Z;clear Z;have c6:=e.lt;have c7:=o.lt;have c8:=p.lt;have a8:=a7.ext (lx q);go_upto_region 8 with(fail)
   refine yD 17 [pcI 15 (z*k)] ?_;refine sRd ?_;refine sRc (fun wS hI Gk hG=>by go_simp;exact ck hG (zB8 _ _ z k _ (b2.ext hI.lext) (a8.ext hI.lext) SZ.out HK.out)) (fun d3 _=>?_);refine sRd ?_;refine sRe ?_;intro w9 s U;obtain⟨pn,pa,pl,pc,px,rfl,a1⟩:=id U;have b5:=xgw a1;clear a1;have a0:=d.I s;obtain⟨sn,sa,sl,sc,z1,z2,z3,z4,-⟩:=a0.cellAt G I;have c0:=a9 i bo G;have a2:=a0.set G I U;go_wp2;go_roundw
   case rel=>
    have hq:z*k=f i j:=by rw[a3.out,a6.out]
    rw[hq,zGa Y I]at a2;exact⟨j+1,oM,by simp,yM (yM (nx q s) oM _ _) oM _ _,(yG _ _ _ _ _ _ _ oM).trans (e.I s),(yG _ _ _ _ _ _ _ oM).trans (o.I s),(yG _ _ _ _ _ _ _ oM).trans (m.I s),(yG _ _ _ _ _ _ _ oM).trans (p.I s),a2.1⟩
   case measure=>exact meq
  obtain rfl:j=C:=oM;rw[zGZ]at d;go_wp2;go_roundw
  case rel=>exact⟨i+1,oM,by simp,q,e,o,m,p,d⟩
  case measure=>exact meq
 obtain rfl:i=n:=oM;rw[zGY]at d;have f1:=p.three;have r1:=m.three;have q1:=P.size;go_wp2;refine zAy rfl rfl rfl (m.put3 _ _ _) ⟨_,bs,rfl,⟨a5,_,rfl,?_⟩,yM (yM (yM q oM 0 _) oM 1 _) oM 2 _⟩;exact(d.keep (fun k J=>zBS _ _ k _ _ _ oM) (m.lext3 dE _ _ _)).mono q1
theorem zIN(v a:Value)(R C:Nat)(M:List (List Int))(k:Int)(w:World)(h:zAo w v R C M)(hF:zBe R C M)(e:yA w a k)(c:R<=1000000)(b:C<=1000000)(d:∀r∈M,∀z∈r,Sm z)(f:Sm k):
  CPq 11 #[v,a] w (zDW w R C (yV R C (fun i j=>ent M i j*k))):=zMa v a R C M k w h.off hF e c b d f
def idf(i j:Nat):Int:=if i=j then 1 else 0
def zTM(k:Nat)(i j:Nat):Int:=if i=j/\i<k then 1 else 0
def zQz(f:Nat->Int):Nat->Int
 |0=>0
 |k+1=>zQz f k+f k
def zGK(A B:List (List Int))(m i j:Nat):Int:=zQz (fun t=>ent A i t*ent B t j) m
def zGg(A B:List (List Int))(R m C:Nat):Prop:=
 ∀i,i<R->∀j,j<C->∀k,k<m->Sm (ent A i k)/\Sm (ent B k j)/\Sm (ent A i k*ent B k j)/\Sm (zGK A B k i j)
def zRP(f:Nat->Nat->Int)(i j:Nat)(x:Int):Nat->Nat->Int:=fun a b=>if a=i/\b=j then x else zEQ f i j a b
theorem zOt:yV R C (zEQ f i j)=yV R C (zRP f i j 0):=
 zAE fun a _ b _=>by
  unfold zRP;by_cases h:a=i/\b=j
  .obtain⟨rfl,rfl⟩:=h
   rw[zC ⟨rfl,rfl⟩];unfold zEQ;rw[zA oM]
  rw[zA h]
theorem zS2{x y:Int}(c:i<R)(d:j<C):zQn (yV R C (zRP f i j x)) i j y=yV R C (zRP f i j y):=by
 rw[zFC _ c d];exact zAE fun a _ b _=>by
  unfold zRP;by_cases h:a=i/\b=j
  .rw[zC h,zC h]
  rw[zA h,zA h,zA h]
theorem zS1:yV R C (zRP f i j (f i j))=yV R C (zEQ f i (j+1)):=
 zAE fun a _ b _=>by
  unfold zRP;by_cases h:a=i/\b=j
  .obtain⟨rfl,rfl⟩:=h
   rw[zC ⟨rfl,rfl⟩];unfold zEQ;rw[zC oM]
  rw[zA h];unfold zEQ;by_cases c:a<i∨(a=i/\b<j)
  .rw[zC c,zC oM]
  rw[zA c,zA oM]
theorem zQ6{x:Int}:zRP f i j x i j=x:=by unfold zRP;rw[zC ⟨rfl,rfl⟩]
theorem zMp{r:Nat}{v:Array Value}(b:Blk W r 29 v)(a:v.size=3):(loadVar 29 ⟨r,0,none⟩).run Tryz.prog W= .ok (.agg v) W:=
 run_loadVar_row W r _ _ v _ _ b Tryz.underlying29 rfl (by rw[zEV,a])
theorem zGz{fn:Func}{p u:Tmp}(h:fn.results=#[.cell p 29,.tmp u])(tmps:Array Value){W:World}{r:Nat}{v:Array Value}
  (c:tmps.getD p undef=ptq r 0) (b:Blk W r 29 v) (a:v.size=3):
  (results fn tmps).run Tryz.prog W= .ok (.tuple #[.agg v,tmps.getD u undef]) W:=by
 have d:tmps[p]?.getD undef=ptq r 0:=by simpa using c
 simp[results,h,d,asAddr,zMp b a]
theorem zQV(v1 v2:Value)(R m C:Nat)(r s:List (List Int))(w:World)(Q:zAo w v1 R m r)(S:zAo w v2 m C s)(a0:zBe R m r)(a1:zBe m C s)(hR:R<=1000000)(hm:m<=1000000)(hC:C<=1000000)(hS:zGg r s R m C):
  CPq 157 #[v1,v2] w fun e w'=>∃v bs,e= .returned (.tuple #[v,niq 0])/\zU2 w' w.heap.size v R C bs (yV R C (zGK r s m))/\BWq w w':=by
 obtain⟨A1,rfl,Q⟩:=Q;obtain⟨A2,rfl,S⟩:=S;obtain⟨V,n,cap,rfl,Y,e3,e4,-⟩:=id Q;obtain⟨X,q,W,rfl,Z,g3,g4,-⟩:=id S;have HX:=xgw Y;have HY:=xgw Z;have HS:=xgv hS;have b8:=xgv a0;have b9:=xgv a1;obtain rfl:n=R:=by rw[<-Y,a0.1]
 obtain rfl:q=m:=by rw[<-Z,a1.1]
 clear Y Z hS a0 a1;obtain⟨f,hf⟩:∃f:Nat->Nat->Int,zGK r s q=f:=⟨_,rfl⟩;rw[hf];have c0:qS (∀i j,f i j=zGK r s q i j):=⟨fun i j=>by rw[<-hf]⟩;clear hf;go_enter Tryz.func157,Tryz.ntmps157;go_upto_region 1 with(fail)
 refine zE ?_;intro J a3;obtain⟨a2,h,o,p,f0⟩:=zBB a3;have c1:=h.three;obtain⟨K,L,M,N,O,P⟩:=o.three;go_wp2_with fail
 refine(zDk n C J hR hC).mono ?_;rintro e w2 ⟨u,bs,rfl,⟨c4,A3,rfl,d⟩,H⟩;obtain⟨F,on,E,rfl,-,-,-,-⟩:=id d.rows;have c7:=d.lts;go_upto_region 4 with(fail)
 refine zE ?_;intro W3 a4;obtain⟨G,t,f2⟩:=qL a4;have h:=(h.I H).I G;have o:=(o.I H).I G;have p:=(p.I H).I G;have d:=d.I G;rw[zER n C f]at d;have c3:=nx (nx a2 H) G;have q2:=H.size;clear a4 a3 c1 K L M N O P;go_wp2;go_loopw [7] (fun iv wr=>∃i:Nat,i<=n/\iv=niq i/\BWq w wr/\Blk wr w.heap.size 29 #[niq n,niq q,.slice V n cap]/\Blk wr (w.heap.size+1) 29 #[niq q,niq C,.slice X q W]∧
  Blk wr (w.heap.size+1+1) 29 #[niq 0,niq 0,.slice none 0 0]/\Blk wr w2.heap.size 29 #[niq n,niq C,.slice F on E]/\yH wr J.heap.size (.slice F on E) C bs (yV n C (zEQ f i 0))) (fun iv _=>n-(intOf iv).toNat)
 case atStart=>exact⟨0,oM,rfl,c3,h,o,p,t,d⟩
 obtain⟨i,hi,rfl,A,h,o,p,t,d⟩:=hrel;have c1:=h.three;by_cases U:i<n
 .go_wp2
  clear c1;go_loopw [8] (fun jv wr=>∃j:Nat,j<=C/\jv=niq j/\BWq w wr/\Blk wr w.heap.size 29 #[niq n,niq q,.slice V n cap]/\Blk wr (w.heap.size+1) 29 #[niq q,niq C,.slice X q W]∧
   Blk wr (w.heap.size+1+1) 29 #[niq 0,niq 0,.slice none 0 0]/\Blk wr w2.heap.size 29 #[niq n,niq C,.slice F on E]/\yH wr J.heap.size (.slice F on E) C bs (yV n C (zEQ f i j))) (fun jv _=>C-(intOf jv).toNat)
  case atStart=>exact⟨0,oM,rfl,A,h,o,p,t,d⟩
  obtain⟨j,hj,rfl,A,h,o,p,t,d⟩:=hrel;obtain⟨K,L,M,N,O,P⟩:=o.three;by_cases D:j<C
  .go_wp2
   clear K L M N O P;rw[zOt]at d;go_loopw [9] (fun kv wr=>∃k:Nat,k<=q/\kv=niq k/\BWq w wr/\Blk wr w.heap.size 29 #[niq n,niq q,.slice V n cap]/\Blk wr (w.heap.size+1) 29 #[niq q,niq C,.slice X q W]∧
    Blk wr (w.heap.size+1+1) 29 #[niq 0,niq 0,.slice none 0 0]/\Blk wr w2.heap.size 29 #[niq n,niq C,.slice F on E]/\yH wr J.heap.size (.slice F on E) C bs (yV n C (zRP f i j (zGK r s k i j)))) (fun kv _=>q-(intOf kv).toNat)
   case atStart=>exact⟨0,oM,rfl,A,h,o,p,t,d⟩
   obtain⟨k,hk,rfl,A,h,o,p,t,d⟩:=hrel;have c1:=h.three;by_cases a7:k<q
   .obtain⟨K,L,M,N,O,P⟩:=o.three
    obtain⟨b,ra,rn,rc,zs,rfl,e1,hz,p1,hv⟩:=(Q.I A).row (k:=i) (by rw[HX.out];exact U);have d7:=b8.out.2 zs (xgd hz);have c8:=hv.len;obtain⟨b',z,f9,a,l,c,rfl,e0,b6,q1,f8,b7⟩:=hv.cell (k:=k) oM;have e9:k<rn:=oM;obtain⟨y,ya,yn,yc,ys,rfl,f4,hy,y1,b5⟩:=(S.I A).row (k:=k) (by rw[HY.out];exact a7);have c9:=b9.out.2 ys (xgd hy);have d0:=b5.len;obtain⟨y',x,xs,xa,xl,xc,rfl,f3,b4,x1,x2,b3⟩:=b5.cell (k:=j) oM;have e8:j<yn:=oM;have c5:=xgw (zDL hz b6);have c6:=xgw (zDL hy b4);have I:=xgv (HS.out i U j D k a7);clear hz b6 d7 hy b4 c9 c8 d0;obtain⟨g,c2,rfl,hg,T,e5,o1,a8⟩:=d.at_ (i:=i) oM;obtain⟨us,ua,ul,uc,u1,u2,u3,u4,uv⟩:=d.cellAt T D;rw[zA9 U D,zQ6]at uv;have f1:=t.three;have e7:i<on:=oM;have d8:=xgw a8;clear a8;have f5:=h.lt;have f6:=o.lt;have f7:=t.lt;rw[<-c5.out]at b7;rw[<-c6.out]at b3;go_upto_region 13 with(fail)
    refine yD 33 [pcI 30 (ent r i k*ent s k j),pcD 31 [30] (fun w v=>yA w v (zGK r s k i j+ent r i k*ent s k j))] ?_;refine sRd ?_;refine sRc (fun wS hI Gk hG=>by go_simp;exact ck hG (zB8 _ _ (ent r i k) (ent s k j) _ (b7.ext hI.lext) (b3.ext hI.lext) I.out.1 I.out.2.1)) (fun g1 _=>?_);refine sRc (fun wS hI a5 Gk hG=>by go_simp;exact ck hG (zE6 _ _ (zGK r s k i j) (ent r i k*ent s k j) _ (uv.ext hI.lext) a5 I.out.2.2.2 I.out.2.2.1)) (fun g5 _=>?_);refine sRd ?_;refine sRe ?_;intro w9 B a5 a6;obtain⟨pn,pa,pl,pc,px,rfl,b0⟩:=id a6;have d9:=xgw b0;clear b0;have a9:=d.I B;obtain⟨sn,sa,sl,sc,z1,z2,z3,z4,-⟩:=a9.cellAt T D;have e6:=c7 i c2 T;have b2:=a9.set T D a6;go_wp2;go_roundw
    case rel=>
     rw[zS2 U D]at b2;exact⟨k+1,oM,by simp,yM (yM (nx A B) oM _ _) oM _ _,(yG _ _ _ _ _ _ _ oM).trans (h.I B),(yG _ _ _ _ _ _ _ oM).trans (o.I B),(yG _ _ _ _ _ _ _ oM).trans (p.I B),(yG _ _ _ _ _ _ _ oM).trans (t.I B),b2.1⟩
    case measure=>exact meq
   obtain rfl:k=q:=oM;rw[<-c0.out,zS1]at d;go_wp2;go_roundw
   case rel=>exact⟨j+1,oM,by simp,A,h,o,p,t,d⟩
   case measure=>exact meq
  obtain rfl:j=C:=oM;rw[zGZ]at d;go_wp2;go_roundw
  case rel=>exact⟨i+1,oM,by simp,A,h,o,p,t,d⟩
  case measure=>exact meq
 obtain rfl:i=n:=oM;rw[zGY]at d;have f1:=t.three;have r1:=p.three;have q1:=a2.size;go_wp2;refine bodyPost_ret (zGz rfl _ rfl (p.put3 _ _ _) rfl) rfl ⟨_,bs,rfl,⟨c4,_,rfl,?_⟩,yM (yM (yM A oM 0 _) oM 1 _) oM 2 _⟩;exact(d.keep (fun k hk=>zBS _ _ k _ _ _ oM) (p.lext3 dE _ _ _)).mono q1
theorem zKA(s t:Value)(R m C:Nat)(a b:List (List Int))(w:World)(d:zAo w s R m a)(f:zAo w t m C b)(j:zBe R m a)(l:zBe m C b)(J:R<=1000000)(L:m<=1000000)(I:C<=1000000)(o:zGg a b R m C):
  CPq 126 #[s,t] w (zDW w R C (yV R C (zGK a b m))):=by
 have F:=d;have G:=f;obtain⟨N,rfl,d⟩:=d;obtain⟨O,rfl,f⟩:=f;obtain⟨S,n,cap,rfl,-⟩:=id d;obtain⟨U,a0,T,rfl,-⟩:=id f;have y:=xgv o;have v:=xgv j;have x:=xgv l;clear o j l;go_enter Tryz.func126,Tryz.ntmps126;go_upto_region 1 with(fail)
 refine zE ?_;intro A p;obtain⟨g,B,D,c,X⟩:=zBB p;have c1:=B.three;have E:=D.three;go_wp2_with fail
 refine(zQV _ _ R m C a b A (F.I g) (G.I g) v.out x.out J L I y.out).mono ?_;rintro e w2 ⟨u,bs,rfl,⟨K,P,rfl,h⟩,r⟩;obtain⟨oo,on,Z,rfl,-,-,-,-⟩:=id h.rows;go_upto_region 2 with(fail)
 refine zE ?_;intro Q q;obtain⟨i,z,Y⟩:=qL q;have c:=(c.I r).I i;have h:=h.I i;have H:=nx (nx g r) i;have M:=g.size;clear q p c1 E;have V:=z.three;have r1:=c.three;go_wp2;refine zAy rfl rfl rfl (c.put3 _ _ _) ⟨_,bs,rfl,⟨K,_,rfl,?_⟩,yM (yM (yM H oM 0 _) oM 1 _) oM 2 _⟩;exact(h.keep (fun k W=>zBS _ _ k _ _ _ oM) (c.lext3 dE _ _ _)).mono M

def zXf(n:Nat)(R1 C1 R2 C2:Int)(M1 M2:List (List Int)):Bool:=
 decide (R1=n/\C1=n/\zAq R1 C1 M1) && (decide (R2=n/\C2=n/\zAq R2 C2 M2) && decide (yV n n (zGK M1 M2 n)=yV n n idf))
def zEp:Nat->List Int->Int
 |_,[]=>-1
 |k,z::zs=>if z≠0 then(k:Int)else zEp (k+1) zs
structure zA5(S:List Nat)(w w':World):Prop where
 bel:Below 0 w w'
 lext:zBC w w'
 old:∀k,k<w.heap.size->k ∉ S->w'.heap[k]?=w.heap[k]?
theorem zA5.refl(S:List Nat)(w:World):zA5 S w w:=⟨zB _ _,zBC.refl _,fun _ _ _=>rfl⟩
theorem zA5.of(S:List Nat)(h:BWq w w'):zA5 S w w':=⟨h.mono (zG _),lx h,fun k a _=>h.block k a⟩
theorem zA5.trans{a b:World}(h:zA5 S a b)(k:zA5 S b c):zA5 S a c:=
 ⟨h.bel.trans k.bel,h.lext.trans k.lext,fun i d e=>(k.old i (zI d h.bel.size) e).trans (h.old i d e)⟩
theorem yY.only(h:yY w b zs)(k:zA5 S w w')(a:b ∉ S):yY w' b zs:=h.old (k.old b h.lt a) k.lext
theorem yY.vec(h:yY w b zs)(c:zs.length=n)(hc:n<=cap)(a:cap<=9223372036854775807):zAR w (slq b n cap) zs:=
 ⟨_,_,_,rfl,c,hc,a,fun _=>⟨b,rfl,h⟩⟩
def qQ(n:Nat)(f:Nat->Int):List Int:=(List.range n).map f
theorem zO(n:Nat)(f:Nat->Int):(qQ n f).length=n:=by simp[qQ]
theorem qU{f:Nat->Int}(h:j<n):(qQ n f)[j]?=some (f j):=by simp[qQ,h]
theorem zDJ{f:Nat->Int}(z:Int):(qQ n f).set j z=qQ n (fun t=>if t=j then z else f t):=by
 apply qI;simp[qQ];intro a b c;by_cases e:a=j
 .subst e;simp[qQ]
 have:j≠a:=fun h=>e h.symm
 simp[qQ,this,e]
theorem qZ{f g:Nat->Int}(h:∀t,t<n->f t=g t):qQ n f=qQ n g:=by
 unfold qQ;exact zA1 fun t a=>h t (yR.1 a)
def jD(f g:Nat->Int)(j:Nat):Nat->Int:=fun t=>if t<j then f t else g t
theorem zFf(G:Nat)(a0:G=74∨G=74)(d y n D E:Nat)(f g:Nat->Int)(kv:Value)(k:Int)(w:World)(hv:yY w d (qQ n f))(a:yY w y (qQ n g))(a1:d≠y)(b:yA w kv k)
  (hn:n<=1000000) (a6:n<=D) (a7:D<=9223372036854775807) (a8:n<=E) (a9:E<=9223372036854775807)
  (M:∀t,t<n->Sm (f t)/\Sm (g t)/\Sm (k*g t)) (R:Sm k):
  CPq G #[slq d n D,slq y n E,kv] w fun e w'=>(∃u,e= .returned u)/\zA5 [d] w w'/\yY w' d (qQ n (fun t=>f t+k*g t)):=by
 have HS:=xgv M;have HK:=xgv R;obtain⟨kn,Z,kl,kc,kx,rfl,S⟩:=id b;have a4:=xgw S;clear M R S;have b2:=hv.lt;have b3:=a.lt;obtain⟨F,hF⟩:∃F:Nat->Int,(fun t=>f t+k*g t)=F:=⟨_,rfl⟩;rw[hF];have K:qS (∀t,F t=f t+k*g t):=⟨fun t=>by rw[<-hF]⟩;clear hF;rcases a0 with rfl|rfl
 all_goals
  first|go_enter Tryz.func74,Tryz.ntmps74|go_enter Tryz.func74,Tryz.ntmps74
  go_upto_region 1 with(fail)
  refine zE ?_;intro W0 N;obtain⟨A,bx,b5⟩:=qL N;have V:=hv.I A;have a2:=a.I A;have B:=b.ext (lx A);have U:qQ n f=qQ n (jD F f 0):=qZ fun t _=>by unfold jD;rw[zA oM]
  rw[U]at V;have c:=zA5.of [d] A;clear N U hv a b;go_wp2;go_loopw [10] (fun J wr=>∃j:Nat,j<=n/\J=niq j/\zA5 [d] w wr/\Blk wr w.heap.size 51 #[.bool kn,.slice Z kl kc]/\yA wr (.agg #[.bool kn,.slice Z kl kc]) k/\yY wr y (qQ n g)/\yY wr d (qQ n (jD F f j))) (fun J _=>n-(intOf J).toNat)
  case atStart=>exact⟨0,oM,rfl,c,bx,B,a2,V⟩
  obtain⟨j,hj,rfl,c,bx,b,a,hv⟩:=hrel;by_cases r:j<n
  .obtain⟨xs,xa,xl,xc,p1,p2,-,-,o⟩:=a.cell (qU r)
   have b4:=a.lt;have b0:=bx.lt;go_upto_region 4 with(fail)
   refine zE ?_;intro W6 O;obtain⟨m,p,b6⟩:=qL O;have L:=p.two;have c:=c.trans (zA5.of [d] m);have bx:=bx.I m;have b:=b.ext (lx m);have a:=a.I m;have hv:=hv.I m;have o:=o.ext (lx m);clear p1 p2 O;go_wp2_with fail
   refine(zAn _ (g j) W6 o.J).mono ?_;rintro e w7 ⟨rfl,h⟩;have c:=c.trans (zA5.of [d] h);have bx:=bx.I h;have b:=b.ext (lx h);have a:=a.I h;have hv:=hv.I h;have o:=o.ext (lx h);have p:=p.I h;clear L;by_cases I:g j=0
   .rw [zDi I]
    go_wp2;go_roundw
    case rel=>
     have s:qQ n (jD F f j)=qQ n (jD F f (j+1)):=qZ fun t _=>by
      unfold jD;by_cases l:t<j
      .rw[zC l,zC oM]
      by_cases z:t=j
      .subst z
       rw[zA l,zC oM,K.out,I,zZ,jN]
      rw[zA l,zA oM]
     rw[s]at hv;exact⟨j+1,oM,by simp,c,bx,b,a,hv⟩
    case measure=>exact meq
   have hc:=zFq I;obtain⟨Y,B⟩:∃Y,zAB (g j) 0=Y:=⟨_,rfl⟩;rw[B]at hc ⊢
   clear B;obtain⟨ys,ya,yl,yc,v1,v2,-,-,X⟩:=hv.cell (qU r);have a3:jD F f j j=f j:=by unfold jD;rw[zA oM]
   rw[a3]at X;have L:=p.two;have k1:=bx.two;have lv:=hv.lt;have lb:=bx.lt;have l7:=p.lt;have C:=xgv (HS.out j r);go_upto_region 5 with(fail)
   refine yD 11 [pcI 8 (k*g j),pcD 9 [8] (fun w v=>yA w v (f j+k*g j))] ?_;refine sRd ?_;refine sRc (fun wS hI Gk H=>by go_simp;exact ck H (zCD _ _ k (g j) _ (b.ext hI.lext).J (o.ext hI.lext).J HK.out C.out.2.1)) (fun b8 _=>?_);refine sRc (fun wS hI P Gk H=>by go_simp;exact ck H (zEu _ _ (f j) (k*g j) _ (X.ext hI.lext).J P.J C.out.1 C.out.2.2)) (fun b9 _=>?_);refine sRd ?_;refine sRe ?_;intro w9 q P Q;obtain⟨pn,pa,pl,pc,px,rfl,T⟩:=id Q;have a5:=xgw T;clear T;have W:=hv.I q;obtain⟨zs,za,zl,zc,z1,z2,z3,z4,-⟩:=W.cell (qU r);have x:=W.set (k:=j) (by rw[zO];exact r) Q;have c:=c.trans (zA5.of [d] q);have b:=b.ext (lx q);have bx:=bx.I q;have a:=a.I q;have b7:=c.bel.size;go_wp2;go_roundw
   case rel=>
    have s:(qQ n (jD F f j)).set j (f j+k*g j)=qQ n (jD F f (j+1)):=by
     rw[zDJ];exact qZ fun t _=>by
      unfold jD;by_cases z:t=j
      .subst z
       rw[zC rfl,zC oM,K.out]
      rw[zA z];by_cases l:t<j
      .rw[zC l,zC oM]
      rw[zA l,zA oM]
    rw[s]at x;refine⟨j+1,oM,by simp,c.trans ⟨yM (yM (zB _ _) (zG _) _ _) (zG _) _ _,x.2,fun i _ hi=>yG _ _ _ _ _ _ _ (by simpa using hi)⟩,(yG _ _ _ _ _ _ _ oM).trans bx,b.ext x.2,a.old (yG _ _ _ _ _ _ _ (zL a1)) x.2,x.1⟩
   case measure=>exact meq
  obtain rfl:j=n:=oM;have s:qQ j (jD F f j)=qQ j F:=qZ fun t ht=>by unfold jD;rw[zC ht]
  rw[s]at hv;go_wp2;exact bodyPost_end (results_none rfl _ _ _) rfl ⟨⟨_,rfl⟩,c,hv⟩
abbrev zVK:=zFf 74 (.inl rfl)
abbrev zI1:=zFf 74 (.inr rfl)
theorem yH.only(h:yH w base A C bs M)(i:zA5 S w w')(hd:∀b∈bs,b ∉ S)(f:∀g∈S,∃r,yY w g r):yH w' base A C bs M:=by
 refine⟨⟨h.own.1,?_⟩,h.len,fun k b r d m=>by
  obtain⟨a,e,c⟩:=h.row k b r d m;exact⟨a,e,c.only i (hd b (xgd d))⟩,h.nodup,h.cb⟩
 rcases h.own.2 with d|⟨g,cap,j,a,e,c,l⟩
 exact .inl d;refine .inr ⟨g,cap,j,a,e,?_,l⟩;refine(i.old g (Array.getElem?_eq_some_iff.1 c).1 ?_).trans c;intro n;obtain⟨r,f⟩:=f g n;have:=zGO h.own f;rw[a]at this;exact this rfl
theorem yH.setRow(h:yH w base A C bs M)(d:bs[i]?=some b)(p:zA5 [b] w w')(F:yY w' b r)(D:r.length=C):
  yH w' base A C bs (M.set i r):=by
 have B:=(xge.1 d).1;have o:i<M.length:=by rw[h.len];exact B
 obtain⟨H,K,I⟩:=h.row i b M[i] d (xga o);refine⟨⟨h.own.1,?_⟩,by simp[h.len],?_,h.nodup,h.cb⟩
 .rcases h.own.2 with f|⟨g,cap,q,l,s,m,t⟩
  .exact .inl f
  refine .inr ⟨g,cap,q,l,s,?_,t⟩;refine(p.old g (Array.getElem?_eq_some_iff.1 m).1 ?_).trans m;intro n;have:=zGO h.own I;rw[l]at this;simp at n;exact this (by rw[n];rfl)
 intro k j G a c;by_cases e:k=i
 .subst e
  rw[d]at a;injection a with a
  subst a;rw[List.getElem?_set_self o]at c;injection c with c
  subst c;exact⟨H,D,F⟩
 rw[List.getElem?_set_ne (zL e)]at c;obtain⟨u,v,x⟩:=h.row k j G a c;have J:=(xge.1 a).1;have E:j≠b:=by
  intro z;subst z;have f:=(xge.1 a).2;have y:=(xge.1 d).2;exact e ((zAO h.nodup).1 (f.trans y.symm))
 exact⟨u,v,x.only p (by simpa using E)⟩
def zDX(F:Nat->Nat->Int)(i j:Nat)(k:Int):Nat->Nat->Int:=fun a b=>if a=i then F i b+k*F j b else F a b
theorem zOa(f:i<R):(yV R C F).set i (qQ C (fun t=>F i t+k*F j t))=yV R C (zDX F i j k):=by
 apply qI;simp[yV];intro a c d;by_cases e:a=i
 .subst e
  rw[zAi];simp[yV,qQ,zDX]
 have b:i≠a:=fun h=>e h.symm
 rw[zA0 b];simp[yV,zDX,e]
theorem yH.rowAt(h:yH w base A C bs (yV R C F))(a:i<R):∃b,bs[i]?=some b/\yY w b (qQ C (F i)):=by
 have c:bs.length=R:=by rw[<-h.len];simp[yV]
 refine⟨bs[i],xga oM,?_⟩;exact(h.row i bs[i] (qQ C (F i)) (xga oM) (zCy R C F a)).2.2
def Wri(w:World)(A:Value)(R C:Nat)(bs:List Nat)(F:Nat->Nat->Int):Prop:=yH w 0 A C bs (yV R C F)
theorem Wri.I(h:Wri w A R C bs F)(a:BWq w w'):Wri w' A R C bs F:=yH.I h a
theorem Wri.len(h:Wri w A R C bs F):bs.length=R:=by rw[<-yH.len h];simp[yV]
theorem Wri.blk(h:Wri w A R C bs F)(d:b∈bs):∃r,yY w b r:=by
 obtain⟨k,f,e⟩:=yL d;have j:=h.len;obtain⟨g,a,c⟩:=yH.rowAt h (i:=k) oM;rw[xga f,e]at a;injection a with a
 subst a;exact⟨_,c⟩
theorem Wri.only(h:Wri w A R C bs F)(e:zA5 [b] w w')(d:b ∉ bs)(f:yY w b r):Wri w' A R C bs F:=
 yH.only h e (fun x i=>by
  intro c;simp at c;subst c;exact d i) (fun g a=>by
  simp at a;subst a;exact⟨_,f⟩)
def Far(xs ys:List Nat):Prop:=∀b,b∈xs->b ∉ ys
structure zHO(w:World)(As At Ai:Value)(n Cs Ct:Nat)(bss bst bsi:List Nat)(S T I:Nat->Nat->Int):Prop where
 s:Wri w As n Cs bss S
 t:Wri w At n Ct bst T
 i:Wri w Ai n Ct bsi I
 st:Far bss bst
 si:Far bss bsi
 ti:Far bst bsi
 ast:∀g,As.ownBlock=some g->At.ownBlock≠some g
 asi:∀g,As.ownBlock=some g->Ai.ownBlock≠some g
 ati:∀g,At.ownBlock=some g->Ai.ownBlock≠some g
abbrev tRR:TypeId:=27
def zO3(C:Nat)(F:Nat->Nat->Int)(i j:Nat)(k:Int):Prop:=∀t,t<C->Sm (F i t)/\Sm (F j t)/\Sm (k*F j t)
def swp(i j:Nat)(k:Nat):Nat:=if k=i then j else if k=j then i else k
def zXv(bs:List Nat)(i j:Nat):List Nat:=(bs.set i (bs.getD j 0)).set j (bs.getD i 0)
def zJO(F:Nat->Nat->Int)(i j:Nat):Nat->Nat->Int:=fun a b=>F (swp i j a) b
def zDT(F:Nat->Nat->Int)(i:Nat):Nat->Nat->Int:=fun a b=>if a=i then-(F a b)else F a b
def trF(F:Nat->Nat->Int):Nat->Nat->Int:=fun a b=>F b a
def zAQ(F:Nat->Nat->Int)(i j:Nat)(m0 m1 m2 m3:Int):Nat->Nat->Int:=fun a b=>if a=i then m0*F i b+m1*F j b else if a=j then m2*F i b+m3*F j b else F a b
structure Bst where
 s:Nat->Nat->Int
 t:Nat->Nat->Int
 i:Nat->Nat->Int
def Bst.add(x:Bst)(i j:Nat)(k:Int):Bst:=⟨zDX x.s i j k,zDX x.t i j k,zDX x.i j i (-k)⟩
def Bst.swap(x:Bst)(i j:Nat):Bst:=⟨zJO x.s i j,zJO x.t i j,zJO x.i i j⟩
def Bst.neg(x:Bst)(i:Nat):Bst:=⟨zDT x.s i,zDT x.t i,zDT x.i i⟩
def okF(B R C:Nat)(F:Nat->Nat->Int):Prop:=∀a,a<R->∀b,b<C->(F a b).natAbs<B
instance (B R C:Nat) (F:Nat->Nat->Int):Decidable (okF B R C F):=by unfold okF;infer_instance
def okB(B n Cs Ct:Nat)(x:Bst):Prop:=okF B n Cs x.s/\okF B n Ct x.t/\okF B n Ct x.i
instance (B n Cs Ct:Nat) (x:Bst):Decidable (okB B n Cs Ct x):=by unfold okB;infer_instance
def zGu(B n Cs Ct:Nat)(x:Bst)(i j:Nat)(k:Int):Prop:=
 k.natAbs<B/\(∀t,t<Cs->(k*x.s j t).natAbs<B)/\(∀t,t<Ct->(k*x.t j t).natAbs<B/\(k*x.i i t).natAbs<B)/\okB B n Cs Ct (x.add i j k)
instance (B n Cs Ct:Nat) (x:Bst) (i j:Nat) (k:Int):Decidable (zGu B n Cs Ct x i j k):=by unfold zGu;infer_instance
def lead(C:Nat)(F:Nat->Nat->Int)(i:Nat):Int:=zEp 0 (qQ C (F i))
def adv(L:Nat->Int)(c:Int):Nat->Nat->Nat
 |0,k=>k
 |m+1,k=>if L k<c then adv L c m (k+1)else k
def zW5(k:Nat):Nat->Bst->Bst
 |0,x=>x
 |m+1,x=>zW5 k m (x.swap (k+m+1) (k+m))
def zTX(B n Cs Ct m rank:Nat):Nat->Nat->Bst->Option (Bst × Bool)
 |0,_,_=>none
 | f +1,k,x=>
  if lead Cs x.s m<0 then some (x,false)
  else if adv (lead Cs x.s) (lead Cs x.s m) (rank-k) k<rank/\lead Cs x.s (adv (lead Cs x.s) (lead Cs x.s m) (rank-k) k)=lead Cs x.s m then
   if zGu B n Cs Ct x m (adv (lead Cs x.s) (lead Cs x.s m) (rank-k) k) (-(x.s m (lead Cs x.s m).toNat/x.s (adv (lead Cs x.s) (lead Cs x.s m) (rank-k) k) (lead Cs x.s m).toNat))then
    zTX B n Cs Ct m rank f (adv (lead Cs x.s) (lead Cs x.s m) (rank-k) k)
     (if x.s m (lead Cs x.s m).toNat%x.s (adv (lead Cs x.s) (lead Cs x.s m) (rank-k) k) (lead Cs x.s m).toNat=0 then x.add m (adv (lead Cs x.s) (lead Cs x.s m) (rank-k) k) (-(x.s m (lead Cs x.s m).toNat/x.s (adv (lead Cs x.s) (lead Cs x.s m) (rank-k) k) (lead Cs x.s m).toNat))
      else(x.add m (adv (lead Cs x.s) (lead Cs x.s m) (rank-k) k) (-(x.s m (lead Cs x.s m).toNat/x.s (adv (lead Cs x.s) (lead Cs x.s m) (rank-k) k) (lead Cs x.s m).toNat))).swap m (adv (lead Cs x.s) (lead Cs x.s m) (rank-k) k))
   else none
  else some (zW5 (adv (lead Cs x.s) (lead Cs x.s m) (rank-k) k) (rank-adv (lead Cs x.s) (lead Cs x.s m) (rank-k) k) ((if x.s m (lead Cs x.s m).toNat<0 then x.neg m else x).swap m rank),true)
def zWD(B n Cs Ct:Nat)(cols:Nat->Int)(i:Nat):Nat->Nat->Bst->Option Bst
 |0,_,x=>some x
 |m+1,j,x=>
  if cols j<0 then none
  else if x.s i (cols j).toNat=0 then zWD B n Cs Ct cols i m (j+1) x
  else if x.s j (cols j).toNat=0 then none
  else if x.s i (cols j).toNat/x.s j (cols j).toNat=0 then zWD B n Cs Ct cols i m (j+1) x
  else if zGu B n Cs Ct x i j (-(x.s i (cols j).toNat/x.s j (cols j).toNat))then zWD B n Cs Ct cols i m (j+1) (x.add i j (-(x.s i (cols j).toNat/x.s j (cols j).toNat)))
  else none
def zW4(B n Cs Ct:Nat)(cols:Nat->Int)(rank:Nat):Nat->Bst->Option Bst
 |0,x=>some x
 |i+1,x=>(zWD B n Cs Ct cols i (rank-(i+1)) (i+1) x).bind (zW4 B n Cs Ct cols rank i)
def zUm(B n Cs Ct rank:Nat)(x:Bst):Option Bst:=zW4 B n Cs Ct (lead Cs x.s) rank rank x
def zVS(B n Cs Ct f:Nat):Nat->Nat->Nat->Bst->Option Bst
 |0,_,_,x=>some x
 |l+1,m,rank,x=>
  (zTX B n Cs Ct m rank f 0 x).bind fun r=>(zUm B n Cs Ct (if r.2 then rank+1 else rank) r.1).bind fun y=>zVS B n Cs Ct f l (m+1) (if r.2 then rank+1 else rank) y
def zWz(B n Cs Ct f:Nat)(x:Bst):Option Bst:=zVS B n Cs Ct f n 0 0 x
structure W5 where
 s:Nat->Nat->Int
 u:Nat->Nat->Int
 v:Nat->Nat->Int
 w:Nat->Nat->Int
 x:Nat->Nat->Int
def zVt(B R C Cu Cw f:Nat)(z:W5):Option W5:=
 (zWz B R C Cu f ⟨z.s,z.u,z.v⟩).bind fun a=>(zWz B C R Cw f ⟨trF a.s,z.w,z.x⟩).bind fun b=>some ⟨trF b.s,a.t,a.i,b.t,b.i⟩
def zPT(R C:Nat)(F:Nat->Nat->Int):Prop:=∀a,a<R->∀b,b<C->a≠b->F a b=0
instance (R C:Nat) (F:Nat->Nat->Int):Decidable (zPT R C F):=by unfold zPT;infer_instance
def zVu(B R C Cu Cw f:Nat):Nat->W5->Option W5
 |0,_=>none
 |r+1,z=>(zVt B R C Cu Cw f z).bind fun y=>if zPT R C y.s then some y else zVu B R C Cu Cw f r y
def zWy(F:Nat->Nat->Int)(i j:Nat):Nat->Nat->Int:=fun a b=>if a=j/\b=j then F i i*(F j j/((Int.gcd (F i i) (F j j):Nat):Int))else if a=i/\b=i then((Int.gcd (F i i) (F j j):Nat):Int)else F a b
def zXR(z:W5)(i j:Nat)(s t:Int):W5:=
 ⟨zWy z.s i j,zAQ z.u i j s t (-(z.s j j/((Int.gcd (z.s i i) (z.s j j):Nat):Int))) (z.s i i/((Int.gcd (z.s i i) (z.s j j):Nat):Int)),
  zAQ z.v i j (z.s i i/((Int.gcd (z.s i i) (z.s j j):Nat):Int)) (z.s j j/((Int.gcd (z.s i i) (z.s j j):Nat):Int)) (-t) s,
  zAQ z.w i j 1 1 (-(t*(z.s j j/((Int.gcd (z.s i i) (z.s j j):Nat):Int)))) (1-t*(z.s j j/((Int.gcd (z.s i i) (z.s j j):Nat):Int))),
  zAQ z.x i j (1-t*(z.s j j/((Int.gcd (z.s i i) (z.s j j):Nat):Int))) (t*(z.s j j/((Int.gcd (z.s i i) (z.s j j):Nat):Int))) (-1) 1⟩
def Bez(x y s t:Int):Prop:=s*x+t*y=((Int.gcd x y:Nat):Int)/\s.natAbs<=max 1 y.natAbs/\t.natAbs<=max 1 x.natAbs
inductive zWE (n:Nat):W5->W5->Prop
 |refl (z:W5):zWE n z z
 |step (z y:W5) (i j:Nat) (s t:Int):zWE n z y->i<j->j<n->¬ y.s i i∣y.s j j->Bez (y.s i i) (y.s j j) s t->zWE n z (zXR y i j s t)
def zWx(i:Nat):Nat->Nat->(Nat->Nat->Int)->(Nat->Nat->Int)
 |0,_,F=>F
 |m+1,j,F=>zWx i m (j+1) (if F i i∣F j j then F else zWy F i j)
def zXQ:Nat->Nat->(Nat->Nat->Int)->(Nat->Nat->Int)
 |0,_,F=>F
 |m+1,i,F=>zXQ m (i+1) (zWx i m (i+1) F)
example:(zVu 1000000 2 1 2 1 20 5 ⟨fun a _=>if a=0 then 4 else 6,fun a b=>if a=b then 1 else 0,fun a b=>if a=b then 1 else 0,fun _ _=>1,fun _ _=>1⟩).map (fun z=>(z.s 0 0,z.s 1 0,z.u 0 0,z.u 0 1,z.u 1 0,z.u 1 1))=some (2,0,-1,1,3,-2):=by decide
structure jB(Z:Nat->Prop)(w w':World):Prop where
 bel:Below 0 w w'
 lext:zBC w w'
 old:∀k,k<w.heap.size->¬ Z k->w'.heap[k]?=w.heap[k]?
theorem jB.refl(Z:Nat->Prop)(w:World):jB Z w w:=⟨zB _ _,zBC.refl _,fun _ _ _=>rfl⟩
theorem jB.of(Z:Nat->Prop)(h:BWq w w'):jB Z w w':=⟨h.mono (zG _),lx h,fun k a _=>h.block k a⟩
theorem jB.trans{a b:World}(h:jB Z a b)(k:jB Z b c):jB Z a c:=
 ⟨h.bel.trans k.bel,h.lext.trans k.lext,fun i d e=>(k.old i (zI d h.bel.size) e).trans (h.old i d e)⟩
theorem jB.mono{Z':Nat->Prop}(h:jB Z w w')(d:∀k,k<w.heap.size->Z k->Z' k):jB Z' w w':=⟨h.bel,h.lext,fun k a c=>h.old k a (fun b=>c (d k a b))⟩
theorem jB.blk(h:jB Z w w')(a:Blk w b T cs)(c:¬ Z b):Blk w' b T cs:=(h.old b a.lt c).trans a
theorem zOb(f:i<R):(yV R C F).set i (qQ C (fun t=>-F i t))=yV R C (zDT F i):=by
 apply qI;simp[yV];intro a c d;by_cases e:a=i
 .subst e
  rw[zAi];simp[yV,qQ,zDT]
 have b:i≠a:=fun h=>e h.symm
 rw[zA0 b];simp[yV,zDT,e]
theorem Wri.negRow(h:Wri w A R C bs F)(c:i<R)(a:bs[i]?=some b)(d:zA5 [b] w w')(e:yY w' b (qQ C (fun t=>-F i t))):Wri w' A R C bs (zDT F i):=by
 unfold Wri;rw[<-zOb c];exact yH.setRow h a d e (zO _ _)
theorem Wri.rowAt(h:Wri w A R C bs F)(f:i<R)(e:bs[i]?=some b):yY w b (qQ C (F i)):=by
 obtain⟨a,c,d⟩:=yH.rowAt h f;obtain rfl:a=b:=qC (c.symm.trans e);exact d
def M4V(w:World)(v:Value)(m0 m1 m2 m3:Int):Prop:=
 ∃s0 a0 l0 c0 s1 a1 l1 c1 s2 a2 l2 c2 s3 a3 l3 c3,v= .agg #[.bool s0,.slice a0 l0 c0,.bool s1,.slice a1 l1 c1,.bool s2,.slice a2 l2 c2,.bool s3,.slice a3 l3 c3]∧
  yA w (.agg #[.bool s0,.slice a0 l0 c0]) m0/\yA w (.agg #[.bool s1,.slice a1 l1 c1]) m1/\yA w (.agg #[.bool s2,.slice a2 l2 c2]) m2/\yA w (.agg #[.bool s3,.slice a3 l3 c3]) m3
theorem M4V.ext(h:M4V w v m0 m1 m2 m3)(x:zBC w w'):M4V w' v m0 m1 m2 m3:=by
 obtain⟨p,a,l,c0,q,b,m,c1,r,c,n,c2,s,d,o,f,e,g,i,j,k⟩:=h;exact⟨p,a,l,c0,q,b,m,c1,r,c,n,c2,s,d,o,f,e,g.ext x,i.ext x,j.ext x,k.ext x⟩
theorem Blk.eight{a b c d e:Value}(h:Blk w g t #[c0,c1,c2,a,b,c,d,e]):
  w.cell? ⟨g,0,none⟩=some c0/\w.cell? ⟨g,1,none⟩=some c1/\w.cell? ⟨g,2,none⟩=some c2/\w.cell? ⟨g,3,none⟩=some a/\w.cell? ⟨g,4,none⟩=some b/\w.cell? ⟨g,5,none⟩=some c/\w.cell? ⟨g,6,none⟩=some d/\w.cell? ⟨g,7,none⟩=some e:=
 ⟨h.cell 0,h.cell 1,h.cell 2,h.cell 3,h.cell 4,h.cell 5,h.cell 6,h.cell 7⟩
def zTb(n:Nat)(f g:Nat->Int)(m0 m1 m2 m3:Int):Prop:=∀t,t<n->Sm (f t)/\Sm (g t)/\Sm (m0*f t)/\Sm (m1*g t)/\Sm (m2*f t)/\Sm (m3*g t)
theorem Blk.put_at(a:Hid (W=(w.setCell ⟨b,i,none⟩ u).setCell ⟨b,j,none⟩ v))(h:Blk w g t cs)(c:g≠b):Blk W g t cs:=by
 rw[a.out];exact(yG _ _ _ _ _ _ _ c).trans h
theorem zA5.put_at(a:Hid (W=(w.setCell ⟨b,i,none⟩ u).setCell ⟨b,j,none⟩ v))(c:b∈S)(f:zBC w W):zA5 S w W:=by
 refine⟨?_,f,fun k _ d=>?_⟩
 .rw[a.out]
  exact yM (yM (zB _ _) (zG _) _ _) (zG _) _ _
 rw[a.out];exact yG _ _ _ _ _ _ _ (fun e=>d (e ▸ c))
theorem yY.put_at(a:Hid (W=(w.setCell ⟨b,i,none⟩ u).setCell ⟨b,j,none⟩ v))(h:yY w g r)(c:g≠b)(d:zBC w W):yY W g r:=
 h.old (by rw[a.out];exact yG _ _ _ _ _ _ _ c) d
theorem yY.set_at{k:Nat}{s:Bool}{a:Option Addr}{c:Nat}(d:Hid (W=(w.setCell ⟨b,k*2,none⟩ (.bool s)).setCell ⟨b,k*2+1,none⟩ (.slice a l c)))(h:yY w b zs)(e:k<zs.length)(hv:yA w (.agg #[.bool s,.slice a l c]) z):
  yY W b (zs.set k z)/\zBC w W:=by
 rw[d.out];exact h.set e hv
theorem zHk{F f:Nat->Int}(c:z=F j):(qQ n (jD F f j)).set j z=qQ n (jD F f (j+1)):=by
 rw[zDJ];exact qZ fun t _=>by
  unfold jD;by_cases b:t=j
  .subst b
   rw[zC rfl,zC oM,c]
  rw[zA b];by_cases a:t<j
  .rw[zC a,zC oM]
  rw[zA a,zA oM]
theorem zFh(fI:Nat)(d2:fI=141∨fI=141)(i l n a4 a5:Nat)(f g:Nat->Int)(mv:Value)(o p q r:Int)(w:World)(hv:yY w i (qQ n f))(d:yY w l (qQ n g))(c4:i≠l)(hm:M4V w mv o p q r)
  (hn:n<=1000000) (f0:n<=a4) (f1:a4<=9223372036854775807) (f2:n<=a5) (f3:a5<=9223372036854775807)
  (hS:zTb n f g o p q r) (b9:Sm o/\Sm p/\Sm q/\Sm r):
  CPq fI #[.slice (some ⟨i,0,none⟩) n a4,.slice (some ⟨l,0,none⟩) n a5,mv] w fun e w'=>(∃u,e= .returned u)/\zA5 [i,l] w w'∧
   yY w' i (qQ n (fun t=>o*f t+p*g t))/\yY w' l (qQ n (fun t=>q*f t+r*g t)):=by
 have HS:=xgv hS;have R:=xgv b9;have HM:=xgv hm;obtain⟨s0,V,l0,c0,s1,W,l1,c1,s2,X,l2,c2,s3,Y,l3,Z,rfl,-⟩:=id hm;clear hS b9 hm;have f5:=hv.lt;have f7:=d.lt;obtain⟨F,hF⟩:∃F:Nat->Int,(fun t=>o*f t+p*g t)=F:=⟨_,rfl⟩;obtain⟨G,c⟩:∃G:Nat->Int,(fun t=>q*f t+r*g t)=G:=⟨_,rfl⟩;rw[hF,c];have HF:qS (∀t,F t=o*f t+p*g t):=⟨fun t=>by rw[<-hF]⟩;have HG:qS (∀t,G t=q*f t+r*g t):=⟨fun t=>by rw[<-c]⟩;clear hF c;rcases d2 with rfl|rfl
 all_goals
  first|go_enter Tryz.func141,Tryz.ntmps141|go_enter Tryz.func141,Tryz.ntmps141
  go_upto_region 1 with(fail)
  refine zE ?_;intro W0 a9;obtain⟨S,bx,f9⟩:=qL a9;have c5:=hv.I S;have c7:=d.I S;have b8:=HM.out.ext (lx S);have a6:∀(a b:Nat->Int),qQ n a=qQ n (jD b a 0):=fun a b=>qZ fun t _=>by unfold jD;rw[zA oM]
  rw[a6 f F]at c5;rw[a6 g G]at c7;have m:=zA5.of [i,l] S;have c9:=xgv b8;clear a9 a6 hv d b8;go_wp2;go_loopw [11] (fun jv wr=>∃j:Nat,j<=n/\jv= .int .i64 j/\zA5 [i,l] w wr/\Blk wr w.heap.size 169 #[.bool s0,.slice V l0 c0,.bool s1,.slice W l1 c1,.bool s2,.slice X l2 c2,.bool s3,.slice Y l3 Z]/\qS (M4V wr (.agg #[.bool s0,.slice V l0 c0,.bool s1,.slice W l1 c1,.bool s2,.slice X l2 c2,.bool s3,.slice Y l3 Z]) o p q r)/\yY wr l (qQ n (jD G g j))/\yY wr i (qQ n (jD F f j))) (fun jv _=>n-(intOf jv).toNat)
  case atStart=>exact⟨0,oM,rfl,m,bx,c9,c7,c5⟩
  obtain⟨j,hj,rfl,m,bx,U,d,hv⟩:=hrel;by_cases B:j<n
  .obtain⟨xs,xa,xl,xc,p1,p2,-,-,C⟩:=hv.cell (qU B)
   obtain⟨ys,ya,yl,yc,q1,q2,-,-,D⟩:=d.cell (qU B);have d6:jD F f j j=f j:=by unfold jD;rw[zA oM]
   have d7:jD G g j j=g j:=by unfold jD;rw[zA oM]
   rw[d6]at C;rw[d7]at D;have f8:=d.lt;have f6:=hv.lt;have f4:=bx.lt;have e9:=m.bel.size;go_upto_region 5 with(fail)
   refine zE ?_;intro W6 b0;obtain⟨z,E,H,g1⟩:=jW b0;have d1:=E.two;have e1:=H.two;have m:=m.trans (zA5.of [i,l] z);have bx:=bx.I z;have U:=xgv (U.out.ext (lx z));have d:=d.I z;have hv:=hv.I z;have C:=C.ext (lx z);have D:=D.ext (lx z);clear p1 p2 q1 q2 b0;obtain⟨k0,k1,k2,k3,k4,k5,k6,k7⟩:=bx.eight;have lv:=hv.lt;have lb:=bx.lt;have l7:=E.lt;have l8:=H.lt;have s:=xgv (HS.out j B);obtain⟨g6,e0,g2,e5,g7,e2,g3,e6,g8,e3,g4,e7,g9,e4,g5,e8,T,J,K,L,M⟩:=U.out;injection T with T
   simp only[Array.mk.injEq,List.cons.injEq,Value.bool.injEq,Value.slice.injEq]at T;obtain⟨rfl,⟨rfl,rfl,rfl⟩,rfl,⟨rfl,rfl,rfl⟩,rfl,⟨rfl,rfl,rfl⟩,rfl,⟨rfl,rfl,rfl⟩,-⟩:=T;refine yD 14 [pcI 6 (o*f j),pcI 11 (p*g j),pcD 12 [6,11] (fun w v=>yA w v (o*f j+p*g j))] ?_;refine sRd ?_;refine sRc (fun Q hI N c=>by go_simp;exact ck c (zCD _ _ o (f j) _ (J.ext hI.lext).J (C.ext hI.lext).J R.out.1 s.out.1)) (fun h2 _=>?_);refine sRd ?_;refine sRc (fun Q hI N c=>by go_simp;exact ck c (zCD _ _ p (g j) _ (K.ext hI.lext).J (D.ext hI.lext).J R.out.2.1 s.out.2.1)) (fun h0 _=>?_);refine sRc (fun Q hI b4 b2 N c=>by go_simp;exact ck c (zEu _ _ (o*f j) (p*g j) _ b4.J b2.J s.out.2.2.1 s.out.2.2.2.1)) (fun h1 _=>?_);refine sRd ?_;refine sRe ?_;intro w9 h b4 b2 b3;obtain⟨pn,pa,pl,pc,px,rfl,P⟩:=id b3;have d0:=xgw P;clear P k0 k1 k2 k3 k4 k5 k6 k7 d1 e1;have a7:=hv.I h;obtain⟨zs,za,zl,zc,z1,z2,z3,z4,-⟩:=a7.cell (qU B);have d3:=a7.lt;go_upto_region 6 with(fail)
   refine zE ?_;intro d8 A;obtain⟨c6,y⟩:=a7.set_at (k:=j) A (by rw[zO];exact B) b3;rw[zHk (HF.out j).symm]at c6;have m:=(m.trans (zA5.of [i,l] h)).trans (zA5.put_at A sI y);have bx:=(bx.I h).put_at A oM;have E:=(E.I h).put_at A oM;have H:=(H.I h).put_at A oM;have d:=(d.I h).put_at A (zL c4) y;have hv:=c6;have C:=(C.ext (lx h)).ext y;have D:=(D.ext (lx h)).ext y;have J:=(J.ext (lx h)).ext y;have K:=(K.ext (lx h)).ext y;have L:=(L.ext (lx h)).ext y;have M:=(M.ext (lx h)).ext y;clear z1 z2 z3 z4 A;obtain⟨k0,k1,k2,k3,k4,k5,k6,k7⟩:=bx.eight;have d1:=E.two;have e1:=H.two;have lw:=d.lt;have lb:=bx.lt;have l7:=E.lt;have l8:=H.lt;refine yD 14 [pcI 6 (q*f j),pcI 11 (r*g j),pcD 12 [6,11] (fun w v=>yA w v (q*f j+r*g j))] ?_;refine sRd ?_;refine sRc (fun Q hI N c=>by go_simp;exact ck c (zCD _ _ q (f j) _ (L.ext hI.lext).J (C.ext hI.lext).J R.out.2.2.1 s.out.1)) (fun h5 _=>?_);refine sRd ?_;refine sRc (fun Q hI N c=>by go_simp;exact ck c (zCD _ _ r (g j) _ (M.ext hI.lext).J (D.ext hI.lext).J R.out.2.2.2 s.out.2.1)) (fun h3 _=>?_);refine sRc (fun Q hI b7 b5 N c=>by go_simp;exact ck c (zEu _ _ (q*f j) (r*g j) _ b7.J b5.J s.out.2.2.2.2.1 s.out.2.2.2.2.2)) (fun h4 _=>?_);refine sRd ?_;refine sRe ?_;intro h6 x b7 b5 b6;obtain⟨pn,pa,pl,pc,px,rfl,P⟩:=id b6;have d0:=xgw P;clear P k0 k1 k2 k3 k4 k5 k6 k7 d1 e1;have a8:=d.I x;obtain⟨zs,za,zl,zc,z1,z2,z3,z4,-⟩:=a8.cell (qU B);have d3:=a8.lt;go_upto_region 7 with(fail)
   refine zE ?_;intro d9 O;obtain⟨c8,I⟩:=a8.set_at (k:=j) O (by rw[zO];exact B) b6;rw[zHk (HG.out j).symm]at c8;have m:=(m.trans (zA5.of [i,l] x)).trans (zA5.put_at O sI I);have bx:=(bx.I x).put_at O oM;have hv:=(hv.I x).put_at O c4 I;have J:=(J.ext (lx x)).ext I;have K:=(K.ext (lx x)).ext I;have L:=(L.ext (lx x)).ext I;have M:=(M.ext (lx x)).ext I;clear z1 z2 z3 z4 O;go_wp2;go_roundw
   case rel=>exact⟨j+1,oM,by simp,m,bx,⟨⟨s0,V,l0,c0,s1,W,l1,c1,s2,X,l2,c2,s3,Y,l3,Z,rfl,J,K,L,M⟩⟩,c8,hv⟩
   case measure=>exact meq
  obtain rfl:j=n:=oM;have d4:qQ j (jD F f j)=qQ j F:=qZ fun t ht=>by unfold jD;rw[zC ht]
  have d5:qQ j (jD G g j)=qQ j G:=qZ fun t ht=>by unfold jD;rw[zC ht]
  rw[d4]at hv;rw[d5]at d;go_wp2;exact bodyPost_end (results_none rfl _ _ _) rfl ⟨⟨_,rfl⟩,m,hv,d⟩
abbrev zVN:=zFh 141 (.inl rfl)
abbrev zN3:=zFh 141 (.inr rfl)
structure zW9(Z:Nat->Prop)(w:World)(As At Ai:Value)(n Cs Ct:Nat)(x:Bst):Prop where
 ex:∃bss bst bsi,zHO w As At Ai n Cs Ct bss bst bsi x.s x.t x.i/\(∀b,b∈bss∨b∈bst∨b∈bsi->Z b)
 own:∀g,As.ownBlock=some g∨At.ownBlock=some g∨Ai.ownBlock=some g->Z g
structure BSm(B:Nat):Prop where
 sm:∀z:Int,z.natAbs<B->Sm z
theorem zML(k:Nat)(zs:List Int):(zEp k zs=-1/\∀z∈zs,z=0)∨∃j,zEp k zs=((k+j:Nat):Int)/\j<zs.length/\zs.getD j 0≠0/\∀t,t<j->zs.getD t 0=0:=by
 induction zs generalizing k with
 |nil=>exact .inl ⟨rfl,fun z a=>by cases a⟩
 | cons z zs g=>
  unfold zEp;by_cases a:z=0
  .rw[zA (by simp[a])]
   rcases g (k+1)with⟨b,c⟩|⟨j,b,c,d,e⟩
   .refine .inl ⟨b,fun y hy=>?_⟩
    rcases List.mem_cons.1 hy with rfl|hy
    exact a;exact c y hy
   refine .inr ⟨j+1,by rw[b];congr 1;omega,by simp;omega,by simpa using d,fun t f=>?_⟩;cases t with
   |zero=>simpa using a
   |succ t=>simpa using e t oM
  rw[zC a];exact .inr ⟨0,by simp,by simp,by simpa using a,fun t f=>oM⟩
theorem zGE{f:Nat->Int}(h:j<n):(qQ n f).getD j 0=f j:=by rw[xgb,qU h];rfl
theorem zDO(C:Nat)(F:Nat->Nat->Int)(i:Nat):(lead C F i=-1/\∀t,t<C->F i t=0)∨∃j:Nat,lead C F i=(j:Int)/\j<C/\F i j≠0/\∀t,t<j->F i t=0:=by
 unfold lead;rcases zML 0 (qQ C (F i))with⟨b,a⟩|⟨j,b,a,d,e⟩
 exact .inl ⟨b,fun t c=>a _ (xgd (qU c))⟩;rw[zO]at a;rw[zGE a]at d;refine .inr ⟨j,by rw[b];simp,a,d,fun t c=>?_⟩;have:=e t c;rwa[zGE oM]at this
noncomputable def leastOf (P:Nat->Prop):Nat:=open Classical in if h:∃f,P f/\∀g,P g->f<=g then h.choose else 0
theorem zHX(h:yH w base A C bs (yV R C F))(g:i<R)(x:j<R)(v:i≠j)(q:bs[i]?=some bi)(r:bs[j]?=some bj)(d:Value)(k:Int)
  (y:yA w d k) (o:C<=1000000) (p:∀t,t<C->Sm (F i t)/\Sm (F j t)/\Sm (k*F j t)) (z:Sm k):
  CPq 74 #[.slice (some ⟨bi,0,none⟩) C C,.slice (some ⟨bj,0,none⟩) C C,d] w fun e w'=>(∃u,e= .returned u)/\zA5 [bi] w w'/\yH w' base A C bs (yV R C (zDX F i j k)):=by
 obtain⟨a,c,G⟩:=h.rowAt g;obtain⟨b,f,H⟩:=h.rowAt x;obtain rfl:a=bi:=qC (c.symm.trans q);obtain rfl:b=bj:=qC (f.symm.trans r);have B:a≠b:=by
  intro s;subst s;obtain⟨I,m⟩:=xge.1 c;obtain⟨J,n⟩:=xge.1 f;exact v ((zAO h.nodup).1 (m.trans n.symm))
 refine(zI1 a b C C C (F i) (F j) d k w G H B y o (xgf _) oM (xgf _) oM p z).mono ?_;rintro e w' ⟨E,l,D⟩;refine⟨E,l,?_⟩;rw[<-zOa g];exact h.setRow c l D (zO _ _)
section
variable {P:Program} {a:Act} {w:World} {Q:Exit->Act->World->Prop}
theorem Exit.jump_ret{J:Act->World->Prop}:Exit.jump l J Q .ret a w=Q .ret a w:=rfl
theorem zIm{c rest:Code}(J:Act->World->Prop)(f:Act->World->Nat)(i:findLabel (c.seq ((Code.label l).seq rest)) l=some (Code.skip.seq rest))
  (first:c.wp P (fun e a w=>e= .normal/\J a w) a w)
  (g:∀a w,J a w->rest.wp P (Exit.jump l (fun b w'=>J b w'/\f b w'<f a w) Q) a w):(Code.scope (c.seq ((Code.label l).seq rest))).wp P Q a w:=by
 have j:∀a w,J a w->rest.wp P (Exit.jump l J Q) a w:=fun a w d=>wp_mono (g a w d) (by
  intro e b w' h;cases e<;>first|exact h|exact⟨h.1,h.2.1⟩)
 refine wp_scope_jumps l J f i ?_ ?_
 .refine wp_seq (wp_mono first ?_)
  rintro e b w' ⟨rfl,d⟩;exact wp_seq (wp_label (j _ _ d))
 intro b w' d;exact wp_seq (wp_skip (g b w' d))
end
def DMV(a b:Int):World->Value->Prop:=fun w v=>∃q r,v= .tuple #[q,r,niq 0]/\yA w q (a/b)/\yA w r (a%b)
theorem zR3(a b:Int):zGf (DMV a b):=by
 intro w w' v e h;obtain⟨q,r,c,d,f⟩:=h;exact⟨q,r,c,d.ext e,f.ext e⟩
theorem zL4(a b:Value)(d c:Int)(w:World)(f:zHR w a d)(g:zHR w b c)(j:Sm d)(k:Sm c)(i:c≠0):
  CPq 73 #[a,b] w fun e w'=>∃v,e= .returned v/\DMV d c w' v/\BWq w w':=by
 refine(zCU a b d c w f g j k i).mono ?_;rintro e w' ⟨a,b,rfl,f,g,h⟩;exact⟨_,rfl,⟨a,b,rfl,f,g⟩,h⟩
theorem zGu.ok{B Cs Ct:Nat}{x:Bst}(h:zGu B n Cs Ct x i j k):okB B n Cs Ct (x.add i j k):=h.2.2.2
theorem yA.two(h:yA w (.agg #[x,y]) z):∃s a l c,x= .bool s/\y= .slice a l c:=by
 obtain⟨s,a,l,c,xs,e,-⟩:=id h;injection e with e
 simp only[Array.mk.injEq,List.cons.injEq]at e;exact⟨s,a,l,c,e.1,e.2.1⟩
abbrev tN:TypeId:=3
def zWw(n:Nat)(g:Nat->Int):Array Value:=((List.range n).map fun i=>Value.int .i64 (g i)).toArray
def zXc(f:Nat->Int)(j:Nat):Nat->Int:=fun t=>if t<j then f t else 0
theorem yH.same(h:yH w base A C bs M)(j:∀b∈bs,w'.heap[b]?=w.heap[b]?)(l:∀g,A.ownBlock=some g->w'.heap[g]?=w.heap[g]?)(x:zBC w w'):yH w' base A C bs M:=by
 refine⟨⟨h.own.1,?_⟩,h.len,fun k b r d i=>by
  obtain⟨a,e,c⟩:=h.row k b r d i;exact⟨a,e,c.old (j b (xgd d)) x⟩,h.nodup,h.cb⟩
 rcases h.own.2 with d|⟨g,cap,f,a,e,c⟩
 exact .inl d;exact .inr ⟨g,cap,f,a,e,(l g (by rw[a];rfl)).trans c.1,c.2⟩

theorem yH.rows2{p q:List Int}(h:yH w base A C bs M)(f:bs[i]?=some bi)(l:bs[j]?=some bj)(X:i≠j)(B:zA5 [bi,bj] w w')
  (P:yY w' bi p) (Q:yY w' bj q) (N:p.length=C) (O:q.length=C):yH w' base A C bs ((M.set i p).set j q):=by
 have J:=(xge.1 f).1;have K:=(xge.1 l).1;have x:i<M.length:=by rw[h.len];exact J
 have y:j<M.length:=by rw[h.len];exact K
 obtain⟨V,r2,W⟩:=h.row i bi M[i] f (xga x);obtain⟨S,Z,T⟩:=h.row j bj M[j] l (xga y);refine⟨⟨h.own.1,?_⟩,by simp[h.len],?_,h.nodup,h.cb⟩
 .rcases h.own.2 with o|⟨g,cap,D,s,E,u,F⟩
  .exact .inl o
  refine .inr ⟨g,cap,D,s,E,?_,F⟩;refine(B.old g (Array.getElem?_eq_some_iff.1 u).1 ?_).trans u;intro v;have c:=zGO h.own W;have d:=zGO h.own T;rw[s]at c d;simp at v;rcases v with rfl|rfl
  exact c rfl;exact d rfl
 intro k r U a b;by_cases n:k=j
 .subst n
  rw[l]at a;injection a with a
  subst a;rw[List.getElem?_set_self (by simpa using y)]at b;injection b with b
  subst b;exact⟨S,O,Q⟩
 rw[List.getElem?_set_ne (zL n)]at b;by_cases e:k=i
 .subst e
  rw[f]at a;injection a with a
  subst a;rw[List.getElem?_set_self x]at b;injection b with b
  subst b;exact⟨V,N,P⟩
 rw[List.getElem?_set_ne (zL e)]at b;obtain⟨c,d,G⟩:=h.row k r U a b;have Y:=(xge.1 a).1;have z:∀{t m:Nat},bs[t]?=some m->k≠t->r≠m:=by
  intro t m R L I;subst I;have o:=(xge.1 a).2;have H:=(xge.1 R).2;exact L ((zAO h.nodup).1 (o.trans H.symm))
 exact⟨c,d,G.only B (by simp;exact⟨z f e,z l n⟩)⟩
theorem zLB{R C:Nat}{F:Nat->Nat->Int}{c d f g:Int}(m:i≠j):
  ((yV R C F).set i (qQ C (fun t=>c*F i t+d*F j t))).set j (qQ C (fun t=>f*F i t+g*F j t))=yV R C (zAQ F i j c d f g):=by
 apply qI;simp[yV];intro a n o;by_cases b:a=j
 .subst b
  rw[zAi];have:¬ a=i:=fun h=>m h.symm
  simp[yV,qQ,zAQ,this]
 have k:j≠a:=fun h=>b h.symm
 rw[zA0 k];by_cases e:a=i
 .subst e
  rw[zAi];simp[yV,qQ,zAQ]
 have l:i≠a:=fun h=>e h.symm
 rw[zA0 l];simp[yV,zAQ,e,b]
theorem Wri.only2{c:Nat}{q:List Int}(h:Wri w A R C bs F)(j:zA5 [b,c] w w')(f:b ∉ bs)(i:c ∉ bs)(l:yY w b r)(k:yY w c q):Wri w' A R C bs F:=
 yH.only h j (fun x e=>by
  intro d;simp at d;rcases d with rfl|rfl
  exact f e;exact i e) (fun g a=>by
  simp at a;rcases a with rfl|rfl
  exact⟨_,l⟩;exact⟨_,k⟩)
def M2V(m0 m1:Int):World->Value->Prop:=fun w v=>∃s0 a0 l0 c0 s1 a1 l1 c1,v= .agg #[.bool s0,.slice a0 l0 c0,.bool s1,.slice a1 l1 c1]/\yA w (.agg #[.bool s0,.slice a0 l0 c0]) m0/\yA w (.agg #[.bool s1,.slice a1 l1 c1]) m1
theorem zFM(a b:Int):zGf (M2V a b):=by
 rintro w w' v e ⟨j,c,h,c0,k,d,i,c1,rfl,f,g⟩;exact⟨j,c,h,c0,k,d,i,c1,rfl,f.ext e,g.ext e⟩
theorem zJu(a b c d:Int):zGf (fun w v=>M4V w v a b c d):=fun _ _ _ e h=>h.ext e
theorem zFK(h:Wri w A R C bs F)(o:i<R)(p:j<R)(c:i≠j)(a:bs[i]?=some bi)(b:bs[j]?=some bj){d:Value}(q:M4V w d m0 m1 m2 m3)
  (l:C<=1000000) (m:zTb C (F i) (F j) m0 m1 m2 m3) (r:Sm m0/\Sm m1/\Sm m2/\Sm m3):
  CPq 141 #[.slice (some ⟨bi,0,none⟩) C C,.slice (some ⟨bj,0,none⟩) C C,d] w fun e w'=>(∃u,e= .returned u)/\zA5 [bi,bj] w w'/\Wri w' A R C bs (zAQ F i j m0 m1 m2 m3):=by
 have s:bi≠bj:=by
  intro n;subst n;obtain⟨y,g⟩:=xge.1 a;obtain⟨z,k⟩:=xge.1 b;exact c ((zAO (yH.nodup h)).1 (g.trans k.symm))
 refine(zN3 bi bj C C C (F i) (F j) d m0 m1 m2 m3 w (h.rowAt o a) (h.rowAt p b) s q l (xgf _) oM (xgf _) oM m r).mono ?_;rintro e w' ⟨x,f,t,v⟩;refine⟨x,f,?_⟩;unfold Wri;rw[<-zLB c];exact yH.rows2 h a b c f t v (zO _ _) (zO _ _)
end Go.Proofs.YtniiekppgdkknaaGreat
