/- Joined. -/
import Derived.Test.YtniiekppgdkknaaGreatM08
import Derived.Test.YtniiekppgdkknaaGreatM10
set_option linter.unusedVariables false
set_option linter.unusedSimpArgs false
set_option linter.unusedSectionVars false
set_option maxHeartbeats 16000000
set_option maxRecDepth 100000
variable{w:Go.World}
namespace Go.Proofs.YtniiekppgdkknaaGreat
open Go.RowKit

def RsO(w:World)(base:Nat)(v:Value)(M:List (List Int)):Prop:=
 ∃rvs,w.ownsRow base tR 1 v M.length rvs/\rvs.length=M.length/\∀(k:Nat) (rv:Value) (zs:List Int),rvs[k]?=some rv->M[k]?=some zs->zAR w rv zs
theorem zFB(P:Program)(w:World)(t k e:TypeId)(i:TypeInfo)(f:P.underlying t=some (.slice e))(d:P.info? e=some i)
  (g:Option Addr) (n a:Nat) (h:g=none->n=0/\a=0) (j:n<=a) (b:Option Addr) (c:Nat):
  (Builtin.append_ #[t,t] k #[.slice g n a,.slice b 0 c]).run P w= .ok (.slice g n a) w:=by
 cases g with
 |none=>
  obtain⟨rfl,rfl⟩:=h rfl;cases b<;>simp[Builtin.append_,run_underlying f,sizeOf,typeInfo,d,Builtin.lenOf,Builtin.firstCells,loadCells,loadCellsFrom]
 |some g=>
  cases b<;>simp[Builtin.append_,run_underlying f,sizeOf,typeInfo,d,Builtin.lenOf,Builtin.firstCells,loadCells,loadCellsFrom,storeCells,j]
theorem zAR.sameB{w':World}{v:Value}{zs:List Int}(h:zAR w v zs)(e:∀b,yY w b zs->w'.heap[b]?=w.heap[b]?)(x:zBC w w'):zAR w' v zs:=by
 obtain⟨a,n,c,d,f,g,i,j⟩:=h;exact⟨a,n,c,d,f,g,i,fun k=>(j k).elim fun b h=>⟨b,h.1,h.2.old (e b h.2) x⟩⟩
theorem zWS{w:World}{ops:Array Oper}{rest:List Oper}{o:Oper}{a:Act}{Q:Exit->Act->World->Prop}(I:o.guard=none)(s x:Operand)
  (K:o.op= .call {callee:=.builtin .append,args:=#[s,x],argTypes:=#[27,27]})
  (base:Nat) (v:Value) (M:List (List Int)) (O:a.eval s=v) (L:RsO w base v M) (U:Value) (N:List (List Int)) (P:a.eval x=U) (hy:zBl w U N)
  (b3:M.length+N.length<=1099511627776) (Y:base<=w.heap.size)
  (h:∀y g,RsO g base y (M++N)->w.grownBy g v.ownBlock->zBC w g->wpList Tryz.prog ops Q rest (a.put o.dst y) g):wpList Tryz.prog ops Q (o::rest) a w:=by
 obtain⟨F,A,a4,a5,a6⟩:=info_parts zCt;obtain⟨z,n,c,rfl,B,b4,b2,a0⟩:=hy;by_cases r:N= []
 .subst r
  obtain rfl:0=n:=by simpa using B
  have hr:(Builtin.append_ #[27,27] o.type #[v,.slice z 0 c]).run Tryz.prog w= .ok v w:=by
   obtain⟨a8,p,-⟩:=L;rcases p.2 with⟨rfl,r⟩|⟨b0,V,a9,rfl,e2,e3,W,-⟩
   exact zFB Tryz.prog w _ o.type tR F Tryz.underlying27 A none 0 0 (fun _=>⟨rfl,rfl⟩) (xgf _) z c;exact zFB Tryz.prog w _ o.type tR F Tryz.underlying27 A _ _ V (fun e=>by cases e) W z c
  have h:=h v w (by rwa[zCE]) ⟨rfl,rfl,rfl,xgf _,fun _ _ _=>rfl⟩ (lx (zB _ _));refine wpList_plain I fun a7 hK=>?_
  unfold Oper.wp execOp;simp only[K,resolve,invoke,builtin,Sem.run_bind,Sem.run_pure,Result.andThen_ok,List.map_toArray,List.map_cons,List.map_nil,O,P,hr];exact hK _ _ h
 obtain⟨b,i,rfl,Z,D⟩:=a0 r;obtain⟨T,p,H,X⟩:=L;have b5:n<=i.size:=by
  have hp:0<N.length:=List.length_pos_iff.2 r;obtain⟨S,q,-⟩:=D (N.length-1) _ (xga oM);have:=(Array.getElem?_eq_some_iff.1 q).1;omega
 have C:∀(k:Nat) (u:Value),(i.toList.take n)[k]?=some u->k<n/\i[k]?=some u:=fun k u l=>by
  rw[List.getElem?_take]at l;split at l;exact⟨by assumption,by simpa using l⟩;cases l
 refine wpList_append_own w I s x 27 K base tR F _ 1 24 Tryz.underlying27 A a4 a5 a6 rfl oM v M.length _ O p ⟨b,0,none⟩ n c (i.toList.take n) P (by simp;omega) ?_ ?_ (by simp[maxLen];omega) oM Y ?_
 .intro j u hj
  rw[jI,jC,cell_of_row w b j i tR _ Z];exact(C j u hj).2
 .intro u E
  obtain⟨k,l⟩:=List.getElem?_of_mem E;obtain⟨a2,d⟩:=C k u l;obtain⟨S,q,_,_,_,rfl,-⟩:=D k _ (xga (by omega:k<N.length));rw[q]at d;injection d with d
  subst d;rfl
 intro y g k1 G _;have R:=zCA p dE G;have J:∀u m,zAR w u m->zAR g u m:=fun u m E=>zAR.sameB E (fun b f=>G.block b f.lt (zGO p f)) R
 refine h y g ⟨T++i.toList.take n,by rw[zAD,B];exact k1,by simp[H,B];omega,?_⟩ G R;intro k u m t f;rcases zJ k T.length with a3|a1
 .rw[List.getElem?_append_left a3]at t
  rw[List.getElem?_append_left oM]at f;exact J _ _ (X k u m t f)
 rw[List.getElem?_append_right a1]at t;rw[List.getElem?_append_right oM,<-H]at f;obtain⟨a2,d⟩:=C _ u t;obtain⟨S,q1,q2⟩:=D _ m f;rw[q1]at d;injection d with d
 subst d;exact J _ _ q2
def zSR(M:List (List Int))(xs ys:List Nat):Nat->Nat->Int:=fun a b=>ent M (xs.getD a 0) (ys.getD b 0)
theorem zSS(v:Value)(R C:Nat)(M:List (List Int))(t u:Option Addr)(m k J K:Nat)(xs ys:List Nat)(w:World)(h:zAo w v R C M)(hF:zBe R C M)(hR:R<=1000000)(hC:C<=1000000)
  (hx:zBI w t xs) (hy:zBI w u ys) (Q:xs.length=m) (o:ys.length=k) (c2:m<=1000000) (b8:k<=1000000) (S:∀x∈xs,x<R) (U:∀y∈ys,y<C):
  CPq 8 #[v,.slice t m J,.slice u k K] w fun e w'=>∃v s,e= .returned (.tuple #[v,niq 0])/\zU2 w' w.heap.size v m k s (yV m k (zSR M xs ys))/\BWq w w':=by
 obtain⟨c9,rfl,h⟩:=h;obtain⟨ao,c8,a3,rfl,L,e3,e4,-⟩:=id h;obtain rfl:R=c8:=by rw[<-L,hF.1]
 have HF:=xgv hF;obtain⟨f,P⟩:∃f:Nat->Nat->Int,zSR M xs ys=f:=⟨_,rfl⟩;rw[P];have b3:qS (∀a b x y,xs[a]?=some x->ys[b]?=some y->f a b=ent M x y):=⟨fun a b x y h1 h2=>by rw[<-P];simp[zSR,xgb,h1,h2]⟩;have HX:=xgw L;have HM:=xgw Q;have HK:=xgw o;have b4:qS (∀k x,xs[k]?=some x->x<R):=⟨fun k x o=>S x (xgd o)⟩;have b5:qS (∀k x,ys[k]?=some x->x<C):=⟨fun k x o=>U x (xgd o)⟩;have Z:qS (∀w',BWq w w'->CPq 26 #[.slice t m J,niq R] w' fun e q=>e= .returned (.bool true)/\BWq w' q):=⟨fun w' l=>zI4 t m J R xs w' Q c2 (hx.I l) S hR⟩;have a0:qS (∀w',BWq w w'->CPq 26 #[.slice u k K,niq C] w' fun e q=>e= .returned (.bool true)/\BWq w' q):=⟨fun w' l=>zI4 u k K C ys w' o b8 (hy.I l) U hC⟩;clear P hF L Q o S U;go_enter Tryz.func8,Tryz.ntmps8;go_upto_region 1 with(fail)
 refine zE ?_;intro W0 a5;obtain⟨N,c,d,d8⟩:=jW a5;have z:=c.three;go_wp2_with fail
 refine(Z.out W0 N).mono ?_;rintro e w1 ⟨rfl,D⟩;have A:=nx N D;have c:=c.I D;have d:=d.I D;have q1:=D.size;clear z;have z:=c.three;go_wp2_with fail
 refine(a0.out w1 A).mono ?_;rintro e q ⟨rfl,E⟩;have A:=nx A E;have c:=c.I E;have d:=d.I E;have q2:=E.size;clear z;go_wp2_with fail
 refine(zDk m k q oM oM).mono ?_;rintro e w4 ⟨f3,s,rfl,⟨b6,A2,rfl,g⟩,F⟩;obtain⟨I,on,H,rfl,-,-,-,-⟩:=id g.rows;have b9:=g.lts;go_upto_region 4 with(fail)
 refine zE ?_;intro W3 a6;obtain⟨B,n,d9⟩:=qL a6;have d:=(d.I F).I B;have c:=(c.I F).I B;have g:=g.I B;rw[zER m k f]at g;have a4:=nx (nx A F) B;have q4:=F.size;clear a6 a5 Z a0;go_wp2;go_loopw [9] (fun X wr=>∃i:Nat,i<=m/\X=niq i/\BWq w wr/\Blk wr w.heap.size 29 #[niq R,niq C,.slice ao R a3]/\Blk wr (w.heap.size+1) 29 #[niq 0,niq 0,.slice none 0 0]/\Blk wr w4.heap.size 29 #[niq m,niq k,.slice I on H]/\yH wr q.heap.size (.slice I on H) k s (yV m k (zEQ f i 0))) (fun X _=>m-(intOf X).toNat)
 case atStart=>exact⟨0,oM,rfl,a4,c,d,n,g⟩
 clear c d n g a4;obtain⟨i,hi,rfl,l,c,d,n,g⟩:=hrel;by_cases a7:i<m
 .go_wp2
  go_loopw [10] (fun Y wr=>∃j:Nat,j<=k/\Y=niq j/\BWq w wr/\Blk wr w.heap.size 29 #[niq R,niq C,.slice ao R a3]/\Blk wr (w.heap.size+1) 29 #[niq 0,niq 0,.slice none 0 0]/\Blk wr w4.heap.size 29 #[niq m,niq k,.slice I on H]/\yH wr q.heap.size (.slice I on H) k s (yV m k (zEQ f i j))) (fun Y _=>k-(intOf Y).toNat)
  case atStart=>exact⟨0,oM,rfl,l,c,d,n,g⟩
  clear c d n g l;obtain⟨j,hj,rfl,l,c,d,n,g⟩:=hrel;by_cases G:j<k
  .obtain⟨xb,xo,x,rfl,c3,T,cx,e1⟩:=hx.cell (k:=i) (by rw[HM.out];exact a7)
   obtain⟨yb,yo,y,rfl,c5,V,cy,e5⟩:=hy.cell (k:=j) (by rw[HK.out];exact G);have cx:=(l.cell (p:=⟨xb,xo+i,none⟩) c3).trans cx;have cy:=(l.cell (p:=⟨yb,yo+j,none⟩) c5).trans cy;have c4:=b4.out i x T;have e6:=b5.out j y V;have z:=c.three;obtain⟨b,ra,rn,rc,zs,rfl,d4,W,p1,hv⟩:=(h.I l).row (k:=x) (by rw[HX.out];exact c4);have c6:=HF.out.2 zs (xgd W);have e0:=hv.len;obtain rfl:rn=C:=oM;obtain⟨b',f4,f2,a,e7,d1,rfl,d3,b2,q1,f0,c7⟩:=hv.cell (k:=y) oM;have b7:=xgw ((b3.out i j x y T V).trans (zDL W b2));clear W b2 c6 T V;obtain⟨d2,bo,rfl,hg,O,d5,o1,a8⟩:=g.at_ (i:=i) oM;have f1:=n.three;have d7:i<on:=oM;have d0:=xgw a8;clear a8;have e8:=c.lt;have e9:=n.lt;go_upto_region 10 with(fail)
   refine yD 21 [] ?_;refine sRd ?_;refine sRf ?_;intro w9 r;have c0:=lx r;have a9:=g.I r;obtain⟨sn,sa,sl,sc,z1,z2,z3,z4,-⟩:=a9.cellAt O G;have d6:=b9 i bo O;have b0:=a9.set O G (c7.ext c0);go_wp2;go_roundw
   case rel=>
    rw[<-b7.out,zGa a7 G]at b0;exact⟨j+1,oM,by simp,yM (yM (nx l r) oM _ _) oM _ _,(yG _ _ _ _ _ _ _ oM).trans (c.I r),(yG _ _ _ _ _ _ _ oM).trans (d.I r),(yG _ _ _ _ _ _ _ oM).trans (n.I r),b0.1⟩
   case measure=>exact meq
  obtain rfl:j=k:=oM;rw[zGZ]at g;go_wp2;go_roundw
  case rel=>exact⟨i+1,oM,by simp,l,c,d,n,g⟩
  case measure=>exact meq
 obtain rfl:i=m:=oM;rw[zGY]at g;have f1:=n.three;have r1:=d.three;have q1:=N.size;go_wp2;refine bodyPost_ret (zGz rfl _ rfl (d.put3 _ _ _) rfl) rfl ⟨_,s,rfl,⟨b6,_,rfl,?_⟩,yM (yM (yM l oM 0 _) oM 1 _) oM 2 _⟩;exact(g.keep (fun k o=>zBS _ _ k _ _ _ oM) (d.lext3 dE _ _ _)).mono oM
end Go.Proofs.YtniiekppgdkknaaGreat
