/- Joined. -/
import Derived.Test.YtkidaebmhlijlaaGreatD30
set_option linter.unusedVariables false
set_option linter.unusedSimpArgs false
set_option linter.unusedSectionVars false
set_option maxHeartbeats 16000000
set_option maxRecDepth 100000
variable{L:(Nat->Int)->Prop}{cs:Array Go.Value}{ys:List Int}{C E R b e k n:Nat}{o:Option Go.Addr}{T:Go.TypeId}{v:Go.Value}{w w':Go.World}
namespace Go.Proofs.YtkidaebmhlijlaaGreat
open Go.RowKit
def ZsV(w:World)(v:Value)(ys:List Int):Prop:=
 ∃ao n c,v= .slice ao n c/\ys.length=n/\(ys≠ []->∃b off cells,ao=some ⟨b,off,none⟩/\cells.length=n*2/\zFl w cells ys/\∀j u,cells[j]?=some u->w.cell? ⟨b,off+j,none⟩=some u)
theorem zAv.zs(h:zAv w v ys):ZsV w v ys:=by
 obtain⟨ao,n,c,rfl,h2,-,-,h5⟩:=h;refine⟨ao,n,c,rfl,h2,fun hne=>?_⟩;obtain⟨b,rfl,cs,e1,e2⟩:=h5 hne;have hlen:n*2<=cs.size:=by
  have h0:0<ys.length:=List.length_pos_iff.2 hne;obtain⟨_,_,_,_,-,q,-⟩:=e2 (ys.length-1) _ (xga oM);have:=(Array.getElem?_eq_some_iff.1 q).1;omega
 refine⟨b,0,cs.toList.take (n*2),rfl,by simp;omega,fun k z hk=>?_,fun j u hj=>?_⟩
 ·obtain⟨s,a,l,c',q1,q2,q3⟩:=e2 k z hk
  have hk':=(xge.1 hk).1;exact⟨s,a,l,c',by rw[List.getElem?_take_of_lt oM];simpa using q1,by rw[List.getElem?_take_of_lt oM];simpa using q2,q3⟩
 rw[List.getElem?_take]at hj;split at hj
 ·rw[zAR,cell_of_row w b j cs tI _ e1]
  simpa using hj
 cases hj
theorem ZsV.below(h:ZsV w v ys)(hb:BWq w w'):ZsV w' v ys:=by
 obtain⟨ao,n,c,rfl,h2,h5⟩:=h;refine⟨ao,n,c,rfl,h2,fun hne=>?_⟩;obtain⟨b,off,cells,e1,e2,e3,e4⟩:=h5 hne;refine⟨b,off,cells,e1,e2,fun k z hk=>?_,fun j u hj=>?_⟩
 ·obtain⟨s,a,l,c',q1,q2,q3⟩:=e3 k z hk
  exact⟨s,a,l,c',q1,q2,q3.ext (lx hb)⟩
 have:=e4 j u hj;exact(hb.cell (p:=⟨b,off+j,none⟩) (yU w _ this)).trans this
theorem zFl.one{cells:List Value}(h:zFl w cells ys)(hl:cells.length=ys.length*2):∀u∈cells,u.oneCell'=true:=by
 intro u hu;obtain⟨j,hj⟩:=List.getElem?_of_mem hu;have hlt:=(xge.1 hj).1;obtain⟨s,a,l,c,q1,q2,-⟩:=h (j/2) _ (xga oM);rcases Nat.mod_two_eq_zero_or_one j with e|e
 ·rw[show j/2*2=j by omega,hj]at q1
  injection q1 with q1
  subst q1;rfl
 rw[show j/2*2+1=j by omega,hj]at q2;injection q2 with q2
 subst q2;rfl
theorem zFl.append{c1 c2:List Value}{zs:List Int}(h1:zFl w c1 zs)(h2:zFl w c2 ys)(hl:c1.length=zs.length*2):zFl w (c1++c2) (zs++ys):=by
 intro k z hk;rcases zG k zs.length with hlt|hge
 ·rw[List.getElem?_append_left hlt]at hk
  obtain⟨s,a,l,c,q1,q2,q3⟩:=h1 k z hk;exact⟨s,a,l,c,by rw[List.getElem?_append_left oM];exact q1,by rw[List.getElem?_append_left oM];exact q2,q3⟩
 rw[List.getElem?_append_right hge]at hk;obtain⟨s,a,l,c,q1,q2,q3⟩:=h2 _ z hk;refine⟨s,a,l,c,?_,?_,q3⟩;rw[List.getElem?_append_right oM,hl,show k*2-zs.length*2=(k-zs.length)*2 by omega];exact q1;rw[List.getElem?_append_right oM,hl,show k*2+1-zs.length*2=(k-zs.length)*2+1 by omega];exact q2
theorem zFl.ext{c:List Value}{zs:List Int}(h:zFl w c zs)(x:zBw w w'):zFl w' c zs:=fun k z hk=>by
 obtain⟨s,a,l,c,q1,q2,q3⟩:=h k z hk;exact⟨s,a,l,c,q1,q2,q3.ext x⟩
theorem zGG(P:Program)(w:World)(t ty e:TypeId)(i:TypeInfo)(ht:P.underlying t=some (.slice e))(hi:P.info? e=some i)
  (g:Option Addr) (n cap:Nat) (hg:g=none->n=0/\cap=0) (hn:n<=cap) (ao:Option Addr) (c:Nat):
  (Builtin.append_ #[t,t] ty #[.slice g n cap,.slice ao 0 c]).run P w= .ok (.slice g n cap) w:=by
 cases g with
 |none=>
  obtain⟨rfl,rfl⟩:=hg rfl;cases ao<;>simp[Builtin.append_,run_underlying ht,sizeOf,typeInfo,hi,Builtin.lenOf,Builtin.firstCells,loadCells,loadCellsFrom]
 |some g=>
  cases ao<;>simp[Builtin.append_,run_underlying ht,sizeOf,typeInfo,hi,Builtin.lenOf,Builtin.firstCells,loadCells,loadCellsFrom,storeCells,hn]
theorem wpZ{w:World}{o:Oper}{a:Act}{K:Act->World->Prop}{Q:Exit->Act->World->Prop}(t:TypeId)(ht:Tryz.prog.underlying t=some (.slice tI))(s x:Operand)
  (ho:o.op= .call {callee:=.builtin .append,args:=#[s,x],argTypes:=#[t,t]})
  (base:Nat) (v:Value) (zs:List Int) (hs:a.eval s=v) (hown:zEH w base v zs) (xv:Value) (ys:List Int) (hx:a.eval x=xv) (hy:ZsV w xv ys)
  (hlen:zs.length+ys.length<=1099511627776) (hbase:base<=w.heap.size)
  (hK:∀v' w',zEH w' base v' (zs++ys)->w.grownBy w' v.ownBlock->zBw w w'->(v'.ownBlock=v.ownBlock∨∃g,v'.ownBlock=some g/\w.heap.size<=g)->K (a.put o.dst v') w'):Oper.wp Tryz.prog o a w K Q:=by
 obtain⟨i0,hi,hz0,hz1,hz2⟩:=info_parts zDb;obtain⟨ao,n,c,rfl,hn,hc⟩:=hy;by_cases h0:ys= []
 ·subst h0
  obtain rfl:0=n:=by simpa using hn
  have hr:(Builtin.append_ #[t,t] o.type #[v,.slice ao 0 c]).run Tryz.prog w= .ok v w:=by
   obtain⟨cells,h1,-⟩:=hown;rcases h1.2 with⟨rfl,h0⟩|⟨g,cap,cur,rfl,e2,e3,e4,-⟩
   exact zGG Tryz.prog w t o.type tI i0 ht hi none 0 0 (fun _=>⟨rfl,rfl⟩) (xgf _) ao c;exact zGG Tryz.prog w t o.type tI i0 ht hi _ _ cap (fun e=>by cases e) e4 ao c
  have h:=hK v w (by rwa[zA0]) ⟨rfl,rfl,rfl,xgf _,fun _ _ _=>rfl⟩ (lx (zA _ _)) (.inl rfl);unfold Oper.wp execOp;simp only[ho,resolve,invoke,builtin,Sem.run_bind,Sem.run_pure,Result.andThen_ok,List.map_toArray,List.map_cons,List.map_nil,hs,hx,hr];exact h
 obtain⟨b,off,news,rfl,hnl,hci,hcell⟩:=hc h0;have hpos:0<ys.length:=List.length_pos_iff.2 h0;obtain⟨cells,h1,h2⟩:=hown;have hcl:cells.length=zs.length*2:=h1.1;have hnews:∀(j:Nat) (u:Value),news[j]?=some u->w.cell? ((⟨b,off,none⟩:Addr).add j)=some u:=fun j u hj=>by
  rw[zAL];exact hcell j u hj
 have hone:=hci.one (by rw[hnl,hn]);have h63:zs.length+n<=maxLen:=by simp[maxLen];omega
 obtain⟨v',w',hr,k1,k2,-⟩:=run_append_own (P:=Tryz.prog) w base t o.type tI i0 _ 2 32 ht hi hz0 hz1 hz2 rfl oM v zs.length cells h1 ⟨b,off,none⟩ n c news hnl hnews hone h63 oM hbase;have h3:v'.ownBlock=v.ownBlock∨∃g,v'.ownBlock=some g/\w.heap.size<=g:=by
  rcases h1.2 with⟨rfl,h0⟩|⟨g,cap,cur,rfl,e2,e3,e4,e5,e6,e7⟩
  ·have hr2:=run_append_nil (P:=Tryz.prog) w t o.type tI i0 _ ht hi hz0 ⟨b,off,none⟩ n c news (by rw[hz1];exact hnl) hnews oM oM (by rw[hz2];omega)
   rw[hr2]at hr;injection hr with hv _
   exact .inr ⟨_,by rw[<-hv];rfl,xgf _⟩
  by_cases hroom:zs.length+n<=cap
  ·have hr2:=run_append_room (P:=Tryz.prog) w t o.type tI i0 ht hi g zs.length cap cur e3 ⟨b,off,none⟩ n c news (by rw[hz1];exact hnl) hnews hone hroom (by rw[hz1,e6,hnl];omega)
   rw[hr2]at hr;injection hr with hv _
   exact .inl (by rw[<-hv];rfl)
  have hr2:=run_append_grow (P:=Tryz.prog) w t o.type tI i0 _ ht hi hz0 ⟨g,0,none⟩ zs.length cap cells (by rw[hz1];exact hcl) (h1.cells (g:=g) rfl) ⟨b,off,none⟩ n c news (by rw[hz1];exact hnl) hnews oM oM (growslice_fits oM (by rw[hz2];omega));rw[hr2]at hr;injection hr with hv _
  exact .inr ⟨_,by rw[<-hv];rfl,xgf _⟩
 have hxg:=zDu h1 dE k2;have hvo:zEH w' base v' (zs++ys):=⟨cells++news,by rw[jM,hn];exact k1,(show zFl w cells zs from h2).ext hxg|>.append (hci.ext hxg) hcl⟩;have h:=hK v' w' hvo k2 hxg h3;unfold Oper.wp execOp;simp only[ho,resolve,invoke,builtin,Sem.run_bind,Sem.run_pure,Result.andThen_ok,List.map_toArray,List.map_cons,List.map_nil,hs,hx,hr];exact h
theorem zZ3{w:World}{ops:Array Oper}{rest:List Oper}{o:Oper}{a:Act}{Q:Exit->Act->World->Prop}(t:TypeId)(ht:Tryz.prog.underlying t=some (.slice tI))(hgd:o.guard=none)(s x:Operand)
  (ho:o.op= .call {callee:=.builtin .append,args:=#[s,x],argTypes:=#[t,t]})
  (base:Nat) (v:Value) (zs:List Int) (hs:a.eval s=v) (hown:zEH w base v zs) (xv:Value) (ys:List Int) (hx:a.eval x=xv) (hy:ZsV w xv ys)
  (hlen:zs.length+ys.length<=1099511627776) (hbase:base<=w.heap.size)
  (h:∀v' w',zEH w' base v' (zs++ys)->w.grownBy w' v.ownBlock->zBw w w'->(v'.ownBlock=v.ownBlock∨∃g,v'.ownBlock=some g/\w.heap.size<=g)->wpList Tryz.prog ops Q rest (a.put o.dst v') w'):wpList Tryz.prog ops Q (o::rest) a w:=
 wpList_plain hgd fun _ hK=>wpZ t ht s x ho base v zs hs hown xv ys hx hy hlen hbase fun v' w' h1 h2 h3 h4=>hK _ _ (h v' w' h1 h2 h3 h4)
theorem MX.open(h:MX C e L w (.agg #[niq (R:Nat),niq C,.slice o n k])):∃M,zAC w (.agg #[niq (R:Nat),niq C,.slice o n k]) R C M/\zBU R C M/\R<=3/\leM (2^e) R C (ent M)/\∀x,qG R C (ent M) x↔L x:=by
 obtain⟨R',M,h1,h2⟩:=h;obtain⟨A',e',-⟩:=id h1;injection e' with e'
 simp only[Array.mk.injEq,List.cons.injEq]at e';obtain⟨e',-⟩:=e';injection e' with _ e'
 obtain rfl:R=R':=oM;exact⟨M,h1,h2⟩
theorem BX.rows(h:BX C L w (.agg #[niq (R:Nat),niq C,.slice o n k])):R<=C:=by
 obtain⟨R',G,h1,h2⟩:=h;obtain⟨A',e',-⟩:=id h2;injection e' with e'
 simp only[Array.mk.injEq,List.cons.injEq]at e';obtain⟨e',-⟩:=e';injection e' with _ e'
 have:=h1.le_cols;omega
def zNX(C E:Nat)(L:(Nat->Int)->Prop)(w:World)(v:Value):Prop:=∃y:Nat->Int,zAv w v (qZ C y)/\(∀b,b<C->(y b).natAbs<=2^E)/\L y
theorem zGW(C E:Nat)(L:(Nat->Int)->Prop):zAK (zNX C E L):=fun _ _ _ e ⟨y,h1,h2⟩=>⟨y,h1.below e,h2⟩
theorem zZA(xv:Value)(x:Nat->Int)(w:World)(hC:C<=3)(he:e<=1000)(hE:e+6=E)(h:MX C e L w (.agg #[niq (R:Nat),niq C,.slice o n k]))(hx:zAv w xv (qZ R x))(hx9:∀b,(x b).natAbs<=9):
  CPq 34 #[xv,.agg #[niq (R:Nat),niq C,.slice o n k]] w fun e w'=>∃v,e= .returned v/\zNX C E L w' v/\BWq w w':=by
 obtain⟨M,h1,h2,h3,h4,h5⟩:=h.open;have hS:zFp [qZ R x] M 1 R C:=zIG (h1:=9) (h2:=2^e) (e:=e+10) (fun i hi j hj=>by
  obtain rfl:i=0:=oM;rw[zEJ (i:=0) (j:=j) rfl (yE hj)];exact hx9 j) h4 oM (by rw[yD];have:=zFh e;omega) oM
 refine(zWm _ _ R C M x w hx h1 h2 oM oM hS).mono ?_;rintro ee w' ⟨u,rfl,hu,hb⟩;have e1:∀j,zFL [qZ R x] M R 0 j=zT R fun t=>x t*ent M t j:=fun j=>by
  unfold zFL;rw[zFI];exact zF fun t ht=>by rw[zEJ (i:=0) (j:=t) rfl (yE ht)]
 refine⟨u,rfl,⟨_,hu,fun b hb=>?_,(h5 _).1 ⟨x,fun b _=>e1 b⟩⟩,hb⟩;rw[e1];have:=zDN (n:=R) (f:=fun t=>x t*ent M t b) (B:=9*2^e) fun t ht=>by
  rw[qV];exact qO (hx9 t) (h4 t ht b hb)
 have h6:R*(9*2^e)<=3*(9*2^e):=zM _ h3;rw[<-hE,yD];omega
def zRd(C E:Nat)(w:World)(v:Value):Prop:=∃(o0 o1 o2 o3:Option Addr) (n0 n1 n2 n3 k0 k1 k2 k3:Nat),v= .agg #[.slice o0 n0 k0,.slice o1 n1 k1,.slice o2 n2 k2,.slice o3 n3 k3]∧
 ∀s∈ [Value.slice o0 n0 k0,.slice o1 n1 k1,.slice o2 n2 k2,.slice o3 n3 k3],∃y:Nat->Int,zAv w s (qZ C y)/\∀b,b<C->(y b).natAbs<=2^E
theorem zMo(C E:Nat):zAK (zRd C E):=fun _ _ _ e ⟨o0,o1,o2,o3,n0,n1,n2,n3,k0,k1,k2,k3,h1,h2⟩=>⟨o0,o1,o2,o3,n0,n1,n2,n3,k0,k1,k2,k3,h1,fun s hs=>(h2 s hs).elim fun y h=>⟨y,h.1.below e,h.2⟩⟩
theorem zNX.some{E':Nat}(h:zNX C E L w v)(k:E<=E'):(∃o n c,v= .slice o n c)/\∃y:Nat->Int,zAv w v (qZ C y)/\∀b,b<C->(y b).natAbs<=2^E':=by
 obtain⟨y,h1,h2,-⟩:=h;obtain⟨o,n,c,rfl,-⟩:=id h1;exact⟨⟨o,n,c,rfl⟩,y,h1,fun b hb=>zB (h2 b hb) (zQ dE k)⟩
theorem zRd.mk{o0 o1 o2 o3:Option Addr}{n0 n1 n2 n3 k0 k1 k2 k3:Nat}(h0:∃y:Nat->Int,zAv w (.slice o0 n0 k0) (qZ C y)/\∀b,b<C->(y b).natAbs<=2^E)(h1:∃y:Nat->Int,zAv w (.slice o1 n1 k1) (qZ C y)/\∀b,b<C->(y b).natAbs<=2^E)
  (h2:∃y:Nat->Int,zAv w (.slice o2 n2 k2) (qZ C y)/\∀b,b<C->(y b).natAbs<=2^E) (h3:∃y:Nat->Int,zAv w (.slice o3 n3 k3) (qZ C y)/\∀b,b<C->(y b).natAbs<=2^E):zRd C E w (.agg #[.slice o0 n0 k0,.slice o1 n1 k1,.slice o2 n2 k2,.slice o3 n3 k3]):=
 ⟨_,_,_,_,_,_,_,_,_,_,_,_,rfl,fun s hs=>by
  simp only[List.mem_cons,List.not_mem_nil,or_false]at hs;rcases hs with rfl|rfl|rfl|rfl<;>assumption⟩
theorem zYv{x:Nat->Int}(h:zAC w v (1:Nat) C [qZ C x])(hx:∀b,b<C->(x b).natAbs<=2^e):MX C e (qG 1 C fun _=>x) w v:=
 ⟨1,_,h,⟨rfl,fun r hr=>by rw[List.mem_singleton.1 hr,qA]⟩,by decide,fun a ha b hb=>by
  obtain rfl:a=0:=oM;rw[zEJ (i:=0) (j:=b) rfl (yE hb)];exact hx b hb,qG.congr fun a ha b hb=>by
  obtain rfl:a=0:=oM;exact zEJ (i:=0) (j:=b) rfl (yE hb)⟩
theorem zAv.off1{zs:List Int}(h:zAv w v zs)(hb:Blk w b T cs)(hT:¬ T=tI)(hU:T≠tU)(k:Nat)(x:Value):zAv (w.setCell ⟨b,k,none⟩ x) v zs:=
 h.sameB (fun g e2=>zY _ _ _ _ _ fun e=>by
  subst e;obtain⟨cs',e3,-⟩:=e2;unfold Blk at hb;rw[e3]at hb;injection hb with hb
  injection hb with _ ht
  exact hT ht.symm) (hb.lext hU _ _)
theorem zAv.off4{zs:List Int}(h:zAv w v zs)(hb:Blk w b T cs)(hT:¬ T=tI)(hU:T≠tU)(x y z u:Value):zAv ((((w.setCell ⟨b,0,none⟩ x).setCell ⟨b,1,none⟩ y).setCell ⟨b,2,none⟩ z).setCell ⟨b,3,none⟩ u) v zs:=
 (((h.off1 hb hT hU 0 x).off1 (hb.set_ 0 x) hT hU 1 y).off1 ((hb.set_ 0 x).set_ 1 y) hT hU 2 z).off1 (((hb.set_ 0 x).set_ 1 y).set_ 2 z) hT hU 3 u
theorem zZ7(v:Value)(x:Nat->Int)(w:World)(h:zAv w v (qZ C x))(hx:∀b,b<C->(x b).natAbs<=2^e):
  CPq 38 #[v] w fun e' w'=>∃u,e'= .returned u/\MX C e (qG 1 C fun _=>x) w' u/\BWq w w':=
 (zTg v C x w h).mono fun e' w' ⟨u,h1,h2,h3⟩=>⟨u,h1,zYv h2 hx,h3⟩
theorem zT0{y:Nat->Int}(h:Lat C L):(∀x,zFO C L (qG 1 C fun _=>y) x↔zFO C L L x)↔L y:=by
 have hy:qG 1 C (fun _=>y) y:=qG.row (fun _=>y) (a:=0) dE;constructor
 ·intro g
  exact(zPr h y).1 ((g y).1 (zJx h hy))
 intro g x;have e:∀x,qG 1 C (fun _=>y) x->L x:=fun x hx=>by
  have h1:Lat C L:=h;obtain⟨k,hk⟩:=hx;have hz:∀n:Nat,L fun b=>(n:Int)*y b:=fun n=>by
   induction n with
   |zero=>exact h.ext _ _ h.zero fun b _=>by simp
   |succ n ih=>exact h.ext _ _ (h.add _ _ ih g) fun b _=>by rw[zAN,zA2];simp
  have hz2:∀n:Int,L fun b=>n*y b:=fun n=>by
   rcases zCn 0 n with h2|h2
   ·obtain⟨m,rfl⟩:=jQ h2
    exact hz m
   obtain⟨m,hm⟩:=jQ (show 0<=-n by omega);exact h.ext _ _ (h.sub _ _ h.zero (hz m)) fun b _=>by rw[<-hm,yA];omega
  exact h.ext _ _ (hz2 (k 0)) fun b hb=>by rw[hk b hb,zT,zT,jV]
 constructor
 ·rintro⟨u,v,hu,hv,q⟩
  exact⟨u,v,hu,e v hv,q⟩
 intro q;exact zL1 (zLe 1 C fun _=>y) ((zPr h x).1 q)
theorem zVx(w:World){base:Nat}(hb:base<=w.heap.size):zEH (w.alloc (.cells #[] tI)) base (slq w.heap.size 0 0) []:=
 ⟨[],World.ownsRow_made w #[] 0 hb (zE _) rfl,fun k z h=>by simp at h⟩
end Go.Proofs.YtkidaebmhlijlaaGreat
