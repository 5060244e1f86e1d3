/- torsionref05.Stack, torsionref15.Unimodular, torsionref15.Completes. -/
import Derived.Test.YtgnmdddaiefooaaGreatR48
set_option linter.unusedVariables false
set_option linter.unusedSimpArgs false
set_option linter.unusedSectionVars false
set_option maxHeartbeats 16000000
set_option maxRecDepth 100000
namespace Go.Proofs.YtgnmdddaiefooaaGreat
open Go.RowKit
def RsO(w:World)(base:Nat)(v:Value)(M:List (List Int)):Prop:=
 ∃rvs,w.ownsRow base tR 1 v M.length rvs/\rvs.length=M.length/\∀(k:Nat) (rv:Value) (zs:List Int),rvs[k]?=some rv->M[k]?=some zs->zAZ w rv zs
theorem zJ.rs{w:World}{base:Nat}{A:Value}{C:Nat}{bs:List Nat}{M:List (List Int)}(h:zJ w base A C bs M):RsO w base A M:=by
 refine⟨qT C bs,by rw[h.len];exact h.own,by simp[qT,h.len],fun k rv zs h1 h2=>?_⟩;simp only[qT,List.getElem?_map,Option.map_eq_some_iff]at h1;obtain⟨b,h1,rfl⟩:=h1;obtain⟨-,f2,f3⟩:=h.row k b zs h1 h2;exact⟨some ⟨b,0,none⟩,C,C,rfl,f2,xgf _,by have:=h.cb;omega,fun _=>⟨_,rfl,f3⟩⟩
theorem RsO.below{w w':World}{base:Nat}{v:Value}{M:List (List Int)}(h:RsO w base v M)(hb:Below w.heap.size w w'):RsO w' base v M:=by
 obtain⟨rvs,h1,h2,h3⟩:=h;exact⟨rvs,h1.kept (row:=none) ⟨hb.os,hb.tape,hb.output,hb.size,fun k hk _=>hb.block k hk⟩ (by cases hv:v.ownBlock<;>simp),h2,fun k rv zs e1 e2=>(h3 k rv zs e1 e2).below hb⟩
theorem RsO.own{w:World}{base:Nat}{v:Value}{M:List (List Int)}(h:RsO w base v M):∀g,v.ownBlock=some g->base<=g/\g<w.heap.size:=by
 obtain⟨rvs,h1,-⟩:=h;exact World.ownsRow.lt h1
theorem RsO.rows{w:World}{base:Nat}{v:Value}{M:List (List Int)}(h:RsO w base v M):qX w v M:=by
 obtain⟨rvs,h1,h2,h3⟩:=h;rcases h1.2 with⟨rfl,h0⟩|⟨g,cap,cur,rfl,e2,e3,e4,e5,e6,e7⟩
 ·exact⟨none,0,0,rfl,h0,xgf _,by omega,fun hn=>absurd (List.eq_nil_of_length_eq_zero h0) hn⟩
 ·refine⟨some ⟨g,0,none⟩,M.length,cap,rfl,rfl,e4,e5,fun _=>⟨g,cur,rfl,e3,fun k zs hk=>?_⟩⟩
  have hkM:=(xge.1 hk).1;obtain⟨rv,hr⟩:∃rv,rvs[k]?=some rv:=⟨_,xga oM⟩;refine⟨rv,?_,h3 k rv zs hr hk⟩;rw[<-e7,List.getElem?_take_of_lt oM]at hr;simpa using hr
theorem zB3(P:Program)(w:World)(t ty e:TypeId)(i:TypeInfo)(ht:P.underlying t=some (.slice e))(hi:P.info? e=some i)
  (g:Option Addr) (n cap:Nat) (hg:g=none->n=0/\cap=0) (hn:n<=cap) (ao:Option Addr) (c:Nat):
  (Builtin.append_ #[t,t] ty #[.slice g n cap,.slice ao 0 c]).run P w= .ok (.slice g n cap) w:=by
 cases g with
 |none=>
  obtain⟨rfl,rfl⟩:=hg rfl;cases ao<;>simp[Builtin.append_,run_underlying ht,sizeOf,typeInfo,hi,Builtin.lenOf,Builtin.firstCells,loadCells,loadCellsFrom]
 |some g=>
  cases ao<;>simp[Builtin.append_,run_underlying ht,sizeOf,typeInfo,hi,Builtin.lenOf,Builtin.firstCells,loadCells,loadCellsFrom,storeCells,hn]
theorem zPX{w:World}{ops:Array Oper}{rest:List Oper}{o:Oper}{a:Act}{Q:Exit->Act->World->Prop}(hgd:o.guard=none)(s x:Operand)
  (ho:o.op= .call {callee:=.builtin .append,args:=#[s,x],argTypes:=#[26,26]})
  (base:Nat) (v:Value) (M:List (List Int)) (hs:a.eval s=v) (hown:RsO w base v M) (xv:Value) (N:List (List Int)) (hx:a.eval x=xv) (hy:qX w xv N)
  (hlen:M.length+N.length<=1099511627776) (hbase:base<=w.heap.size)
  (h:∀v' w',RsO w' base v' (M++N)->w.grownBy w' v.ownBlock->yI w w'->wpList Tryz.prog ops Q rest (a.put o.dst v') w'):wpList Tryz.prog ops Q (o::rest) a w:=by
 obtain⟨i0,hi,hz0,hz1,hz2⟩:=info_parts Tryz.infoR;obtain⟨ao,n,c,rfl,hn,hnc,hcc,hcell⟩:=hy;by_cases h0:N= []
 ·subst h0
  obtain rfl:0=n:=by simpa using hn
  have hr:(Builtin.append_ #[26,26] o.type #[v,.slice ao 0 c]).run Tryz.prog w= .ok v w:=by
   obtain⟨cells,h1,-⟩:=hown;rcases h1.2 with⟨rfl,h0⟩|⟨g,cap,cur,rfl,e2,e3,e4,-⟩
   ·exact zB3 Tryz.prog w _ o.type tR i0 Tryz.underlying26 hi none 0 0 (fun _=>⟨rfl,rfl⟩) (xgf _) ao c
   ·exact zB3 Tryz.prog w _ o.type tR i0 Tryz.underlying26 hi _ _ cap (fun e=>by cases e) e4 ao c
  have h:=h v w (by rwa[List.append_nil]) ⟨rfl,rfl,rfl,xgf _,fun _ _ _=>rfl⟩ (lx (Below.refl _ _));refine wpList_plain hgd fun K hK=>?_
  unfold Oper.wp execOp;simp only[ho,resolve,invoke,builtin,Sem.run_bind,Sem.run_pure,Result.andThen_ok,List.map_toArray,List.map_cons,List.map_nil,hs,hx,hr];exact hK _ _ h
 ·obtain⟨b,cs,rfl,hbl,hrow⟩:=hcell h0
  obtain⟨rvs,h1,h2,h3⟩:=hown;have hsz:n<=cs.size:=by
   have hp:0<N.length:=List.length_pos_iff.2 h0;obtain⟨rv,q,-⟩:=hrow (N.length-1) _ (xga oM);have:=(Array.getElem?_eq_some_iff.1 q).1;omega
  have hnews:∀(k:Nat) (u:Value),(cs.toList.take n)[k]?=some u->k<n/\cs[k]?=some u:=fun k u hk=>by
   rw[List.getElem?_take]at hk;split at hk
   ·exact⟨by assumption,by simpa using hk⟩
   ·cases hk
  refine wpList_append_own w hgd s x 26 ho base tR i0 _ 1 24 Tryz.underlying26 hi hz0 hz1 hz2 rfl oM v M.length _ hs h1 ⟨b,0,none⟩ n c (cs.toList.take n) hx (by simp;omega) ?_ ?_ (by simp[maxLen];omega) oM hbase ?_
  ·intro j u hj
   rw[Addr.add_lit,Nat.zero_add,cell_of_row w b j cs tR _ hbl];exact(hnews j u hj).2
  ·intro u hu
   obtain⟨k,hk⟩:=List.getElem?_of_mem hu;obtain⟨hkn,hk2⟩:=hnews k u hk;obtain⟨rv,q,_,_,_,rfl,-⟩:=hrow k _ (xga (by omega:k<N.length));rw[q]at hk2;injection hk2 with hk2
   subst hk2;rfl
  ·intro v' w' k1 k2 _
   have hxg:=zAm h1 dE k2;have hkeep:∀u zs,zAZ w u zs->zAZ w' u zs:=fun u zs hu=>zH4 hu (fun b hq=>k2.block b hq.lt (zCU h1 hq)) hxg
   refine h v' w' ⟨rvs++cs.toList.take n,by rw[List.length_append,hn];exact k1,by simp[h2,hn];omega,?_⟩ k2 hxg;intro k u zs hg hq;rcases Nat.lt_or_ge k rvs.length with hlt|hge
   ·rw[List.getElem?_append_left hlt]at hg
    rw[List.getElem?_append_left oM]at hq;exact hkeep _ _ (h3 k u zs hg hq)
   ·rw[List.getElem?_append_right hge]at hg
    rw[List.getElem?_append_right oM,<-h2]at hq;obtain⟨hkn,hk2⟩:=hnews _ u hg;obtain⟨rv,q1,q2⟩:=hrow _ zs hq;rw[q1]at hk2;injection hk2 with hk2
    subst hk2;exact hkeep _ _ q2
theorem RsO.off{w w':World}{base:Nat}{v:Value}{M:List (List Int)}{g:Nat}{T:TypeId}{cs:Array Value}(h:RsO w base v M)(hg:Blk w g T cs)(h1:T≠tR)(h2:T≠tI)(ho:∀b,b≠g->w'.heap[b]?=w.heap[b]?)(hx:yI w w'):RsO w' base v M:=by
 have hne:∀{c:Nat} {U:TypeId} {ds:Array Value},w.heap[c]?=some (.cells ds U (0,0))->T≠U->c≠g:=by
  intro c U ds hc hT hh;subst hh;have hg':w.heap[c]?=some (.cells cs T (0,0)):=hg;rw[hg']at hc;injection hc with hc
  injection hc with _ ht
  exact hT ht
 obtain⟨rvs,k1,k2,k3⟩:=h;refine⟨rvs,⟨k1.1,?_⟩,k2,fun k rv zs e1 e2=>zH4 (k3 k rv zs e1 e2) (fun b hr=>by obtain⟨c2,s2,-⟩:=hr;exact ho b (hne s2 h2)) hx⟩;rcases k1.2 with h3|⟨g',cap,cur,rfl,q1,q2,q3⟩
 ·exact .inl h3
 ·exact .inr ⟨g',cap,cur,rfl,q1,(ho g' (hne q2 h1)).trans q2,q3⟩
theorem zK6(v:Value)(R C:Nat)(M:List (List Int))(w:World)(h:zBm w v R C M)(hF:yG R C M)(hR:R<=1000000)(hC:C<=1000000)(hS:∀r∈M,∀z∈r,Sm z):
  Calls Tryz.prog 52 #[v] w fun e w'=>∃v,e= .returned v/\qL w' v R C M/\Below w.heap.size w w':=
 (zB1 v R C M w h hF hR hC hS).mono fun e w' ⟨v,bs,h,hm,hb⟩=>⟨v,h,hm.mat.1,hb⟩
theorem zEo(n:Nat)(w:World)(hn:n<=1000000):Calls Tryz.prog 38 #[.int .i64 n] w fun e w'=>∃v,e= .returned v/\qL w' v n n (genM n n idf)/\Below w.heap.size w w':=
 (zCW n w hn).mono fun e w' ⟨v,bs,h,hm,hb⟩=>⟨v,h,hm.mat.1,hb⟩
theorem zG4(v1 v2:Value)(R Q C:Nat)(M N:List (List Int))(w:World)(h1:zBm w v1 R C M)(h2:zBm w v2 Q C N)(hF1:yG R C M)(hF2:yG Q C N)(hR:R<=1000000)(hQ:Q<=1000000)(hC:C<=1000000)(hS1:∀r∈M,∀z∈r,Sm z)(hS2:∀r∈N,∀z∈r,Sm z):
  Calls Tryz.prog 26 #[v1,v2] w fun e w'=>∃v,e= .returned (.tuple #[v,.int .i64 0])/\qL w' v ((R+Q:Nat):Int) C (M++N)/\Below w.heap.size w w':=by
 obtain⟨a1,a2,a3,rfl⟩:=h1.agg;obtain⟨b1,b2,b3,rfl⟩:=h2.agg;have H1:=xgv h1;have H2:=xgv h2;have HF1:=xgv hF1;have HF2:=xgv hF2;have HS1:=xgv hS1;have HS2:=xgv hS2;have hadd:IntKind.i64.wrap ((R:Int)+(Q:Int))=((R+Q:Nat):Int):=by rw[<-Int.natCast_add];exact IntWalk.i64_in _ oM
 clear h1 h2 hF1 hF2 hS1 hS2;go_enter Tryz.func26,Tryz.ntmps26;go_upto_region 1 with(fail)
 refine zC ?_;intro W0 hW0;obtain⟨hB0,bx1,bx2,br,hs0⟩:=zAS hW0;obtain⟨c1,c2,c3,c4,c5,c6⟩:=bx1.three;obtain⟨d1,d2,d3,d4,d5,d6⟩:=bx2.three;clear hW0;go_wp2_with fail
 refine(zB1 _ R C M W0 (H1.out.below hB0) HF1.out hR hC HS1.out).mono ?_;rintro e w1 ⟨u,bs,rfl,⟨hbl,A2,rfl,ho⟩,hb1⟩;obtain⟨oo,on,oc,rfl,-,-,-,-⟩:=id ho.rows;have hrs:=ho.rs;have HOO:=xgv hrs.own;have bx1:=bx1.below hb1;have bx2:=bx2.below hb1;have br:=br.below hb1;have hB:=nx hB0 hb1;clear c1 c2 c3 c4 c5 c6 d1 d2 d3 d4 d5 d6 ho;go_upto_region 4 with(fail)
 refine zC ?_;intro W3 hW3;obtain⟨hB3,T6,hs3⟩:=zN hW3;have bx1:=bx1.below hB3;have bx2:=bx2.below hB3;have br:=br.below hB3;have HR:=xgv (hrs.below hB3);have hB:=nx hB hB3;have q1:=hb1.size;clear hW3 hrs;obtain⟨c1,c2,c3,c4,c5,c6⟩:=bx1.three;obtain⟨d1,d2,d3,d4,d5,d6⟩:=bx2.three;obtain⟨t1,t2,t3,t4,t5,t6⟩:=T6.three;go_upto_region 5 with(fail)
 refine zC ?_;intro W4 hW4;have T6n:Blk W4 w1.heap.size 28 #[.int .i64 ((R+Q:Nat):Int),.int .i64 C,.slice oo on oc]:=by
  rw[hW4.out];have:=T6.set_ 0 (.int .i64 ((R+Q:Nat):Int));simpa[hadd]using this
 have ho4:∀b,b≠w1.heap.size->W4.heap[b]?=W3.heap[b]?:=fun b hb=>by rw[hW4.out];exact zT _ _ _ _ _ hb
 have hx4:yI W3 W4:=by rw[hW4.out];exact T6.lext dE _ _
 have hB4:Below w.heap.size w W4:=by rw[hW4.out];exact zP hB (by have:=hB0.size;omega) _ _
 have HR:=xgv (HR.out.off T6 dE dE ho4 hx4);have hs4:W4.heap.size=W3.heap.size:=by rw[hW4.out];simp
 have bx2:Blk W4 (w.heap.size+1) 28 #[.int .i64 Q,.int .i64 C,.slice b1 b2 b3]:=(ho4 _ oM).trans bx2;have br:Blk W4 (w.heap.size+1+1) 28 #[.int .i64 0,.int .i64 0,.slice none 0 0]:=(ho4 _ oM).trans br;clear hW4 c1 c2 c3 c4 c5 c6 d1 d2 d3 d4 d5 d6 t1 t2 t3 t4 t5 t6 ho4 hx4 T6 bx1;obtain⟨d1,d2,d3,d4,d5,d6⟩:=bx2.three;obtain⟨t1,t2,t3,t4,t5,t6⟩:=T6n.three;have hl1:=zHY N;refine zB 5 rfl (RV W4 _ [VP 0 21 w1.heap.size 2,E 1 22 (.slice oo on oc),E 2 23 (.agg #[.int .i64 Q,.int .i64 C,.slice b1 b2 b3]),⟨3,24,fun w v=>qL w v (Q) (C) (N)⟩,⟨4,25,fun w v=>qX w v N⟩]) kR RV.start (RV.fin kR ?fin1) ?steps1
 case steps1=>
  refine⟨?_,?_,?_,?_,?_,trivial⟩<;>(intro L T wS hL hd hcl hI K hK;try refine zA rfl ?_)
  ·exact xgs (hI.k 6 rfl kR)
  ·have zt0:=hI.e mm0 (hd 0)
   have cc0:=hI.cell t3;exact xgu
  ·have zt:=hI.k 3 rfl kR
   have cc0:=hI.cell d1;have cc1:=hI.cell d2;have cc2:=hI.cell d3;exact xgu
  ·have zt2:=hI.e mm2 (hd 2)
   go_simp;refine(zK6 _ Q C N _ ((H2.out.below hB4).below hI.bel) HF2.out hQ hC HS2.out).mono ?_;rintro e wa ⟨v,rfl,hv,hba⟩;exact hK _ _ ((hI.world hba).y mm3 hv)
  ·obtain⟨v3,zt3,h3⟩:=hI.v mm3 (hd 3)
   obtain⟨A3,rfl,k3⟩:qL wS v3 Q C N:=h3;obtain⟨x,y,z,rfl,-⟩:=id k3;go_simp;exact hK _ _ (hI.y mm4 k3)
 intro w5 hbw5 T hT;simp only[Fin,E,EI,VP,VSl,VN,xgg,xgh,xgi,xgj]at hT;obtain⟨va3,ha3,va4,ha4,rfl⟩:=hT;simp only[xgl,xgk];have ha4:qX w5 va4 N:=ha4;have hr5:=HR.out.below hbw5;have T65:=T6n.below hbw5;have br5:=br.below hbw5;have hB5:=nx hB4 hbw5;have l65:=T65.lt;have lbr5:=br5.lt;have q5:=hbw5.size;have qB:=hB0.size;clear d1 d2 d3 d4 d5 d6 t1 t2 t3 t4 t5 t6 T6n;go_wp2_with (at_builtin;refine zPX rfl _ _ rfl W0.heap.size (.slice oo on oc) M rfl hr5 va4 N rfl ha4 (by rw[HF1.out.1,HF2.out.1];omega) oM ?_;intro v' w' hown hgr hlx;have T6w:Blk w' w1.heap.size 28 #[.int .i64 ((R+Q:Nat):Int),.int .i64 C,.slice oo on oc]:=(hgr.block _ l65 (fun e=>by have:=(HOO.out _ e.symm).2;omega)).trans T65;have brw:Blk w' (w.heap.size+1+1) 28 #[.int .i64 0,.int .i64 0,.slice none 0 0]:=(hgr.block _ lbr5 (fun e=>by have:=(HOO.out _ e.symm).1;omega)).trans br5;have hBw:Below w.heap.size w w':=hB5.grown hgr oM (fun g hg=>by have:=(HOO.out g hg).1;omega);obtain⟨t1,t2,t3,t4,t5,t6⟩:=T6w.three;obtain⟨r1,r2,r3,r4,r5,r6⟩:=brw.three;obtain⟨po,pn,pc,rfl,-⟩:=id hown.rows)
 have hx1:yI w' (w'.setCell ⟨w1.heap.size,2,none⟩ (.slice po pn pc)):=T6w.lext dE _ _;have hrow:=(hown.off T6w dE dE (fun b hb=>zT _ _ _ b _ hb) hx1).rows;have brz:Blk (w'.setCell ⟨w1.heap.size,2,none⟩ (.slice po pn pc)) (w.heap.size+1+1) 28 #[.int .i64 0,.int .i64 0,.slice none 0 0]:=(zT _ _ _ _ _ oM).trans brw;refine bodyPost_ret (zAo rfl _ rfl (brz.put3 _ _ _) rfl) rfl ⟨_,rfl,qL.keep3 ⟨_,rfl,hrow⟩ brz _ _ _,zP (zP (zP (zP hBw oM _ _) oM 0 _) oM 1 _) oM 2 _⟩
def zOe(n:Nat)(A:Nat->Nat->Int):Prop:=zCX n n n (fun k=>k) A idf
theorem zJN{M0:Nat}(hM1:1<=M0)(v:Value)(n:Nat)(M:List (List Int))(w:World)(h:qL w v n n M)(hF:yG n n M)(hn:n<=1000000)(hA:leM M0 n n (ent M))(hB:gx (eE n n) M0<BD)(hU:zOe n (ent M)):
  Calls Tryz.prog 73 #[v] w fun e w'=>∃v,e= .returned v/\v= .bool true/\Below w.heap.size w w':=by
 obtain⟨a1,a2,a3,rfl⟩:=h.agg;have H0:=xgv h;have HF:=xgv hF;have HA:=xgv (And.intro hA hB);have HU:=xgv hU;have HC:qM (∀w',Below w.heap.size w w'->Calls Tryz.prog 43 #[.agg #[.int .i64 n,.int .i64 n,.slice a1 a2 a3]] w' fun e w2=>∃v,e= .returned v/\zLq n n (genM n n idf) w2 v/\Below w'.heap.size w' w2):=⟨fun w' hb=>by
  refine(zFV hM1 _ M n n w' (h.below hb).off hF hn hn hA hB).mono ?_;rintro e w2 ⟨v,r,c,H,U,V,rfl,hf,-,-,hv,hb2⟩;obtain⟨-,e2⟩:=hf.lat.eq hU;rw[e2]at hv;exact⟨v,rfl,⟨_,_,hv⟩,hb2⟩⟩
 clear h hF hA hB hU;go_enter Tryz.func73,Tryz.ntmps73;go_upto_region 1 with(fail)
 refine zC ?_;intro W0 hW0;obtain⟨hB0,bx,hs0⟩:=zN hW0;obtain⟨c1,c2,c3,c4,c5,c6⟩:=bx.three;clear hW0;go_wp2_with fail
 refine(zBh _ n n M W0 (H0.out.below hB0)).mono ?_;rintro e w1 ⟨rfl,hb1⟩;rw[decide_eq_true HF.out.valid];have bx:=bx.below hb1;have hB:=nx hB0 hb1;clear c1 c2 c3 c4 c5 c6;obtain⟨c1,c2,c3,c4,c5,c6⟩:=bx.three;have hl1:=zHS n n (genM n n idf);have lbx:=bx.lt;go_upto_region 2 with(fail)
 refine zF rfl (RV w1 _ [E 0 6 (.bool true),E 1 7 (.bool true),VP 2 8 w.heap.size 0,VN 3 9 n,VP 4 10 w.heap.size 1,VN 5 11 n,E 6 12 (.bool true),E 7 13 (.bool true),E 8 14 (.bool true),E 9 15 (.agg #[.int .i64 n,.int .i64 n,.slice a1 a2 a3]),⟨10,16,zLq n n (genM n n idf)⟩,⟨11,17,fun w v=>qL w v (n) (n) (genM n n idf)⟩,VP 12 18 w.heap.size 0,VN 13 19 n,⟨14,20,fun w v=>qL w v (n) (n) (genM n n idf)⟩,E 15 21 (.bool true),E 16 22 (.bool true),E 17 2 (.bool true)]) kR RV.start (RV.fin kR ?fin2) ?steps2
 case steps2=>
  refine⟨?_,?_,?_,?_,?_,?_,?_,?_,?_,?_,?_,?_,?_,?_,?_,?_,?_,?_,trivial⟩<;>(intro L T wS hL hd hcl hI K hK;try refine zA rfl ?_)
  ·exact xgs (hI.k 3 rfl kR)
  ·exact xgs (hI.e mm0 (hd 0))
  ·have zg:=hI.e mm1 (hd 1)
   refine zA xgp ?_;exact xgs (hI.k 1 rfl kR)
  ·have zg:=hI.e mm1 (hd 1)
   refine zA xgp ?_;have zt2:=hI.e mm2 (hd 2);have cc0:=hI.cell c1;exact xgu
  ·have zg:=hI.e mm1 (hd 1)
   refine zA xgp ?_;exact xgs (hI.k 1 rfl kR)
  ·have zg:=hI.e mm1 (hd 1)
   refine zA xgp ?_;have zt4:=hI.e mm4 (hd 4);have cc0:=hI.cell c2;exact xgu
  ·have zg:=hI.e mm1 (hd 1)
   refine zA xgp ?_;exact xgt (hI.e mm3 (hd 3)) (hI.e mm5 (hd 5))
  ·exact xgt (hI.e mm1 (hd 1)) (hI.e mm6 (hd 6))
  ·exact xgs (hI.e mm7 (hd 7))
  ·have zg:=hI.e mm8 (hd 8)
   refine zA xgp ?_;have zt:=hI.k 1 rfl kR;have cc0:=hI.cell c1;have cc1:=hI.cell c2;have cc2:=hI.cell c3;exact xgu
  ·have zg:=hI.e mm8 (hd 8)
   refine zA xgp ?_;have zt9:=hI.e mm9 (hd 9);go_simp;refine(HC.out _ (nx hB hI.bel)).mono ?_;rintro e wa ⟨v,rfl,hv,hba⟩;exact hK _ _ ((hI.world hba).y yD hv)
  ·have zg:=hI.e mm8 (hd 8)
   refine zA xgp ?_;obtain⟨v3,zt3,h3⟩:=hI.v yD (hd 10);obtain⟨U3,V3,hf3⟩:zLq n n (genM n n idf) wS v3:=h3;obtain⟨x1,x2,x3,x4,x5,x6,x7,x8,x9,rfl,hx⟩:=hf3.agg;go_simp;exact hK _ _ (hI.y zAB hx)
  ·have zg:=hI.e mm8 (hd 8)
   refine zA xgp ?_;exact xgs (hI.k 1 rfl kR)
  ·have zg:=hI.e mm8 (hd 8)
   refine zA xgp ?_;have zt12:=hI.e zAh (hd 12);have cc0:=hI.cell c1;exact xgu
  ·have zg:=hI.e mm8 (hd 8)
   refine zA xgp ?_;have zt13:=hI.e zBv (hd 13);go_simp;refine(zEo n _ hn).mono ?_;rintro e wa ⟨v,rfl,hv,hba⟩;exact hK _ _ ((hI.world hba).y zBF hv)
  ·have zg:=hI.e mm8 (hd 8)
   refine zA xgp ?_;obtain⟨v11,zt11,h11⟩:=hI.v zAB (hd 11);obtain⟨v14,zt14,h14⟩:=hI.v zBF (hd 14);go_simp;refine(zJT _ _ n n _ _ h11 h14).mono ?_;rintro e wa ⟨v,rfl,hv,hba⟩;exact hK _ _ ((hI.world hba).y zCN hv)
  ·exact xgt (hI.e mm8 (hd 8)) (hI.e zCN (hd 15))
  ·exact xgs (hI.e zCf (hd 16))
 intro w2 hbw2 T hT;simp only[Fin,E,EI,VP,VSl,VN,xgg,xgh,xgi,xgj]at hT;obtain⟨va10,ha10,va11,ha11,va14,ha14,rfl⟩:=hT;have hB2:=nx hB hbw2;go_wp2;go_ret;exact⟨_,rfl,rfl,hB2⟩
end Go.Proofs.YtgnmdddaiefooaaGreat
