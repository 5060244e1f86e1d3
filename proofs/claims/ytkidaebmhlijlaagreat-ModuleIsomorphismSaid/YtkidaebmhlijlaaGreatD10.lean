/- Joined. -/
import Derived.Test.YtkidaebmhlijlaaGreatD07
set_option linter.unusedVariables false
set_option linter.unusedSimpArgs false
set_option linter.unusedSectionVars false
set_option maxHeartbeats 16000000
set_option maxRecDepth 100000
variable{cs cs':Array Go.Value}{C R:Int}{M:List (List Int)}{zs:List Int}{b b' base g k n:Nat}{t t':Go.TypeId}{c0 c1 c2 c3 c4 c5 c6 c7 c8 v:Go.Value}{w w':Go.World}
namespace Go.Proofs.YtkidaebmhlijlaaGreat
open Go.RowKit
theorem zRw(h:Blk w b t cs)(h':Blk w b' t' cs')(ht:t'≠t):b'≠b:=by
 rintro rfl;have e:=congrArg (fun o:Option Obj=>match o with|some (Obj.cells _ t _)=>t|_=>0) (h'.symm.trans h);exact ht e
theorem Blk.wrT{cs1:Array Value}(h:Blk w b' t' cs1)(hb:Blk w b t cs)(ht:t'≠t):Blk (wr w b t cs') b' t' cs1:=(zH0 (zRw hb h ht)).trans h
theorem jJ.wrT(h:jJ w b' zs)(hb:Blk w b t cs)(ht:tI≠t)(hu:t≠tU):jJ (wr w b t cs') b' zs:=by
 obtain⟨cs1,h1,h2⟩:=h;exact jJ.old ⟨cs1,h1,h2⟩ (zH0 (zRw hb h1 ht)) (zOw hb hu)
theorem jJ.wrM(h:jJ w b' zs)(hb:Blk w b t cs)(hs:cs.size<2*zs.length)(hu:t≠tU):jJ (wr w b t cs') b' zs:=by
 obtain⟨cs1,h1,h2⟩:=h;refine jJ.old ⟨cs1,h1,h2⟩ (zH0 ?_) (zOw hb hu);rintro rfl;have e:=congrArg (fun o:Option Obj=>match o with|some (Obj.cells c _ _)=>c|_=>#[]) (h1.symm.trans hb);replace e:cs1=cs:=e;obtain⟨s,a,l,c,-,e2,-⟩:=h2 (zs.length-1) _ (xga (show zs.length-1<zs.length by omega));have:=(Array.getElem?_eq_some_iff.1 e2).1;rw[e]at this;omega
theorem zAv.wrT(h:zAv w v zs)(hb:Blk w b t cs)(ht:tI≠t)(hu:t≠tU):zAv (wr w b t cs') v zs:=by
 obtain⟨ao,n,cap,k1,k2,k3,k4,k5⟩:=h;exact⟨ao,n,cap,k1,k2,k3,k4,fun hn=>(k5 hn).elim fun b' h=>⟨b',h.1,h.2.wrT hb ht hu⟩⟩
theorem zAC.wrG(h:zAC w v R C M)(hb:Blk w b t cs)(hr:∀(b':Nat) (zs:List Int),zs∈M->jJ w b' zs->jJ (wr w b t cs') b' zs)(ht2:46≠t):zAC (wr w b t cs') v R C M:=by
 obtain⟨A,h1,ao,n,cap,k1,k2,k3,k4,k5⟩:=h;refine⟨A,h1,ao,n,cap,k1,k2,k3,k4,fun hn=>?_⟩;obtain⟨b',cs1,e1,e2,e3⟩:=k5 hn;refine⟨b',cs1,e1,(zH0 (zRw hb e2 ht2)).trans e2,fun k zs hk=>?_⟩;obtain⟨rv,e4,ao',n',cap',j1,j2,j3,j4,j5⟩:=e3 k zs hk;exact⟨rv,e4,ao',n',cap',j1,j2,j3,j4,fun hz=>(j5 hz).elim fun b' h=>⟨b',h.1,hr _ _ (xgd hk) h.2⟩⟩
theorem zAC.wrT(h:zAC w v R C M)(hb:Blk w b t cs)(ht:tI≠t)(ht2:46≠t)(hu:t≠tU):zAC (wr w b t cs') v R C M:=h.wrG hb (fun _ _ _ h=>h.wrT hb ht hu) ht2
theorem zZ4(m:Int)(n:Nat)(hm:m=n)(h:n<=1099511627776)(W:World):
  (Instr.makeSlice 46 (.int .i64 0) (.int .i64 m)).run Tryz.prog W= .ok (.slice (some ⟨W.heap.size,0,none⟩) 0 n) (W.alloc (.cells (zeroCells n) tI)):=by
 subst hm;obtain⟨i0,hi,hz0,hz1,hz2⟩:=info_parts zDb;have:=zCW (P:=Tryz.prog) 46 tI i0 _ zCB hi hz0 .i64 .i64 0 n (zE _) (by rw[hz2];omega) oM W;rw[show(Value.int IntKind.i64 0)= .int .i64 ((0:Nat):Int) from rfl,this,hz1];rfl
theorem zKM(n:Nat):(zeroCells n).size=n*2:=by simp[zeroCells,madeCells]
theorem zEH.made(h:Blk w b tI (zeroCells n))(hb:base<=b)(hn:n<=1099511627776):zEH w base (slq b 0 n) []:=
 ⟨[],⟨rfl,.inr ⟨b,n,zeroCells n,rfl,hb,h,zE _,by simp[maxLen];omega,zKM n,by simp⟩⟩,fun k z h=>by simp at h⟩
theorem zQw(v:Value)(zs:List Int)(w:World)(h:zAv w v zs)(hn:zs.length<=1000000)(hS:∀z∈zs,Sm z):
  CPq 98 #[v,.slice none 0 0] w fun e w'=>∃u,e= .returned u/\zEH w' w.heap.size u zs/\BWq w w':=by
 obtain⟨ao,n,cap,rfl,e2,e3,e4,-⟩:=id h;have HL:=xgw e2;have hn1:n<=1000000:=oM;have HS:=xgv hS;have hmk:=fun W=>zZ4 (n:Int) n rfl oM W
 have hmk2:=fun W=>zZ4 ((n:Int)+0) n oM oM W
 clear e2 hn hS;go_enter Tryz.func98,Tryz.ntmps98;go_upto_block 0 with(fail)
 refine zD ?_;intro W0 hW0;obtain⟨hB0,bA,hs0⟩:=qL hW0;have ho0:zEH W0 w.heap.size (slq w.heap.size 0 n) []:=zEH.made bA (xgf _) oM;clear hmk hmk2 hW0;go_wp2;go_loopw [5,18] (fun u iv wr=>∃k:Nat,k<=n/\iv=niq k/\zEH wr w.heap.size u (zs.take k)/\BWq w wr) (fun _ iv _=>n-(intOf iv).toNat)
 case atStart=>exact⟨0,oM,rfl,by rw[jI];exact ho0,hB0⟩
 obtain⟨k,hk,rfl,ho,hb⟩:=hrel;by_cases hlt:k<n
 ·obtain⟨b,z,s,a,l,c,rfl,hbl,hzk,q1,q2,hzv⟩:=(h.below hb).cell (k:=k) (by rw[HL.out];exact hlt)
  have hd:Hid (zs.take (k+1)=zs.take k++ [z]):=by rw[jD,hzk];exact xgw rfl
  have HZ:=xgv (HS.out z (xgd hzk));clear hzk;go_upto_region 5 with(fail)
  refine zD ?_;intro W1 hW1;obtain⟨hB1,T4,hs1⟩:=qL hW1;have d1:=T4.two;clear q1 q2 hW1;go_wp2_with fail
  refine(zOV _ z W1 (hzv.ext (lx hB1)) HZ.out).mono ?_;rintro e w5 ⟨x,rfl,hx,hb5⟩;obtain⟨s2,a2,l2,c2,xs,rfl,hxx⟩:=id hx;have HXX:=xgw hxx;clear hxx d1;have ho5:=(ho.below hB1).below hb5;have hb9:=nx (nx hb hB1) hb5;have hlk:(zs.take k).length=k:=by rw[qF,HL.out];omega
  go_wp2_with (at_builtin;refine zZB rfl _ _ rfl w.heap.size u5 (zs.take k) rfl (ho5.below ((zA _ _).alloc (xgf _) _)) w5.heap.size 1 s2 a2 l2 c2 z rfl (qX _ _ _) (hx.ext (lx ((zA _ _).alloc (xgf _) _))) (by rw[hlk];omega) (by have:=hb9.size;simp;omega) ?_;intro v' w' hown hgr hxg)
  have hgr:World.grownBy (w5.alloc (.cells #[.bool s2,.slice a2 l2 c2] tI)) w' (Value.ownBlock u5):=hgr;have hB9:BWq w w':=(hb9.alloc hb9.size _).grown hgr (by have:=hb9.size;simp;omega) (fun g hg=>ho.own g hg);go_roundw
  case rel=>exact⟨k+1,oM,by simp,by rw[hd.out];exact hown,hB9⟩
  case measure=>exact meq
 obtain rfl:k=n:=oM;rw[<-HL.out,jA]at ho;go_wp2;go_loopw [5,30] (fun u iv wr=>iv=niq 0/\BWq w wr/\zEH wr w.heap.size u zs) (fun _ _ _=>0)
 case atStart=>exact⟨rfl,hb,ho⟩
 obtain⟨rfl,hb,ho⟩:=hrel;go_wp2;go_ret;exact⟨_,rfl,ho,hb⟩
def RsO(w:World)(base:Nat)(v:Value)(M:List (List Int)):Prop:=
 ∃rvs,w.ownsRow base tR 1 v M.length rvs/\rvs.length=M.length/\∀(k:Nat) (rv:Value) (zs:List Int),rvs[k]?=some rv->M[k]?=some zs->zAv w rv zs
theorem RsO.below(h:RsO w base v M)(hb:BWq w w'):RsO w' base v M:=by
 obtain⟨rvs,h1,h2,h3⟩:=h;exact⟨rvs,h1.kept (row:=none) ⟨hb.os,hb.tape,hb.output,hb.size,fun k hk _=>hb.block k hk⟩ (by cases hv:v.ownBlock<;>simp),h2,fun k rv zs e1 e2=>(h3 k rv zs e1 e2).below hb⟩
theorem RsO.own(h:RsO w base v M):∀g,v.ownBlock=some g->base<=g/\g<w.heap.size:=by
 obtain⟨rvs,h1,-⟩:=h;exact zDK h1
theorem RsO.rows(h:RsO w base v M):zBq w v M:=by
 obtain⟨rvs,h1,h2,h3⟩:=h;rcases h1.2 with⟨rfl,h0⟩|⟨g,cap,cur,rfl,e2,e3,e4,e5,e6,e7⟩
 exact⟨none,0,0,rfl,h0,xgf _,oM,fun hn=>absurd (qE h0) hn⟩;refine⟨some ⟨g,0,none⟩,M.length,cap,rfl,rfl,e4,e5,fun _=>⟨g,cur,rfl,e3,fun k zs hk=>?_⟩⟩;have hkM:=(xge.1 hk).1;obtain⟨rv,hr⟩:∃rv,rvs[k]?=some rv:=⟨_,xga oM⟩;refine⟨rv,?_,h3 k rv zs hr hk⟩;rw[<-e7,List.getElem?_take_of_lt oM]at hr;simpa using hr
theorem zGH(P:Program)(w:World)(t ty e:TypeId)(i:TypeInfo)(ht:P.underlying t=some (.slice e))(hi:P.info? e=some i)
  (g:Option Addr) (n cap:Nat) (hg:g=none->n=0/\cap=0) (hn:n<=cap) (ao:Option Addr) (c:Nat):
  (Builtin.append_ #[t,t] ty #[.slice g n cap,.slice ao 0 c]).run P w= .ok (.slice g n cap) w:=by
 cases g with
 |none=>
  obtain⟨rfl,rfl⟩:=hg rfl;cases ao<;>simp[Builtin.append_,run_underlying ht,sizeOf,typeInfo,hi,Builtin.lenOf,Builtin.firstCells,loadCells,loadCellsFrom]
 |some g=>
  cases ao<;>simp[Builtin.append_,run_underlying ht,sizeOf,typeInfo,hi,Builtin.lenOf,Builtin.firstCells,loadCells,loadCellsFrom,storeCells,hn]
theorem zAv.sameB(h:zAv w v zs)(e:∀b,jJ w b zs->w'.heap[b]?=w.heap[b]?)(x:zBw w w'):zAv w' v zs:=by
 obtain⟨ao,n,cap,h1,h2,h3,h4,h5⟩:=h;exact⟨ao,n,cap,h1,h2,h3,h4,fun hn=>(h5 hn).elim fun b h=>⟨b,h.1,h.2.old (e b h.2) x⟩⟩
theorem zWo{w:World}{ops:Array Oper}{rest:List Oper}{o:Oper}{a:Act}{Q:Exit->Act->World->Prop}(hgd:o.guard=none)(s x:Operand)
  (ho:o.op= .call {callee:=.builtin .append,args:=#[s,x],argTypes:=#[30,30]})
  (base:Nat) (v:Value) (M:List (List Int)) (hs:a.eval s=v) (hown:RsO w base v M) (xv:Value) (N:List (List Int)) (hx:a.eval x=xv) (hy:zBq w xv N)
  (hlen:M.length+N.length<=1099511627776) (hbase:base<=w.heap.size)
  (h:∀v' w',RsO w' base v' (M++N)->w.grownBy w' v.ownBlock->zBw w w'->wpList Tryz.prog ops Q rest (a.put o.dst v') w'):wpList Tryz.prog ops Q (o::rest) a w:=by
 obtain⟨i0,hi,hz0,hz1,hz2⟩:=info_parts zDc;obtain⟨ao,n,c,rfl,hn,hnc,hcc,hcell⟩:=hy;by_cases h0:N= []
 ·subst h0
  obtain rfl:0=n:=by simpa using hn
  have hr:(Builtin.append_ #[30,30] o.type #[v,.slice ao 0 c]).run Tryz.prog w= .ok v w:=by
   obtain⟨cells,h1,-⟩:=hown;rcases h1.2 with⟨rfl,h0⟩|⟨g,cap,cur,rfl,e2,e3,e4,-⟩
   exact zGH Tryz.prog w _ o.type tR i0 zAx hi none 0 0 (fun _=>⟨rfl,rfl⟩) (xgf _) ao c;exact zGH Tryz.prog w _ o.type tR i0 zAx hi _ _ cap (fun e=>by cases e) e4 ao c
  have h:=h v w (by rwa[zA0]) ⟨rfl,rfl,rfl,xgf _,fun _ _ _=>rfl⟩ (lx (zA _ _));refine wpList_plain hgd fun K hK=>?_
  unfold Oper.wp execOp;simp only[ho,resolve,invoke,builtin,Sem.run_bind,Sem.run_pure,Result.andThen_ok,List.map_toArray,List.map_cons,List.map_nil,hs,hx,hr];exact hK _ _ h
 obtain⟨b,cs,rfl,hbl,hrow⟩:=hcell h0;obtain⟨rvs,h1,h2,h3⟩:=hown;have hsz:n<=cs.size:=by
  have hp:0<N.length:=List.length_pos_iff.2 h0;obtain⟨rv,q,-⟩:=hrow (N.length-1) _ (xga oM);have:=(Array.getElem?_eq_some_iff.1 q).1;omega
 have hnews:∀(k:Nat) (u:Value),(cs.toList.take n)[k]?=some u->k<n/\cs[k]?=some u:=fun k u hk=>by
  rw[List.getElem?_take]at hk;split at hk;exact⟨by assumption,by simpa using hk⟩;cases hk
 refine wpList_append_own w hgd s x 30 ho base tR i0 _ 1 24 zAx hi hz0 hz1 hz2 rfl oM v M.length _ hs h1 ⟨b,0,none⟩ n c (cs.toList.take n) hx (by simp;omega) ?_ ?_ (by simp[maxLen];omega) oM hbase ?_
 ·intro j u hj
  rw[zAL,zAR,cell_of_row w b j cs tR _ hbl];exact(hnews j u hj).2
 ·intro u hu
  obtain⟨k,hk⟩:=List.getElem?_of_mem hu;obtain⟨hkn,hk2⟩:=hnews k u hk;obtain⟨rv,q,_,_,_,rfl,-⟩:=hrow k _ (xga (by omega:k<N.length));rw[q]at hk2;injection hk2 with hk2
  subst hk2;rfl
 intro v' w' k1 k2 _;have hxg:=zDu h1 dE k2;have hkeep:∀u zs,zAv w u zs->zAv w' u zs:=fun u zs hu=>zAv.sameB hu (fun b hq=>k2.block b hq.lt (zG2 h1 hq)) hxg
 refine h v' w' ⟨rvs++cs.toList.take n,by rw[jM,hn];exact k1,by simp[h2,hn];omega,?_⟩ k2 hxg;intro k u zs hg hq;rcases zG k rvs.length with hlt|hge
 ·rw[List.getElem?_append_left hlt]at hg
  rw[List.getElem?_append_left oM]at hq;exact hkeep _ _ (h3 k u zs hg hq)
 rw[List.getElem?_append_right hge]at hg;rw[List.getElem?_append_right oM,<-h2]at hq;obtain⟨hkn,hk2⟩:=hnews _ u hg;obtain⟨rv,q1,q2⟩:=hrow _ zs hq;rw[q1]at hk2;injection hk2 with hk2
 subst hk2;exact hkeep _ _ q2
theorem Blk.all9(h:Blk w g t #[c0,c1,c2,c3,c4,c5,c6,c7,c8]):
  (w.cell? ⟨g,0,none⟩=some c0/\w.cell? ⟨g,1,none⟩=some c1/\w.cell? ⟨g,2,none⟩=some c2/\w.cell? ⟨g,3,none⟩=some c3/\w.cell? ⟨g,4,none⟩=some c4/\w.cell? ⟨g,5,none⟩=some c5/\w.cell? ⟨g,6,none⟩=some c6/\w.cell? ⟨g,7,none⟩=some c7/\w.cell? ⟨g,8,none⟩=some c8)/\(w.frozen? ⟨g,0,none⟩=false/\w.frozen? ⟨g,1,none⟩=false/\w.frozen? ⟨g,2,none⟩=false/\w.frozen? ⟨g,3,none⟩=false/\w.frozen? ⟨g,4,none⟩=false/\w.frozen? ⟨g,5,none⟩=false/\w.frozen? ⟨g,6,none⟩=false/\w.frozen? ⟨g,7,none⟩=false/\w.frozen? ⟨g,8,none⟩=false):=
 ⟨⟨h.cell 0,h.cell 1,h.cell 2,h.cell 3,h.cell 4,h.cell 5,h.cell 6,h.cell 7,h.cell 8⟩,⟨h.frozen 0,h.frozen 1,h.frozen 2,h.frozen 3,h.frozen 4,h.frozen 5,h.frozen 6,h.frozen 7,h.frozen 8⟩⟩
theorem Blk.put9(h:Blk w g t #[c0,c1,c2,c3,c4,c5,c6,c7,c8])(x0 x1 x2 x3 x4 x5 x6 x7 x8:Value):Blk (((((((((w.setCell ⟨g,0,none⟩ x0).setCell ⟨g,1,none⟩ x1).setCell ⟨g,2,none⟩ x2).setCell ⟨g,3,none⟩ x3).setCell ⟨g,4,none⟩ x4).setCell ⟨g,5,none⟩ x5).setCell ⟨g,6,none⟩ x6).setCell ⟨g,7,none⟩ x7).setCell ⟨g,8,none⟩ x8) g t #[x0,x1,x2,x3,x4,x5,x6,x7,x8]:=by
 simpa using(((((((((h.set_ 0 x0).set_ 1 x1).set_ 2 x2).set_ 3 x3).set_ 4 x4).set_ 5 x5).set_ 6 x6).set_ 7 x7).set_ 8 x8)
theorem Blk.lext9(h:Blk w g t cs)(hne:t≠tU)(x0 x1 x2 x3 x4 x5 x6 x7 x8:Value):zBw w (((((((((w.setCell ⟨g,0,none⟩ x0).setCell ⟨g,1,none⟩ x1).setCell ⟨g,2,none⟩ x2).setCell ⟨g,3,none⟩ x3).setCell ⟨g,4,none⟩ x4).setCell ⟨g,5,none⟩ x5).setCell ⟨g,6,none⟩ x6).setCell ⟨g,7,none⟩ x7).setCell ⟨g,8,none⟩ x8):=
 (((((((((h.lext hne 0 x0).trans ((h.set_ 0 x0).lext hne 1 x1)).trans (((h.set_ 0 x0).set_ 1 x1).lext hne 2 x2)).trans ((((h.set_ 0 x0).set_ 1 x1).set_ 2 x2).lext hne 3 x3)).trans (((((h.set_ 0 x0).set_ 1 x1).set_ 2 x2).set_ 3 x3).lext hne 4 x4)).trans ((((((h.set_ 0 x0).set_ 1 x1).set_ 2 x2).set_ 3 x3).set_ 4 x4).lext hne 5 x5)).trans (((((((h.set_ 0 x0).set_ 1 x1).set_ 2 x2).set_ 3 x3).set_ 4 x4).set_ 5 x5).lext hne 6 x6)).trans ((((((((h.set_ 0 x0).set_ 1 x1).set_ 2 x2).set_ 3 x3).set_ 4 x4).set_ 5 x5).set_ 6 x6).lext hne 7 x7)).trans (((((((((h.set_ 0 x0).set_ 1 x1).set_ 2 x2).set_ 3 x3).set_ 4 x4).set_ 5 x5).set_ 6 x6).set_ 7 x7).lext hne 8 x8))
theorem zVc(w:World)(g k:Nat)(x0 x1 x2 x3 x4 x5 x6 x7 x8:Value)(hk:k≠g):((((((((((w.setCell ⟨g,0,none⟩ x0).setCell ⟨g,1,none⟩ x1).setCell ⟨g,2,none⟩ x2).setCell ⟨g,3,none⟩ x3).setCell ⟨g,4,none⟩ x4).setCell ⟨g,5,none⟩ x5).setCell ⟨g,6,none⟩ x6).setCell ⟨g,7,none⟩ x7).setCell ⟨g,8,none⟩ x8)).heap[k]?=w.heap[k]?:=
 ((zY _ g 8 k x8 hk).trans ((zY _ g 7 k x7 hk).trans ((zY _ g 6 k x6 hk).trans ((zY _ g 5 k x5 hk).trans ((zY _ g 4 k x4 hk).trans ((zY _ g 3 k x3 hk).trans ((zY _ g 2 k x2 hk).trans ((zY _ g 1 k x1 hk).trans (zY _ g 0 k x0 hk)))))))))
theorem zYK{B:Nat}{a:World}(h:Below B a w)(hp:B<=g)(x0 x1 x2 x3 x4 x5 x6 x7 x8:Value):Below B a (((((((((w.setCell ⟨g,0,none⟩ x0).setCell ⟨g,1,none⟩ x1).setCell ⟨g,2,none⟩ x2).setCell ⟨g,3,none⟩ x3).setCell ⟨g,4,none⟩ x4).setCell ⟨g,5,none⟩ x5).setCell ⟨g,6,none⟩ x6).setCell ⟨g,7,none⟩ x7).setCell ⟨g,8,none⟩ x8):=
 (yJ (yJ (yJ (yJ (yJ (yJ (yJ (yJ (yJ h hp 0 x0) hp 1 x1) hp 2 x2) hp 3 x3) hp 4 x4) hp 5 x5) hp 6 x6) hp 7 x7) hp 8 x8)
structure Cpy where
 k:Nat
 s:Nat
 d:Nat
 t:Nat
def Cpy.fine(vs:List VS)(c:Cpy):Bool:=vs.any (fun a=>a.op==c.k && a.slot==c.s) && vs.any (fun a=>a.op==c.d && a.slot==c.t) && !(c.k==c.d)
theorem zRn{vs:List VS}{s:Nat}(h:vs.any (fun a=>a.op==k && a.slot==s)=true):∃P,(⟨k,s,P⟩:VS)∈vs:=by
 obtain⟨a,ha,e⟩:=zAo.1 h;simp only[Bool.and_eq_true,beq_iff_eq]at e;obtain⟨rfl,rfl⟩:=e;exact⟨a.P,ha⟩
theorem Cpy.fine_all{vs:List VS}{cp:List Cpy}(h:cp.all (Cpy.fine vs)=true){c:Cpy}(hc:c∈cp):(∃P,(⟨c.k,c.s,P⟩:VS)∈vs)/\(∃P,(⟨c.d,c.t,P⟩:VS)∈vs)/\c.k≠c.d:=by
 have:=jP.1 h c hc;unfold Cpy.fine at this;simp only[Bool.and_eq_true]at this;exact⟨zRn this.1.1,zRn this.1.2,by have:=this.2;simpa using this⟩
structure RVP(ka sa kb sb:Nat)(Q:Value->Value->Prop)(cp:List Cpy)(W:World)(T0:Array Value)(vs:List VS)(L:Array Bool)(T:Array Value)(w:World):Prop where
 rv:RV W T0 vs L T w
 ma:∃P,(⟨ka,sa,P⟩:VS)∈vs
 mb:∃P,(⟨kb,sb,P⟩:VS)∈vs
 ne:ka≠kb
 mc:cp.all (Cpy.fine vs)=true
 pair:L[ka]?=some true->L[kb]?=some true->∃u v,T[sa]?=some u/\T[sb]?=some v/\Q u v
 cpy:∀c∈cp,L[c.k]?=some true->L[c.d]?=some true/\T[c.s]?=T[c.t]?
section
variable {ka sa kb sb:Nat} {Q:Value->Value->Prop} {cp:List Cpy} {W:World} {T0:Array Value} {vs:List VS} {L:Array Bool} {T:Array Value} {w w':World}
theorem RVP.start(hwf:zIm T0.size vs=true)(hv:∀s∈vs,zAK s.P)(ma:∃P,(⟨ka,sa,P⟩:VS)∈vs)(mb:∃P,(⟨kb,sb,P⟩:VS)∈vs)(ne:ka≠kb)(mc:cp.all (Cpy.fine vs)=true):RVP ka sa kb sb Q cp W T0 vs (Array.replicate n false) T0 W.drew:=
 have no:∀k,¬ (Array.replicate n false)[k]?=some true:=fun k h=>by
  rw[Array.getElem?_replicate]at h;split at h<;>simp at h
 ⟨RV.start hwf hv,ma,mb,ne,mc,fun h _=>absurd h (no _),fun _ _ h=>absurd h (no _)⟩
theorem RVP.world(h:RVP ka sa kb sb Q cp W T0 vs L T w)(hb:BWq w w'):RVP ka sa kb sb Q cp W T0 vs L T w':=⟨h.rv.world hb,h.ma,h.mb,h.ne,h.mc,h.pair,h.cpy⟩
theorem RVP.cell(h:RVP ka sa kb sb Q cp W T0 vs L T w){o:Nat}(hc:W.cell? ⟨b,o,none⟩=some v):w.cell? ⟨b,o,none⟩=some v:=h.rv.cell hc
theorem RVP.bel(h:RVP ka sa kb sb Q cp W T0 vs L T w):BWq W w:=h.rv.bel
theorem RVP.size(h:RVP ka sa kb sb Q cp W T0 vs L T w):T.size=T0.size:=h.rv.size
theorem RVP.keep(h:RVP ka sa kb sb Q cp W T0 vs L T w):∀j,(∀s∈vs,s.slot≠j)->T[j]?=T0[j]?:=h.rv.keep
theorem RVP.val(h:RVP ka sa kb sb Q cp W T0 vs L T w):∀s∈vs,L[s.op]?=some true->∃v,T[s.slot]?=some v/\s.P w v:=h.rv.val
theorem RVP.value(h:RVP ka sa kb sb Q cp W T0 vs L T w)(s:VS)(hs:s∈vs)(hk:s.op=k)(hP:s.P w v)
  (hq:∀u,(k=ka->T[sb]?=some u->L[kb]?=some true->Q v u)/\(k=kb->T[sa]?=some u->L[ka]?=some true->Q u v):=by intro u;exact⟨fun e=>absurd e dE,fun e=>absurd e dE⟩)
  (hL:L[k]?=some false:=by assumption) (hc:cp.all (fun c=>!(c.k==k))=true∨∀c∈cp,c.k=k->L[c.d]?=some true/\T[c.t]?=some v:=by first|exact .inl rfl|exact .inl dE):
  RVP ka sa kb sb Q cp W T0 vs (L.setIfInBounds k true) (T.setIfInBounds s.slot v) w:=by
 have hr:=h.rv.value s hs hk hP;subst hk;obtain⟨Pa,ma⟩:=h.ma;obtain⟨Pb,mb⟩:=h.mb;have hwf:=h.rv.wf;unfold zIm at hwf;simp only[Bool.and_eq_true,decide_eq_true_eq,List.all_eq_true]at hwf;obtain⟨⟨w1,w2⟩,w3⟩:=hwf;have hslot:s.slot<T.size:=by rw[h.rv.size];exact w3 _ (List.mem_map.2 ⟨s,hs,rfl⟩)
 have hab:sb≠sa:=fun e=>h.ne (congrArg VS.op (yI w1 ma mb e.symm))
 have hkeep:∀{j:Nat},L[j]?=some true->j≠s.op:=fun hj e=>by rw[e,hL]at hj;cases hj
 have hset:∀{j:Nat},L[j]?=some true->(L.setIfInBounds s.op true)[j]?=some true:=fun {j} hj=>by rw[xgc (qD (hkeep hj))];exact hj
 refine⟨hr,h.ma,h.mb,h.ne,h.mc,fun h1 h2=>?_,fun c hcm h1=>?_⟩
 ·by_cases e1:s.op=ka
  ·have es:s=⟨ka,sa,Pa⟩:=yI w2 hs ma e1
   have e2:s.slot=sa:=by rw[es]
   have hlb:L[kb]?=some true:=jT h2 (by rw[e1];exact h.ne);obtain⟨u,hu,-⟩:=h.rv.val _ mb hlb;exact⟨v,u,by rw[e2,Array.getElem?_setIfInBounds_self_of_lt (by rw[<-e2];exact hslot)],by rw[e2,xgc (qD hab)];exact hu,(hq u).1 e1 hu hlb⟩
  have hla:L[ka]?=some true:=jT h1 e1;obtain⟨u,hu,-⟩:=h.rv.val _ ma hla;by_cases e3:s.op=kb
  ·have es:s=⟨kb,sb,Pb⟩:=yI w2 hs mb e3
   have e2:s.slot=sb:=by rw[es]
   exact⟨u,v,by rw[e2,xgc hab];exact hu,by rw[e2,Array.getElem?_setIfInBounds_self_of_lt (by rw[<-e2];exact hslot)],(hq u).2 e3 hu hla⟩
  obtain⟨x,y,g1,g2,g3⟩:=h.pair hla (jT h2 e3);have n1:s.slot≠sa:=fun e=>e1 (congrArg VS.op (yI w1 hs ma e))
  have n2:s.slot≠sb:=fun e=>e3 (congrArg VS.op (yI w1 hs mb e))
  exact⟨x,y,by rw[xgc n1];exact g1,by rw[xgc n2];exact g2,g3⟩
 obtain⟨⟨Pk,mk⟩,⟨Pd,md⟩,hne⟩:=Cpy.fine_all h.mc hcm;by_cases e1:c.k=s.op
 ·rcases hc with hc|hc
  ·have:=jP.1 hc c hcm
   simp[e1]at this
  obtain⟨g1,g2⟩:=hc c hcm e1;have es:s=⟨c.k,c.s,Pk⟩:=yI w2 hs mk e1.symm;have e2:s.slot=c.s:=by rw[es]
  have n2:s.slot≠c.t:=fun e=>hne (by rw[e1];exact congrArg VS.op (yI w1 hs md e))
  exact⟨hset g1,by rw[<-e2,Array.getElem?_setIfInBounds_self_of_lt hslot,xgc n2,g2]⟩
 obtain⟨g1,g2⟩:=h.cpy c hcm (jT h1 (qD e1));have n1:s.slot≠c.s:=fun e=>e1 (congrArg VS.op (yI w1 hs mk e)).symm
 have n2:s.slot≠c.t:=fun e=>hkeep g1 (congrArg VS.op (yI w1 hs md e)).symm
 exact⟨hset g1,by rw[xgc n1,xgc n2];exact g2⟩
end
end Go.Proofs.YtkidaebmhlijlaaGreat
