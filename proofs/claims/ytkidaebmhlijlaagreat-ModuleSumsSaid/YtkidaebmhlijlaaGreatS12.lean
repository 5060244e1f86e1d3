/- Joined. -/
import Derived.ChangeArms
import Derived.ProofKit
import Derived.OpenShut
import Derived.Test.YtkidaebmhlijlaaGreatS08
import Derived.Test.YtkidaebmhlijlaaGreatS09
set_option linter.unusedVariables false
set_option linter.unusedSimpArgs false
set_option linter.unusedSectionVars false
set_option maxHeartbeats 16000000
set_option maxRecDepth 100000
variable{M:List (List Int)}{ls:List Int}{C R base f i j n:Nat}{v:Go.Value}{w w':Go.World}
namespace Go.Proofs.YtkidaebmhlijlaaGreat
open Go.RowKit
def zYv(M:List (List Int))(xs ys:List Nat):Nat->Nat->Int:=fun a b=>ent M (xs.getD a 0) (ys.getD b 0)
theorem zYU(m:Int)(n:Nat)(hm:m=n)(h:n<=1099511627776)(W:World):
  (Instr.makeSlice 46 (.int .i64 0) (.int .i64 m)).run Tryz.prog W= .ok (.slice (some ⟨W.heap.size,0,none⟩) 0 n) (W.alloc (.cells (zeroCells n) tI)):=by
 subst hm;obtain⟨i0,hi,hz0,hz1,hz2⟩:=info_parts zD8;have:=zCR (P:=Tryz.prog) 46 tI i0 _ zB5 hi hz0 .i64 .i64 0 n (zE _) (by rw[hz2];omega) oM W;rw[show(Value.int IntKind.i64 0)= .int .i64 ((0:Nat):Int) from rfl,this,hz1];rfl
theorem zJV(n:Nat):(zeroCells n).size=n*2:=by simp[zeroCells,madeCells]
theorem zEW.made{b:Nat}(h:Blk w b tI (zeroCells n))(hb:base<=b)(hn:n<=1099511627776):zEW w base (.slice (some ⟨b,0,none⟩) 0 n) []:=
 ⟨[],⟨rfl,.inr ⟨b,n,zeroCells n,rfl,hb,h,zE _,by simp[maxLen];omega,zJV n,by simp⟩⟩,fun k z h=>by simp at h⟩
theorem zPn(v:Value)(zs:List Int)(w:World)(h:zBm w v zs)(hn:zs.length<=1000000)(hS:∀z∈zs,Sm z):
  Calls Tryz.prog 98 #[v,.slice none 0 0] w fun e w'=>∃u,e= .returned u/\zEW w' w.heap.size u zs/\Below w.heap.size w w':=by
 obtain⟨ao,n,cap,rfl,e2,e3,e4,-⟩:=id h;have HL:=xgw e2;have hn1:n<=1000000:=by omega
 have HS:=xgv hS;have hmk:=fun W=>zYU (n:Int) n rfl oM W
 have hmk2:=fun W=>zYU ((n:Int)+0) n oM oM W
 clear e2 hn hS;go_enter Tryz.func98,Tryz.ntmps98;go_upto_block 0 with(fail)
 refine zD ?_;intro W0 hW0;obtain⟨hB0,bA,hs0⟩:=qM hW0;have ho0:zEW W0 w.heap.size (.slice (some ⟨w.heap.size,0,none⟩) 0 n) []:=zEW.made bA (xgf _) oM;clear hmk hmk2 hW0;go_wp2;go_loopw [5,18] (fun u iv wr=>∃k:Nat,k<=n/\iv= .int .i64 k/\zEW wr w.heap.size u (zs.take k)/\Below w.heap.size w wr) (fun _ iv _=>n-(intOf iv).toNat)
 case atStart=>exact⟨0,by omega,rfl,by rw[jL];exact ho0,hB0⟩
 obtain⟨k,hk,rfl,ho,hb⟩:=hrel;by_cases hlt:k<n
 ·obtain⟨b,z,s,a,l,c,rfl,hbl,hzk,q1,q2,hzv⟩:=(h.below hb).cell (k:=k) (by rw[HL.out];exact hlt)
  have hd:Hid (zs.take (k+1)=zs.take k++ [z]):=by rw[yY,hzk];exact xgw rfl
  have HZ:=xgv (HS.out z (xgd hzk));clear hzk;go_upto_region 5 with(fail)
  refine zD ?_;intro W1 hW1;obtain⟨hB1,T4,hs1⟩:=qM hW1;obtain⟨d1,d2,d3,d4⟩:=T4.two;clear q1 q2 hW1;go_wp2_with fail
  refine(zNW _ z W1 (hzv.ext (lx hB1)) HZ.out).mono ?_;rintro e w5 ⟨x,rfl,hx,hb5⟩;obtain⟨s2,a2,l2,c2,xs,rfl,hxx⟩:=id hx;have HXX:=xgw hxx;clear hxx d1 d2 d3 d4;have ho5:=(ho.below hB1).below hb5;have hb9:=nx (nx hb hB1) hb5;have hlk:(zs.take k).length=k:=by rw[qD,HL.out];omega
  go_wp2_with (at_builtin;refine zXe rfl _ _ rfl w.heap.size u5 (zs.take k) rfl (ho5.below ((zA _ _).alloc (xgf _) _)) w5.heap.size 1 s2 a2 l2 c2 z rfl (qQ _ _ _) (hx.ext (lx ((zA _ _).alloc (xgf _) _))) (by rw[hlk];omega) (by have:=hb9.size;simp;omega) ?_;intro v' w' hown hgr hxg)
  have hgr:World.grownBy (w5.alloc (.cells #[.bool s2,.slice a2 l2 c2] tI)) w' (Value.ownBlock u5):=hgr;have hB9:Below w.heap.size w w':=(hb9.alloc hb9.size _).grown hgr (by have:=hb9.size;simp;omega) (fun g hg=>ho.own g hg);go_roundw
  case rel=>exact⟨k+1,by omega,by simp,by rw[hd.out];exact hown,hB9⟩
  case measure=>simp[intOf];omega
 obtain rfl:k=n:=by omega
 rw[<-HL.out,yU]at ho;go_wp2;go_loopw [5,30] (fun u iv wr=>iv= .int .i64 0/\Below w.heap.size w wr/\zEW wr w.heap.size u zs) (fun _ _ _=>0)
 case atStart=>exact⟨rfl,hb,ho⟩
 obtain⟨rfl,hb,ho⟩:=hrel;go_wp2;go_ret;exact⟨_,rfl,ho,hb⟩
def RsO(w:World)(base:Nat)(v:Value)(M:List (List Int)):Prop:=
 ∃rvs,w.ownsRow base tR 1 v M.length rvs/\rvs.length=M.length/\∀(k:Nat) (rv:Value) (zs:List Int),rvs[k]?=some rv->M[k]?=some zs->zBm w rv zs
theorem RsO.below(h:RsO w base v M)(hb:Below w.heap.size w w'):RsO w' base v M:=by
 obtain⟨rvs,h1,h2,h3⟩:=h;exact⟨rvs,h1.kept (row:=none) ⟨hb.os,hb.tape,hb.output,hb.size,fun k hk _=>hb.block k hk⟩ (by cases hv:v.ownBlock<;>simp),h2,fun k rv zs e1 e2=>(h3 k rv zs e1 e2).below hb⟩
theorem RsO.own(h:RsO w base v M):∀g,v.ownBlock=some g->base<=g/\g<w.heap.size:=by
 obtain⟨rvs,h1,-⟩:=h;exact zDA h1
theorem RsO.rows(h:RsO w base v M):zBl w v M:=by
 obtain⟨rvs,h1,h2,h3⟩:=h;rcases h1.2 with⟨rfl,h0⟩|⟨g,cap,cur,rfl,e2,e3,e4,e5,e6,e7⟩
 exact⟨none,0,0,rfl,h0,xgf _,by omega,fun hn=>absurd (qB h0) hn⟩;refine⟨some ⟨g,0,none⟩,M.length,cap,rfl,rfl,e4,e5,fun _=>⟨g,cur,rfl,e3,fun k zs hk=>?_⟩⟩;have hkM:=(xge.1 hk).1;obtain⟨rv,hr⟩:∃rv,rvs[k]?=some rv:=⟨_,xga oM⟩;refine⟨rv,?_,h3 k rv zs hr hk⟩;rw[<-e7,List.getElem?_take_of_lt oM]at hr;simpa using hr
theorem zFj(P:Program)(w:World)(t ty e:TypeId)(i:TypeInfo)(ht:P.underlying t=some (.slice e))(hi:P.info? e=some i)
  (g:Option Addr) (n cap:Nat) (hg:g=none->n=0/\cap=0) (hn:n<=cap) (ao:Option Addr) (c:Nat):
  (Builtin.append_ #[t,t] ty #[.slice g n cap,.slice ao 0 c]).run P w= .ok (.slice g n cap) w:=by
 cases g with
 |none=>
  obtain⟨rfl,rfl⟩:=hg rfl;cases ao<;>simp[Builtin.append_,run_underlying ht,sizeOf,typeInfo,hi,Builtin.lenOf,Builtin.firstCells,loadCells,loadCellsFrom]
 |some g=>
  cases ao<;>simp[Builtin.append_,run_underlying ht,sizeOf,typeInfo,hi,Builtin.lenOf,Builtin.firstCells,loadCells,loadCellsFrom,storeCells,hn]
theorem zBm.sameB{zs:List Int}(h:zBm w v zs)(e:∀b,jQ w b zs->w'.heap[b]?=w.heap[b]?)(x:zBq w w'):zBm w' v zs:=by
 obtain⟨ao,n,cap,h1,h2,h3,h4,h5⟩:=h;exact⟨ao,n,cap,h1,h2,h3,h4,fun hn=>(h5 hn).elim fun b h=>⟨b,h.1,h.2.old (e b h.2) x⟩⟩
theorem zVP{w:World}{ops:Array Oper}{rest:List Oper}{o:Oper}{a:Act}{Q:Exit->Act->World->Prop}(hgd:o.guard=none)(s x:Operand)
  (ho:o.op= .call {callee:=.builtin .append,args:=#[s,x],argTypes:=#[30,30]})
  (base:Nat) (v:Value) (M:List (List Int)) (hs:a.eval s=v) (hown:RsO w base v M) (xv:Value) (N:List (List Int)) (hx:a.eval x=xv) (hy:zBl w xv N)
  (hlen:M.length+N.length<=1099511627776) (hbase:base<=w.heap.size)
  (h:∀v' w',RsO w' base v' (M++N)->w.grownBy w' v.ownBlock->zBq w w'->wpList Tryz.prog ops Q rest (a.put o.dst v') w'):wpList Tryz.prog ops Q (o::rest) a w:=by
 obtain⟨i0,hi,hz0,hz1,hz2⟩:=info_parts zDU;obtain⟨ao,n,c,rfl,hn,hnc,hcc,hcell⟩:=hy;by_cases h0:N= []
 ·subst h0
  obtain rfl:0=n:=by simpa using hn
  have hr:(Builtin.append_ #[30,30] o.type #[v,.slice ao 0 c]).run Tryz.prog w= .ok v w:=by
   obtain⟨cells,h1,-⟩:=hown;rcases h1.2 with⟨rfl,h0⟩|⟨g,cap,cur,rfl,e2,e3,e4,-⟩
   exact zFj Tryz.prog w _ o.type tR i0 zAs hi none 0 0 (fun _=>⟨rfl,rfl⟩) (xgf _) ao c;exact zFj Tryz.prog w _ o.type tR i0 zAs hi _ _ cap (fun e=>by cases e) e4 ao c
  have h:=h v w (by rwa[zBF]) ⟨rfl,rfl,rfl,xgf _,fun _ _ _=>rfl⟩ (lx (zA _ _));refine wpList_plain hgd fun K hK=>?_
  unfold Oper.wp execOp;simp only[ho,resolve,invoke,builtin,Sem.run_bind,Sem.run_pure,Result.andThen_ok,List.map_toArray,List.map_cons,List.map_nil,hs,hx,hr];exact hK _ _ h
 obtain⟨b,cs,rfl,hbl,hrow⟩:=hcell h0;obtain⟨rvs,h1,h2,h3⟩:=hown;have hsz:n<=cs.size:=by
  have hp:0<N.length:=List.length_pos_iff.2 h0;obtain⟨rv,q,-⟩:=hrow (N.length-1) _ (xga oM);have:=(Array.getElem?_eq_some_iff.1 q).1;omega
 have hnews:∀(k:Nat) (u:Value),(cs.toList.take n)[k]?=some u->k<n/\cs[k]?=some u:=fun k u hk=>by
  rw[List.getElem?_take]at hk;split at hk;exact⟨by assumption,by simpa using hk⟩;cases hk
 refine wpList_append_own w hgd s x 30 ho base tR i0 _ 1 24 zAs hi hz0 hz1 hz2 rfl oM v M.length _ hs h1 ⟨b,0,none⟩ n c (cs.toList.take n) hx (by simp;omega) ?_ ?_ (by simp[maxLen];omega) oM hbase ?_
 ·intro j u hj
  rw[zAJ,zAX,cell_of_row w b j cs tR _ hbl];exact(hnews j u hj).2
 ·intro u hu
  obtain⟨k,hk⟩:=List.getElem?_of_mem hu;obtain⟨hkn,hk2⟩:=hnews k u hk;obtain⟨rv,q,_,_,_,rfl,-⟩:=hrow k _ (xga (by omega:k<N.length));rw[q]at hk2;injection hk2 with hk2
  subst hk2;rfl
 intro v' w' k1 k2 _;have hxg:=zEF h1 dE k2;have hkeep:∀u zs,zBm w u zs->zBm w' u zs:=fun u zs hu=>zBm.sameB hu (fun b hq=>k2.block b hq.lt (zGN h1 hq)) hxg
 refine h v' w' ⟨rvs++cs.toList.take n,by rw[zAA,hn];exact k1,by simp[h2,hn];omega,?_⟩ k2 hxg;intro k u zs hg hq;rcases zG k rvs.length with hlt|hge
 ·rw[List.getElem?_append_left hlt]at hg
  rw[List.getElem?_append_left oM]at hq;exact hkeep _ _ (h3 k u zs hg hq)
 rw[List.getElem?_append_right hge]at hg;rw[List.getElem?_append_right oM,<-h2]at hq;obtain⟨hkn,hk2⟩:=hnews _ u hg;obtain⟨rv,q1,q2⟩:=hrow _ zs hq;rw[q1]at hk2;injection hk2 with hk2
 subst hk2;exact hkeep _ _ q2
theorem zH8{A:Value}{bs:List Nat}{F:Nat->Nat->Int}(h:qA w base A C bs (genM R C F)){bi bj:Nat}(hi:i<R)(hj:j<R)(hij:i≠j)(hbi:bs[i]?=some bi)(hbj:bs[j]?=some bj)(kv:Value)(k:Int)
  (hk:jT w kv k) (hC:C<=1000000) (hS:∀t,t<C->Sm (F i t)/\Sm (F j t)/\Sm (k*F j t)) (hks:Sm k):
  Calls Tryz.prog 163 #[.slice (some ⟨bi,0,none⟩) C C,.slice (some ⟨bj,0,none⟩) C C,kv] w fun e w'=>(∃u,e= .returned u)/\zBr [bi] w w'/\qA w' base A C bs (genM R C (zCe F i j k)):=by
 obtain⟨b1,e1,r1⟩:=h.rowAt hi;obtain⟨b2,e2,r2⟩:=h.rowAt hj;obtain rfl:b1=bi:=zX (e1.symm.trans hbi);obtain rfl:b2=bj:=zX (e2.symm.trans hbj);have hne:b1≠b2:=by
  intro hh;subst hh;obtain⟨f1,f2⟩:=xge.1 e1;obtain⟨g1,g2⟩:=xge.1 e2;exact hij ((yT h.nodup).1 (f2.trans g2.symm))
 refine(zJl b1 b2 C C C (F i) (F j) kv k w r1 r2 hne hk hC (xgf _) oM (xgf _) oM hS hks).mono ?_;rintro e w' ⟨hu,ho,hr⟩;refine⟨hu,ho,?_⟩;rw[<-zKD hi];exact h.setRow e1 ho hr (qC _ _)
theorem zW3(hi:i<R)(hj:j<C):i*C+j<R*C:=by
 have:(i+1)*C<=R*C:=zO _ hi;rw[zY]at this;omega
theorem zTg(v:Value)(R C:Nat)(ls:List Int)(w:World)(h:zHC w v ls)(hl:ls.length=R*C)(hR:R<=1000)(hC:C<=1000):
  Calls Tryz.prog 51 #[.int .i64 R,.int .i64 C,v] w (zEo w R C (genM R C (fun i j=>ls.getD (i*C+j) 0))):=by
 obtain⟨ao,n,cap,rfl,h2,h3,h4,-,-⟩:=id h;have HL:=xgw h2;have hnR:n=R*C:=by omega
 have HN:=xgw hnR;obtain⟨f,hf⟩:∃f:Nat->Nat->Int,(fun i j=>ls.getD (i*C+j) 0)=f:=⟨_,rfl⟩;rw[hf];have HFE:zAN (∀i j,f i j=ls.getD (i*C+j) 0):=⟨fun i j=>by rw[<-hf]⟩;clear hf h2 hl hnR;go_enter Tryz.func51,Tryz.ntmps51;go_upto_region 1 with(fail)
 refine zD ?_;intro W0 hW0;obtain⟨hB0,br,hs0⟩:=qM hW0;go_wp2_with fail
 refine(zG3 R C W0 oM oM).mono ?_;rintro e w2 ⟨u,bs,rfl,⟨hbl,A2,rfl,ho⟩,hb2⟩;obtain⟨oo,on,oc,rfl,-,-,-,-⟩:=id ho.rows;have hlts:=ho.lts;go_upto_region 2 with(fail)
 refine zD ?_;intro W3 hW3;obtain⟨hB3,T5,hs3⟩:=qM hW3;have br:=(br.below hb2).below hB3;have ho:=ho.below hB3;rw[zHc R C f]at ho;have hBt:=nx (nx hB0 hb2) hB3;have q2:=hb2.size;clear hW3 hW0;go_wp2;go_loopw [8] (fun iv wr=>∃i:Nat,i<=R/\iv= .int .i64 i/\Below w.heap.size w wr/\Blk wr w.heap.size 32 #[.int .i64 0,.int .i64 0,.slice none 0 0]/\Blk wr w2.heap.size 32 #[.int .i64 R,.int .i64 C,.slice oo on oc]/\qA wr W0.heap.size (.slice oo on oc) C bs (genM R C (zKL f i 0))) (fun iv _=>R-(intOf iv).toNat)
 case atStart=>exact⟨0,by omega,rfl,hBt,br,T5,ho⟩
 obtain⟨i,hi,rfl,hb,br,T5,ho⟩:=hrel;by_cases hlt:i<R
 ·go_wp2
  go_loopw [9] (fun jv wr=>∃j:Nat,j<=C/\jv= .int .i64 j/\Below w.heap.size w wr/\Blk wr w.heap.size 32 #[.int .i64 0,.int .i64 0,.slice none 0 0]/\Blk wr w2.heap.size 32 #[.int .i64 R,.int .i64 C,.slice oo on oc]/\qA wr W0.heap.size (.slice oo on oc) C bs (genM R C (zKL f i j))) (fun jv _=>C-(intOf jv).toNat)
  case atStart=>exact⟨0,by omega,rfl,hb,br,T5,ho⟩
  obtain⟨j,hj,rfl,hb,br,T5,ho⟩:=hrel;by_cases hjc:j<C
  ·have hmn:i*C+j<n:=by rw[HN.out];exact zW3 hlt hjc
   have hn6:n<=1000000:=by rw[HN.out];exact zB (qT hR hC) oM
   obtain⟨m,hm⟩:∃m,i*C+j=m:=⟨_,rfl⟩;have hmi:(i:Int)*(C:Int)+(j:Int)=(m:Int):=by rw[<-hm,zAP,yP]
   have hp0:0<=(i:Int)*(C:Int):=by omega
   have hp1:(i:Int)*(C:Int)<=1000000:=by omega
   have hw1:IntKind.i64.wrap ((i:Int)*(C:Int))=(i:Int)*(C:Int):=yR _ oM;have hw2:IntKind.i64.wrap (m:Int)=(m:Int):=yR _ oM;have hmlt:m<n:=by omega
   have hlt3:(i:Int)*(C:Int)+(j:Int)<(n:Int):=by omega
   obtain⟨b,z,rfl,hbl1,hz,c1,z1,z2⟩:=(h.below hb).cell (k:=m) (by rw[HL.out];exact hmlt);have hent:Hid (f i j=z):=by rw[HFE.out,hm,zBu hz];exact xgw rfl
   obtain⟨g,bo,rfl,hg,hbo,hbo2,o1,ho3⟩:=ho.at_ (i:=i) oM;obtain⟨f1,f2,f3,f4,f5,f6⟩:=T5.three;have hio:i<on:=by omega
   have HO3:=xgw ho3;have HM:=xgw hm;clear ho3 hm hz;have lt5:=T5.lt;go_upto_region 8 with(fail)
   refine yX 16 [pcI 14 (z)] ?_;refine sRd ?_;refine sRc (fun wS hI Gk hG=>by go_simp;exact ck hG (zDc z _ z1 z2)) (fun va14 _=>?_);refine sRd ?_;refine sRe ?_;intro w9 hbw9 ha14;obtain⟨pn,pa,pl,pc,px,rfl,hpx⟩:=id ha14;have HPX:=xgw hpx;clear hpx;have ho9:=ho.below hbw9;obtain⟨sn,sa,sl,sc,y1,y2,y3,y4,-⟩:=ho9.cellAt hbo hjc;have hbolt:=hlts i bo hbo;have hset:=ho9.set hbo hjc ha14;clear hw1 hw2 hmi hp0 hp1 hlt3;go_wp2;go_roundw
   case rel=>
    rw[<-hent.out,zJA hlt hjc]at hset;exact⟨j+1,by omega,by simp,yJ (yJ (nx hb hbw9) oM _ _) oM _ _,(yS _ _ _ _ _ _ _ oM).trans (br.below hbw9),(yS _ _ _ _ _ _ _ oM).trans (T5.below hbw9),hset.1⟩
   case measure=>simp[intOf];omega
  obtain rfl:j=C:=by omega
  rw[zLC]at ho;go_wp2;go_roundw
  case rel=>exact⟨i+1,by omega,by simp,hb,br,T5,ho⟩
  case measure=>simp[intOf];omega
 obtain rfl:i=R:=by omega
 rw[zLB]at ho;obtain⟨f1,f2,f3,f4,f5,f6⟩:=T5.three;obtain⟨r1,r2,r3,r4,r5,r6⟩:=br.three;have q1:=hB0.size;go_wp2;refine zAl rfl rfl rfl (br.put3 _ _ _) ⟨_,bs,rfl,⟨hbl,_,rfl,?_⟩,yJ (yJ (yJ hb oM 0 _) oM 1 _) oM 2 _⟩;exact(ho.keep (fun k hk=>zAe _ _ k _ _ _ oM) (br.lext3 dE _ _ _)).mono q1
def I8V(w:World)(v:Value)(ls:List Int):Prop:=
 ∃ao n cap,v= .slice ao n cap/\ls.length=n/\n<=cap/\cap<=9223372036854775807/\(∀z∈ls,-128<=z/\z<=127)∧
  (ls≠ []->∃b off,ao=some ⟨b,off,none⟩/\b<w.heap.size/\∀(k:Nat) (z:Int),ls[k]?=some z->w.cell? ⟨b,off+k,none⟩=some (.int .i8 z))
theorem I8V.cell{ao:Option Addr}{cap:Nat}(h:I8V w (.slice ao n cap) ls){k:Nat}(hk:k<ls.length):
  ∃b off z,ao=some ⟨b,off,none⟩/\b<w.heap.size/\ls[k]?=some z/\w.cell? ⟨b,off+k,none⟩=some (.int .i8 z)/\-128<=z/\z<=127:=by
 obtain⟨ao',n',cap',h1,h2,h3,h4,h5,h6⟩:=h;injection h1 with e1 e2 e3
 subst e1;obtain⟨b,off,e,hb,hc⟩:=h6 (by rintro rfl;simp at hk);have hz:=xga hk;have:=h5 _ (xgd hz);exact⟨b,off,_,e,hb,hz,hc _ _ hz,this.1,this.2⟩
theorem I8V.below(h:I8V w v ls)(hb:Below w.heap.size w w'):I8V w' v ls:=by
 obtain⟨ao,n,cap,h1,h2,h3,h4,h5,h6⟩:=h;refine⟨ao,n,cap,h1,h2,h3,h4,h5,fun hne=>?_⟩;obtain⟨b,off,e,hlt,hc⟩:=h6 hne;exact⟨b,off,e,zH hlt hb.size,fun k z hz=>(hb.cell (p:=⟨b,off+k,none⟩) hlt).trans (hc k z hz)⟩
def zS1(C:Nat)(ls:List Int):Nat->Nat->Int:=fun i j=>(ls.getD (i*C+j) 0).tmod 10
theorem zTE(h:ls.length<=i*C+j):zS1 C ls i j=0:=by
 unfold zS1;rw[xgb,List.getElem?_eq_none h];rfl
theorem zVD{z:Int}:(Int.tmod z 10).natAbs<=9:=by
 rcases zDO 0 z with h|h
 rw[zBb h];omega;have:Int.tmod z 10=-(Int.tmod (-z) 10):=by rw[Int.neg_tmod];omega
 rw[this,zBb oM];omega
theorem zQt(C:Nat)(ls:List Int)(i j:Nat):(zS1 C ls i j).natAbs<=9:=zVD
theorem zSq{f:Nat->Nat->Int}(h:∀b,j<=b->f i b=0):genM R C (zKL f i j)=genM R C (zKL f (i+1) 0):=
 zAM fun a _ b _=>by
  unfold zKL;by_cases e:a<i∨(a=i/\b<j)
  ·rw[if_pos e,if_pos oM]
  rw[if_neg e];by_cases e2:a<i+1∨a=i+1/\b<0
  ·rw[if_pos e2]
   obtain rfl:a=i:=by omega
   exact(h b oM).symm
  rw[if_neg e2]
theorem zO8(v:Value)(R C:Nat)(ls:List Int)(w:World)(h:I8V w v ls)(hR:R<=16)(hC:C<=16):
  Calls Tryz.prog 54 #[.int .i64 R,.int .i64 C,v] w (zEo w R C (genM R C (zS1 C ls))):=by
 obtain⟨ao,n,cap,rfl,h2,h3,h4,-,-⟩:=id h;have HL:=xgw h2;obtain⟨f,hf⟩:∃f:Nat->Nat->Int,zS1 C ls=f:=⟨_,rfl⟩;rw[hf];have HFE:zAN (∀i j,f i j=zS1 C ls i j):=⟨fun i j=>by rw[<-hf]⟩;clear hf h2;go_enter Tryz.func54,Tryz.ntmps54;go_upto_region 1 with(fail)
 refine zD ?_;intro W0 hW0;obtain⟨hB0,br,hs0⟩:=qM hW0;have e1:min (R:Int) 16=R:=by omega
 have e2:min (C:Int) 16=C:=by omega
 go_wp2_with fail
 refine(zG3 R C W0 oM oM).mono ?_;rintro e w2 ⟨u,bs,rfl,⟨hbl,A2,rfl,ho⟩,hb2⟩;obtain⟨oo,on,oc,rfl,-,-,-,-⟩:=id ho.rows;have hlts:=ho.lts;go_upto_region 2 with(fail)
 refine zD ?_;intro W3 hW3;obtain⟨hB3,T7,hs3⟩:=qM hW3;have br:=(br.below hb2).below hB3;have ho:=ho.below hB3;rw[zHc R C f]at ho;have hBt:=nx (nx hB0 hb2) hB3;have q2:=hb2.size;clear hW3 hW0 e1 e2;go_wp2;go_loopw [8] (fun iv wr=>∃i:Nat,i<=R/\iv= .int .i64 i/\Below w.heap.size w wr/\Blk wr w.heap.size 32 #[.int .i64 0,.int .i64 0,.slice none 0 0]/\Blk wr w2.heap.size 32 #[.int .i64 R,.int .i64 C,.slice oo on oc]/\qA wr W0.heap.size (.slice oo on oc) C bs (genM R C (zKL f i 0))) (fun iv _=>R-(intOf iv).toNat)
 case atStart=>exact⟨0,by omega,rfl,hBt,br,T7,ho⟩
 obtain⟨i,hi,rfl,hb,br,T7,ho⟩:=hrel;obtain⟨f1,f2,f3,f4,f5,f6⟩:=T7.three;by_cases hlt:i<R
 ·go_wp2
  clear f1 f2 f3 f4 f5 f6;go_loopw [9] (fun jv wr=>∃j:Nat,j<=C/\jv= .int .i64 j/\Below w.heap.size w wr/\Blk wr w.heap.size 32 #[.int .i64 0,.int .i64 0,.slice none 0 0]/\Blk wr w2.heap.size 32 #[.int .i64 R,.int .i64 C,.slice oo on oc]/\qA wr W0.heap.size (.slice oo on oc) C bs (genM R C (zKL f i j))) (fun jv _=>C-(intOf jv).toNat)
  case atStart=>exact⟨0,by omega,rfl,hb,br,T7,ho⟩
  obtain⟨j,hj,rfl,hb,br,T7,ho⟩:=hrel;obtain⟨f1,f2,f3,f4,f5,f6⟩:=T7.three;obtain⟨m,hm⟩:∃m,i*C+j=m:=⟨_,rfl⟩;have hmi:(i:Int)*(C:Int)+(j:Int)=(m:Int):=by rw[<-hm,zAP,yP]
  have hiC:i*C<=16*16:=qT oM hC;have hp0:0<=(i:Int)*(C:Int):=by rw[<-yP];omega
  have hp1:(i:Int)*(C:Int)<=1000000:=by rw[<-yP];omega
  have hw1:IntKind.i64.wrap ((i:Int)*(C:Int))=(i:Int)*(C:Int):=yR _ oM;have hw2:IntKind.i64.wrap (m:Int)=(m:Int):=yR _ oM;have hmm:IntKind.i64.wrap ((i:Int)*(C:Int)+(j:Int))=(m:Int):=by rw[hmi,hw2]
  by_cases hjc:j<C
  ·by_cases hmn:m<n
   ·obtain⟨b,off,z,rfl,hbl1,hz,c1,z1,z2⟩:=h.cell (k:=m) (by rw[HL.out];exact hmn)
    have hcell:=(hb.cell (p:=⟨b,off+m,none⟩) hbl1).trans c1;have hent:Hid (f i j=Int.tmod z 10):=xgw (by rw[HFE.out];unfold zS1;rw[hm,zBu hz]);have ht9:(Int.tmod z 10).natAbs<=9:=zVD;obtain⟨t,ht⟩:∃t,Int.tmod z 10=t:=⟨_,rfl⟩;rw[ht]at hent ht9;obtain⟨g,bo,rfl,hg,hbo,hbo2,o1,ho3⟩:=ho.at_ (i:=i) oM;have hio:i<on:=by omega
    have HO3:=xgw ho3;have HM:=xgw hm;have HT:=xgv ht;have lt7:=T7.lt;clear ho3 hm hz hiC c1 ht;go_upto_region 8 with(fail)
    refine yX 19 [pcD 15 [] (fun _ v=>v= .int .i8 t),pcD 16 [] (fun _ v=>v= .int .i64 t),pcI 17 (t)] ?_;refine sRd ?_;refine sRc (fun wS hI Gk hG=>?_) (fun _ hv=>?_)
    ·go_simp
     exact⟨hG _ _ (congrArg (Value.int .i8) HT.out),zA _ _⟩
    obtain⟨_,-,rfl⟩:=hv;refine sRc (fun wS hI Gk hG=>?_) (fun _ hv=>?_)
    ·go_simp
     exact⟨hG _ _ (congrArg (Value.int .i64) (yR _ oM)),zA _ _⟩
    obtain⟨_,-,rfl⟩:=hv;refine sRc (fun wS hI Gk hG=>by go_simp;exact ck hG (zDc t _ oM oM)) (fun va17 _=>?_);refine sRd ?_;refine sRe ?_;intro w9 hbw9 _ _ ha17;obtain⟨pn,pa,pl,pc,px,rfl,hpx⟩:=id ha17;have HPX:=xgw hpx;clear hpx;have ho9:=ho.below hbw9;obtain⟨sn,sa,sl,sc,y1,y2,y3,y4,-⟩:=ho9.cellAt hbo hjc;have hbolt:=hlts i bo hbo;have hset:=ho9.set hbo hjc ha17;clear hw1 hw2 hmi hp0 hp1 hmm ht9;go_wp2;go_roundw
    case rel=>
     rw[<-hent.out,zJA hlt hjc]at hset;exact⟨j+1,by omega,by simp,yJ (yJ (nx hb hbw9) oM _ _) oM _ _,(yS _ _ _ _ _ _ _ oM).trans (br.below hbw9),(yS _ _ _ _ _ _ _ oM).trans (T7.below hbw9),hset.1⟩
    case measure=>simp[intOf];omega
   have hrest:∀b,j<=b->f i b=0:=fun b hb=>by
    rw[HFE.out];exact zTE (by rw[HL.out];omega)
   rw[zSq hrest]at ho;clear hmi hp0 hp1 hiC hm;go_wp2;go_roundw
   case rel=>exact⟨i+1,by omega,by simp,hb,br,T7,ho⟩
   case measure=>simp[intOf];omega
  obtain rfl:j=C:=by omega
  rw[zLC]at ho;clear hmi hp0 hp1 hmm hw1 hw2;go_wp2;go_roundw
  case rel=>exact⟨i+1,by omega,by simp,hb,br,T7,ho⟩
  case measure=>simp[intOf];omega
 obtain rfl:i=R:=by omega
 rw[zLB]at ho;obtain⟨r1,r2,r3,r4,r5,r6⟩:=br.three;have q1:=hB0.size;go_wp2;refine zAl rfl rfl rfl (br.put3 _ _ _) ⟨_,bs,rfl,⟨hbl,_,rfl,?_⟩,yJ (yJ (yJ hb oM 0 _) oM 1 _) oM 2 _⟩;exact(ho.keep (fun k hk=>zAe _ _ k _ _ _ oM) (br.lext3 dE _ _ _)).mono q1


def zY8(F:Nat->Nat->Int)(i j:Nat)(k:Int):Nat->Nat->Int:=fun a b=>if b=i then F a i+k*F a j else F a b
def zYm(F:Nat->Nat->Int)(i j:Nat)(k:Int)(c:Nat):Nat->Nat->Int:=fun a b=>if a=i/\b<c then F i b+k*F j b else F a b
def zYl(F:Nat->Nat->Int)(i j:Nat)(k:Int)(c:Nat):Nat->Nat->Int:=fun a b=>if b=i/\a<c then F a i+k*F a j else F a b
end Go.Proofs.YtkidaebmhlijlaaGreat

namespace Go.Proofs.YtkidaebmhlijlaaGreat
open Go.ChangeShapes Go.WideShapes Go.ChangeAt Go.RowKit
theorem Tryz.own:ownKnob Tryz.prog.godebug=none:=by kernel_rfl
theorem Tryz.laidOut:laidOutB Tryz.prog=true:=by kernel_rfl
theorem zUn:Tryz.prog.cellsOf 5=1:=by kernel_rfl
theorem zV2{H:Type}{enc:TypeId × Value->H}{cs:List Value}{y:DataW H × List MemPlace}(hf:DataW.trod enc Tryz.prog w 0 (fun _=>true) true f 22 cs=some y)(hlt:∀x∈y.2,x.block<w.heap.size):
  ∃ao n cap ls,cs= [.slice ao n cap]/\I8V w (.slice ao n cap) ls:=by
 rcases open_ints Tryz.underlying22 Tryz.underlying66 kR hf with⟨e1,-⟩|⟨a,len,cap,zs,e1,-,hl,hm,hzl,e2,hcell,hwf⟩
 exact⟨none,0,0,[],e1,none,0,0,rfl,rfl,xgf _,by omega,fun z hz=>(by cases hz),fun h=>absurd rfl h⟩;simp only[if_true]at hzl;unfold maxLen at hm;refine⟨some a,len,cap,zs.take len,e1,some a,len,cap,rfl,by simp;omega,hl,by omega,fun z hz=>?_,fun h=>?_⟩
 ·have:=hwf z (List.mem_of_mem_take hz)
  exact bounds_i8 this
 have hpos:0<zs.length:=by
  rcases qN zs.length with h0|h0
  exact absurd (by rw[qB h0];simp) h;exact h0
 obtain⟨b,off,rfl,hj⟩:=ints_at hcell hpos;refine⟨b,off,rfl,?_,fun k z hk=>?_⟩;exact hlt (.cell b off) (by rw[e2];exact MemPlace.mem_row.2 ⟨0,hpos,rfl⟩);obtain⟨h1,h2⟩:=xge.1 hk;rw[zCo]at h2;have hkz:k<zs.length:=by
  simp at h1;omega
 rw[hj k hkz,<-h2];simp[hkz]

theorem zGg{H:Type}{enc:TypeId × Value->H}{w:World}{f:Nat}{cl:List Value}{d:DataW H}{ps:List MemPlace}
  (hf:DataW.trod enc Tryz.prog w 0 (fun _=>true) true f 24 cl=some (d,ps)) (hlt:∀x∈ps,x.block<w.heap.size):∃(a:Nat) (sv:Value) (ls:List Int),cl= [.int .u8 a,sv]/\a<=255/\I8V w sv ls:=by
 obtain⟨xs,m,h0,h1,h2,h3,h4⟩:=DataW.trod_struct Tryz.underlying24 hf;have c24:Tryz.prog.cellsOf 24=2:=by kernel_rfl
 have c22:Tryz.prog.cellsOf 22=1:=by kernel_rfl
 have g0:DataW.trod enc Tryz.prog w 0 (fun _=>true) true m 5 (List.take (Tryz.prog.cellsOf 5) (List.drop 0 cl))=xs[0]?:=h4 0 _ rfl;have g1:DataW.trod enc Tryz.prog w 0 (fun _=>true) true m 22 (List.take (Tryz.prog.cellsOf 22) (List.drop 1 cl))=xs[1]?:=h4 1 _ rfl;rw[c24]at h2;rw[zUn]at g0;rw[c22]at g1;match xs,h3 with
 | [y0,y1],_=>
  match cl,h2 with
  | [k0,k1],_=>
   simp at g0 g1;obtain⟨a,ha,-,wa⟩:=DataW.trod_int zC9 g0;simp only[Prod.mk.injEq]at h1;obtain⟨ao,n,cap,ls,hk,hI⟩:=zV2 g1 (fun x hx=>hlt x (by rw[h1.2];simp[hx]));simp at ha hk;subst ha;subst hk;have wa:=bounds_u8 wa;exact⟨a.toNat,_,ls,by rw[Int.toNat_of_nonneg wa.1],by omega,hI⟩
theorem zNR{H:Type}{enc:TypeId × Value->H}{b0:Nat}{r:Reach}{d:DataW H}{ps:List MemPlace}(hval:Value.okWide Tryz.prog w r b0 26 v)
  (h:DataW.Trod enc Tryz.prog w 0 (fun _=>true) true 26 v d ps) (hlt:∀x∈ps,x.block<w.heap.size):∃(c r1 r2 r3:Nat) (v1 v2 v3:Value) (l1 l2 l3:List Int),v= .agg #[.int .u8 c,.int .u8 r1,v1,.int .u8 r2,v2,.int .u8 r3,v3]/\c<=255/\r1<=255/\r2<=255/\r3<=255/\I8V w v1 l1/\I8V w v2 l2/\I8V w v3 l3:=by
 simp only[Value.okWide,Tryz.underlying26]at hval;obtain⟨cs,rfl,hsz,-⟩:=hval;obtain⟨fuel,hf⟩:=h;obtain⟨xs,m,h0,h1,h2,h3,h4⟩:=DataW.trod_struct Tryz.underlying26 hf;have c0:Tryz.prog.cellsOf 26=7:=by kernel_rfl
 have c24:Tryz.prog.cellsOf 24=2:=by kernel_rfl
 have g0:DataW.trod enc Tryz.prog w 0 (fun _=>true) true m 5 (List.take (Tryz.prog.cellsOf 5) (List.drop 0 (Value.agg cs).cells.toList))=xs[0]?:=h4 0 _ rfl;have g1:DataW.trod enc Tryz.prog w 0 (fun _=>true) true m 24 (List.take (Tryz.prog.cellsOf 24) (List.drop 1 (Value.agg cs).cells.toList))=xs[1]?:=h4 1 _ rfl;have g2:DataW.trod enc Tryz.prog w 0 (fun _=>true) true m 24 (List.take (Tryz.prog.cellsOf 24) (List.drop 3 (Value.agg cs).cells.toList))=xs[2]?:=h4 2 _ rfl;have g3:DataW.trod enc Tryz.prog w 0 (fun _=>true) true m 24 (List.take (Tryz.prog.cellsOf 24) (List.drop 5 (Value.agg cs).cells.toList))=xs[3]?:=h4 3 _ rfl;rw[c0]at h2;rw[zUn]at g0;rw[c24]at g1 g2 g3;simp only[Value.cells]at g0 g1 g2 g3 h2;obtain⟨cl⟩:=cs;match xs,h3 with
 | [y0,(y1,p1),(y2,p2),(y3,p3)],_=>
  match cl,h2 with
  | [k0,k1,k2,k3,k4,k5,k6],_=>
   simp at g0 g1 g2 g3;obtain⟨a,ha,-,wa⟩:=DataW.trod_int zC9 g0;simp only[Prod.mk.injEq]at h1;obtain⟨r1,v1,l1,e1,q1,I1⟩:=zGg g1 (fun x hx=>hlt x (by rw[h1.2];simp[hx]));obtain⟨r2,v2,l2,e2,q2,I2⟩:=zGg g2 (fun x hx=>hlt x (by rw[h1.2];simp[hx]));obtain⟨r3,v3,l3,e3,q3,I3⟩:=zGg g3 (fun x hx=>hlt x (by rw[h1.2];simp[hx]));simp at ha e1 e2 e3;obtain⟨rfl,rfl⟩:=e1;obtain⟨rfl,rfl⟩:=e2;obtain⟨rfl,rfl⟩:=e3;subst ha;have wa:=bounds_u8 wa;exact⟨a.toNat,r1,r2,r3,_,_,_,l1,l2,l3,by rw[Int.toNat_of_nonneg wa.1],by omega,q1,q2,q3,I1,I2,I3⟩
end Go.Proofs.YtkidaebmhlijlaaGreat
