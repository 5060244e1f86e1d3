/- torsionref05: Vector, Row, Times, Act, Zero; hermite.Reduce of a row of another length. Appending a whole slice of integers. -/
import Derived.Test.YtgnmdddaiefooaaGreatR41
import Derived.Test.YtgnmdddaiefooaaGreatR43
import Derived.Test.YtgnmdddaiefooaaGreatR44
import Derived.Test.YtgnmdddaiefooaaGreatR47
import Derived.Test.YtgnmdddaiefooaaGreatR51
set_option linter.unusedVariables false
set_option linter.unusedSimpArgs false
set_option linter.unusedSectionVars false
set_option maxHeartbeats 16000000
set_option maxRecDepth 100000
namespace Go.Proofs.YtgnmdddaiefooaaGreat
open Go.RowKit
theorem zJj(v:Value)(n:Nat)(ls:List Int)(w:World)(h:I8V w v ls)(hn:n<=16):
  Calls Tryz.prog 24 #[v,.int .i64 n] w fun e w'=>∃u,e= .returned u/\zAZ w' u (zQ n (zDN n ls 0))/\Below w.heap.size w w':=by
 obtain⟨ao,m,cap,rfl,-⟩:=id h;go_enter Tryz.func24,Tryz.ntmps24;go_wp2_with fail
 refine(zDP _ 1 n ls w h oM hn).mono ?_;rintro e w1 ⟨u,bs,rfl,⟨hbl,A2,rfl,ho⟩,hb1⟩;have hr:=ho.rows;obtain⟨oo,on,oc,rfl,o2,o3,o4,-⟩:=id hr;obtain⟨b,ra,rn,rc,zs,rfl,hbl2,hz,p1,hrv⟩:=hr.row (k:=0) (by simp[genM]);have hF:yG 1 n (genM 1 n (zDN n ls)):=zV _ _ _;obtain rfl:=hF.row_eq hz;have hon:on=1:=by rw[<-o2];simp[genM]
 subst hon;have he:zQ n (ent (genM 1 n (zDN n ls)) 0)=zQ n (zDN n ls 0):=qA fun t ht=>qG oM ht
 rw[he]at hrv;clear ho hr hz hF o2 he;have hfl:=zB8;go_wp2;go_ret;exact⟨_,rfl,hrv,hb1⟩
theorem zLE(v:Value)(C:Nat)(x:Nat->Int)(w:World)(h:zAZ w v (zQ C x)):
  Calls Tryz.prog 27 #[v] w fun e w'=>∃u,e= .returned u/\qL w' u 1 C [zQ C x]/\Below w.heap.size w w':=by
 obtain⟨ao,m,cap,rfl,h2,h3,h4,-⟩:=id h;rw[zE]at h2;subst h2;have HX:=xgv h;clear h;go_enter Tryz.func27,Tryz.ntmps27;go_upto_region 1 with(fail)
 refine zC ?_;intro W0 hW0;obtain⟨hb0,br,hs0⟩:=zN hW0;clear hW0;obtain⟨r1,r2,r3,r4,r5,r6⟩:=br.three;go_wp2;refine zX rfl rfl rfl ((br.put3 _ _ _).alloc _) ⟨_,rfl,?_,?_⟩
 ·have hV:zAZ ((((W0.setCell ⟨w.heap.size,0,none⟩ (.int .i64 1)).setCell ⟨w.heap.size,1,none⟩ (.int .i64 C)).setCell ⟨w.heap.size,2,none⟩ (.slice (some ⟨W0.heap.size,0,none⟩) 1 1)).alloc (.cells #[.slice ao C cap] 37)) (.slice ao C cap) (zQ C x):=
   HX.out.below ((zP (zP (zP hb0 (xgf _) 0 _) (xgf _) 1 _) (xgf _) 2 _).alloc (by simp;omega) _)
  have hblk:=Blk.new (((W0.setCell ⟨w.heap.size,0,none⟩ (.int .i64 1)).setCell ⟨w.heap.size,1,none⟩ (.int .i64 C)).setCell ⟨w.heap.size,2,none⟩ (.slice (some ⟨W0.heap.size,0,none⟩) 1 1)) 37 #[.slice ao C cap];rw[show((((W0.setCell ⟨w.heap.size,0,none⟩ (.int .i64 1)).setCell ⟨w.heap.size,1,none⟩ (.int .i64 C)).setCell ⟨w.heap.size,2,none⟩ (.slice (some ⟨W0.heap.size,0,none⟩) 1 1))).heap.size=W0.heap.size by simp]at hblk;refine⟨_,rfl,_,1,1,rfl,rfl,xgf _,by omega,fun _=>⟨W0.heap.size,#[.slice ao C cap],rfl,hblk,fun k zs hk=>?_⟩⟩;have hk0:k=0:=by
   have:=(xge.1 hk).1;simp at this;omega
  subst hk0;simp at hk;subst hk;exact⟨_,rfl,hV⟩
 ·exact(zP (zP (zP hb0 (xgf _) 0 _) (xgf _) 1 _) (xgf _) 2 _).alloc (by simp;omega) _
theorem zHv{fn:Func}{a b:Tmp}(h:fn.results=#[.tmp a,.tmp b])(tmps:Array Value)(P:Program)(W:World):(results fn tmps).run P W= .ok (.tuple #[tmps.getD a undef,tmps.getD b undef]) W:=by
 simp[results,h]
theorem zHs(vv hv:Value)(R C:Nat)(M:List (List Int))(x:Nat->Int)(w:World)(hx:zAZ w vv (zQ R x))(h:qL w hv R C M)(hF:yG R C M)(hR:R<=1000000)(hC:C<=1000000)(hS:zCM [zQ R x] M 1 R C):
  Calls Tryz.prog 74 #[vv,hv] w fun e w'=>∃u,e= .returned (.tuple #[u,.int .i64 0])/\zAZ w' u (zQ C (zAT [zQ R x] M R 0))/\Below w.heap.size w w':=by
 have h0:=h;obtain⟨A,rfl,h⟩:=h;obtain⟨mo,mn,mc,rfl,-⟩:=id h;obtain⟨ao,m,cap,rfl,h2,h3,h4,-⟩:=id hx;rw[zE]at h2;subst h2;have HF:=xgv hF;have HS:=xgv hS;have H0:=xgv h0;have HX:=xgv hx;clear hF hS h0 hx h;go_enter Tryz.func74,Tryz.ntmps74;go_upto_region 1 with(fail)
 refine zC ?_;intro W0 hW0;obtain⟨hb0,br,hs0⟩:=zN hW0;obtain⟨r1,r2,r3,r4,r5,r6⟩:=br.three;have hM:=H0.out.below hb0;have hX:=HX.out.below hb0;have hl1:qQ (fun w v=>qL w v 1 R [zQ R x]):=fun _ _ _ e h=>h.below e
 have hl2:qQ (fun w v=>qL w v 1 C (genM 1 C (zAT [zQ R x] M R))):=fun _ _ _ e h=>h.below e
 have hFr:qM (yG 1 R [zQ R x]):=⟨rfl,fun r hr=>by simp at hr;subst hr;exact zE _ _⟩;have hlt:=br.lt;clear hW0;go_upto_region 3 with(fail)
 refine zB 4 rfl (RV W0 _ [E 0 11 (.slice ao R cap),⟨1,12,fun w v=>qL w v 1 R [zQ R x]⟩,E 2 13 (.agg #[.int .i64 R,.int .i64 C,.slice mo mn mc]),⟨3,14,fun w v=>qL w v 1 C (genM 1 C (zAT [zQ R x] M R))⟩]) kR RV.start (RV.fin kR ?fin1) ?steps1
 case steps1=>
  refine⟨?_,?_,?_,?_,trivial⟩<;>(intro L T wS hL hd hcl hI K hK;try refine zA rfl ?_)
  ·exact xgs (hI.k 0 rfl kR)
  ·have zt0:=hI.e mm0 (hd 0)
   go_simp;refine(zLE _ R x _ (hX.below hI.bel)).mono ?_;rintro e wa ⟨v,rfl,hv,hba⟩;exact hK _ _ ((hI.world hba).y mm1 hv)
  ·have zt:=hI.k 3 rfl kR
   have cc0:=hI.cell r1;have cc1:=hI.cell r2;have cc2:=hI.cell r3;exact xgu
  ·obtain⟨v1,zt1,h1⟩:=hI.v mm1 (hd 1)
   have zt2:=hI.e mm2 (hd 2);go_simp;refine(zJQ _ _ 1 R C [zQ R x] M _ h1 (hM.below hI.bel) hFr.out HF.out oM hR hC HS.out).mono ?_;rintro e wa ⟨v,rfl,hv,hba⟩;exact hK _ _ ((hI.world hba).y mm3 hv)
 intro w3 hbw3 T hT;simp only[Fin,E,EI,VP,VSl,VN,xgg,xgh,xgi,xgj]at hT;obtain⟨va1,ha1,va3,ha3,rfl⟩:=hT;simp only[xgl,xgk];obtain⟨A2,rfl,hr2⟩:qL w3 va3 1 C (genM 1 C (zAT [zQ R x] M R)):=ha3;obtain⟨oo,on,oc,rfl,o2,o3,o4,-⟩:=id hr2;obtain⟨b,ra,rn,rc,zs,rfl,hbl2,hz,p1,hrv⟩:=hr2.row (k:=0) (by simp[genM]);have hF2:yG 1 C (genM 1 C (zAT [zQ R x] M R)):=zV _ _ _;obtain rfl:=hF2.row_eq hz;have hon:on=1:=by rw[<-o2];simp[genM]
 subst hon;have he:zQ C (ent (genM 1 C (zAT [zQ R x] M R)) 0)=zQ C (zAT [zQ R x] M R 0):=qA fun t ht=>qG oM ht
 rw[he]at hrv;have hfl:=zB8;have hB:=nx hb0 hbw3;clear hr2 hz hF2 o2 he ha1 r1 r2 r3 r4 r5 r6 hl1 hl2;go_wp2;refine bodyPost_ret (zHv rfl _ _ _) rfl ?_;exact⟨_,rfl,hrv,hB⟩
theorem zNP(vv hv:Value)(R C:Nat)(M:List (List Int))(x:Nat->Int)(w:World)(hx:zAZ w vv (zQ R x))(h:qL w hv R C M)(hF:yG R C M)(hR:R<=1000000)(hC:C<=1000000)(hS:zCM [zQ R x] M 1 R C):
  Calls Tryz.prog 25 #[vv,hv] w fun e w'=>∃u,e= .returned u/\zAZ w' u (zQ C (zAT [zQ R x] M R 0))/\Below w.heap.size w w':=by
 have h0:=h;obtain⟨A,rfl,h⟩:=h;obtain⟨mo,mn,mc,rfl,-⟩:=id h;obtain⟨ao,m,cap,rfl,-,-,-,-⟩:=id hx;have HF:=xgv hF;have HS:=xgv hS;have H0:=xgv h0;have HX:=xgv hx;clear hF hS h0 hx h;go_enter Tryz.func25,Tryz.ntmps25;go_upto_region 1 with(fail)
 refine zC ?_;intro W0 hW0;obtain⟨hb0,br,hs0⟩:=zN hW0;obtain⟨r1,r2,r3,r4,r5,r6⟩:=br.three;clear hW0;go_wp2_with fail
 refine(zHs _ _ R C M x W0 (HX.out.below hb0) (H0.out.below hb0) HF.out hR hC HS.out).mono ?_;rintro e w1 ⟨u,rfl,hu,hb1⟩;have hB:=nx hb0 hb1;go_wp2;go_ret;exact⟨_,rfl,hu,hB⟩
theorem zLk(v:Value)(zs:List Int)(w:World)(h:zAZ w v zs)(h0:∀z∈zs,z=0):
  Calls Tryz.prog 51 #[v] w fun e w'=>e= .returned (.bool true)/\Below w.heap.size w w':=by
 obtain⟨ao,n,cap,rfl,h2,h3,h4,h5⟩:=id h;have HL:=xgw h2;have HZ0:=xgv h0;clear h2 h5 h0;go_enter Tryz.func51,Tryz.ntmps51;go_wp2;go_loopw [3] (fun i wr=>∃k:Nat,k<=n/\i= .int .i64 k/\Below w.heap.size w wr) (fun i _=>n-(intOf i).toNat)
 case atStart=>exact⟨0,by omega,rfl,Below.refl _ _⟩
 case round=>
  obtain⟨k,hk,rfl,hb⟩:=hrel;by_cases hlt:k<n
  ·obtain⟨b,z,s,a,l,c,rfl,hbl,hz,c1,c2,hv⟩:=(h.below hb).cell (k:=k) (by rw[HL.out];exact hlt)
   have hz0:z=0:=HZ0.out z (xgd hz);clear hz;go_wp2_with fail
   refine(yH _ z wr hv).mono ?_;rintro e w7 ⟨rfl,hb7⟩;have hb9:=nx hb hb7;rw[jT hz0];clear hz0 c1 c2;go_wp2;go_roundw
   case rel=>exact⟨k+1,by omega,by simp,hb9⟩
   case measure=>simp[intOf];omega
  ·go_wp2
   go_ret;exact⟨rfl,hb⟩
def ZsV(w:World)(v:Value)(ys:List Int):Prop:=
 ∃ao n c,v= .slice ao n c/\ys.length=n/\(ys≠ []->∃b off cells,ao=some ⟨b,off,none⟩/\cells.length=n*2/\zA2 w cells ys/\∀j u,cells[j]?=some u->w.cell? ⟨b,off+j,none⟩=some u)
theorem zAZ.zs{w:World}{v:Value}{ys:List Int}(h:zAZ w v ys):ZsV w v ys:=by
 obtain⟨ao,n,c,rfl,h2,-,-,h5⟩:=h;refine⟨ao,n,c,rfl,h2,fun hne=>?_⟩;obtain⟨b,rfl,cs,e1,e2⟩:=h5 hne;have hlen:n*2<=cs.size:=by
  have h0:0<ys.length:=List.length_pos_iff.2 hne;obtain⟨_,_,_,_,-,q,-⟩:=e2 (ys.length-1) _ (xga oM);have:=(Array.getElem?_eq_some_iff.1 q).1;omega
 refine⟨b,0,cs.toList.take (n*2),rfl,by simp;omega,fun k z hk=>?_,fun j u hj=>?_⟩
 ·obtain⟨s,a,l,c',q1,q2,q3⟩:=e2 k z hk
  have hk':=(xge.1 hk).1;exact⟨s,a,l,c',by rw[List.getElem?_take_of_lt oM];simpa using q1,by rw[List.getElem?_take_of_lt oM];simpa using q2,q3⟩
 ·rw[List.getElem?_take]at hj
  split at hj
  ·rw[Nat.zero_add,cell_of_row w b j cs tI _ e1]
   simpa using hj
  ·cases hj
theorem ZsV.below{w w':World}{v:Value}{ys:List Int}(h:ZsV w v ys)(hb:Below w.heap.size w w'):ZsV w' v ys:=by
 obtain⟨ao,n,c,rfl,h2,h5⟩:=h;refine⟨ao,n,c,rfl,h2,fun hne=>?_⟩;obtain⟨b,off,cells,e1,e2,e3,e4⟩:=h5 hne;refine⟨b,off,cells,e1,e2,fun k z hk=>?_,fun j u hj=>?_⟩
 ·obtain⟨s,a,l,c',q1,q2,q3⟩:=e3 k z hk
  exact⟨s,a,l,c',q1,q2,q3.ext (lx hb)⟩
 ·have:=e4 j u hj
  exact(hb.cell (p:=⟨b,off+j,none⟩) (World.block_lt_of_cell? w _ this)).trans this
theorem zA2.one{w:World}{cells:List Value}{ys:List Int}(h:zA2 w cells ys)(hl:cells.length=ys.length*2):∀u∈cells,u.oneCell'=true:=by
 intro u hu;obtain⟨j,hj⟩:=List.getElem?_of_mem hu;have hlt:=(xge.1 hj).1;obtain⟨s,a,l,c,q1,q2,-⟩:=h (j/2) _ (xga oM);rcases Nat.mod_two_eq_zero_or_one j with e|e
 ·rw[show j/2*2=j by omega,hj]at q1
  injection q1 with q1
  subst q1;rfl
 ·rw[show j/2*2+1=j by omega,hj]at q2
  injection q2 with q2
  subst q2;rfl
theorem zA2.append{w:World}{c1 c2:List Value}{zs ys:List Int}(h1:zA2 w c1 zs)(h2:zA2 w c2 ys)(hl:c1.length=zs.length*2):zA2 w (c1++c2) (zs++ys):=by
 intro k z hk;rcases Nat.lt_or_ge k zs.length with hlt|hge
 ·rw[List.getElem?_append_left hlt]at hk
  obtain⟨s,a,l,c,q1,q2,q3⟩:=h1 k z hk;exact⟨s,a,l,c,by rw[List.getElem?_append_left oM];exact q1,by rw[List.getElem?_append_left oM];exact q2,q3⟩
 ·rw[List.getElem?_append_right hge]at hk
  obtain⟨s,a,l,c,q1,q2,q3⟩:=h2 _ z hk;refine⟨s,a,l,c,?_,?_,q3⟩
  ·rw[List.getElem?_append_right oM,hl,show k*2-zs.length*2=(k-zs.length)*2 by omega];exact q1
  ·rw[List.getElem?_append_right oM,hl,show k*2+1-zs.length*2=(k-zs.length)*2+1 by omega];exact q2
theorem zA2.ext{w w':World}{c:List Value}{zs:List Int}(h:zA2 w c zs)(x:yI w w'):zA2 w' c zs:=fun k z hk=>by
 obtain⟨s,a,l,c,q1,q2,q3⟩:=h k z hk;exact⟨s,a,l,c,q1,q2,q3.ext x⟩
theorem zB2(P:Program)(w:World)(t ty e:TypeId)(i:TypeInfo)(ht:P.underlying t=some (.slice e))(hi:P.info? e=some i)
  (g:Option Addr) (n cap:Nat) (hg:g=none->n=0/\cap=0) (hn:n<=cap) (ao:Option Addr) (c:Nat):
  (Builtin.append_ #[t,t] ty #[.slice g n cap,.slice ao 0 c]).run P w= .ok (.slice g n cap) w:=by
 cases g with
 |none=>
  obtain⟨rfl,rfl⟩:=hg rfl;cases ao<;>simp[Builtin.append_,run_underlying ht,sizeOf,typeInfo,hi,Builtin.lenOf,Builtin.firstCells,loadCells,loadCellsFrom]
 |some g=>
  cases ao<;>simp[Builtin.append_,run_underlying ht,sizeOf,typeInfo,hi,Builtin.lenOf,Builtin.firstCells,loadCells,loadCellsFrom,storeCells,hn]
theorem wpZ{w:World}{o:Oper}{a:Act}{K:Act->World->Prop}{Q:Exit->Act->World->Prop}(t:TypeId)(ht:Tryz.prog.underlying t=some (.slice tI))(s x:Operand)
  (ho:o.op= .call {callee:=.builtin .append,args:=#[s,x],argTypes:=#[t,t]})
  (base:Nat) (v:Value) (zs:List Int) (hs:a.eval s=v) (hown:zBo w base v zs) (xv:Value) (ys:List Int) (hx:a.eval x=xv) (hy:ZsV w xv ys)
  (hlen:zs.length+ys.length<=1099511627776) (hbase:base<=w.heap.size)
  (hK:∀v' w',zBo w' base v' (zs++ys)->w.grownBy w' v.ownBlock->yI w w'->(v'.ownBlock=v.ownBlock∨∃g,v'.ownBlock=some g/\w.heap.size<=g)->K (a.put o.dst v') w'):Oper.wp Tryz.prog o a w K Q:=by
 obtain⟨i0,hi,hz0,hz1,hz2⟩:=info_parts Tryz.infoI;obtain⟨ao,n,c,rfl,hn,hc⟩:=hy;by_cases h0:ys= []
 ·subst h0
  obtain rfl:0=n:=by simpa using hn
  have hr:(Builtin.append_ #[t,t] o.type #[v,.slice ao 0 c]).run Tryz.prog w= .ok v w:=by
   obtain⟨cells,h1,-⟩:=hown;rcases h1.2 with⟨rfl,h0⟩|⟨g,cap,cur,rfl,e2,e3,e4,-⟩
   ·exact zB2 Tryz.prog w t o.type tI i0 ht hi none 0 0 (fun _=>⟨rfl,rfl⟩) (xgf _) ao c
   ·exact zB2 Tryz.prog w t o.type tI i0 ht hi _ _ cap (fun e=>by cases e) e4 ao c
  have h:=hK v w (by rwa[List.append_nil]) ⟨rfl,rfl,rfl,xgf _,fun _ _ _=>rfl⟩ (lx (Below.refl _ _)) (.inl rfl);unfold Oper.wp execOp;simp only[ho,resolve,invoke,builtin,Sem.run_bind,Sem.run_pure,Result.andThen_ok,List.map_toArray,List.map_cons,List.map_nil,hs,hx,hr];exact h
 ·obtain⟨b,off,news,rfl,hnl,hci,hcell⟩:=hc h0
  have hpos:0<ys.length:=List.length_pos_iff.2 h0;obtain⟨cells,h1,h2⟩:=hown;have hcl:cells.length=zs.length*2:=h1.1;have hnews:∀(j:Nat) (u:Value),news[j]?=some u->w.cell? ((⟨b,off,none⟩:Addr).add j)=some u:=fun j u hj=>by
   rw[Addr.add_lit];exact hcell j u hj
  have hone:=hci.one (by rw[hnl,hn]);have h63:zs.length+n<=maxLen:=by simp[maxLen];omega
  obtain⟨v',w',hr,k1,k2,-⟩:=run_append_own (P:=Tryz.prog) w base t o.type tI i0 _ 2 32 ht hi hz0 hz1 hz2 rfl oM v zs.length cells h1 ⟨b,off,none⟩ n c news hnl hnews hone h63 oM hbase;have h3:v'.ownBlock=v.ownBlock∨∃g,v'.ownBlock=some g/\w.heap.size<=g:=by
   rcases h1.2 with⟨rfl,h0⟩|⟨g,cap,cur,rfl,e2,e3,e4,e5,e6,e7⟩
   ·have hr2:=run_append_nil (P:=Tryz.prog) w t o.type tI i0 _ ht hi hz0 ⟨b,off,none⟩ n c news (by rw[hz1];exact hnl) hnews oM oM (by rw[hz2];omega)
    rw[hr2]at hr;injection hr with hv _
    exact .inr ⟨_,by rw[<-hv];rfl,xgf _⟩
   ·by_cases hroom:zs.length+n<=cap
    ·have hr2:=run_append_room (P:=Tryz.prog) w t o.type tI i0 ht hi g zs.length cap cur e3 ⟨b,off,none⟩ n c news (by rw[hz1];exact hnl) hnews hone hroom (by rw[hz1,e6,hnl];omega)
     rw[hr2]at hr;injection hr with hv _
     exact .inl (by rw[<-hv];rfl)
    ·have hr2:=run_append_grow (P:=Tryz.prog) w t o.type tI i0 _ ht hi hz0 ⟨g,0,none⟩ zs.length cap cells (by rw[hz1];exact hcl) (h1.cells (g:=g) rfl) ⟨b,off,none⟩ n c news (by rw[hz1];exact hnl) hnews oM oM (growslice_fits oM (by rw[hz2];omega))
     rw[hr2]at hr;injection hr with hv _
     exact .inr ⟨_,by rw[<-hv];rfl,xgf _⟩
  have hxg:=zAm h1 dE k2;have hvo:zBo w' base v' (zs++ys):=⟨cells++news,by rw[List.length_append,hn];exact k1,(show zA2 w cells zs from h2).ext hxg|>.append (hci.ext hxg) hcl⟩;have h:=hK v' w' hvo k2 hxg h3;unfold Oper.wp execOp;simp only[ho,resolve,invoke,builtin,Sem.run_bind,Sem.run_pure,Result.andThen_ok,List.map_toArray,List.map_cons,List.map_nil,hs,hx,hr];exact h
theorem zQB{w:World}{ops:Array Oper}{rest:List Oper}{o:Oper}{a:Act}{Q:Exit->Act->World->Prop}(t:TypeId)(ht:Tryz.prog.underlying t=some (.slice tI))(hgd:o.guard=none)(s x:Operand)
  (ho:o.op= .call {callee:=.builtin .append,args:=#[s,x],argTypes:=#[t,t]})
  (base:Nat) (v:Value) (zs:List Int) (hs:a.eval s=v) (hown:zBo w base v zs) (xv:Value) (ys:List Int) (hx:a.eval x=xv) (hy:ZsV w xv ys)
  (hlen:zs.length+ys.length<=1099511627776) (hbase:base<=w.heap.size)
  (h:∀v' w',zBo w' base v' (zs++ys)->w.grownBy w' v.ownBlock->yI w w'->(v'.ownBlock=v.ownBlock∨∃g,v'.ownBlock=some g/\w.heap.size<=g)->wpList Tryz.prog ops Q rest (a.put o.dst v') w'):wpList Tryz.prog ops Q (o::rest) a w:=
 wpList_plain hgd fun _ hK=>wpZ t ht s x ho base v zs hs hown xv ys hx hy hlen hbase fun v' w' h1 h2 h3 h4=>hK _ _ (h v' w' h1 h2 h3 h4)
end Go.Proofs.YtgnmdddaiefooaaGreat
