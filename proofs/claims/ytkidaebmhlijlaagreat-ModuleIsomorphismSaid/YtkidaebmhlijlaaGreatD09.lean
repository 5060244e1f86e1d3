/- Joined. -/
import Derived.Test.YtkidaebmhlijlaaGreatD07
set_option linter.unusedVariables false
set_option linter.unusedSimpArgs false
set_option linter.unusedSectionVars false
set_option maxHeartbeats 16000000
set_option maxRecDepth 100000
variable{v:Array Go.Value}{x:Int}{M:List (List Int)}{r zs:List Int}{S bs:List Nat}{C R b base bi bj cap g i j n:Nat}{F f:Nat->Nat->Int}{Z:Nat->Prop}{A:Go.Value}{W a c w w':Go.World}
namespace Go.Proofs.YtkidaebmhlijlaaGreat
open Go.RowKit
def genM(R C:Nat)(f:Nat->Nat->Int):List (List Int):=(List.range R).map fun i=>(List.range C).map (f i)
def ent(M:List (List Int))(i j:Nat):Int:=(M.getD i []).getD j 0
theorem zAG{g:Nat->Nat->Int}(h:∀i,i<R->∀j,j<C->f i j=g i j):genM R C f=genM R C g:=by
 unfold genM;refine zA1 fun i hi=>zA1 fun j hj=>h i (yL.1 hi) j (yL.1 hj)
theorem zDF(R C:Nat)(f:Nat->Nat->Int)(hi:i<R):(genM R C f)[i]?=some ((List.range C).map (f i)):=by
 simp[genM,hi]
theorem yR(hi:i<R)(hj:j<C):ent (genM R C f) i j=f i j:=by
 unfold ent;rw[zBz (zDF R C f hi)];simp[xgb,hj]
theorem yW(R C:Nat)(f:Nat->Nat->Int):zBU R C (genM R C f):=by
 refine⟨by simp[genM],fun r hr=>?_⟩;unfold genM at hr;obtain⟨i,-,rfl⟩:=List.mem_map.1 hr;simp
theorem zEJ{z:Int}(h1:M[i]?=some r)(h2:r[j]?=some z):ent M i j=z:=by
 unfold ent;rw[zBz h1,zBz h2]
theorem zMg(h:zBU R C M):M=genM R C (ent M):=by
 apply qT;rw[h.1];simp[genM];intro i h1 h2;have hi:i<R:=by rw[<-h.1];exact h1
 have e1:M[i]?=some M[i]:=xga h1;have hl:=h.2 _ (xgd e1);apply qT;rw[hl];simp[genM];intro j h3 h4;have:=zEJ e1 (xga h3);simp[genM,this]
theorem zFK(R C:Nat):zDU R C=genM R C (fun _ _=>0):=by
 unfold zDU genM;apply qT;simp;intro i h1 h2;apply qT;simp;intro j h3 h4;simp
def zPj(M:List (List Int))(i j:Nat)(z:Int):List (List Int):=M.set i ((M.getD i []).set j z)
theorem zD8(z:Int)(hi:i<R)(hj:j<C):zPj (genM R C f) i j z=genM R C (fun i' j'=>if i'=i/\j'=j then z else f i' j'):=by
 unfold zPj;rw[zBz (zDF R C f hi)];apply qT;simp[genM];intro a h1 h2;have ha:a<R:=by simpa[genM]using h2
 by_cases e:a=i
 ·subst e
  rw[zBB];apply qT;simp[genM];intro b h3 h4;by_cases e2:b=j
  ·subst e2;simp[genM]
  have e3:j≠b:=fun h=>e2 h.symm
  simp[genM,e2,e3]
 have e3:i≠a:=fun h=>e h.symm
 rw[zBV e3];simp[genM,e]
theorem qC.set(h:qC w base A C bs M)(hb:bs[i]?=some b)(hj:j<C)
  {s:Bool} {a:Option Addr} {l c:Nat} {z:Int} (hv:jY w (.agg #[.bool s,.slice a l c]) z):
  qC ((w.setCell ⟨b,j*2,none⟩ (.bool s)).setCell ⟨b,j*2+1,none⟩ (.slice a l c)) base A C bs (zPj M i j z)/\zBw w ((w.setCell ⟨b,j*2,none⟩ (.bool s)).setCell ⟨b,j*2+1,none⟩ (.slice a l c))/\base<=b:=by
 have hib:=(xge.1 hb).1;have hiM:i<M.length:=by rw[h.len];exact hib
 obtain⟨r1,r2,r3⟩:=h.row i b M[i] hb (xga hiM);obtain⟨s1,s2⟩:=r3.set (k:=j) (by rw[r2];exact hj) hv;refine⟨⟨⟨h.own.1,?_⟩,by simp[zPj,h.len],?_,h.nodup,h.cb⟩,s2,r1⟩
 ·rcases h.own.2 with h1|⟨g,cap,cur,e1,e2,e3,e4⟩
  ·exact .inl h1
  refine .inr ⟨g,cap,cur,e1,e2,?_,e4⟩;have hne:g≠b:=by
   have:=zG2 h.own r3;rw[e1]at this;simp only[Value.ownBlock]at this;intro hh;exact this (by rw[hh])
  exact(yO w b _ _ g _ _ hne).trans e3
 intro k b' r hk hr;by_cases e:k=i
 ·subst e
  rw[hb]at hk;injection hk with hk
  subst hk;unfold zPj at hr;rw[List.getElem?_set_self hiM]at hr;injection hr with hr
  subst hr;rw[zBz (xga hiM)];exact⟨r1,by rw[List.length_set];exact r2,s1⟩
 unfold zPj at hr;rw[List.getElem?_set_ne (qD e)]at hr;obtain⟨f1,f2,f3⟩:=h.row k b' r hk hr;have hkb:=(xge.1 hk).1;have hne:b'≠b:=by
  intro hh;subst hh;have h1:=(xge.1 hk).2;have h2:=(xge.1 hb).2;exact e ((yZ h.nodup).1 (h1.trans h2.symm))
 exact⟨f1,f2,f3.old (yO w b _ _ b' _ _ hne) s2⟩
theorem qC.at_{ao:Option Addr}(h:qC w base (.slice ao n cap) C bs M)(hi:i<bs.length):
  ∃g b,ao=some ⟨g,0,none⟩/\g<w.heap.size/\bs[i]?=some b/\b<w.heap.size/\w.cell? ⟨g,i,none⟩=some (slq b C C)/\n=bs.length:=by
 rcases h.own.2 with⟨e,h0⟩|⟨g,cap',cur,e,e2,e3,e4,e5,e6,e7⟩
 omega;injection e with e8 e9 e10
 subst e8;have hM:i<M.length:=by rw[h.len];exact hi
 have hr:=h.row i bs[i] M[i] (xga hi) (xga hM);refine⟨g,bs[i],rfl,(Array.getElem?_eq_some_iff.1 e3).1,xga hi,hr.2.2.lt,?_,e9⟩;rw[cell_of_row w g i cur _ _ e3];have:(zBP C bs)[i]?=some (slq (bs[i]) C C):=by simp[zBP,hi]
 rw[<-e7,List.getElem?_take_of_lt oM]at this;simpa using this
theorem qC.cellAt(h:qC w base A C bs M)(hb:bs[i]?=some b)(hj:j<C):
  ∃s a l c,w.cell? ⟨b,j*2,none⟩=some (.bool s)/\w.cell? ⟨b,j*2+1,none⟩=some (.slice a l c)/\w.frozen? ⟨b,j*2,none⟩=false/\w.frozen? ⟨b,j*2+1,none⟩=false/\jY w (.agg #[.bool s,.slice a l c]) (ent M i j):=by
 have hib:=(xge.1 hb).1;have hiM:i<M.length:=by rw[h.len];exact hib
 obtain⟨r1,r2,r3⟩:=h.row i b M[i] hb (xga hiM);have hjr:j<M[i].length:=by rw[r2];exact hj
 have:=r3.cell (xga hjr);rwa[zEJ (xga hiM) (xga hjr)]
def zIT(f:Nat->Nat->Int)(i j:Nat):Nat->Nat->Int:=fun a b=>if a<i∨(a=i/\b<j)then f a b else 0
theorem zGi(R C:Nat)(f:Nat->Nat->Int):zDU R C=genM R C (zIT f 0 0):=by
 rw[zFK];exact zAG fun i _ j _=>by unfold zIT;rw[if_neg oM]
theorem zJB:genM R C (zIT f i C)=genM R C (zIT f (i+1) 0):=
 zAG fun a _ b hb=>by
  unfold zIT;by_cases h:a<i∨(a=i/\b<C)
  ·rw[if_pos h,if_pos oM]
  rw[if_neg h,if_neg oM]
theorem zJA:genM R C (zIT f R 0)=genM R C f:=
 zAG fun a ha b _=>by unfold zIT;rw[if_pos oM]
theorem zJ5(hi:i<R)(hj:j<C):zPj (genM R C (zIT f i j)) i j (f i j)=genM R C (zIT f i (j+1)):=by
 rw[zD8 _ hi hj];exact zAG fun a _ b _=>by
  unfold zIT;by_cases h:a=i/\b=j
  ·obtain⟨rfl,rfl⟩:=h
   rw[if_pos ⟨rfl,rfl⟩,if_pos oM]
  rw[if_neg h];by_cases h2:a<i∨(a=i/\b<j)
  ·rw[if_pos h2,if_pos oM]
  rw[if_neg h2,if_neg oM]
theorem qC.lts(h:qC w base A C bs M):∀(i b:Nat),bs[i]?=some b->b<w.heap.size:=by
 intro i b hb;have hib:=(xge.1 hb).1;have hiM:i<M.length:=by rw[h.len];exact hib
 exact(h.row i b M[i] hb (xga hiM)).2.2.lt
def idf(i j:Nat):Int:=if i=j then 1 else 0
def zNY(k:Nat)(i j:Nat):Int:=if i=j/\i<k then 1 else 0
theorem zG3(n:Nat)(w:World)(hn:n<=1000000):CPq 49 #[niq n] w (zEm w n n (genM n n idf)):=by
 go_enter Tryz.func49,Tryz.ntmps49;go_upto_region 1 with(fail)
 refine zD ?_;intro W0 hW0;obtain⟨hB0,br,hs0⟩:=qL hW0;go_wp2_with fail
 refine(zGF n n W0 hn hn).mono ?_;rintro e w2 ⟨u,bs,rfl,⟨hbl,A2,rfl,ho⟩,hb2⟩;obtain⟨oo,on,oc,rfl,-,-,-,-⟩:=id ho.rows;have hlts:=ho.lts;go_upto_region 2 with(fail)
 refine zD ?_;intro W3 hW3;obtain⟨hB3,T5,hs3⟩:=qL hW3;have br:=(br.below hb2).below hB3;have ho:=ho.below hB3;have hz0:zDU n n=genM n n (zNY 0):=by rw[zFK];exact zAG fun i _ j _=>by unfold zNY;rw[if_neg oM]
 rw[hz0]at ho;have hBt:=nx (nx hB0 hb2) hB3;have q1:=hB0.size;have q2:=hb2.size;clear hW3 hW0 hz0;go_wp2;go_loopw [4] (fun iv wr=>∃i:Nat,i<=n/\iv=niq i/\BWq w wr/\Blk wr w.heap.size 32 #[niq 0,niq 0,.slice none 0 0]/\Blk wr w2.heap.size 32 #[niq n,niq n,.slice oo on oc]/\qC wr W0.heap.size (.slice oo on oc) n bs (genM n n (zNY i))) (fun iv _=>n-(intOf iv).toNat)
 case atStart=>exact⟨0,oM,rfl,hBt,br,T5,ho⟩
 obtain⟨i,hi,rfl,hb,br,T5,ho⟩:=hrel;have f1:=T5.three;by_cases hlt:i<n
 ·obtain⟨g,bo,rfl,hg,hbo,hbo2,o1,ho3⟩:=ho.at_ (i:=i) oM
  have hio:i<on:=oM;have HO3:=xgw ho3;clear ho3;have lt5:=T5.lt;go_upto_region 5 with(fail)
  refine yP 8 [pcI 6 (1)] ?_;refine sRd ?_;refine sRc (fun wS hI Gk hG=>by go_simp;exact ck hG (zCx 1 _ oM oM)) (fun va6 _=>?_);refine sRd ?_;refine sRe ?_;intro w9 hbw9 ha6;obtain⟨pn,pa,pl,pc,px,rfl,hpx⟩:=id ha6;have HPX:=xgw hpx;clear hpx;have ho9:=ho.below hbw9;obtain⟨sn,sa,sl,sc,z1,z2,z3,z4,-⟩:=ho9.cellAt hbo hlt;have hbolt:=hlts i bo hbo;have hset:=ho9.set hbo hlt ha6;go_wp2;go_roundw
  case rel=>
   have hq:zPj (genM n n (zNY i)) i i 1=genM n n (zNY (i+1)):=by
    rw[zD8 _ hlt hlt];exact zAG fun a _ b _=>by
     unfold zNY;by_cases h:a=i/\b=i
     ·rw[if_pos h,if_pos oM]
     rw[if_neg h];by_cases h2:a=b/\a<i
     ·rw[if_pos h2,if_pos oM]
     rw[if_neg h2,if_neg oM]
   rw[hq]at hset;exact⟨i+1,oM,by simp,yJ (yJ (nx hb hbw9) oM _ _) oM _ _,(yO _ _ _ _ _ _ _ oM).trans (br.below hbw9),(yO _ _ _ _ _ _ _ oM).trans (T5.below hbw9),hset.1⟩
  case measure=>exact meq
 obtain rfl:i=n:=oM;have hq:genM i i (zNY i)=genM i i idf:=zAG fun a ha b _=>by
  unfold zNY idf;by_cases h:a=b
  ·rw[if_pos ⟨h,ha⟩,if_pos h]
  rw[if_neg (fun h2=>h h2.1),if_neg h]
 rw[hq]at ho;have r1:=br.three;go_wp2;refine zAZ rfl rfl rfl (br.put3 _ _ _) ⟨_,bs,rfl,⟨hbl,_,rfl,?_⟩,yJ (yJ (yJ hb oM 0 _) oM 1 _) oM 2 _⟩;exact(ho.keep (fun k hk=>zAf _ _ k _ _ _ oM) (br.lext3 dE _ _ _)).mono q1
def zTz(f:Nat->Int):Nat->Int
 |0=>0
 |k+1=>zTz f k+f k
def zFL(A B:List (List Int))(m i j:Nat):Int:=zTz (fun t=>ent A i t*ent B t j) m
def zFp(A B:List (List Int))(R m C:Nat):Prop:=
 ∀i,i<R->∀j,j<C->∀k,k<m->Sm (ent A i k)/\Sm (ent B k j)/\Sm (ent A i k*ent B k j)/\Sm (zFL A B k i j)
def zUR(f:Nat->Nat->Int)(i j:Nat)(x:Int):Nat->Nat->Int:=fun a b=>if a=i/\b=j then x else zIT f i j a b
theorem zRU:genM R C (zIT f i j)=genM R C (zUR f i j 0):=
 zAG fun a _ b _=>by
  unfold zUR;by_cases h:a=i/\b=j
  ·obtain⟨rfl,rfl⟩:=h
   rw[if_pos ⟨rfl,rfl⟩];unfold zIT;rw[if_neg oM]
  rw[if_neg h]
theorem zVv{y:Int}(hi:i<R)(hj:j<C):zPj (genM R C (zUR f i j x)) i j y=genM R C (zUR f i j y):=by
 rw[zD8 _ hi hj];exact zAG fun a _ b _=>by
  unfold zUR;by_cases h:a=i/\b=j
  ·rw[if_pos h,if_pos h]
  rw[if_neg h,if_neg h,if_neg h]
theorem zVu:genM R C (zUR f i j (f i j))=genM R C (zIT f i (j+1)):=
 zAG fun a _ b _=>by
  unfold zUR;by_cases h:a=i/\b=j
  ·obtain⟨rfl,rfl⟩:=h
   rw[if_pos ⟨rfl,rfl⟩];unfold zIT;rw[if_pos oM]
  rw[if_neg h];unfold zIT;by_cases h2:a<i∨(a=i/\b<j)
  ·rw[if_pos h2,if_pos oM]
  rw[if_neg h2,if_neg oM]
theorem zUC:zUR f i j x i j=x:=by unfold zUR;rw[if_pos ⟨rfl,rfl⟩]
theorem zJu{r:Nat}(hb:Blk W r 32 v)(h3:v.size=3):(loadVar 32 ⟨r,0,none⟩).run Tryz.prog W= .ok (.agg v) W:=
 run_loadVar_row W r _ _ v _ _ hb zC2 rfl (by rw[zFQ,h3])
theorem zDT{fn:Func}{p u:Tmp}(h:fn.results=#[.cell p 32,.tmp u])(tmps:Array Value){W:World}{r:Nat}{v:Array Value}
  (hp:tmps.getD p undef=ptq r 0) (hb:Blk W r 32 v) (h3:v.size=3):
  (results fn tmps).run Tryz.prog W= .ok (.tuple #[.agg v,tmps.getD u undef]) W:=by
 have hp':tmps[p]?.getD undef=ptq r 0:=by simpa using hp
 simp[results,h,hp',asAddr,zJu hb h3]
theorem zTY(v1 v2:Value)(R m C:Nat)(M1 M2:List (List Int))(w:World)(h1:zAC w v1 R m M1)(h2:zAC w v2 m C M2)(hF1:zBU R m M1)(hF2:zBU m C M2)(hR:R<=1000000)(hm:m<=1000000)(hC:C<=1000000)(hS:zFp M1 M2 R m C):
  CPq 95 #[v1,v2] w fun e w'=>∃v bs,e= .returned (.tuple #[v,niq 0])/\zWi w' w.heap.size v R C bs (genM R C (zFL M1 M2 m))/\BWq w w':=by
 obtain⟨A1,rfl,h1⟩:=h1;obtain⟨A2,rfl,h2⟩:=h2;obtain⟨ao,n,cap,rfl,e2,e3,e4,-⟩:=id h1;obtain⟨bo,q,bcap,rfl,g2,g3,g4,-⟩:=id h2;have HX:=xgw e2;have HY:=xgw g2;have HS:=xgv hS;have HF1:=xgv hF1;have HF2:=xgv hF2;obtain rfl:n=R:=by rw[<-e2,hF1.1]
 obtain rfl:q=m:=by rw[<-g2,hF2.1]
 clear e2 g2 hS hF1 hF2;obtain⟨f,hf⟩:∃f:Nat->Nat->Int,zFL M1 M2 q=f:=⟨_,rfl⟩;rw[hf];have HFE:jZ (∀i j,f i j=zFL M1 M2 q i j):=⟨fun i j=>by rw[<-hf]⟩;clear hf;go_enter Tryz.func95,Tryz.ntmps95;go_upto_region 1 with(fail)
 refine zD ?_;intro W0 hW0;obtain⟨hB0,bx1,bx2,br,hs0⟩:=zBk hW0;have c1:=bx1.three;obtain⟨d1,d2,d3,d4,d5,d6⟩:=bx2.three;go_wp2_with fail
 refine(zGF n C W0 hR hC).mono ?_;rintro e w2 ⟨u,bs,rfl,⟨hbl,A3,rfl,ho⟩,hb2⟩;obtain⟨oo,on,oc,rfl,-,-,-,-⟩:=id ho.rows;have hlts:=ho.lts;go_upto_region 4 with(fail)
 refine zD ?_;intro W3 hW3;obtain⟨hB3,T5,hs3⟩:=qL hW3;have bx1:=(bx1.below hb2).below hB3;have bx2:=(bx2.below hb2).below hB3;have br:=(br.below hb2).below hB3;have ho:=ho.below hB3;rw[zGi n C f]at ho;have hBt:=nx (nx hB0 hb2) hB3;have q2:=hb2.size;clear hW3 hW0 c1 d1 d2 d3 d4 d5 d6;go_wp2;go_loopw [7] (fun iv wr=>∃i:Nat,i<=n/\iv=niq i/\BWq w wr/\Blk wr w.heap.size 32 #[niq n,niq q,.slice ao n cap]/\Blk wr (w.heap.size+1) 32 #[niq q,niq C,.slice bo q bcap]∧
  Blk wr (w.heap.size+1+1) 32 #[niq 0,niq 0,.slice none 0 0]/\Blk wr w2.heap.size 32 #[niq n,niq C,.slice oo on oc]/\qC wr W0.heap.size (.slice oo on oc) C bs (genM n C (zIT f i 0))) (fun iv _=>n-(intOf iv).toNat)
 case atStart=>exact⟨0,oM,rfl,hBt,bx1,bx2,br,T5,ho⟩
 obtain⟨i,hi,rfl,hb,bx1,bx2,br,T5,ho⟩:=hrel;have c1:=bx1.three;by_cases hlt:i<n
 ·go_wp2
  clear c1;go_loopw [8] (fun jv wr=>∃j:Nat,j<=C/\jv=niq j/\BWq w wr/\Blk wr w.heap.size 32 #[niq n,niq q,.slice ao n cap]/\Blk wr (w.heap.size+1) 32 #[niq q,niq C,.slice bo q bcap]∧
   Blk wr (w.heap.size+1+1) 32 #[niq 0,niq 0,.slice none 0 0]/\Blk wr w2.heap.size 32 #[niq n,niq C,.slice oo on oc]/\qC wr W0.heap.size (.slice oo on oc) C bs (genM n C (zIT f i j))) (fun jv _=>C-(intOf jv).toNat)
  case atStart=>exact⟨0,oM,rfl,hb,bx1,bx2,br,T5,ho⟩
  obtain⟨j,hj,rfl,hb,bx1,bx2,br,T5,ho⟩:=hrel;obtain⟨d1,d2,d3,d4,d5,d6⟩:=bx2.three;by_cases hjc:j<C
  ·go_wp2
   clear d1 d2 d3 d4 d5 d6;rw[zRU]at ho;go_loopw [9] (fun kv wr=>∃k:Nat,k<=q/\kv=niq k/\BWq w wr/\Blk wr w.heap.size 32 #[niq n,niq q,.slice ao n cap]/\Blk wr (w.heap.size+1) 32 #[niq q,niq C,.slice bo q bcap]∧
    Blk wr (w.heap.size+1+1) 32 #[niq 0,niq 0,.slice none 0 0]/\Blk wr w2.heap.size 32 #[niq n,niq C,.slice oo on oc]/\qC wr W0.heap.size (.slice oo on oc) C bs (genM n C (zUR f i j (zFL M1 M2 k i j)))) (fun kv _=>q-(intOf kv).toNat)
   case atStart=>exact⟨0,oM,rfl,hb,bx1,bx2,br,T5,ho⟩
   obtain⟨k,hk,rfl,hb,bx1,bx2,br,T5,ho⟩:=hrel;have c1:=bx1.three;by_cases hkq:k<q
   ·obtain⟨d1,d2,d3,d4,d5,d6⟩:=bx2.three
    obtain⟨b,ra,rn,rc,zs,rfl,hbl1,hz,p1,hv⟩:=(h1.below hb).row (k:=i) (by rw[HX.out];exact hlt);have hzl:=HF1.out.2 zs (xgd hz);have hvl:=hv.len;obtain⟨b',z,s,a,l,c,rfl,hbl',hzk,q1,q2',hzv⟩:=hv.cell (k:=k) oM;have hkrn:k<rn:=oM;obtain⟨y,ya,yn,yc,ys,rfl,hyl1,hy,y1,hyv⟩:=(h2.below hb).row (k:=k) (by rw[HY.out];exact hkq);have hyl:=HF2.out.2 ys (xgd hy);have hyvl:=hyv.len;obtain⟨y',x,xs,xa,xl,xc,rfl,hyl',hyk,x1,x2,hxv⟩:=hyv.cell (k:=j) oM;have hjyn:j<yn:=oM;have he1:=xgw (zEJ hz hzk);have he2:=xgw (zEJ hy hyk);have HSM:=xgv (HS.out i hlt j hjc k hkq);clear hz hzk hzl hy hyk hyl hvl hyvl;obtain⟨g,bo',rfl,hg,hbo,hbo2,o1,ho3⟩:=ho.at_ (i:=i) oM;obtain⟨us,ua,ul,uc,u1,u2,u3,u4,uv⟩:=ho.cellAt hbo hjc;rw[yR hlt hjc,zUC]at uv;have f1:=T5.three;have hio:i<on:=oM;have HO3:=xgw ho3;clear ho3;have lt1:=bx1.lt;have lt2:=bx2.lt;have lt5:=T5.lt;rw[<-he1.out]at hzv;rw[<-he2.out]at hxv;go_upto_region 13 with(fail)
    refine yP 33 [pcI 30 (ent M1 i k*ent M2 k j),pcD 31 [30] (fun w v=>jY w v (zFL M1 M2 k i j+ent M1 i k*ent M2 k j))] ?_;refine sRd ?_;refine sRc (fun wS hI Gk hG=>by go_simp;exact ck hG (zTV _ _ (ent M1 i k) (ent M2 k j) _ (hzv.ext hI.lext) (hxv.ext hI.lext) HSM.out.1 HSM.out.2.1)) (fun va30 _=>?_);refine sRc (fun wS hI ha30 Gk hG=>by go_simp;exact ck hG (zM3 _ _ (zFL M1 M2 k i j) (ent M1 i k*ent M2 k j) _ (uv.ext hI.lext) ha30 HSM.out.2.2.2 HSM.out.2.2.1)) (fun va31 _=>?_);refine sRd ?_;refine sRe ?_;intro w9 hbw9 ha30 ha31;obtain⟨pn,pa,pl,pc,px,rfl,hpx⟩:=id ha31;have HPX:=xgw hpx;clear hpx;have ho9:=ho.below hbw9;obtain⟨sn,sa,sl,sc,z1,z2,z3,z4,-⟩:=ho9.cellAt hbo hjc;have hbolt:=hlts i bo' hbo;have hset:=ho9.set hbo hjc ha31;go_wp2;go_roundw
    case rel=>
     rw[zVv hlt hjc]at hset;exact⟨k+1,oM,by simp,yJ (yJ (nx hb hbw9) oM _ _) oM _ _,(yO _ _ _ _ _ _ _ oM).trans (bx1.below hbw9),(yO _ _ _ _ _ _ _ oM).trans (bx2.below hbw9),(yO _ _ _ _ _ _ _ oM).trans (br.below hbw9),(yO _ _ _ _ _ _ _ oM).trans (T5.below hbw9),hset.1⟩
    case measure=>exact meq
   obtain rfl:k=q:=oM;rw[<-HFE.out,zVu]at ho;go_wp2;go_roundw
   case rel=>exact⟨j+1,oM,by simp,hb,bx1,bx2,br,T5,ho⟩
   case measure=>exact meq
  obtain rfl:j=C:=oM;rw[zJB]at ho;go_wp2;go_roundw
  case rel=>exact⟨i+1,oM,by simp,hb,bx1,bx2,br,T5,ho⟩
  case measure=>exact meq
 obtain rfl:i=n:=oM;rw[zJA]at ho;have f1:=T5.three;have r1:=br.three;have q1:=hB0.size;go_wp2;refine bodyPost_ret (zDT rfl _ rfl (br.put3 _ _ _) rfl) rfl ⟨_,bs,rfl,⟨hbl,_,rfl,?_⟩,yJ (yJ (yJ hb oM 0 _) oM 1 _) oM 2 _⟩;exact(ho.keep (fun k hk=>zAf _ _ k _ _ _ oM) (br.lext3 dE _ _ _)).mono q1
theorem zHs(v1 v2:Value)(R m C:Nat)(M1 M2:List (List Int))(w:World)(h1:zAC w v1 R m M1)(h2:zAC w v2 m C M2)(hF1:zBU R m M1)(hF2:zBU m C M2)(hR:R<=1000000)(hm:m<=1000000)(hC:C<=1000000)(hS:zFp M1 M2 R m C):
  CPq 50 #[v1,v2] w (zEm w R C (genM R C (zFL M1 M2 m))):=by
 have h1':=h1;have h2':=h2;obtain⟨A1,rfl,h1⟩:=h1;obtain⟨A2,rfl,h2⟩:=h2;obtain⟨ao,n,cap,rfl,-⟩:=id h1;obtain⟨bo,q,bcap,rfl,-⟩:=id h2;have HS:=xgv hS;have HF1:=xgv hF1;have HF2:=xgv hF2;clear hS hF1 hF2;go_enter Tryz.func50,Tryz.ntmps50;go_upto_region 1 with(fail)
 refine zD ?_;intro W0 hW0;obtain⟨hB0,bx1,bx2,br,hs0⟩:=zBk hW0;have c1:=bx1.three;have d1:=bx2.three;go_wp2_with fail
 refine(zTY _ _ R m C M1 M2 W0 (h1'.below hB0) (h2'.below hB0) HF1.out HF2.out hR hm hC HS.out).mono ?_;rintro e w2 ⟨u,bs,rfl,⟨hbl,A3,rfl,ho⟩,hb2⟩;obtain⟨oo,on,oc,rfl,-,-,-,-⟩:=id ho.rows;go_upto_region 2 with(fail)
 refine zD ?_;intro W3 hW3;obtain⟨hB3,T5,hs3⟩:=qL hW3;have br:=(br.below hb2).below hB3;have ho:=ho.below hB3;have hBt:=nx (nx hB0 hb2) hB3;have q2:=hB0.size;clear hW3 hW0 c1 d1;have f1:=T5.three;have r1:=br.three;go_wp2;refine zAZ rfl rfl rfl (br.put3 _ _ _) ⟨_,bs,rfl,⟨hbl,_,rfl,?_⟩,yJ (yJ (yJ hBt oM 0 _) oM 1 _) oM 2 _⟩;exact(ho.keep (fun k hk=>zAf _ _ k _ _ _ oM) (br.lext3 dE _ _ _)).mono q2

def qAa(n:Nat)(R1 C1 R2 C2:Int)(M1 M2:List (List Int)):Bool:=
 decide (R1=n/\C1=n/\zBS R1 C1 M1) && (decide (R2=n/\C2=n/\zBS R2 C2 M2) && decide (genM n n (zFL M1 M2 n)=genM n n idf))
def zCL:Nat->List Int->Int
 |_,[]=>-1
 |k,z::zs=>if z≠0 then(k:Int)else zCL (k+1) zs
theorem zFX(v:Value)(zs:List Int)(w:World)(h:zAv w v zs):
  CPq 199 #[v] w fun e w'=>e= .returned (niq (zCL 0 zs))/\BWq w w':=by
 obtain⟨ao,n,cap,rfl,h2,h3,h4,h5⟩:=id h;have HL:=xgw h2;clear h2 h5;go_enter Tryz.func199,Tryz.ntmps199;go_wp2;go_loopw [7] (fun i wr=>∃k:Nat,k<=n/\i=niq k/\BWq w wr/\Hid (zCL 0 zs=zCL k (zs.drop k))) (fun i _=>n-(intOf i).toNat)
 case atStart=>exact⟨0,oM,rfl,zA _ _,by rw[xgk];exact xgw rfl⟩
 obtain⟨k,hk,rfl,hb,hgo⟩:=hrel;by_cases hlt:k<n
 ·obtain⟨b,z,s,a,l,c,rfl,hbl,hz,c1,c2,hv⟩:=(h.below hb).cell (k:=k) (by rw[HL.out];exact hlt)
  have HZ:=xgw hz;clear hz;go_upto_region 4 with(fail)
  refine zD ?_;intro W6 hW6;obtain⟨hB6,T6,hs6⟩:=qL hW6;have d1:=T6.two;clear c1 c2 hW6;go_wp2_with fail
  refine(zAi _ z W6 (hv.ext (lx hB6)).weak).mono ?_;rintro e w7 ⟨rfl,hb7⟩;have hb9:=nx (nx hb hB6) hb7;by_cases hz0:z=0
  ·rw[zBd hz0]
   go_wp2;go_roundw
   case rel=>
    refine⟨k+1,oM,by simp,hb9,xgw ?_⟩;rw[hgo.out,zDe HZ.out];conv=>lhs;unfold zCL
    rw[if_neg (by simp[hz0])]
   case measure=>exact meq
  have hc:=zCr hz0;obtain⟨k0,hk0⟩:∃k0,zAt z 0=k0:=⟨_,rfl⟩;rw[hk0]at hc ⊢
  go_wp2;go_ret;refine⟨?_,hb9⟩;rw[hgo.out,zDe HZ.out];conv=>rhs;unfold zCL
  rw[if_pos hz0];rfl
 obtain rfl:k=n:=oM;go_wp2;go_ret;refine⟨?_,hb⟩;rw[hgo.out,qP (zA3 HL.out)];rfl
theorem zIh(v1 v2:Value)(z1 z2:Int)(w:World)(h1:jY w v1 z1)(h2:jY w v2 z2)(s1:Sm z1)(s2:Sm z2)(hz:z2≠0):
  CPq 188 #[v1,v2] w (zDp w (z1/z2)):=by
 obtain⟨neg1,ao1,n1,cap1,xs,rfl,i1⟩:=id h1;obtain⟨neg2,ao2,n2,cap2,ys,rfl,i2⟩:=id h2;have HS1:=xgv s1;have HS2:=xgv s2;clear s1 s2 i1 i2;go_enter Tryz.func188,Tryz.ntmps188;go_upto_region 1 with(fail)
 refine zD ?_;intro W0 hW0;obtain⟨hB0,bx1,bx2,br,hs0⟩:=zBk hW0;have c1:=bx1.two;have d1:=bx2.two;go_wp2_with fail
 refine(zDt _ _ z1 z2 W0 (h1.ext (lx hB0)).weak (h2.ext (lx hB0)).weak HS1.out HS2.out hz).mono ?_;rintro e w2 ⟨q0,r0,rfl,hq,hr,hb2⟩;obtain⟨qn,qa,ql,qc,qx,rfl,hq'⟩:=id hq;obtain⟨rn,ra,rl,rc,rx,rfl,hr'⟩:=id hr;have HQ':=xgw hq';have HR':=xgw hr';clear hq' hr' c1 d1;go_upto_region 2 with(fail)
 refine zD ?_;intro W3 hW3;obtain⟨hB3,T5,T6,hs3⟩:=zAj hW3;have br:=(br.below hb2).below hB3;have c1:=T5.two;have d1:=br.two;go_wp2;refine jH rfl rfl rfl (br.put2 _ _) ?_ (yJ (yJ (nx (nx hB0 hb2) hB3) oM 0 _) oM 1 _);exact(hq.ext (lx hB3)).ext (br.lext2 dE _ _)
structure zB0(S:List Nat)(w w':World):Prop where
 bel:Below 0 w w'
 lext:zBw w w'
 old:∀k,k<w.heap.size->k ∉ S->w'.heap[k]?=w.heap[k]?
theorem zB0.refl(S:List Nat)(w:World):zB0 S w w:=⟨zA _ _,zBw.refl _,fun _ _ _=>rfl⟩
theorem zB0.of(S:List Nat)(h:BWq w w'):zB0 S w w':=⟨h.mono (zE _),lx h,fun k hk _=>h.block k hk⟩
theorem zB0.trans{b:World}(h:zB0 S a b)(k:zB0 S b c):zB0 S a c:=
 ⟨h.bel.trans k.bel,h.lext.trans k.lext,fun i hi hn=>(k.old i (zJ hi h.bel.size) hn).trans (h.old i hi hn)⟩
theorem jJ.only(h:jJ w b zs)(k:zB0 S w w')(hb:b ∉ S):jJ w' b zs:=h.old (k.old b h.lt hb) k.lext
theorem jJ.vec(h:jJ w b zs)(hn:zs.length=n)(hc:n<=cap)(hc2:cap<=9223372036854775807):zAv w (slq b n cap) zs:=
 ⟨_,_,_,rfl,hn,hc,hc2,fun _=>⟨b,rfl,h⟩⟩
def qZ(n:Nat)(f:Nat->Int):List Int:=(List.range n).map f
theorem qA(n:Nat)(f:Nat->Int):(qZ n f).length=n:=by simp[qZ]
theorem yE{f:Nat->Int}(h:j<n):(qZ n f)[j]?=some (f j):=by simp[qZ,h]
theorem zD1{f:Nat->Int}(z:Int):(qZ n f).set j z=qZ n (fun t=>if t=j then z else f t):=by
 apply qT;simp[qZ];intro a h1 h2;by_cases e:a=j
 ·subst e;simp[qZ]
 have:j≠a:=fun h=>e h.symm
 simp[qZ,this,e]
theorem qY{f g:Nat->Int}(h:∀t,t<n->f t=g t):qZ n f=qZ n g:=by
 unfold qZ;exact zA1 fun t ht=>h t (yL.1 ht)
def yQ(f g:Nat->Int)(j:Nat):Nat->Int:=fun t=>if t<j then f t else g t
theorem zGt(fI:Nat)(hfI:fI=211∨fI=163)(bv bw n capv capw:Nat)(f g:Nat->Int)(kv:Value)(k:Int)(w:World)(hv:jJ w bv (qZ n f))(hw:jJ w bw (qZ n g))(hne:bv≠bw)(hk:jY w kv k)
  (hn:n<=1000000) (hcv:n<=capv) (hcv2:capv<=9223372036854775807) (hcw:n<=capw) (hcw2:capw<=9223372036854775807)
  (hS:∀t,t<n->Sm (f t)/\Sm (g t)/\Sm (k*g t)) (hks:Sm k):
  CPq fI #[slq bv n capv,slq bw n capw,kv] w fun e w'=>(∃u,e= .returned u)/\zB0 [bv] w w'/\jJ w' bv (qZ n (fun t=>f t+k*g t)):=by
 have HS:=xgv hS;have HK:=xgv hks;obtain⟨kn,ka,kl,kc,kx,rfl,hkx⟩:=id hk;have HKX:=xgw hkx;clear hS hks hkx;have hlv:=hv.lt;have hlw:=hw.lt;obtain⟨F,hF⟩:∃F:Nat->Int,(fun t=>f t+k*g t)=F:=⟨_,rfl⟩;rw[hF];have HF:jZ (∀t,F t=f t+k*g t):=⟨fun t=>by rw[<-hF]⟩;clear hF;rcases hfI with rfl|rfl
 all_goals
  first|go_enter Tryz.func211,Tryz.ntmps211|go_enter Tryz.func163,Tryz.ntmps163
  go_upto_region 1 with(fail)
  refine zD ?_;intro W0 hW0;obtain⟨hB0,bx,hs0⟩:=qL hW0;have hv0:=hv.below hB0;have hw0:=hw.below hB0;have hk0:=hk.ext (lx hB0);have hst:qZ n f=qZ n (yQ F f 0):=qY fun t _=>by unfold yQ;rw[if_neg oM]
  rw[hst]at hv0;have hO:=zB0.of [bv] hB0;clear hW0 hst hv hw hk;go_wp2;go_loopw [10] (fun jv wr=>∃j:Nat,j<=n/\jv=niq j/\zB0 [bv] w wr/\Blk wr w.heap.size 43 #[.bool kn,.slice ka kl kc]/\jY wr (.agg #[.bool kn,.slice ka kl kc]) k/\jJ wr bw (qZ n g)/\jJ wr bv (qZ n (yQ F f j))) (fun jv _=>n-(intOf jv).toNat)
  case atStart=>exact⟨0,oM,rfl,hO,bx,hk0,hw0,hv0⟩
  obtain⟨j,hj,rfl,hO,bx,hk,hw,hv⟩:=hrel;by_cases hlt:j<n
  ·obtain⟨xs,xa,xl,xc,p1,p2,-,-,hx⟩:=hw.cell (yE hlt)
   have hlw':=hw.lt;have hlb:=bx.lt;go_upto_region 4 with(fail)
   refine zD ?_;intro W6 hW6;obtain⟨hB6,T7,hs6⟩:=qL hW6;have d1:=T7.two;have hO:=hO.trans (zB0.of [bv] hB6);have bx:=bx.below hB6;have hk:=hk.ext (lx hB6);have hw:=hw.below hB6;have hv:=hv.below hB6;have hx:=hx.ext (lx hB6);clear p1 p2 hW6;go_wp2_with fail
   refine(zAi _ (g j) W6 hx.weak).mono ?_;rintro e w7 ⟨rfl,hb7⟩;have hO:=hO.trans (zB0.of [bv] hb7);have bx:=bx.below hb7;have hk:=hk.ext (lx hb7);have hw:=hw.below hb7;have hv:=hv.below hb7;have hx:=hx.ext (lx hb7);have T7:=T7.below hb7;clear d1;by_cases hz0:g j=0
   ·rw [zBd hz0]
    go_wp2;go_roundw
    case rel=>
     have hq:qZ n (yQ F f j)=qZ n (yQ F f (j+1)):=qY fun t _=>by
      unfold yQ;by_cases h1:t<j
      ·rw[if_pos h1,if_pos oM]
      by_cases h2:t=j
      ·subst h2
       rw[if_neg h1,if_pos oM,HF.out,hz0,zP,yY]
      rw[if_neg h1,if_neg oM]
     rw[hq]at hv;exact⟨j+1,oM,by simp,hO,bx,hk,hw,hv⟩
    case measure=>exact meq
   have hc:=zCr hz0;obtain⟨k0,hk0⟩:∃k0,zAt (g j) 0=k0:=⟨_,rfl⟩;rw[hk0]at hc ⊢
   clear hk0;obtain⟨ys,ya,yl,yc,v1,v2,-,-,hy⟩:=hv.cell (yE hlt);have hyf:yQ F f j j=f j:=by unfold yQ;rw[if_neg oM]
   rw[hyf]at hy;have d1:=T7.two;have k1:=bx.two;have lv:=hv.lt;have lb:=bx.lt;have l7:=T7.lt;have HSJ:=xgv (HS.out j hlt);go_upto_region 5 with(fail)
   refine yP 11 [pcI 8 (k*g j),pcD 9 [8] (fun w v=>jY w v (f j+k*g j))] ?_;refine sRd ?_;refine sRc (fun wS hI Gk hG=>by go_simp;exact ck hG (zEE _ _ k (g j) _ (hk.ext hI.lext).weak (hx.ext hI.lext).weak HK.out HSJ.out.2.1)) (fun va8 _=>?_);refine sRc (fun wS hI ha8 Gk hG=>by go_simp;exact ck hG (zH2 _ _ (f j) (k*g j) _ (hy.ext hI.lext).weak ha8.weak HSJ.out.1 HSJ.out.2.2)) (fun va9 _=>?_);refine sRd ?_;refine sRe ?_;intro w9 hbw9 ha8 ha9;obtain⟨pn,pa,pl,pc,px,rfl,hpx⟩:=id ha9;have HPX:=xgw hpx;clear hpx;have hv9:=hv.below hbw9;obtain⟨zs,za,zl,zc,z1,z2,z3,z4,-⟩:=hv9.cell (yE hlt);have hset:=hv9.set (k:=j) (by rw[qA];exact hlt) ha9;have hO:=hO.trans (zB0.of [bv] hbw9);have hk:=hk.ext (lx hbw9);have bx:=bx.below hbw9;have hw:=hw.below hbw9;have hsz:=hO.bel.size;go_wp2;go_roundw
   case rel=>
    have hq:(qZ n (yQ F f j)).set j (f j+k*g j)=qZ n (yQ F f (j+1)):=by
     rw[zD1];exact qY fun t _=>by
      unfold yQ;by_cases h2:t=j
      ·subst h2
       rw[if_pos rfl,if_pos oM,HF.out]
      rw[if_neg h2];by_cases h1:t<j
      ·rw[if_pos h1,if_pos oM]
      rw[if_neg h1,if_neg oM]
    rw[hq]at hset;refine⟨j+1,oM,by simp,hO.trans ⟨yJ (yJ (zA _ _) (zE _) _ _) (zE _) _ _,hset.2,fun i _ hi=>yO _ _ _ _ _ _ _ (by simpa using hi)⟩,(yO _ _ _ _ _ _ _ oM).trans bx,hk.ext hset.2,hw.old (yO _ _ _ _ _ _ _ (qD hne)) hset.2,hset.1⟩
   case measure=>exact meq
  obtain rfl:j=n:=oM;have hq:qZ j (yQ F f j)=qZ j F:=qY fun t ht=>by unfold yQ;rw[if_pos ht]
  rw[hq]at hv;go_wp2;exact bodyPost_end (results_none rfl _ _ _) rfl ⟨⟨_,rfl⟩,hO,hv⟩
abbrev zRk:=zGt 211 (.inl rfl)
abbrev zKd:=zGt 163 (.inr rfl)
theorem qC.only(h:qC w base A C bs M)(ho:zB0 S w w')(hd:∀b∈bs,b ∉ S)(hr:∀g∈S,∃r,jJ w g r):qC w' base A C bs M:=by
 refine⟨⟨h.own.1,?_⟩,h.len,fun k b r h1 h2=>by
  obtain⟨e1,e2,e3⟩:=h.row k b r h1 h2;exact⟨e1,e2,e3.only ho (hd b (xgd h1))⟩,h.nodup,h.cb⟩
 rcases h.own.2 with h1|⟨g,cap,cur,e1,e2,e3,e4⟩
 exact .inl h1;refine .inr ⟨g,cap,cur,e1,e2,?_,e4⟩;refine(ho.old g (Array.getElem?_eq_some_iff.1 e3).1 ?_).trans e3;intro hg;obtain⟨r,hr⟩:=hr g hg;have:=zG2 h.own hr;rw[e1]at this;exact this rfl
theorem qC.setRow(h:qC w base A C bs M)(hb:bs[i]?=some b)(ho:zB0 [b] w w')(hr:jJ w' b r)(hl:r.length=C):
  qC w' base A C bs (M.set i r):=by
 have hib:=(xge.1 hb).1;have hiM:i<M.length:=by rw[h.len];exact hib
 obtain⟨r1,r2,r3⟩:=h.row i b M[i] hb (xga hiM);refine⟨⟨h.own.1,?_⟩,by simp[h.len],?_,h.nodup,h.cb⟩
 ·rcases h.own.2 with h1|⟨g,cap,cur,e1,e2,e3,e4⟩
  ·exact .inl h1
  refine .inr ⟨g,cap,cur,e1,e2,?_,e4⟩;refine(ho.old g (Array.getElem?_eq_some_iff.1 e3).1 ?_).trans e3;intro hg;have:=zG2 h.own r3;rw[e1]at this;simp at hg;exact this (by rw[hg];rfl)
 intro k b' r' hk hr';by_cases e:k=i
 ·subst e
  rw[hb]at hk;injection hk with hk
  subst hk;rw[List.getElem?_set_self hiM]at hr';injection hr' with hr'
  subst hr';exact⟨r1,hl,hr⟩
 rw[List.getElem?_set_ne (qD e)]at hr';obtain⟨f1,f2,f3⟩:=h.row k b' r' hk hr';have hkb:=(xge.1 hk).1;have hne:b'≠b:=by
  intro hh;subst hh;have h1:=(xge.1 hk).2;have h2:=(xge.1 hb).2;exact e ((yZ h.nodup).1 (h1.trans h2.symm))
 exact⟨f1,f2,f3.only ho (by simpa using hne)⟩
def zCm(F:Nat->Nat->Int)(i j:Nat)(k:Int):Nat->Nat->Int:=fun a b=>if a=i then F i b+k*F j b else F a b
theorem zK8{k:Int}(hi:i<R):(genM R C F).set i (qZ C (fun t=>F i t+k*F j t))=genM R C (zCm F i j k):=by
 apply qT;simp[genM];intro a h1 h2;by_cases e:a=i
 ·subst e
  rw[zBB];simp[genM,qZ,zCm]
 have e3:i≠a:=fun h=>e h.symm
 rw[zBV e3];simp[genM,zCm,e]
theorem qC.rowAt(h:qC w base A C bs (genM R C F))(hi:i<R):∃b,bs[i]?=some b/\jJ w b (qZ C (F i)):=by
 have hl:bs.length=R:=by rw[<-h.len];simp[genM]
 refine⟨bs[i],xga oM,?_⟩;exact(h.row i bs[i] (qZ C (F i)) (xga oM) (zDF R C F hi)).2.2
theorem zNj(h:qC w base A C bs (genM R C F))(hi:i<R)(hj:j<R)(hij:i≠j)(hbi:bs[i]?=some bi)(hbj:bs[j]?=some bj)(kv:Value)(k:Int)
  (hk:jY w kv k) (hC:C<=1000000) (hS:∀t,t<C->Sm (F i t)/\Sm (F j t)/\Sm (k*F j t)) (hks:Sm k):
  CPq 211 #[slq bi C C,slq bj C C,kv] w fun e w'=>(∃u,e= .returned u)/\zB0 [bi] w w'/\qC w' base A C bs (genM R C (zCm F i j k)):=by
 obtain⟨b1,e1,r1⟩:=h.rowAt hi;obtain⟨b2,e2,r2⟩:=h.rowAt hj;obtain rfl:b1=bi:=zW (e1.symm.trans hbi);obtain rfl:b2=bj:=zW (e2.symm.trans hbj);have hne:b1≠b2:=by
  intro hh;subst hh;obtain⟨f1,f2⟩:=xge.1 e1;obtain⟨g1,g2⟩:=xge.1 e2;exact hij ((yZ h.nodup).1 (f2.trans g2.symm))
 refine(zRk b1 b2 C C C (F i) (F j) kv k w r1 r2 hne hk hC (xgf _) oM (xgf _) oM hS hks).mono ?_;rintro e w' ⟨hu,ho,hr⟩;refine⟨hu,ho,?_⟩;rw[<-zK8 hi];exact h.setRow e1 ho hr (qA _ _)
def Wri(w:World)(A:Value)(R C:Nat)(bs:List Nat)(F:Nat->Nat->Int):Prop:=qC w 0 A C bs (genM R C F)
theorem Wri.below(h:Wri w A R C bs F)(hb:BWq w w'):Wri w' A R C bs F:=qC.below h hb
theorem Wri.len(h:Wri w A R C bs F):bs.length=R:=by rw[<-qC.len h];simp[genM]
theorem Wri.blk(h:Wri w A R C bs F)(hb:b∈bs):∃r,jJ w b r:=by
 obtain⟨k,hk,e⟩:=qW hb;have hl:=h.len;obtain⟨b',e1,e2⟩:=qC.rowAt h (i:=k) oM;rw[xga hk,e]at e1;injection e1 with e1
 subst e1;exact⟨_,e2⟩
theorem Wri.only(h:Wri w A R C bs F)(ho:zB0 [b] w w')(hn:b ∉ bs)(hr:jJ w b r):Wri w' A R C bs F:=
 qC.only h ho (fun x hx=>by
  intro hh;simp at hh;subst hh;exact hn hx) (fun g hg=>by
  simp at hg;subst hg;exact⟨_,hr⟩)
def Far(xs ys:List Nat):Prop:=∀b,b∈xs->b ∉ ys
structure zFo(w:World)(As At Ai:Value)(n Cs Ct:Nat)(bss bst bsi:List Nat)(S T I:Nat->Nat->Int):Prop where
 s:Wri w As n Cs bss S
 t:Wri w At n Ct bst T
 i:Wri w Ai n Ct bsi I
 st:Far bss bst
 si:Far bss bsi
 ti:Far bst bsi
 ast:∀g,As.ownBlock=some g->At.ownBlock≠some g
 asi:∀g,As.ownBlock=some g->Ai.ownBlock≠some g
 ati:∀g,At.ownBlock=some g->Ai.ownBlock≠some g
abbrev tRR:TypeId:=30
theorem Tryz.infoRR:(Tryz.prog.info? tRR).map (fun i=>(i.zero,i.size,i.bytes))=some (some (.slice none 0 0),1,24):=by kernel_rfl
theorem zCP(t:TypeId)(n:Nat)(cs:Array Value)(k:Int)(j:Nat)(v:Value)(W:World)(h:Tryz.prog.underlying t=some (.array n tRR))(hk:k=(j:Int))(hj:j<n)(hv:cs[j]?=some v):
  (Instr.index t (.agg cs) (niq k)).run Tryz.prog W= .ok v W:=by
 subst hk;obtain⟨i0,hi,hz0,hz1,hz2⟩:=info_parts Tryz.infoRR;have hc:(0:Int)<=(j:Int)/\(j:Int)<(n:Int):=oM;have hu:=zAx;simp[Instr.index,run_underlying h,asIntOf,hc,part,isAgg,run_underlying hu,sizeOf,typeInfo,hi,hz1,hv,go_sem];intro h0;omega
def zMC(C:Nat)(F:Nat->Nat->Int)(i j:Nat)(k:Int):Prop:=∀t,t<C->Sm (F i t)/\Sm (F j t)/\Sm (k*F j t)
theorem zMI(As At Ai:Value)(n Cs Ct i j:Nat)(bss bst bsi:List Nat)(S T I:Nat->Nat->Int)(kv:Value)(k:Int)(w:World)(h:zFo w As At Ai n Cs Ct bss bst bsi S T I)(hi:i<n)(hj:j<n)(hij:i≠j)(hk:jY w kv k)
  (hn:n<=1000000) (hCs:Cs<=1000000) (hCt:Ct<=1000000) (hS:zMC Cs S i j k) (hT:zMC Ct T i j k) (hI:zMC Ct I j i (-k)) (hks:Sm k):
  CPq 200 #[.agg #[As,At,Ai],niq i,niq j,kv] w fun e w'=>(∃u,e= .returned u)/\Below 0 w w'/\zBw w w'/\(∀b,b<w.heap.size->b ∉ bss->b ∉ bst->b ∉ bsi->w'.heap[b]?=w.heap[b]?)∧
   zFo w' As At Ai n Cs Ct bss bst bsi (zCm S i j k) (zCm T i j k) (zCm I j i (-k)):=by
 obtain⟨so,sn,sc,rfl,s1,s2,s3,-⟩:=id (qC.rows h.s);obtain⟨uo,tn,tc,rfl,t1,t2,t3,-⟩:=id (qC.rows h.t);obtain⟨io,in_,ic,rfl,i1,i2,i3,-⟩:=id (qC.rows h.i);obtain⟨kn,ka,kl,kc,kx,rfl,hkx⟩:=id hk;have HKX:=xgw hkx;have HS:=xgv hS;have HT:=xgv hT;have HI:=xgv hI;have HK:=xgv hks;clear hkx hS hT hI hks;obtain⟨hs,ht,hi_,fst_,fsi,fti,gst,gsi,gti⟩:=h;have GST:=xgv gst;have GSI:=xgv gsi;have GTI:=xgv gti;clear gst gsi gti;have e1:n=sn:=by rw[<-s1];simp[genM]
 have e2:n=tn:=by rw[<-t1];simp[genM]
 have e3:n=in_:=by rw[<-i1];simp[genM]
 subst e1;subst e2;subst e3;clear s1 t1 i1;have hltbss:∀b∈bss,b<w.heap.size:=fun b hb=>(hs.blk hb).elim fun r hr=>hr.lt
 have hltbst:∀b∈bst,b<w.heap.size:=fun b hb=>(ht.blk hb).elim fun r hr=>hr.lt
 have hltbsi:∀b∈bsi,b<w.heap.size:=fun b hb=>(hi_.blk hb).elim fun r hr=>hr.lt
 go_enter Tryz.func200,Tryz.ntmps200;go_upto_region 1 with(fail)
 refine zD ?_;intro W0 hW0;obtain⟨hB0,bx,bk,hs0⟩:=zAj hW0;have c1:=bx.three;have hs:=hs.below hB0;have ht:=ht.below hB0;have hi_:=hi_.below hB0;have hk:=hk.ext (lx hB0);clear hW0;go_wp2;clear c1;go_loopw [15] (fun mv wr=>∃m:Nat,m<=2/\mv=niq m/\Below 0 w wr/\zBw w wr/\(∀b,b<w.heap.size->b ∉ bss->b ∉ bst->b ∉ bsi->wr.heap[b]?=w.heap[b]?)/\Blk wr w.heap.size 176 #[.slice so n sc,.slice uo n tc,.slice io n ic]∧
  Blk wr (w.heap.size+1) 43 #[.bool kn,.slice ka kl kc]/\jY wr (.agg #[.bool kn,.slice ka kl kc]) k/\Wri wr (.slice so n sc) n Cs bss (if m=0 then S else zCm S i j k)/\Wri wr (.slice uo n tc) n Ct bst (if m=2 then zCm T i j k else T)/\Wri wr (.slice io n ic) n Ct bsi I) (fun mv _=>2-(intOf mv).toNat)
 case atStart=>exact⟨0,oM,rfl,hB0.mono (zE _),lx hB0,fun b hb _ _ _=>hB0.block b hb,bx,bk,hk,hs,ht,hi_⟩
 obtain⟨m,hm,rfl,hb0,hx0,hold,bx,bk,hk,hs,ht,hi_⟩:=hrel;have lk:=bk.lt;have d1:=bk.two;by_cases hm0:m=0
 ·subst hm0
  rw[if_pos rfl]at hs;rw[if_neg oM]at ht;obtain⟨g,bi,rfl,hg,hbi,hbi2,o1,-⟩:=qC.at_ hs (i:=i) (by rw[hs.len];exact hi);obtain⟨g',bj,eg,hg',hbj,hbj2,o2,-⟩:=qC.at_ hs (i:=j) (by rw[hs.len];exact hj);obtain rfl:g=g':=by injection eg with eg;injection eg
  have hmi:=xgd hbi;obtain⟨ri,hri⟩:=hs.blk hmi;have hix:=fun W=>zCP 209 2 #[slq g n sc,.slice uo n tc] 0 0 _ W Tryz.underlying209 rfl oM rfl
  go_upto_region 4 with(fail)
  refine yP 9 [] ?_;refine sRd ?_;refine sRf ?_;intro w8 hbw8;have hlw8:=lx hbw8;have holdw8:=hbw8.block;have hs8:=hs.below hbw8;go_wp2_with fail
  refine(zNj hs8 hi hj hij hbi hbj _ k (hk.ext (lx hbw8)) hCs HS.out HK.out).mono ?_;rintro e w9 ⟨⟨u,rfl⟩,ho,hs9⟩;go_wp2;go_roundw
  case measure=>simp[intOf]
  have hsz:=hb0.size;have hbs2:w.heap.size≠bi:=by have:=hltbss bi hmi;omega
  have hbs3:w.heap.size+1≠bi:=by have:=hltbss bi hmi;omega
  have hri8:=hri.below hbw8;have hoo:=(zB0.of [bi] hbw8).trans ho;refine⟨1,oM,by simp,hb0.trans hoo.bel,hx0.trans hoo.lext,fun b hb n1 n2 n3=>(hoo.old b oM (by simp;rintro rfl;exact n1 hmi)).trans (hold b hb n1 n2 n3),(hoo.old _ bx.lt (by simpa using hbs2)).trans bx,(hoo.old _ bk.lt (by simpa using hbs3)).trans bk,hk.ext hoo.lext,?_,?_,?_⟩;rw[if_neg oM];exact hs9;rw[if_neg oM];exact(ht.below hbw8).only ho (fun hh=>fst_ _ hmi hh) hri8;exact(hi_.below hbw8).only ho (fun hh=>fsi _ hmi hh) hri8
 by_cases hm1:m=1
 ·subst hm1
  rw[if_neg oM]at hs ht;obtain⟨g,bi,rfl,hg,hbi,hbi2,o1,-⟩:=qC.at_ ht (i:=i) (by rw[ht.len];exact hi);obtain⟨g',bj,eg,hg',hbj,hbj2,o2,-⟩:=qC.at_ ht (i:=j) (by rw[ht.len];exact hj);obtain rfl:g=g':=by injection eg with eg;injection eg
  have hmi:=xgd hbi;obtain⟨ri,hri⟩:=ht.blk hmi;have hix:=fun W=>zCP 209 2 #[.slice so n sc,slq g n tc] 1 1 _ W Tryz.underlying209 rfl oM rfl
  go_upto_region 4 with(fail)
  refine yP 9 [] ?_;refine sRd ?_;refine sRf ?_;intro w8 hbw8;have hlw8:=lx hbw8;have holdw8:=hbw8.block;have hs8:=ht.below hbw8;go_wp2_with fail
  refine(zNj hs8 hi hj hij hbi hbj _ k (hk.ext (lx hbw8)) hCt HT.out HK.out).mono ?_;rintro e w9 ⟨⟨u,rfl⟩,ho,hs9⟩;go_wp2;go_roundw
  case measure=>simp[intOf]
  have hsz:=hb0.size;have hbs2:w.heap.size≠bi:=by have:=hltbst bi hmi;omega
  have hbs3:w.heap.size+1≠bi:=by have:=hltbst bi hmi;omega
  have hri8:=hri.below hbw8;have hoo:=(zB0.of [bi] hbw8).trans ho;refine⟨2,oM,by simp,hb0.trans hoo.bel,hx0.trans hoo.lext,fun b hb n1 n2 n3=>(hoo.old b oM (by simp;rintro rfl;exact n2 hmi)).trans (hold b hb n1 n2 n3),(hoo.old _ bx.lt (by simpa using hbs2)).trans bx,(hoo.old _ bk.lt (by simpa using hbs3)).trans bk,hk.ext hoo.lext,?_,?_,?_⟩;rw[if_neg oM];exact(hs.below hbw8).only ho (fun hh=>fst_ _ hh hmi) hri8;rw[if_pos rfl];exact hs9;exact(hi_.below hbw8).only ho (fun hh=>fti _ hmi hh) hri8
 obtain rfl:m=2:=oM;rw[if_neg oM]at hs;rw[if_pos rfl]at ht;obtain⟨g,bi,rfl,hg,hbi,hbi2,o1,-⟩:=qC.at_ hi_ (i:=i) (by rw[hi_.len];exact hi);obtain⟨g',bj,eg,hg',hbj,hbj2,o2,-⟩:=qC.at_ hi_ (i:=j) (by rw[hi_.len];exact hj);obtain rfl:g=g':=by injection eg with eg;injection eg
 have hmj:=xgd hbj;obtain⟨rj,hrj⟩:=hi_.blk hmj;have c1:=bx.three;have lx0:=bx.lt;have hKn:jZ (Sm (-k)):=⟨HK.out.mono (by rw[zR];exact xgf _)⟩;go_upto_region 6 with(fail)
 refine yP 12 [pcI 11 (-k)] ?_;refine sRd ?_;refine sRc (fun wS hI Gk hG=>by go_simp;exact ck hG (zBY _ k _ (hk.ext hI.lext).weak HK.out)) (fun vc11 _=>?_);refine sRe ?_;intro w8 hbw8 hc11;have hlw8:=lx hbw8;have holdw8:=hbw8.block;have hs8:=hi_.below hbw8;go_wp2_with fail
 refine(zNj hs8 hj hi (qD hij) hbj hbi _ (-k) hc11 hCt HI.out hKn.out).mono ?_;rintro e w9 ⟨⟨u,rfl⟩,ho,hs9⟩;have hsz:=hb0.size;have hrj8:=hrj.below hbw8;have hoo:=(zB0.of [bj] hbw8).trans ho;go_wp2;refine bodyPost_end (results_none rfl _ _ _) rfl ⟨⟨_,rfl⟩,hb0.trans hoo.bel,hx0.trans hoo.lext,fun b hb n1 n2 n3=>(hoo.old b oM (by simp;rintro rfl;exact n3 hmj)).trans (hold b hb n1 n2 n3),?_,?_,hs9,fst_,fsi,fti,GST.out,GSI.out,GTI.out⟩;exact(hs.below hbw8).only ho (fun hh=>fsi _ hh hmj) hrj8;exact(ht.below hbw8).only ho (fun hh=>fti _ hh hmj) hrj8
def swp(i j:Nat)(k:Nat):Nat:=if k=i then j else if k=j then i else k
theorem zT3(i j k:Nat):swp i j (swp i j k)=k:=by
 unfold swp;by_cases h1:k=i
 ·rw[if_pos h1]
  by_cases h2:j=i
  ·rw[if_pos h2];omega
  rw[if_neg h2,if_pos rfl];omega
 rw[if_neg h1];by_cases h2:k=j
 ·rw[if_pos h2,if_pos rfl];omega
 rw[if_neg h2,if_neg h1,if_neg h2]
theorem zGS{α:Type}{l:List α}{x y:α}(hx:l[i]?=some x)(hy:l[j]?=some y)(k:Nat):((l.set i y).set j x)[k]?=l[swp i j k]?:=by
 have hi:=(xge.1 hx).1;have hj:=(xge.1 hy).1;unfold swp;by_cases h2:k=j
 ·subst h2
  rw[List.getElem?_set_self (by simpa using hj)];by_cases h1:k=i
  ·subst h1
   rw[if_pos rfl];exact hx.symm
  rw[if_neg h1,if_pos rfl];exact hx.symm
 rw[List.getElem?_set_ne (qD h2)];by_cases h1:k=i
 ·subst h1
  rw[List.getElem?_set_self hi,if_pos rfl];exact hy.symm
 rw[List.getElem?_set_ne (qD h1),if_neg h1,if_neg h2]
theorem zQs{α:Type}{l:List α}{x y:α}(hn:l.Nodup)(hx:l[i]?=some x)(hy:l[j]?=some y):((l.set i y).set j x).Nodup:=by
 show List.Pairwise _ _;rw[List.pairwise_iff_getElem];intro a b ha hb hab he0;have he:((l.set i y).set j x)[a]?=((l.set i y).set j x)[b]?:=by rw[xga ha,xga hb,he0]
 rw[zGS hx hy,zGS hx hy]at he;have hi:=(xge.1 hx).1;have hj:=(xge.1 hy).1;have hlen:((l.set i y).set j x).length=l.length:=by simp
 rw[hlen]at hb ha;have hbnd:∀k,k<l.length->swp i j k<l.length:=by
  intro k hk;unfold swp;split;exact hj;split;exact hi;exact hk
 have h1:=hbnd a oM;have h2:=hbnd b hb;rw[xga h1,xga h2]at he;injection he with he
 have h3:=(yZ hn).1 he;have h4:=congrArg (swp i j) h3;rw[zT3,zT3]at h4;omega
theorem qC.swap(h:qC w base (slq g n cap) C bs M){ri rj:List Int}(hi:bs[i]?=some bi)(hj:bs[j]?=some bj)(hri:M[i]?=some ri)(hrj:M[j]?=some rj):
  qC ((w.setCell ⟨g,i,none⟩ (slq bj C C)).setCell ⟨g,j,none⟩ (slq bi C C)) base (slq g n cap) C ((bs.set i bj).set j bi) ((M.set i rj).set j ri)∧
   zBw w ((w.setCell ⟨g,i,none⟩ (slq bj C C)).setCell ⟨g,j,none⟩ (slq bi C C)):=by
 have hib:=(xge.1 hi).1;have hjb:=(xge.1 hj).1;rcases h.own.2 with⟨e,h0⟩|⟨g',cap',cur,e,e2,e3,e4,e5,e6,e7⟩
 omega;injection e with e8 e9 e10
 injection e8 with e8
 injection e8 with e8
 subst e8;subst e9;subst e10;have hB:Blk w g tR cur:=e3;have hx:zBw w ((w.setCell ⟨g,i,none⟩ (slq bj C C)).setCell ⟨g,j,none⟩ (slq bi C C)):=(hB.lext dE _ _).trans ((hB.set_ _ _).lext dE _ _);refine⟨⟨⟨by simp[zBP],.inr ⟨g,cap,_,by simp,e2,(hB.set_ _ _).set_ _ _,by simpa using e4,e5,by simpa using e6,?_⟩⟩,by simp[h.len],?_,zQs h.nodup hi hj,h.cb⟩,hx⟩
 ·rw[zA4,zA4]
  simp only[List.length_set];rw[List.take_set,List.take_set,e7];simp[zBP,List.map_set]
 intro k b r hk hr;rw[zGS hi hj]at hk;rw[zGS hri hrj]at hr;obtain⟨f1,f2,f3⟩:=h.row _ b r hk hr;refine⟨f1,f2,f3.old (yO w g _ _ b _ _ ?_) hx⟩;intro hh;have:=zG2 h.own f3;exact this (by rw[hh];rfl)
theorem zSN{C:Nat}{F:Nat->Nat->Int}(hi:i<R)(hj:j<R):
  ((genM R C F).set i (qZ C (F j))).set j (qZ C (F i))=genM R C (fun a b=>F (swp i j a) b):=by
 apply List.ext_getElem?;intro k;have e1:(genM R C F)[i]?=some (qZ C (F i)):=zDF R C F hi;have e2:(genM R C F)[j]?=some (qZ C (F j)):=zDF R C F hj;rw[zGS e1 e2];rcases zG k R with h|h
 ·have h2:swp i j k<R:=by
   unfold swp;split;exact hj;split;exact hi;exact h
  rw[zDF R C F h2,zDF R C _ h]
 have h2:swp i j k=k:=by
  unfold swp;rw[if_neg oM,if_neg oM]
 rw[h2,List.getElem?_eq_none (by simp[genM];exact h),List.getElem?_eq_none (by simp[genM];exact h)]
def zUQ(bs:List Nat)(i j:Nat):List Nat:=(bs.set i (bs.getD j 0)).set j (bs.getD i 0)
theorem zEN(hi:i<bs.length)(hj:j<bs.length)(h:b∈zUQ bs i j):b∈bs:=by
 have e1:bs[i]?=some bs[i]:=xga hi;have e2:bs[j]?=some bs[j]:=xga hj;unfold zUQ at h;rw[zBz e1,zBz e2]at h;obtain⟨k,hk,e⟩:=qW h;have h3:((bs.set i bs[j]).set j bs[i])[k]?=some b:=by rw[xga hk,e]
 rw[zGS e1 e2]at h3;exact xgd h3
theorem Wri.swap(h:Wri w (slq g n cap) R C bs F)(hi:i<R)(hj:j<R)(hbi:bs[i]?=some bi)(hbj:bs[j]?=some bj):
  Wri ((w.setCell ⟨g,i,none⟩ (slq bj C C)).setCell ⟨g,j,none⟩ (slq bi C C)) (slq g n cap) R C (zUQ bs i j) (fun a b=>F (swp i j a) b)∧
   zBw w ((w.setCell ⟨g,i,none⟩ (slq bj C C)).setCell ⟨g,j,none⟩ (slq bi C C)):=by
 have hs:=qC.swap h hbi hbj (zDF R C F hi) (zDF R C F hj);refine⟨?_,hs.2⟩;unfold Wri zUQ;rw[zBz hbi,zBz hbj,<-zSN hi hj];exact hs.1
def zHy(F:Nat->Nat->Int)(i j:Nat):Nat->Nat->Int:=fun a b=>F (swp i j a) b
def zDV(F:Nat->Nat->Int)(i:Nat):Nat->Nat->Int:=fun a b=>if a=i then-(F a b)else F a b
def trF(F:Nat->Nat->Int):Nat->Nat->Int:=fun a b=>F b a
def jE(F:Nat->Nat->Int)(i j:Nat)(m0 m1 m2 m3:Int):Nat->Nat->Int:=fun a b=>if a=i then m0*F i b+m1*F j b else if a=j then m2*F i b+m3*F j b else F a b
structure Bst where
 s:Nat->Nat->Int
 t:Nat->Nat->Int
 i:Nat->Nat->Int
def Bst.add(x:Bst)(i j:Nat)(k:Int):Bst:=⟨zCm x.s i j k,zCm x.t i j k,zCm x.i j i (-k)⟩
def Bst.swap(x:Bst)(i j:Nat):Bst:=⟨zHy x.s i j,zHy x.t i j,zHy x.i i j⟩
def Bst.neg(x:Bst)(i:Nat):Bst:=⟨zDV x.s i,zDV x.t i,zDV x.i i⟩
def okF(B R C:Nat)(F:Nat->Nat->Int):Prop:=∀a,a<R->∀b,b<C->(F a b).natAbs<B
instance (B R C:Nat) (F:Nat->Nat->Int):Decidable (okF B R C F):=by unfold okF;infer_instance
def okB(B n Cs Ct:Nat)(x:Bst):Prop:=okF B n Cs x.s/\okF B n Ct x.t/\okF B n Ct x.i
instance (B n Cs Ct:Nat) (x:Bst):Decidable (okB B n Cs Ct x):=by unfold okB;infer_instance
def zFd(B n Cs Ct:Nat)(x:Bst)(i j:Nat)(k:Int):Prop:=
 k.natAbs<B/\(∀t,t<Cs->(k*x.s j t).natAbs<B)/\(∀t,t<Ct->(k*x.t j t).natAbs<B/\(k*x.i i t).natAbs<B)/\okB B n Cs Ct (x.add i j k)
instance (B n Cs Ct:Nat) (x:Bst) (i j:Nat) (k:Int):Decidable (zFd B n Cs Ct x i j k):=by unfold zFd;infer_instance
def lead(C:Nat)(F:Nat->Nat->Int)(i:Nat):Int:=zCL 0 (qZ C (F i))
def adv(L:Nat->Int)(c:Int):Nat->Nat->Nat
 |0,k=>k
 |m+1,k=>if L k<c then adv L c m (k+1)else k
def zWX(k:Nat):Nat->Bst->Bst
 |0,x=>x
 |m+1,x=>zWX k m (x.swap (k+m+1) (k+m))
def zBy(B n Cs Ct m rank:Nat):Nat->Nat->Bst->Option (Bst × Bool)
 |0,_,_=>none
 | f +1,k,x=>
  if lead Cs x.s m<0 then some (x,false)
  else if adv (lead Cs x.s) (lead Cs x.s m) (rank-k) k<rank/\lead Cs x.s (adv (lead Cs x.s) (lead Cs x.s m) (rank-k) k)=lead Cs x.s m then
   if zFd B n Cs Ct x m (adv (lead Cs x.s) (lead Cs x.s m) (rank-k) k) (-(x.s m (lead Cs x.s m).toNat/x.s (adv (lead Cs x.s) (lead Cs x.s m) (rank-k) k) (lead Cs x.s m).toNat))then
    zBy B n Cs Ct m rank f (adv (lead Cs x.s) (lead Cs x.s m) (rank-k) k)
     (if x.s m (lead Cs x.s m).toNat%x.s (adv (lead Cs x.s) (lead Cs x.s m) (rank-k) k) (lead Cs x.s m).toNat=0 then x.add m (adv (lead Cs x.s) (lead Cs x.s m) (rank-k) k) (-(x.s m (lead Cs x.s m).toNat/x.s (adv (lead Cs x.s) (lead Cs x.s m) (rank-k) k) (lead Cs x.s m).toNat))
      else(x.add m (adv (lead Cs x.s) (lead Cs x.s m) (rank-k) k) (-(x.s m (lead Cs x.s m).toNat/x.s (adv (lead Cs x.s) (lead Cs x.s m) (rank-k) k) (lead Cs x.s m).toNat))).swap m (adv (lead Cs x.s) (lead Cs x.s m) (rank-k) k))
   else none
  else some (zWX (adv (lead Cs x.s) (lead Cs x.s m) (rank-k) k) (rank-adv (lead Cs x.s) (lead Cs x.s m) (rank-k) k) ((if x.s m (lead Cs x.s m).toNat<0 then x.neg m else x).swap m rank),true)
def zVU(B n Cs Ct:Nat)(cols:Nat->Int)(i:Nat):Nat->Nat->Bst->Option Bst
 |0,_,x=>some x
 |m+1,j,x=>
  if cols j<0 then none
  else if x.s i (cols j).toNat=0 then zVU B n Cs Ct cols i m (j+1) x
  else if x.s j (cols j).toNat=0 then none
  else if x.s i (cols j).toNat/x.s j (cols j).toNat=0 then zVU B n Cs Ct cols i m (j+1) x
  else if zFd B n Cs Ct x i j (-(x.s i (cols j).toNat/x.s j (cols j).toNat))then zVU B n Cs Ct cols i m (j+1) (x.add i j (-(x.s i (cols j).toNat/x.s j (cols j).toNat)))
  else none
def zXy(B n Cs Ct:Nat)(cols:Nat->Int)(rank:Nat):Nat->Bst->Option Bst
 |0,x=>some x
 |i+1,x=>(zVU B n Cs Ct cols i (rank-(i+1)) (i+1) x).bind (zXy B n Cs Ct cols rank i)
def zJs(B n Cs Ct rank:Nat)(x:Bst):Option Bst:=zXy B n Cs Ct (lead Cs x.s) rank rank x
def zQH(B n Cs Ct f:Nat):Nat->Nat->Nat->Bst->Option Bst
 |0,_,_,x=>some x
 |l+1,m,rank,x=>
  (zBy B n Cs Ct m rank f 0 x).bind fun r=>(zJs B n Cs Ct (if r.2 then rank+1 else rank) r.1).bind fun y=>zQH B n Cs Ct f l (m+1) (if r.2 then rank+1 else rank) y
def zZD(B n Cs Ct f:Nat)(x:Bst):Option Bst:=zQH B n Cs Ct f n 0 0 x
structure W5 where
 s:Nat->Nat->Int
 u:Nat->Nat->Int
 v:Nat->Nat->Int
 w:Nat->Nat->Int
 x:Nat->Nat->Int
def zPg(B R C Cu Cw f:Nat)(z:W5):Option W5:=
 (zZD B R C Cu f ⟨z.s,z.u,z.v⟩).bind fun a=>(zZD B C R Cw f ⟨trF a.s,z.w,z.x⟩).bind fun b=>some ⟨trF b.s,a.t,a.i,b.t,b.i⟩
def zGl(R C:Nat)(F:Nat->Nat->Int):Prop:=∀a,a<R->∀b,b<C->a≠b->F a b=0
instance (R C:Nat) (F:Nat->Nat->Int):Decidable (zGl R C F):=by unfold zGl;infer_instance
def zIO(B R C Cu Cw f:Nat):Nat->W5->Option W5
 |0,_=>none
 |r+1,z=>(zPg B R C Cu Cw f z).bind fun y=>if zGl R C y.s then some y else zIO B R C Cu Cw f r y
def zIr(F:Nat->Nat->Int)(i j:Nat):Nat->Nat->Int:=fun a b=>if a=j/\b=j then F i i*(F j j/((Int.gcd (F i i) (F j j):Nat):Int))else if a=i/\b=i then((Int.gcd (F i i) (F j j):Nat):Int)else F a b
def zZC(z:W5)(i j:Nat)(s t:Int):W5:=
 ⟨zIr z.s i j,jE z.u i j s t (-(z.s j j/((Int.gcd (z.s i i) (z.s j j):Nat):Int))) (z.s i i/((Int.gcd (z.s i i) (z.s j j):Nat):Int)),
  jE z.v i j (z.s i i/((Int.gcd (z.s i i) (z.s j j):Nat):Int)) (z.s j j/((Int.gcd (z.s i i) (z.s j j):Nat):Int)) (-t) s,
  jE z.w i j 1 1 (-(t*(z.s j j/((Int.gcd (z.s i i) (z.s j j):Nat):Int)))) (1-t*(z.s j j/((Int.gcd (z.s i i) (z.s j j):Nat):Int))),
  jE z.x i j (1-t*(z.s j j/((Int.gcd (z.s i i) (z.s j j):Nat):Int))) (t*(z.s j j/((Int.gcd (z.s i i) (z.s j j):Nat):Int))) (-1) 1⟩
def Bez(x y s t:Int):Prop:=s*x+t*y=((Int.gcd x y:Nat):Int)/\s.natAbs<=max 1 y.natAbs/\t.natAbs<=max 1 x.natAbs
inductive zNc (n:Nat):W5->W5->Prop
 |refl (z:W5):zNc n z z
 |step (z y:W5) (i j:Nat) (s t:Int):zNc n z y->i<j->j<n->¬ y.s i i∣y.s j j->Bez (y.s i i) (y.s j j) s t->zNc n z (zZC y i j s t)
def divJ(i:Nat):Nat->Nat->(Nat->Nat->Int)->(Nat->Nat->Int)
 |0,_,F=>F
 |m+1,j,F=>divJ i m (j+1) (if F i i∣F j j then F else zIr F i j)
def divI:Nat->Nat->(Nat->Nat->Int)->(Nat->Nat->Int)
 |0,_,F=>F
 |m+1,i,F=>divI m (i+1) (divJ i m (i+1) F)
example:(zIO 1000000 2 1 2 1 20 5 ⟨fun a _=>if a=0 then 4 else 6,fun a b=>if a=b then 1 else 0,fun a b=>if a=b then 1 else 0,fun _ _=>1,fun _ _=>1⟩).map (fun z=>(z.s 0 0,z.s 1 0,z.u 0 0,z.u 0 1,z.u 1 0,z.u 1 1))=some (2,0,-1,1,3,-2):=by decide
structure qJ(Z:Nat->Prop)(w w':World):Prop where
 bel:Below 0 w w'
 lext:zBw w w'
 old:∀k,k<w.heap.size->¬ Z k->w'.heap[k]?=w.heap[k]?
theorem qJ.refl(Z:Nat->Prop)(w:World):qJ Z w w:=⟨zA _ _,zBw.refl _,fun _ _ _=>rfl⟩
theorem qJ.of(Z:Nat->Prop)(h:BWq w w'):qJ Z w w':=⟨h.mono (zE _),lx h,fun k hk _=>h.block k hk⟩
theorem qJ.trans{b:World}(h:qJ Z a b)(k:qJ Z b c):qJ Z a c:=
 ⟨h.bel.trans k.bel,h.lext.trans k.lext,fun i hi hn=>(k.old i (zJ hi h.bel.size) hn).trans (h.old i hi hn)⟩
theorem qJ.mono{Z':Nat->Prop}(h:qJ Z w w')(hs:∀k,k<w.heap.size->Z k->Z' k):qJ Z' w w':=⟨h.bel,h.lext,fun k hk hn=>h.old k hk (fun hh=>hn (hs k hk hh))⟩
theorem qJ.blk{T:TypeId}{cs:Array Value}(h:qJ Z w w')(hb:Blk w b T cs)(hz:¬ Z b):Blk w' b T cs:=(h.old b hb.lt hz).trans hb
theorem qC.gone(h:qC w base A C bs M){cur:Array Value}(hg:Blk w g tR cur)(hx:zBw w w')(ho:∀k,k<w.heap.size->k≠g->w'.heap[k]?=w.heap[k]?)(hne:A.ownBlock≠some g):
  qC w' base A C bs M:=by
 refine⟨⟨h.own.1,?_⟩,h.len,fun k b r h1 h2=>by
  obtain⟨e1,e2,e3⟩:=h.row k b r h1 h2;refine⟨e1,e2,e3.old (ho b e3.lt ?_) hx⟩;rintro rfl;obtain⟨cs,q1,-⟩:=e3;have hg':w.heap[b]?=some (.cells cur tR (0,0)):=hg;rw[hg']at q1;injection q1 with q1
  injection q1 with _ ht
  exact absurd ht dE,h.nodup,h.cb⟩
 rcases h.own.2 with h1|⟨g',cap,cur',e1,e2,e3,e4⟩
 exact .inl h1;refine .inr ⟨g',cap,cur',e1,e2,?_,e4⟩;refine(ho g' (Array.getElem?_eq_some_iff.1 e3).1 ?_).trans e3;rintro rfl;rw[e1]at hne;exact hne rfl
theorem qC.gblk(h:qC w base (slq g n cap) C bs M):∃cur,Blk w g tR cur/\n<=cur.size:=by
 rcases h.own.2 with⟨e,h0⟩|⟨g',cap',cur,e,e2,e3,e4,e5,e6,e7⟩
 cases e;injection e with e8 e9 e10
 injection e8 with e8
 injection e8 with e8
 subst e8;subst e9;exact⟨cur,e3,oM⟩
theorem zMe(As At Ai:Value)(n Cs Ct i j:Nat)(bss bst bsi:List Nat)(S T I:Nat->Nat->Int)(w:World)(h:zFo w As At Ai n Cs Ct bss bst bsi S T I)(hi:i<n)(hj:j<n)(hn:n<=1000000):
  CPq 201 #[.agg #[As,At,Ai],niq i,niq j] w fun e w'=>(∃u,e= .returned u)/\qJ (fun b=>As.ownBlock=some b∨At.ownBlock=some b∨Ai.ownBlock=some b) w w'∧
   zFo w' As At Ai n Cs Ct (zUQ bss i j) (zUQ bst i j) (zUQ bsi i j) (zHy S i j) (zHy T i j) (zHy I i j):=by
 obtain⟨so,sn,sc,rfl,s1,s2,s3,-⟩:=id (qC.rows h.s);obtain⟨uo,tn,tc,rfl,t1,t2,t3,-⟩:=id (qC.rows h.t);obtain⟨io,in_,ic,rfl,i1,i2,i3,-⟩:=id (qC.rows h.i);have H0:=xgv h;obtain⟨hs,ht,hi_,-,-,-,gst,gsi,gti⟩:=h;have e1:n=sn:=by rw[<-s1];simp[genM]
 have e2:n=tn:=by rw[<-t1];simp[genM]
 have e3:n=in_:=by rw[<-i1];simp[genM]
 subst e1;subst e2;subst e3;clear s1 t1 i1;obtain⟨gs,rfl,-⟩:∃g,so=some ⟨g,0,none⟩/\True:=by
  obtain⟨g,b,e,-⟩:=qC.at_ hs (i:=i) (by rw[hs.len];exact hi);exact⟨g,e,trivial⟩
 obtain⟨gt,rfl,-⟩:∃g,uo=some ⟨g,0,none⟩/\True:=by
  obtain⟨g,b,e,-⟩:=qC.at_ ht (i:=i) (by rw[ht.len];exact hi);exact⟨g,e,trivial⟩
 obtain⟨gi,rfl,-⟩:∃g,io=some ⟨g,0,none⟩/\True:=by
  obtain⟨g,b,e,-⟩:=qC.at_ hi_ (i:=i) (by rw[hi_.len];exact hi);exact⟨g,e,trivial⟩
 have nst:gt≠gs:=fun hh=>gst gs rfl (by rw[<-hh];rfl)
 have nsi:gi≠gs:=fun hh=>gsi gs rfl (by rw[<-hh];rfl)
 have nti:gi≠gt:=fun hh=>gti gt rfl (by rw[<-hh];rfl)
 clear gst gsi gti;go_enter Tryz.func201,Tryz.ntmps201;go_upto_region 1 with(fail)
 refine zD ?_;intro W0 hW0;obtain⟨hB0,bx,hs0⟩:=qL hW0;have c1:=bx.three;have hs:=hs.below hB0;have ht:=ht.below hB0;have hi_:=hi_.below hB0;clear hW0;go_wp2;clear c1;go_loopw [15] (fun mv wr=>∃m:Nat,m<=3/\mv=niq m/\Below 0 w wr/\zBw w wr/\(∀b,b<w.heap.size->b≠gs->b≠gt->b≠gi->wr.heap[b]?=w.heap[b]?)∧
  Wri wr (slq gs n sc) n Cs (if m=0 then bss else zUQ bss i j) (if m=0 then S else zHy S i j)/\Wri wr (slq gt n tc) n Ct (if m<=1 then bst else zUQ bst i j) (if m<=1 then T else zHy T i j)/\Wri wr (slq gi n ic) n Ct (if m<=2 then bsi else zUQ bsi i j) (if m<=2 then I else zHy I i j)) (fun mv _=>3-(intOf mv).toNat)
 case atStart=>exact⟨0,oM,rfl,hB0.mono (zE _),lx hB0,fun b hb _ _ _=>hB0.block b hb,hs,ht,hi_⟩
 obtain⟨m,hm,rfl,hb0,hx0,hold,hs,ht,hi_⟩:=hrel;have hsz:=hb0.size;have HOLD:=xgv hold;clear hold;by_cases hm0:m=0
 ·subst hm0
  rw[if_pos rfl,if_pos rfl]at hs;rw[if_pos oM,if_pos oM]at ht hi_;obtain⟨g1,bi,eg1,hg,hbi,hbi2,o1,-⟩:=qC.at_ hs (i:=i) (by rw[hs.len];exact hi);obtain rfl:gs=g1:=by injection eg1 with eg1;injection eg1
  obtain⟨g2,bj,eg2,hg',hbj,hbj2,o2,-⟩:=qC.at_ hs (i:=j) (by rw[hs.len];exact hj);obtain rfl:gs=g2:=by injection eg2 with eg2;injection eg2
  clear eg1 eg2;obtain⟨cur,hBr,hcz⟩:=qC.gblk hs;have f1:=hBr.frozen i;have f2:=hBr.frozen j;have hix:=fun W=>zCP 210 3 #[slq gs n sc,slq gt n tc,slq gi n ic] 0 0 _ W zBF rfl oM rfl
  have s2:(wr.setCell ⟨gs,i,none⟩ (slq bj Cs Cs)).frozen? ⟨gs,j,none⟩=false:=(hBr.set_ i _).frozen j;obtain⟨u,s1⟩:∃u,(wr.setCell ⟨gs,i,none⟩ (slq bj Cs Cs)).cell? ⟨gs,j,none⟩=some u:=by
   rw[(hBr.set_ i _).cell j];exact⟨_,Array.getElem?_eq_getElem (by simpa using(by omega:j<cur.size))⟩
  have hsw:=hs.swap hi hj hbi hbj;have hxx:=hsw.2.trans (lx (dr _));have hoo:∀k,k<wr.heap.size->k≠gs->(((wr.setCell ⟨gs,i,none⟩ (slq bj Cs Cs)).setCell ⟨gs,j,none⟩ (slq bi Cs Cs)).drew).heap[k]?=wr.heap[k]?:=fun k _ hk=>yO _ _ _ _ _ _ _ hk
  have hbb:Below 0 wr (((wr.setCell ⟨gs,i,none⟩ (slq bj Cs Cs)).setCell ⟨gs,j,none⟩ (slq bi Cs Cs)).drew):=(yJ (yJ (zA _ _) (zE _) _ _) (zE _) _ _).drew;have hsw1:=hsw.1.below (dr _);have HFX:=xgv (And.intro hxx (And.intro hoo (And.intro hbb hsw1)));have HBR:=xgv hBr;clear hxx hoo hbb hsw1 hsw hBr;go_upto_region 4 with(fail)
  go_region;go_wp2;go_roundw
  case measure=>simp[intOf]
  obtain⟨hxx,hoo,hbb,hsw1⟩:=HFX.out;have hBr:=HBR.out;refine⟨1,oM,by simp,hb0.trans hbb,hx0.trans hxx,fun b hb n1 n2 n3=>(hoo b oM n1).trans (HOLD.out b hb n1 n2 n3),?_,?_,?_⟩;rw[if_neg oM,if_neg oM];exact hsw1;rw[if_pos oM,if_pos oM];exact qC.gone ht hBr hxx hoo (fun hh=>nst (by injection hh));rw[if_pos oM,if_pos oM];exact qC.gone hi_ hBr hxx hoo (fun hh=>nsi (by injection hh))
 by_cases hm1:m=1
 ·subst hm1
  rw[if_neg oM,if_neg oM]at hs;rw[if_pos oM,if_pos oM]at ht hi_;obtain⟨g1,bi,eg1,hg,hbi,hbi2,o1,-⟩:=qC.at_ ht (i:=i) (by rw[ht.len];exact hi);obtain rfl:gt=g1:=by injection eg1 with eg1;injection eg1
  obtain⟨g2,bj,eg2,hg',hbj,hbj2,o2,-⟩:=qC.at_ ht (i:=j) (by rw[ht.len];exact hj);obtain rfl:gt=g2:=by injection eg2 with eg2;injection eg2
  clear eg1 eg2;obtain⟨cur,hBr,hcz⟩:=qC.gblk ht;have f1:=hBr.frozen i;have f2:=hBr.frozen j;have hix:=fun W=>zCP 210 3 #[slq gs n sc,slq gt n tc,slq gi n ic] 1 1 _ W zBF rfl oM rfl
  have s2:(wr.setCell ⟨gt,i,none⟩ (slq bj Ct Ct)).frozen? ⟨gt,j,none⟩=false:=(hBr.set_ i _).frozen j;obtain⟨u,s1⟩:∃u,(wr.setCell ⟨gt,i,none⟩ (slq bj Ct Ct)).cell? ⟨gt,j,none⟩=some u:=by
   rw[(hBr.set_ i _).cell j];exact⟨_,Array.getElem?_eq_getElem (by simpa using(by omega:j<cur.size))⟩
  have hsw:=ht.swap hi hj hbi hbj;have hxx:=hsw.2.trans (lx (dr _));have hoo:∀k,k<wr.heap.size->k≠gt->(((wr.setCell ⟨gt,i,none⟩ (slq bj Ct Ct)).setCell ⟨gt,j,none⟩ (slq bi Ct Ct)).drew).heap[k]?=wr.heap[k]?:=fun k _ hk=>yO _ _ _ _ _ _ _ hk
  have hbb:Below 0 wr (((wr.setCell ⟨gt,i,none⟩ (slq bj Ct Ct)).setCell ⟨gt,j,none⟩ (slq bi Ct Ct)).drew):=(yJ (yJ (zA _ _) (zE _) _ _) (zE _) _ _).drew;have hsw1:=hsw.1.below (dr _);have HFX:=xgv (And.intro hxx (And.intro hoo (And.intro hbb hsw1)));have HBR:=xgv hBr;clear hxx hoo hbb hsw1 hsw hBr;go_upto_region 4 with(fail)
  go_region;go_wp2;go_roundw
  case measure=>simp[intOf]
  obtain⟨hxx,hoo,hbb,hsw1⟩:=HFX.out;have hBr:=HBR.out;refine⟨2,oM,by simp,hb0.trans hbb,hx0.trans hxx,fun b hb n1 n2 n3=>(hoo b oM n2).trans (HOLD.out b hb n1 n2 n3),?_,?_,?_⟩;rw[if_neg oM,if_neg oM];exact qC.gone hs hBr hxx hoo (fun hh=>nst (by injection hh with hh;exact hh.symm));rw[if_neg oM,if_neg oM];exact hsw1;rw[if_pos oM,if_pos oM];exact qC.gone hi_ hBr hxx hoo (fun hh=>nti (by injection hh))
 by_cases hm2:m=2
 ·subst hm2
  rw[if_neg oM,if_neg oM]at hs ht;rw[if_pos oM,if_pos oM]at hi_;obtain⟨g1,bi,eg1,hg,hbi,hbi2,o1,-⟩:=qC.at_ hi_ (i:=i) (by rw[hi_.len];exact hi);obtain rfl:gi=g1:=by injection eg1 with eg1;injection eg1
  obtain⟨g2,bj,eg2,hg',hbj,hbj2,o2,-⟩:=qC.at_ hi_ (i:=j) (by rw[hi_.len];exact hj);obtain rfl:gi=g2:=by injection eg2 with eg2;injection eg2
  clear eg1 eg2;obtain⟨cur,hBr,hcz⟩:=qC.gblk hi_;have f1:=hBr.frozen i;have f2:=hBr.frozen j;have hix:=fun W=>zCP 210 3 #[slq gs n sc,slq gt n tc,slq gi n ic] 2 2 _ W zBF rfl oM rfl
  have s2:(wr.setCell ⟨gi,i,none⟩ (slq bj Ct Ct)).frozen? ⟨gi,j,none⟩=false:=(hBr.set_ i _).frozen j;obtain⟨u,s1⟩:∃u,(wr.setCell ⟨gi,i,none⟩ (slq bj Ct Ct)).cell? ⟨gi,j,none⟩=some u:=by
   rw[(hBr.set_ i _).cell j];exact⟨_,Array.getElem?_eq_getElem (by simpa using(by omega:j<cur.size))⟩
  have hsw:=hi_.swap hi hj hbi hbj;have hxx:=hsw.2.trans (lx (dr _));have hoo:∀k,k<wr.heap.size->k≠gi->(((wr.setCell ⟨gi,i,none⟩ (slq bj Ct Ct)).setCell ⟨gi,j,none⟩ (slq bi Ct Ct)).drew).heap[k]?=wr.heap[k]?:=fun k _ hk=>yO _ _ _ _ _ _ _ hk
  have hbb:Below 0 wr (((wr.setCell ⟨gi,i,none⟩ (slq bj Ct Ct)).setCell ⟨gi,j,none⟩ (slq bi Ct Ct)).drew):=(yJ (yJ (zA _ _) (zE _) _ _) (zE _) _ _).drew;have hsw1:=hsw.1.below (dr _);have HFX:=xgv (And.intro hxx (And.intro hoo (And.intro hbb hsw1)));have HBR:=xgv hBr;clear hxx hoo hbb hsw1 hsw hBr;go_upto_region 4 with(fail)
  go_region;go_wp2;go_roundw
  case measure=>simp[intOf]
  obtain⟨hxx,hoo,hbb,hsw1⟩:=HFX.out;have hBr:=HBR.out;refine⟨3,oM,by simp,hb0.trans hbb,hx0.trans hxx,fun b hb n1 n2 n3=>(hoo b oM n3).trans (HOLD.out b hb n1 n2 n3),?_,?_,?_⟩;rw[if_neg oM,if_neg oM];exact qC.gone hs hBr hxx hoo (fun hh=>nsi (by injection hh with hh;exact hh.symm));rw[if_neg oM,if_neg oM];exact qC.gone ht hBr hxx hoo (fun hh=>nti (by injection hh with hh;exact hh.symm));rw[if_neg oM,if_neg oM];exact hsw1
 obtain rfl:m=3:=oM;rw[if_neg oM,if_neg oM]at hs ht hi_;go_wp2;obtain⟨gs1,gt1,gi1,f1,f2,f3,f4,f5,f6⟩:=H0.out;have l1:=gs1.len;have l2:=gt1.len;have l3:=gi1.len;refine bodyPost_end (results_none rfl _ _ _) rfl ⟨⟨_,rfl⟩,⟨hb0,hx0,fun b hb hn=>HOLD.out b hb (fun hh=>hn (.inl (by rw[hh];rfl))) (fun hh=>hn (.inr (.inl (by rw[hh];rfl)))) (fun hh=>hn (.inr (.inr (by rw[hh];rfl))))⟩,hs,ht,hi_,?_,?_,?_,f4,f5,f6⟩;exact fun b h1 h2=>f1 b (zEN oM oM h1) (zEN oM oM h2)
 exact fun b h1 h2=>f2 b (zEN oM oM h1) (zEN oM oM h2)
 exact fun b h1 h2=>f3 b (zEN oM oM h1) (zEN oM oM h2)
theorem zQ9(hi:i<R):(genM R C F).set i (qZ C (fun t=>-F i t))=genM R C (zDV F i):=by
 apply qT;simp[genM];intro a h1 h2;by_cases e:a=i
 ·subst e
  rw[zBB];simp[genM,qZ,zDV]
 have e3:i≠a:=fun h=>e h.symm
 rw[zBV e3];simp[genM,zDV,e]
theorem Wri.negRow(h:Wri w A R C bs F)(hi:i<R)(hb:bs[i]?=some b)(ho:zB0 [b] w w')(hr:jJ w' b (qZ C (fun t=>-F i t))):Wri w' A R C bs (zDV F i):=by
 unfold Wri;rw[<-zQ9 hi];exact qC.setRow h hb ho hr (qA _ _)
theorem Wri.rowAt(h:Wri w A R C bs F)(hi:i<R)(hb:bs[i]?=some b):jJ w b (qZ C (F i)):=by
 obtain⟨b',e1,e2⟩:=qC.rowAt h hi;obtain rfl:b'=b:=zW (e1.symm.trans hb);exact e2
theorem zQr(As At Ai:Value)(n Cs Ct i:Nat)(bss bst bsi:List Nat)(FS FT FI:Nat->Nat->Int)(w:World)(h:zFo w As At Ai n Cs Ct bss bst bsi FS FT FI)(hi:i<n)(hn:n<=1000000)(hCs:Cs<=1000000)(hCt:Ct<=1000000)
  (hS:∀a,a<n->∀b,b<Cs->Sm (FS a b)) (hT:∀a,a<n->∀b,b<Ct->Sm (FT a b)) (hI:∀a,a<n->∀b,b<Ct->Sm (FI a b)):
  CPq 202 #[.agg #[As,At,Ai],niq i] w fun e w'=>(∃u,e= .returned u)/\qJ (fun b=>b∈bss∨b∈bst∨b∈bsi) w w'∧
   zFo w' As At Ai n Cs Ct bss bst bsi (zDV FS i) (zDV FT i) (zDV FI i):=by
 obtain⟨so,sn,sc,rfl,s1,s2,s3,-⟩:=id (qC.rows h.s);obtain⟨uo,tn,tc,rfl,t1,t2,t3,-⟩:=id (qC.rows h.t);obtain⟨io,in_,ic,rfl,i1,i2,i3,-⟩:=id (qC.rows h.i);have H0:=xgv h;have HS:=xgv hS;have HT:=xgv hT;have HI:=xgv hI;clear hS hT hI;obtain⟨hs,ht,hi_,fst_,fsi,fti,-,-,-⟩:=h;have e1:n=sn:=by rw[<-s1];simp[genM]
 have e2:n=tn:=by rw[<-t1];simp[genM]
 have e3:n=in_:=by rw[<-i1];simp[genM]
 subst e1;subst e2;subst e3;clear s1 t1 i1;go_enter Tryz.func202,Tryz.ntmps202;go_upto_region 1 with(fail)
 refine zD ?_;intro W0 hW0;obtain⟨hB0,bx,hs0⟩:=qL hW0;have c1:=bx.three;have hs:=hs.below hB0;have ht:=ht.below hB0;have hi_:=hi_.below hB0;clear hW0;go_wp2;clear c1;go_loopw [15] (fun mv wr=>∃m:Nat,m<=3/\mv=niq m/\Below 0 w wr/\zBw w wr/\(∀b,b<w.heap.size->b ∉ bss->b ∉ bst->b ∉ bsi->wr.heap[b]?=w.heap[b]?)∧
  Wri wr (.slice so n sc) n Cs bss (if m=0 then FS else zDV FS i)/\Wri wr (.slice uo n tc) n Ct bst (if m<=1 then FT else zDV FT i)/\Wri wr (.slice io n ic) n Ct bsi (if m<=2 then FI else zDV FI i)) (fun mv _=>3-(intOf mv).toNat)
 case atStart=>exact⟨0,oM,rfl,hB0.mono (zE _),lx hB0,fun b hb _ _ _=>hB0.block b hb,hs,ht,hi_⟩
 obtain⟨m,hm,rfl,hb0,hx0,hold,hs,ht,hi_⟩:=hrel;have hsz:=hb0.size;have HOLD:=xgv hold;clear hold;by_cases hm0:m=0
 ·subst hm0
  rw[if_pos rfl]at hs;rw[if_pos oM]at ht hi_;simp only[Int.cast_ofNat_Int];obtain⟨g,bi,rfl,hg,hbi,hbi2,o1,-⟩:=qC.at_ hs (i:=i) (by rw[hs.len];exact hi);have hmi:=xgd hbi;have hri:=hs.rowAt hi hbi;have hix:=fun W=>zCP 210 3 #[slq g n sc,.slice uo n tc,.slice io n ic] 0 0 _ W zBF rfl oM rfl
  have hst:∀F:Nat->Int,qZ Cs F=qZ Cs (yQ (fun t=>-F t) F 0):=fun F=>qY fun t _=>by unfold yQ;rw[if_neg oM]
  rw[hst]at hri;clear hst;go_wp2;go_loopw [23] (fun jv wt=>∃j:Nat,j<=Cs/\jv=niq j/\zB0 [bi] wr wt/\(∃G,G=(fun t=>-FS i t)/\jJ wt bi (qZ Cs (yQ G (FS i) j)))) (fun jv _=>Cs-(intOf jv).toNat)
  case atStart=>exact⟨0,oM,rfl,zB0.refl _ _,_,rfl,hri⟩
  rename World=>wt
  obtain⟨j,hj,rfl,hO,G,hG,hv⟩:=hrel;have HG:=xgv (congrFun hG);clear hG;have hgb:g≠bi:=by
   rintro rfl;obtain⟨cur,q1,-⟩:=qC.gblk hs;obtain⟨cs,q2,-⟩:=hs.rowAt hi hbi;have q1':wr.heap[g]?=some (.cells cur tR (0,0)):=q1;rw[q1']at q2;injection q2 with q2
   injection q2 with _ ht
   exact absurd ht dE
  have p1:wt.cell? ⟨g,i,none⟩=some (slq bi Cs Cs):=by
   obtain⟨cur,q1,-⟩:=qC.gblk hs;have q2:Blk wt g tR cur:=(hO.old g hg (by simpa using hgb)).trans q1;rw[q2.cell,<-q1.cell];exact o1
  have hOs:=hO.bel.size;by_cases hlt:j<Cs
  ·obtain⟨xs,xa,xl,xc,v1,v2,-,-,hx⟩:=hv.cell (yE hlt)
   have hyf:yQ G (FS i) j j=FS i j:=by unfold yQ;rw[if_neg oM]
   rw[hyf]at hx;have hlv:=hv.lt;go_upto_region 7 with(fail)
   refine zD ?_;intro W6 hW6;obtain⟨hB6,T7,hs6⟩:=qL hW6;have d1:=T7.two;have hO:=hO.trans (zB0.of [bi] hB6);have hv:=hv.below hB6;have hx:=hx.ext (lx hB6);have p1:=jL p1 hB6;have l7:=T7.lt;clear v1 v2 hW6 o1;have HSJ:=xgv (HS.out i hi j hlt);refine yP 8 [pcI 6 (-(FS i j))] ?_;refine sRd ?_;refine sRc (fun wS hI Gk hG=>by go_simp;exact ck hG (zBY _ (FS i j) _ (hx.ext hI.lext).weak HSJ.out)) (fun va6 _=>?_);refine sRd ?_;refine sRe ?_;intro w9 hbw9 ha6;have hlw9:=lx hbw9;have holdw9:=hbw9.block;obtain⟨pn,pa,pl,pc,px,rfl,hpx⟩:=id ha6;have HPX:=xgw hpx;clear hpx;have hv9:=hv.below hbw9;obtain⟨zs,za,zl,zc,z1,z2,z3,z4,-⟩:=hv9.cell (yE hlt);have hset:=hv9.set (k:=j) (by rw[qA];exact hlt) ha6;have hO:=hO.trans (zB0.of [bi] hbw9);go_wp2;go_roundw
   case rel=>
    have hq:(qZ Cs (yQ G (FS i) j)).set j (-(FS i j))=qZ Cs (yQ G (FS i) (j+1)):=by
     rw[zD1];exact qY fun t _=>by
      unfold yQ;by_cases h2:t=j
      ·subst h2
       rw[if_pos rfl,if_pos oM,HG.out]
      rw[if_neg h2];by_cases h1:t<j
      ·rw[if_pos h1,if_pos oM]
      rw[if_neg h1,if_neg oM]
    rw[hq]at hset;exact⟨j+1,oM,by simp,hO.trans ⟨yJ (yJ (zA _ _) (zE _) _ _) (zE _) _ _,hset.2,fun i _ hi=>yO _ _ _ _ _ _ _ (by simpa using hi)⟩,_,funext HG.out,hset.1⟩
   case measure=>exact meq
  obtain rfl:j=Cs:=oM;have hq:qZ j (yQ G (FS i) j)=qZ j (fun t=>-FS i t):=qY fun t ht=>by unfold yQ;rw[if_pos ht];exact HG.out t
  rw[hq]at hv;go_wp2;go_roundw
  case measure=>simp[intOf]
  have hri0:=hs.rowAt hi hbi;exact⟨1,oM,by simp,hb0.trans hO.bel,hx0.trans hO.lext,fun b hb n1 n2 n3=>(hO.old b oM (by simp;rintro rfl;exact n1 hmi)).trans (HOLD.out b hb n1 n2 n3),by simpa using hs.negRow hi hbi hO hv,by simpa using ht.only hO (fun hh=>fst_ _ hmi hh) hri0,by simpa using hi_.only hO (fun hh=>fsi _ hmi hh) hri0⟩
 by_cases hm1:m=1
 ·subst hm1
  rw[if_neg oM]at hs;rw[if_pos oM]at ht hi_;simp only[Int.cast_ofNat_Int];obtain⟨g,bi,rfl,hg,hbi,hbi2,o1,-⟩:=qC.at_ ht (i:=i) (by rw[ht.len];exact hi);have hmi:=xgd hbi;have hri:=ht.rowAt hi hbi;have hix:=fun W=>zCP 210 3 #[.slice so n sc,slq g n tc,.slice io n ic] 1 1 _ W zBF rfl oM rfl
  have hst:∀F:Nat->Int,qZ Ct F=qZ Ct (yQ (fun t=>-F t) F 0):=fun F=>qY fun t _=>by unfold yQ;rw[if_neg oM]
  rw[hst]at hri;clear hst;go_wp2;go_loopw [23] (fun jv wt=>∃j:Nat,j<=Ct/\jv=niq j/\zB0 [bi] wr wt/\(∃G,G=(fun t=>-FT i t)/\jJ wt bi (qZ Ct (yQ G (FT i) j)))) (fun jv _=>Ct-(intOf jv).toNat)
  case atStart=>exact⟨0,oM,rfl,zB0.refl _ _,_,rfl,hri⟩
  rename World=>wt
  obtain⟨j,hj,rfl,hO,G,hG,hv⟩:=hrel;have HG:=xgv (congrFun hG);clear hG;have hgb:g≠bi:=by
   rintro rfl;obtain⟨cur,q1,-⟩:=qC.gblk ht;obtain⟨cs,q2,-⟩:=ht.rowAt hi hbi;have q1':wr.heap[g]?=some (.cells cur tR (0,0)):=q1;rw[q1']at q2;injection q2 with q2
   injection q2 with _ ht
   exact absurd ht dE
  have p1:wt.cell? ⟨g,i,none⟩=some (slq bi Ct Ct):=by
   obtain⟨cur,q1,-⟩:=qC.gblk ht;have q2:Blk wt g tR cur:=(hO.old g hg (by simpa using hgb)).trans q1;rw[q2.cell,<-q1.cell];exact o1
  have hOs:=hO.bel.size;by_cases hlt:j<Ct
  ·obtain⟨xs,xa,xl,xc,v1,v2,-,-,hx⟩:=hv.cell (yE hlt)
   have hyf:yQ G (FT i) j j=FT i j:=by unfold yQ;rw[if_neg oM]
   rw[hyf]at hx;have hlv:=hv.lt;go_upto_region 7 with(fail)
   refine zD ?_;intro W6 hW6;obtain⟨hB6,T7,hs6⟩:=qL hW6;have d1:=T7.two;have hO:=hO.trans (zB0.of [bi] hB6);have hv:=hv.below hB6;have hx:=hx.ext (lx hB6);have p1:=jL p1 hB6;have l7:=T7.lt;clear v1 v2 hW6 o1;have HSJ:=xgv (HT.out i hi j hlt);refine yP 8 [pcI 6 (-(FT i j))] ?_;refine sRd ?_;refine sRc (fun wS hI Gk hG=>by go_simp;exact ck hG (zBY _ (FT i j) _ (hx.ext hI.lext).weak HSJ.out)) (fun va6 _=>?_);refine sRd ?_;refine sRe ?_;intro w9 hbw9 ha6;have hlw9:=lx hbw9;have holdw9:=hbw9.block;obtain⟨pn,pa,pl,pc,px,rfl,hpx⟩:=id ha6;have HPX:=xgw hpx;clear hpx;have hv9:=hv.below hbw9;obtain⟨zs,za,zl,zc,z1,z2,z3,z4,-⟩:=hv9.cell (yE hlt);have hset:=hv9.set (k:=j) (by rw[qA];exact hlt) ha6;have hO:=hO.trans (zB0.of [bi] hbw9);go_wp2;go_roundw
   case rel=>
    have hq:(qZ Ct (yQ G (FT i) j)).set j (-(FT i j))=qZ Ct (yQ G (FT i) (j+1)):=by
     rw[zD1];exact qY fun t _=>by
      unfold yQ;by_cases h2:t=j
      ·subst h2
       rw[if_pos rfl,if_pos oM,HG.out]
      rw[if_neg h2];by_cases h1:t<j
      ·rw[if_pos h1,if_pos oM]
      rw[if_neg h1,if_neg oM]
    rw[hq]at hset;exact⟨j+1,oM,by simp,hO.trans ⟨yJ (yJ (zA _ _) (zE _) _ _) (zE _) _ _,hset.2,fun i _ hi=>yO _ _ _ _ _ _ _ (by simpa using hi)⟩,_,funext HG.out,hset.1⟩
   case measure=>exact meq
  obtain rfl:j=Ct:=oM;have hq:qZ j (yQ G (FT i) j)=qZ j (fun t=>-FT i t):=qY fun t ht=>by unfold yQ;rw[if_pos ht];exact HG.out t
  rw[hq]at hv;go_wp2;go_roundw
  case measure=>simp[intOf]
  have hri0:=ht.rowAt hi hbi;exact⟨2,oM,by simp,hb0.trans hO.bel,hx0.trans hO.lext,fun b hb n1 n2 n3=>(hO.old b oM (by simp;rintro rfl;exact n2 hmi)).trans (HOLD.out b hb n1 n2 n3),by simpa using hs.only hO (fun hh=>fst_ _ hh hmi) hri0,by simpa using ht.negRow hi hbi hO hv,by simpa using hi_.only hO (fun hh=>fti _ hmi hh) hri0⟩
 by_cases hm2:m=2
 ·subst hm2
  rw[if_neg oM]at hs ht;rw[if_pos oM]at hi_;simp only[Int.cast_ofNat_Int];obtain⟨g,bi,rfl,hg,hbi,hbi2,o1,-⟩:=qC.at_ hi_ (i:=i) (by rw[hi_.len];exact hi);have hmi:=xgd hbi;have hri:=hi_.rowAt hi hbi;have hix:=fun W=>zCP 210 3 #[.slice so n sc,.slice uo n tc,slq g n ic] 2 2 _ W zBF rfl oM rfl
  have hst:∀F:Nat->Int,qZ Ct F=qZ Ct (yQ (fun t=>-F t) F 0):=fun F=>qY fun t _=>by unfold yQ;rw[if_neg oM]
  rw[hst]at hri;clear hst;go_wp2;go_loopw [23] (fun jv wt=>∃j:Nat,j<=Ct/\jv=niq j/\zB0 [bi] wr wt/\(∃G,G=(fun t=>-FI i t)/\jJ wt bi (qZ Ct (yQ G (FI i) j)))) (fun jv _=>Ct-(intOf jv).toNat)
  case atStart=>exact⟨0,oM,rfl,zB0.refl _ _,_,rfl,hri⟩
  rename World=>wt
  obtain⟨j,hj,rfl,hO,G,hG,hv⟩:=hrel;have HG:=xgv (congrFun hG);clear hG;have hgb:g≠bi:=by
   rintro rfl;obtain⟨cur,q1,-⟩:=qC.gblk hi_;obtain⟨cs,q2,-⟩:=hi_.rowAt hi hbi;have q1':wr.heap[g]?=some (.cells cur tR (0,0)):=q1;rw[q1']at q2;injection q2 with q2
   injection q2 with _ ht
   exact absurd ht dE
  have p1:wt.cell? ⟨g,i,none⟩=some (slq bi Ct Ct):=by
   obtain⟨cur,q1,-⟩:=qC.gblk hi_;have q2:Blk wt g tR cur:=(hO.old g hg (by simpa using hgb)).trans q1;rw[q2.cell,<-q1.cell];exact o1
  have hOs:=hO.bel.size;by_cases hlt:j<Ct
  ·obtain⟨xs,xa,xl,xc,v1,v2,-,-,hx⟩:=hv.cell (yE hlt)
   have hyf:yQ G (FI i) j j=FI i j:=by unfold yQ;rw[if_neg oM]
   rw[hyf]at hx;have hlv:=hv.lt;go_upto_region 7 with(fail)
   refine zD ?_;intro W6 hW6;obtain⟨hB6,T7,hs6⟩:=qL hW6;have d1:=T7.two;have hO:=hO.trans (zB0.of [bi] hB6);have hv:=hv.below hB6;have hx:=hx.ext (lx hB6);have p1:=jL p1 hB6;have l7:=T7.lt;clear v1 v2 hW6 o1;have HSJ:=xgv (HI.out i hi j hlt);refine yP 8 [pcI 6 (-(FI i j))] ?_;refine sRd ?_;refine sRc (fun wS hI Gk hG=>by go_simp;exact ck hG (zBY _ (FI i j) _ (hx.ext hI.lext).weak HSJ.out)) (fun va6 _=>?_);refine sRd ?_;refine sRe ?_;intro w9 hbw9 ha6;have hlw9:=lx hbw9;have holdw9:=hbw9.block;obtain⟨pn,pa,pl,pc,px,rfl,hpx⟩:=id ha6;have HPX:=xgw hpx;clear hpx;have hv9:=hv.below hbw9;obtain⟨zs,za,zl,zc,z1,z2,z3,z4,-⟩:=hv9.cell (yE hlt);have hset:=hv9.set (k:=j) (by rw[qA];exact hlt) ha6;have hO:=hO.trans (zB0.of [bi] hbw9);go_wp2;go_roundw
   case rel=>
    have hq:(qZ Ct (yQ G (FI i) j)).set j (-(FI i j))=qZ Ct (yQ G (FI i) (j+1)):=by
     rw[zD1];exact qY fun t _=>by
      unfold yQ;by_cases h2:t=j
      ·subst h2
       rw[if_pos rfl,if_pos oM,HG.out]
      rw[if_neg h2];by_cases h1:t<j
      ·rw[if_pos h1,if_pos oM]
      rw[if_neg h1,if_neg oM]
    rw[hq]at hset;exact⟨j+1,oM,by simp,hO.trans ⟨yJ (yJ (zA _ _) (zE _) _ _) (zE _) _ _,hset.2,fun i _ hi=>yO _ _ _ _ _ _ _ (by simpa using hi)⟩,_,funext HG.out,hset.1⟩
   case measure=>exact meq
  obtain rfl:j=Ct:=oM;have hq:qZ j (yQ G (FI i) j)=qZ j (fun t=>-FI i t):=qY fun t ht=>by unfold yQ;rw[if_pos ht];exact HG.out t
  rw[hq]at hv;go_wp2;go_roundw
  case measure=>simp[intOf]
  have hri0:=hi_.rowAt hi hbi;exact⟨3,oM,by simp,hb0.trans hO.bel,hx0.trans hO.lext,fun b hb n1 n2 n3=>(hO.old b oM (by simp;rintro rfl;exact n3 hmi)).trans (HOLD.out b hb n1 n2 n3),by simpa using hs.only hO (fun hh=>fsi _ hh hmi) hri0,by simpa using ht.only hO (fun hh=>fti _ hh hmi) hri0,by simpa using hi_.negRow hi hbi hO hv⟩
 obtain rfl:m=3:=oM;rw[if_neg oM]at hs ht hi_;go_wp2;obtain⟨gs1,gt1,gi1,f1,f2,f3,f4,f5,f6⟩:=H0.out;exact bodyPost_end (results_none rfl _ _ _) rfl ⟨⟨_,rfl⟩,⟨hb0,hx0,fun b hb hn=>HOLD.out b hb (fun hh=>hn (.inl hh)) (fun hh=>hn (.inr (.inl hh))) (fun hh=>hn (.inr (.inr hh)))⟩,hs,ht,hi_,f1,f2,f3,f4,f5,f6⟩
theorem zI1(h:qC w base A C bs (genM R C F))(hi:i<R)(hj:j<R)(hij:i≠j)(hbi:bs[i]?=some bi)(hbj:bs[j]?=some bj)(kv:Value)(k:Int)
  (hk:jY w kv k) (hC:C<=1000000) (hS:∀t,t<C->Sm (F i t)/\Sm (F j t)/\Sm (k*F j t)) (hks:Sm k):
  CPq 163 #[slq bi C C,slq bj C C,kv] w fun e w'=>(∃u,e= .returned u)/\zB0 [bi] w w'/\qC w' base A C bs (genM R C (zCm F i j k)):=by
 obtain⟨b1,e1,r1⟩:=h.rowAt hi;obtain⟨b2,e2,r2⟩:=h.rowAt hj;obtain rfl:b1=bi:=zW (e1.symm.trans hbi);obtain rfl:b2=bj:=zW (e2.symm.trans hbj);have hne:b1≠b2:=by
  intro hh;subst hh;obtain⟨f1,f2⟩:=xge.1 e1;obtain⟨g1,g2⟩:=xge.1 e2;exact hij ((yZ h.nodup).1 (f2.trans g2.symm))
 refine(zKd b1 b2 C C C (F i) (F j) kv k w r1 r2 hne hk hC (xgf _) oM (xgf _) oM hS hks).mono ?_;rintro e w' ⟨hu,ho,hr⟩;refine⟨hu,ho,?_⟩;rw[<-zK8 hi];exact h.setRow e1 ho hr (qA _ _)
end Go.Proofs.YtkidaebmhlijlaaGreat
