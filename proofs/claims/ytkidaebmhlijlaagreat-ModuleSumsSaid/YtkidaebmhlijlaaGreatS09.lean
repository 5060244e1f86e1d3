/- Joined. -/
import Derived.Test.YtkidaebmhlijlaaGreatS07
set_option linter.unusedVariables false
set_option linter.unusedSimpArgs false
set_option linter.unusedSectionVars false
set_option maxHeartbeats 16000000
set_option maxRecDepth 100000
variable{a:Go.Act}{cs:Array Go.Value}{M:List (List Int)}{zs:List Int}{S bs:List Nat}{C R b base bi bj cap g i j n r:Nat}{F f:Nat->Nat->Int}{Z:Nat->Prop}{T:Go.TypeId}{A v:Go.Value}{W c w w':Go.World}
namespace Go.Proofs.YtkidaebmhlijlaaGreat
open Go.RowKit
abbrev tR:TypeId:=46
theorem Tryz.infoR:(Tryz.prog.info? tR).map (fun i=>(i.zero,i.size,i.bytes))=some (some (.slice none 0 0),1,24):=by kernel_rfl
abbrev zDU:=@Tryz.infoR
def zeroCells(n:Nat):Array Value:=madeCells (Value.agg #[.bool false,.slice none 0 0]).cells (n*2)
theorem mkI(m:Int)(n:Nat)(hm:m=n)(h:n<=1099511627776)(W:World):
  (Instr.makeSlice 46 (.int .i64 m) (.int .i64 m)).run Tryz.prog W= .ok (.slice (some ⟨W.heap.size,0,none⟩) n n) (W.alloc (.cells (zeroCells n) tI)):=by
 subst hm;obtain⟨i0,hi,hz0,hz1,hz2⟩:=info_parts zD8;have:=zCR (P:=Tryz.prog) 46 tI i0 _ zB5 hi hz0 .i64 .i64 n n (xgf _) (by rw[hz2];omega) oM W;rw[this,hz1];rfl
theorem zG4(w:World)(n:Nat):jQ (w.alloc (.cells (zeroCells n) tI)) w.heap.size (List.replicate n 0):=by
 refine⟨zeroCells n,heap_alloc_new w _,fun k z hk=>?_⟩;have hk':=(xge.1 hk);obtain⟨h1,h2⟩:=hk';rw[List.length_replicate]at h1;rw[List.getElem_replicate]at h2;subst h2;refine⟨false,none,0,0,?_,?_,zFc _⟩
 ·unfold zeroCells madeCells
  rw[Array.getElem?_eq_getElem (by simp;omega)];simp[Value.cells]
 unfold zeroCells madeCells;rw[Array.getElem?_eq_getElem (by simp;omega)];have:(k*2+1)%2=1:=by omega
 simp[Value.cells,this]
def zBJ(C:Nat)(bs:List Nat):List Value:=bs.map fun b=>.slice (some ⟨b,0,none⟩) C C
structure qA(w:World)(base:Nat)(A:Value)(C:Nat)(bs:List Nat)(M:List (List Int)):Prop where
 own:w.ownsRow base tR 1 A bs.length (zBJ C bs)
 len:M.length=bs.length
 row:∀(k:Nat) (b:Nat) (r:List Int),bs[k]?=some b->M[k]?=some r->base<=b/\r.length=C/\jQ w b r
 nodup:bs.Nodup
 cb:C<=1099511627776
theorem qA.below(h:qA w base A C bs M)(hb:Below w.heap.size w w'):qA w' base A C bs M:=
 ⟨h.own.kept (row:=none) ⟨hb.os,hb.tape,hb.output,hb.size,fun k hk _=>hb.block k hk⟩ (by cases hv:A.ownBlock<;>simp),h.len,fun k b r h1 h2=>by
  obtain⟨e1,e2,e3⟩:=h.row k b r h1 h2;exact⟨e1,e2,e3.below hb⟩,h.nodup,h.cb⟩
theorem qA.keep(h:qA w base A C bs M)(e:∀k,base<=k->w'.heap[k]?=w.heap[k]?)(x:zBq w w'):qA w' base A C bs M:=by
 refine⟨⟨h.own.1,?_⟩,h.len,fun k b r h1 h2=>by
  obtain⟨e1,e2,e3⟩:=h.row k b r h1 h2;exact⟨e1,e2,e3.old (e _ e1) x⟩,h.nodup,h.cb⟩
 rcases h.own.2 with h1|⟨g,cap,cur,e1,e2,e3⟩
 exact .inl h1;exact .inr ⟨g,cap,cur,e1,e2,(e _ e2).trans e3.1,e3.2⟩
theorem Blk.put3{c0 c1 c2:Value}(h:Blk w r T #[c0,c1,c2])(x y z:Value):Blk (((w.setCell ⟨r,0,none⟩ x).setCell ⟨r,1,none⟩ y).setCell ⟨r,2,none⟩ z) r T #[x,y,z]:=by
 simpa using((h.set_ 0 x).set_ 1 y).set_ 2 z
theorem Blk.lext3(h:Blk w r T cs)(hne:T≠tU)(x y z:Value):zBq w (((w.setCell ⟨r,0,none⟩ x).setCell ⟨r,1,none⟩ y).setCell ⟨r,2,none⟩ z):=
 ((h.lext hne 0 _).trans ((h.set_ 0 _).lext hne 1 _)).trans (((h.set_ 0 _).set_ 1 _).lext hne 2 _)
theorem zAe(w:World)(b k:Nat)(x y z:Value)(h:k≠b):(((w.setCell ⟨b,0,none⟩ x).setCell ⟨b,1,none⟩ y).setCell ⟨b,2,none⟩ z).heap[k]?=w.heap[k]?:=
 (zW _ b 2 k z h).trans (yS w b 0 1 k x y h)
theorem qA.mono{base':Nat}(h:qA w base A C bs M)(hb:base'<=base):qA w base' A C bs M:=by
 refine⟨⟨h.own.1,?_⟩,h.len,fun k b r h1 h2=>by
  obtain⟨e1,e2,e3⟩:=h.row k b r h1 h2;exact⟨by omega,e2,e3⟩,h.nodup,h.cb⟩
 rcases h.own.2 with h1|⟨g,cap,cur,e1,e2,e3⟩
 exact .inl h1;exact .inr ⟨g,cap,cur,e1,zB hb e2,e3⟩
theorem qA.fits(h:qA w base A C bs M):zBc bs.length C M:=by
 refine⟨h.len,fun r hr=>?_⟩;obtain⟨k,hk,e⟩:=qS hr;have hk':k<bs.length:=by have:=h.len;omega
 exact(h.row k bs[k] r (xga hk') (by rw[xga hk,e])).2.1
theorem qA.rows(h:qA w base A C bs M):zBl w A M:=by
 rcases h.own.2 with⟨rfl,h0⟩|⟨g,cap,cur,rfl,e2,e3,e4,e5,e6,e7⟩
 ·have:M= []:=qB (by rw[h.len];exact h0)
  subst this;exact zBl.nil w
 refine⟨some ⟨g,0,none⟩,bs.length,cap,rfl,h.len,e4,e5,fun _=>⟨g,cur,rfl,e3,fun k zs hk=>?_⟩⟩;have hkM:=(xge.1 hk).1;have hkb:k<bs.length:=by have:=h.len;omega
 obtain⟨f1,f2,f3⟩:=h.row k bs[k] zs (xga hkb) hk;refine⟨.slice (some ⟨bs[k],0,none⟩) C C,?_,some ⟨bs[k],0,none⟩,C,C,rfl,f2,xgf _,by have:=h.cb;omega,fun _=>⟨_,rfl,f3⟩⟩;have:(zBJ C bs)[k]?=some (.slice (some ⟨bs[k],0,none⟩) C C):=by simp[zBJ,hkb]
 rw[<-e7,List.getElem?_take_of_lt oM]at this;simpa using this
def zXa(w:World)(base:Nat)(v:Value)(R C:Nat)(bs:List Nat)(M:List (List Int)):Prop:=bs.length=R/\∃A,v= .agg #[.int .i64 R,.int .i64 C,A]/\qA w base A C bs M
theorem zXa.mat(h:zXa w base v R C bs M):zAO w v R C M/\zBc R C M:=by
 obtain⟨rfl,A,rfl,h⟩:=h;exact⟨⟨A,rfl,h.rows⟩,h.fits⟩
theorem zBc.valid(h:zBc R C M):zBL R C M:=⟨by omega,by omega,by rw[h.1],fun r hr=>by rw[h.2 r hr]⟩
def zEo(w:World)(R C:Nat)(M:List (List Int))(e:Ending)(w':World):Prop:=∃v bs,e= .returned v/\zXa w' w.heap.size v R C bs M/\Below w.heap.size w w'
theorem Tryz.sizeM:(Tryz.prog.info? 32).map (·.size)=some 3:=by kernel_rfl
abbrev zE6:=@Tryz.sizeM
theorem zAl{fn:Func}{W:World}{Q:Ending->World->Prop}{r:Nat}{x y z:Value}{p:Tmp}(h:fn.results=#[.cell p 32])(hd:a.defers= [])
  (hp:a.tmps.getD p undef= .pointer (some ⟨r,0,none⟩)) (hb:Blk W r 32 #[x,y,z]) (hQ:Q (.returned (.agg #[x,y,z])) W):bodyPost Tryz.prog fn Q .ret a W:=
 bodyPost_ret (results_cell_row h _ W r _ _ _ _ hp hb zCp rfl (by rw[zE6];rfl)) hd hQ
theorem zGN{xs:List Value}{r:List Int}(h:w.ownsRow base tR 1 v n xs)(hr:jQ w b r):some b≠v.ownBlock:=by
 intro e;rcases h.2 with⟨rfl,-⟩|⟨g,cap,cur,rfl,-,hh,-⟩
 cases e;simp only[Value.ownBlock,Option.some.injEq]at e;subst e;obtain⟨cs,h1,-⟩:=hr;rw[hh]at h1;injection h1 with h1
 injection h1 with _ ht
 exact absurd ht dE
theorem zYo{w:World}{ops:Array Oper}{rest:List Oper}{o:Oper}{a:Act}{Q:Exit->Act->World->Prop}(hgd:o.guard=none)(s x:Operand)
  (ho:o.op= .call {callee:=.builtin .append,args:=#[s,x],argTypes:=#[30,30]})
  (base:Nat) (v:Value) (C:Nat) (bs:List Nat) (M:List (List Int)) (hs:a.eval s=v) (hown:qA w base v C bs M) (b c nb:Nat) (r:List Int) (hx:a.eval x= .slice (some ⟨b,0,none⟩) 1 c)
  (hb:Blk w b tR #[.slice (some ⟨nb,0,none⟩) C C]) (hr:jQ w nb r) (hrl:r.length=C) (hnb:base<=nb) (hfr:∀g∈bs,g≠nb)
  (hlen:bs.length+1<=1099511627776) (hbase:base<=w.heap.size)
  (h:∀v' w',qA w' base v' C (bs++ [nb]) (M++ [r])->w.grownBy w' v.ownBlock->zBq w w'->wpList Tryz.prog ops Q rest (a.put o.dst v') w'):wpList Tryz.prog ops Q (o::rest) a w:=by
 obtain⟨i0,hi,hz0,hz1,hz2⟩:=info_parts zDU;have c0:=hb.cell 0;refine wpList_append_own w hgd s x 30 ho base tR i0 _ 1 24 zAs hi hz0 hz1 hz2 rfl oM v bs.length _ hs hown.own ⟨b,0,none⟩ 1 c [.slice (some ⟨nb,0,none⟩) C C] hx rfl ?_ ?_ (by simp[maxLen];omega) oM hbase ?_
 ·intro j u hj
  rw[zAJ];match j with
  |0=>simp at hj;subst hj;exact c0
  |j+1=>simp at hj
 ·intro u hu
  simp at hu;subst hu;rfl
 intro v' w' k1 k2 _;have hx:=zEF hown.own dE k2;have hkeep:∀g q,jQ w g q->jQ w' g q:=fun g q hq=>hq.old (k2.block g hq.lt (zGN hown.own hq)) hx
 refine h v' w' ⟨?_,by simp[hown.len],?_,?_,hown.cb⟩ k2 hx
 ·have:zBJ C (bs++ [nb])=zBJ C bs++ [.slice (some ⟨nb,0,none⟩) C C]:=by simp[zBJ]
  rw[this];simpa using k1
 ·intro k g q hg hq
  rcases zG k bs.length with hlt|hge
  ·rw[List.getElem?_append_left hlt]at hg
   rw[List.getElem?_append_left (by rw[hown.len];exact hlt)]at hq;obtain⟨f1,f2,f3⟩:=hown.row k g q hg hq;exact⟨f1,f2,hkeep _ _ f3⟩
  rw[List.getElem?_append_right hge]at hg;rw[List.getElem?_append_right (by rw[hown.len];exact hge),hown.len]at hq;have hk0:k-bs.length=0:=by
   have:=(xge.1 hg).1;simp at this;omega
  rw[hk0]at hg hq;simp at hg hq;subst hg;subst hq;exact⟨hnb,hrl,hkeep _ _ hr⟩
 rw[yF];refine⟨hown.nodup,by simp,fun x hx y hy=>?_⟩;simp at hy;subst hy;exact hfr x hx
def zDL(R C:Nat):List (List Int):=List.replicate R (List.replicate C 0)
theorem zG3(R C:Nat)(w:World)(hR:R<=1000000)(hC:C<=1000000):
  Calls Tryz.prog 52 #[.int .i64 R,.int .i64 C] w (zEo w R C (zDL R C)):=by
 have hmk:=fun W=>mkI (C:Int) C rfl oM W
 go_enter Tryz.func52,Tryz.ntmps52;go_upto_block 0 with(fail)
 refine zD ?_;intro W0 hW0;obtain⟨hB0,br,bA,hs0⟩:=zAd hW0;go_wp2;go_loopw [5,6] (fun A iv wr=>∃(k:Nat) (bs:List Nat),k<=R/\iv= .int .i64 k/\qA wr (w.heap.size+1) A C bs (zDL k C)/\Below w.heap.size w wr/\Blk wr w.heap.size 32 #[.int .i64 0,.int .i64 0,.slice none 0 0]) (fun _ iv _=>R-(intOf iv).toNat)
 case atStart=>
  refine⟨0,[],by omega,rfl,⟨⟨by simp[zBJ],.inr ⟨w.heap.size+1,0,#[],rfl,xgf _,bA,xgf _,by simp[maxLen],rfl,rfl⟩⟩,rfl,fun k b r h=>by simp at h,by simp,by omega⟩,hB0,br⟩
 obtain⟨k,bs,hk,rfl,ho,hb,br⟩:=hrel;have hbl:bs.length=k:=by rw[<-ho.len];simp[zDL]
 by_cases hlt:k<R
 ·have hmk:=hmk wr
  have hb2:Below wr.heap.size wr ((wr.alloc (.cells (zeroCells C) tI)).alloc (.cells #[.slice (some ⟨wr.heap.size,0,none⟩) C C] tR)):=((zA _ _).alloc (xgf _) _).alloc sI _;have hblk:Blk ((wr.alloc (.cells (zeroCells C) tI)).alloc (.cells #[.slice (some ⟨wr.heap.size,0,none⟩) C C] tR)) (wr.heap.size+1) tR #[.slice (some ⟨wr.heap.size,0,none⟩) C C]:=by
   simpa using Blk.new (wr.alloc (.cells (zeroCells C) tI)) tR #[.slice (some ⟨wr.heap.size,0,none⟩) C C]
  have hrow:=(zG4 wr C).below ((zA (wr.alloc (.cells (zeroCells C) tI)).heap.size _).alloc (xgf _) (.cells #[.slice (some ⟨wr.heap.size,0,none⟩) C C] tR));have hfr:∀g∈bs,g≠wr.heap.size:=by
   intro g hg;obtain⟨j,hj,e⟩:=qS hg;have:=(ho.row j g _ (by rw[xga hj,e]) (xga (by rw[ho.len];exact hj))).2.2.lt;omega
  have hsz:=hb.size;have hbr:=br.lt;have ho2:=ho.below hb2;have hxx:=lx hb2;go_wp2_with (at_builtin;refine zYo rfl _ _ rfl (w.heap.size+1) u5 C bs (zDL k C) rfl ho2 (wr.heap.size+1) 1 wr.heap.size (List.replicate C 0) rfl hblk hrow sI oM hfr oM (by simp;omega) ?_;intro v' w' hown hgr hxg)
  have hown':∀g,u5.ownBlock=some g->w.heap.size+1<=g:=by
   intro g hg;rcases ho.own.2 with⟨rfl,-⟩|⟨g',cap,cur,rfl,h1,-⟩
   cases hg;simp only[Value.ownBlock,Option.some.injEq]at hg;omega
  have hB9:Below w.heap.size w w':=(nx hb hb2).grown hgr (by simp;omega) (fun g hg=>by have:=hown' g hg;omega);have br9:=(hgr.block _ (by simp;omega) (fun hh=>by have:=hown' _ hh.symm;omega)).trans (br.below hb2);go_roundw
  case rel=>
   refine⟨k+1,bs++ [wr.heap.size],by omega,by simp,?_,hB9,br9⟩;have:zDL (k+1) C=zDL k C++ [List.replicate C 0]:=by unfold zDL;rw[List.replicate_succ']
   rw[this];exact hown
  case measure=>simp[intOf];omega
 obtain rfl:k=R:=by omega
 obtain⟨c1,c2,c3,c4,c5,c6⟩:=br.three;obtain⟨ao,an,ac,rfl,a1,a2,a3,-⟩:=id ho.rows;have hsz:=hb.size;go_wp2;refine zAl rfl rfl rfl (br.put3 _ _ _) ⟨_,bs,rfl,⟨hbl,_,rfl,?_⟩,yJ (yJ (yJ hb (xgf _) 0 _) (xgf _) 1 _) (xgf _) 2 _⟩;exact(ho.keep (fun k hk=>zAe _ _ k _ _ _ oM) (br.lext3 dE _ _ _)).mono (Nat.le_succ _)
def genM(R C:Nat)(f:Nat->Nat->Int):List (List Int):=(List.range R).map fun i=>(List.range C).map (f i)
def ent(M:List (List Int))(i j:Nat):Int:=(M.getD i []).getD j 0
theorem zAM{g:Nat->Nat->Int}(h:∀i,i<R->∀j,j<C->f i j=g i j):genM R C f=genM R C g:=by
 unfold genM;refine zAu fun i hi=>zAu fun j hj=>h i (yI.1 hi) j (yI.1 hj)
theorem zC2(R C:Nat)(f:Nat->Nat->Int)(hi:i<R):(genM R C f)[i]?=some ((List.range C).map (f i)):=by
 simp[genM,hi]
theorem jM(hi:i<R)(hj:j<C):ent (genM R C f) i j=f i j:=by
 unfold ent;rw[zBu (zC2 R C f hi)];simp[xgb,hj]
theorem jJ(R C:Nat)(f:Nat->Nat->Int):zBc R C (genM R C f):=by
 refine⟨by simp[genM],fun r hr=>?_⟩;unfold genM at hr;obtain⟨i,-,rfl⟩:=List.mem_map.1 hr;simp
theorem zGG{r:List Int}{z:Int}(h1:M[i]?=some r)(h2:r[j]?=some z):ent M i j=z:=by
 unfold ent;rw[zBu h1,zBu h2]
theorem zLn(h:zBc R C M):M=genM R C (ent M):=by
 apply qO;rw[h.1];simp[genM];intro i h1 h2;have hi:i<R:=by rw[<-h.1];exact h1
 have e1:M[i]?=some M[i]:=xga h1;have hl:=h.2 _ (xgd e1);apply qO;rw[hl];simp[genM];intro j h3 h4;have:=zGG e1 (xga h3);simp[genM,this]
theorem zE0(R C:Nat):zDL R C=genM R C (fun _ _=>0):=by
 unfold zDL genM;apply qO;simp;intro i h1 h2;apply qO;simp;intro j h3 h4;simp
def zQM(M:List (List Int))(i j:Nat)(z:Int):List (List Int):=M.set i ((M.getD i []).set j z)
theorem zEw(z:Int)(hi:i<R)(hj:j<C):zQM (genM R C f) i j z=genM R C (fun i' j'=>if i'=i/\j'=j then z else f i' j'):=by
 unfold zQM;rw[zBu (zC2 R C f hi)];apply qO;simp[genM];intro a h1 h2;have ha:a<R:=by simpa[genM]using h2
 by_cases e:a=i
 ·subst e
  rw[zA3];apply qO;simp[genM];intro b h3 h4;by_cases e2:b=j
  ·subst e2;simp[genM]
  have e3:j≠b:=fun h=>e2 h.symm
  simp[genM,e2,e3]
 have e3:i≠a:=fun h=>e h.symm
 rw[zBP e3];simp[genM,e]
theorem qA.set(h:qA w base A C bs M)(hb:bs[i]?=some b)(hj:j<C)
  {s:Bool} {a:Option Addr} {l c:Nat} {z:Int} (hv:jT w (.agg #[.bool s,.slice a l c]) z):
  qA ((w.setCell ⟨b,j*2,none⟩ (.bool s)).setCell ⟨b,j*2+1,none⟩ (.slice a l c)) base A C bs (zQM M i j z)/\zBq w ((w.setCell ⟨b,j*2,none⟩ (.bool s)).setCell ⟨b,j*2+1,none⟩ (.slice a l c))/\base<=b:=by
 have hib:=(xge.1 hb).1;have hiM:i<M.length:=by rw[h.len];exact hib
 obtain⟨r1,r2,r3⟩:=h.row i b M[i] hb (xga hiM);obtain⟨s1,s2⟩:=r3.set (k:=j) (by rw[r2];exact hj) hv;refine⟨⟨⟨h.own.1,?_⟩,by simp[zQM,h.len],?_,h.nodup,h.cb⟩,s2,r1⟩
 ·rcases h.own.2 with h1|⟨g,cap,cur,e1,e2,e3,e4⟩
  ·exact .inl h1
  refine .inr ⟨g,cap,cur,e1,e2,?_,e4⟩;have hne:g≠b:=by
   have:=zGN h.own r3;rw[e1]at this;simp only[Value.ownBlock]at this;intro hh;exact this (by rw[hh])
  exact(yS w b _ _ g _ _ hne).trans e3
 intro k b' r hk hr;by_cases e:k=i
 ·subst e
  rw[hb]at hk;injection hk with hk
  subst hk;unfold zQM at hr;rw[List.getElem?_set_self hiM]at hr;injection hr with hr
  subst hr;rw[zBu (xga hiM)];exact⟨r1,by rw[List.length_set];exact r2,s1⟩
 unfold zQM at hr;rw[List.getElem?_set_ne (zP e)]at hr;obtain⟨f1,f2,f3⟩:=h.row k b' r hk hr;have hkb:=(xge.1 hk).1;have hne:b'≠b:=by
  intro hh;subst hh;have h1:=(xge.1 hk).2;have h2:=(xge.1 hb).2;exact e ((yT h.nodup).1 (h1.trans h2.symm))
 exact⟨f1,f2,f3.old (yS w b _ _ b' _ _ hne) s2⟩
theorem qA.at_{ao:Option Addr}(h:qA w base (.slice ao n cap) C bs M)(hi:i<bs.length):
  ∃g b,ao=some ⟨g,0,none⟩/\g<w.heap.size/\bs[i]?=some b/\b<w.heap.size/\w.cell? ⟨g,i,none⟩=some (.slice (some ⟨b,0,none⟩) C C)/\n=bs.length:=by
 rcases h.own.2 with⟨e,h0⟩|⟨g,cap',cur,e,e2,e3,e4,e5,e6,e7⟩
 omega;injection e with e8 e9 e10
 subst e8;have hM:i<M.length:=by rw[h.len];exact hi
 have hr:=h.row i bs[i] M[i] (xga hi) (xga hM);refine⟨g,bs[i],rfl,(Array.getElem?_eq_some_iff.1 e3).1,xga hi,hr.2.2.lt,?_,e9⟩;rw[cell_of_row w g i cur _ _ e3];have:(zBJ C bs)[i]?=some (.slice (some ⟨bs[i],0,none⟩) C C):=by simp[zBJ,hi]
 rw[<-e7,List.getElem?_take_of_lt oM]at this;simpa using this
theorem qA.cellAt(h:qA w base A C bs M)(hb:bs[i]?=some b)(hj:j<C):
  ∃s a l c,w.cell? ⟨b,j*2,none⟩=some (.bool s)/\w.cell? ⟨b,j*2+1,none⟩=some (.slice a l c)/\w.frozen? ⟨b,j*2,none⟩=false/\w.frozen? ⟨b,j*2+1,none⟩=false/\jT w (.agg #[.bool s,.slice a l c]) (ent M i j):=by
 have hib:=(xge.1 hb).1;have hiM:i<M.length:=by rw[h.len];exact hib
 obtain⟨r1,r2,r3⟩:=h.row i b M[i] hb (xga hiM);have hjr:j<M[i].length:=by rw[r2];exact hj
 have:=r3.cell (xga hjr);rwa[zGG (xga hiM) (xga hjr)]
def zKL(f:Nat->Nat->Int)(i j:Nat):Nat->Nat->Int:=fun a b=>if a<i∨(a=i/\b<j)then f a b else 0
theorem zHc(R C:Nat)(f:Nat->Nat->Int):zDL R C=genM R C (zKL f 0 0):=by
 rw[zE0];exact zAM fun i _ j _=>by unfold zKL;rw[if_neg oM]
theorem zLC:genM R C (zKL f i C)=genM R C (zKL f (i+1) 0):=
 zAM fun a _ b hb=>by
  unfold zKL;by_cases h:a<i∨(a=i/\b<C)
  ·rw[if_pos h,if_pos oM]
  rw[if_neg h,if_neg oM]
theorem zLB:genM R C (zKL f R 0)=genM R C f:=
 zAM fun a ha b _=>by unfold zKL;rw[if_pos oM]
theorem zJA(hi:i<R)(hj:j<C):zQM (genM R C (zKL f i j)) i j (f i j)=genM R C (zKL f i (j+1)):=by
 rw[zEw _ hi hj];exact zAM fun a _ b _=>by
  unfold zKL;by_cases h:a=i/\b=j
  ·obtain⟨rfl,rfl⟩:=h
   rw[if_pos ⟨rfl,rfl⟩,if_pos oM]
  rw[if_neg h];by_cases h2:a<i∨(a=i/\b<j)
  ·rw[if_pos h2,if_pos oM]
  rw[if_neg h2,if_neg oM]
theorem qA.lts(h:qA w base A C bs M):∀(i b:Nat),bs[i]?=some b->b<w.heap.size:=by
 intro i b hb;have hib:=(xge.1 hb).1;have hiM:i<M.length:=by rw[h.len];exact hib
 exact(h.row i b M[i] hb (xga hiM)).2.2.lt
def idf(i j:Nat):Int:=if i=j then 1 else 0
def zMb(k:Nat)(i j:Nat):Int:=if i=j/\i<k then 1 else 0
theorem zJQ(n:Nat)(w:World)(hn:n<=1000000):Calls Tryz.prog 49 #[.int .i64 n] w (zEo w n n (genM n n idf)):=by
 go_enter Tryz.func49,Tryz.ntmps49;go_upto_region 1 with(fail)
 refine zD ?_;intro W0 hW0;obtain⟨hB0,br,hs0⟩:=qM hW0;go_wp2_with fail
 refine(zG3 n n W0 hn hn).mono ?_;rintro e w2 ⟨u,bs,rfl,⟨hbl,A2,rfl,ho⟩,hb2⟩;obtain⟨oo,on,oc,rfl,-,-,-,-⟩:=id ho.rows;have hlts:=ho.lts;go_upto_region 2 with(fail)
 refine zD ?_;intro W3 hW3;obtain⟨hB3,T5,hs3⟩:=qM hW3;have br:=(br.below hb2).below hB3;have ho:=ho.below hB3;have hz0:zDL n n=genM n n (zMb 0):=by rw[zE0];exact zAM fun i _ j _=>by unfold zMb;rw[if_neg oM]
 rw[hz0]at ho;have hBt:=nx (nx hB0 hb2) hB3;have q1:=hB0.size;have q2:=hb2.size;clear hW3 hW0 hz0;go_wp2;go_loopw [4] (fun iv wr=>∃i:Nat,i<=n/\iv= .int .i64 i/\Below w.heap.size w wr/\Blk wr w.heap.size 32 #[.int .i64 0,.int .i64 0,.slice none 0 0]/\Blk wr w2.heap.size 32 #[.int .i64 n,.int .i64 n,.slice oo on oc]/\qA wr W0.heap.size (.slice oo on oc) n bs (genM n n (zMb i))) (fun iv _=>n-(intOf iv).toNat)
 case atStart=>exact⟨0,by omega,rfl,hBt,br,T5,ho⟩
 obtain⟨i,hi,rfl,hb,br,T5,ho⟩:=hrel;obtain⟨f1,f2,f3,f4,f5,f6⟩:=T5.three;by_cases hlt:i<n
 ·obtain⟨g,bo,rfl,hg,hbo,hbo2,o1,ho3⟩:=ho.at_ (i:=i) oM
  have hio:i<on:=by omega
  have HO3:=xgw ho3;clear ho3;have lt5:=T5.lt;go_upto_region 5 with(fail)
  refine yX 8 [pcI 6 (1)] ?_;refine sRd ?_;refine sRc (fun wS hI Gk hG=>by go_simp;exact ck hG (zDc 1 _ oM oM)) (fun va6 _=>?_);refine sRd ?_;refine sRe ?_;intro w9 hbw9 ha6;obtain⟨pn,pa,pl,pc,px,rfl,hpx⟩:=id ha6;have HPX:=xgw hpx;clear hpx;have ho9:=ho.below hbw9;obtain⟨sn,sa,sl,sc,z1,z2,z3,z4,-⟩:=ho9.cellAt hbo hlt;have hbolt:=hlts i bo hbo;have hset:=ho9.set hbo hlt ha6;go_wp2;go_roundw
  case rel=>
   have hq:zQM (genM n n (zMb i)) i i 1=genM n n (zMb (i+1)):=by
    rw[zEw _ hlt hlt];exact zAM fun a _ b _=>by
     unfold zMb;by_cases h:a=i/\b=i
     ·rw[if_pos h,if_pos oM]
     rw[if_neg h];by_cases h2:a=b/\a<i
     ·rw[if_pos h2,if_pos oM]
     rw[if_neg h2,if_neg oM]
   rw[hq]at hset;exact⟨i+1,by omega,by simp,yJ (yJ (nx hb hbw9) oM _ _) oM _ _,(yS _ _ _ _ _ _ _ oM).trans (br.below hbw9),(yS _ _ _ _ _ _ _ oM).trans (T5.below hbw9),hset.1⟩
  case measure=>simp[intOf];omega
 obtain rfl:i=n:=by omega
 have hq:genM i i (zMb i)=genM i i idf:=zAM fun a ha b _=>by
  unfold zMb idf;by_cases h:a=b
  ·rw[if_pos ⟨h,ha⟩,if_pos h]
  rw[if_neg (fun h2=>h h2.1),if_neg h]
 rw[hq]at ho;obtain⟨r1,r2,r3,r4,r5,r6⟩:=br.three;go_wp2;refine zAl rfl rfl rfl (br.put3 _ _ _) ⟨_,bs,rfl,⟨hbl,_,rfl,?_⟩,yJ (yJ (yJ hb oM 0 _) oM 1 _) oM 2 _⟩;exact(ho.keep (fun k hk=>zAe _ _ k _ _ _ oM) (br.lext3 dE _ _ _)).mono q1
def zSe(f:Nat->Int):Nat->Int
 |0=>0
 |k+1=>zSe f k+f k
def zJ1(A B:List (List Int))(m i j:Nat):Int:=zSe (fun t=>ent A i t*ent B t j) m
def zHz(A B:List (List Int))(R m C:Nat):Prop:=
 ∀i,i<R->∀j,j<C->∀k,k<m->Sm (ent A i k)/\Sm (ent B k j)/\Sm (ent A i k*ent B k j)/\Sm (zJ1 A B k i j)
def zZE(f:Nat->Nat->Int)(i j:Nat)(x:Int):Nat->Nat->Int:=fun a b=>if a=i/\b=j then x else zKL f i j a b
theorem zIx{v:Array Value}(hb:Blk W r 32 v)(h3:v.size=3):(loadVar 32 ⟨r,0,none⟩).run Tryz.prog W= .ok (.agg v) W:=
 run_loadVar_row W r _ _ v _ _ hb zCp rfl (by rw[zE6,h3])
theorem zDk{fn:Func}{p u:Tmp}(h:fn.results=#[.cell p 32,.tmp u])(tmps:Array Value){W:World}{r:Nat}{v:Array Value}
  (hp:tmps.getD p undef= .pointer (some ⟨r,0,none⟩)) (hb:Blk W r 32 v) (h3:v.size=3):
  (results fn tmps).run Tryz.prog W= .ok (.tuple #[.agg v,tmps.getD u undef]) W:=by
 have hp':tmps[p]?.getD undef= .pointer (some ⟨r,0,none⟩):=by simpa using hp
 simp[results,h,hp',asAddr,zIx hb h3]

def zYz(n:Nat)(R1 C1 R2 C2:Int)(M1 M2:List (List Int)):Bool:=
 decide (R1=n/\C1=n/\zBL R1 C1 M1) && (decide (R2=n/\C2=n/\zBL R2 C2 M2) && decide (genM n n (zJ1 M1 M2 n)=genM n n idf))
def zCG:Nat->List Int->Int
 |_,[]=>-1
 |k,z::zs=>if z≠0 then(k:Int)else zCG (k+1) zs
theorem zFF(v:Value)(zs:List Int)(w:World)(h:zBm w v zs):
  Calls Tryz.prog 199 #[v] w fun e w'=>e= .returned (.int .i64 (zCG 0 zs))/\Below w.heap.size w w':=by
 obtain⟨ao,n,cap,rfl,h2,h3,h4,h5⟩:=id h;have HL:=xgw h2;clear h2 h5;go_enter Tryz.func199,Tryz.ntmps199;go_wp2;go_loopw [7] (fun i wr=>∃k:Nat,k<=n/\i= .int .i64 k/\Below w.heap.size w wr/\Hid (zCG 0 zs=zCG k (zs.drop k))) (fun i _=>n-(intOf i).toNat)
 case atStart=>exact⟨0,by omega,rfl,zA _ _,by rw[xgk];exact xgw rfl⟩
 obtain⟨k,hk,rfl,hb,hgo⟩:=hrel;by_cases hlt:k<n
 ·obtain⟨b,z,s,a,l,c,rfl,hbl,hz,c1,c2,hv⟩:=(h.below hb).cell (k:=k) (by rw[HL.out];exact hlt)
  have HZ:=xgw hz;clear hz;go_upto_region 4 with(fail)
  refine zD ?_;intro W6 hW6;obtain⟨hB6,T6,hs6⟩:=qM hW6;obtain⟨d1,d2,d3,d4⟩:=T6.two;clear c1 c2 hW6;go_wp2_with fail
  refine(zAa _ z W6 (hv.ext (lx hB6)).weak).mono ?_;rintro e w7 ⟨rfl,hb7⟩;have hb9:=nx (nx hb hB6) hb7;by_cases hz0:z=0
  ·rw[zBX hz0]
   go_wp2;go_roundw
   case rel=>
    refine⟨k+1,by omega,by simp,hb9,xgw ?_⟩;rw[hgo.out,zDV HZ.out];conv=>lhs;unfold zCG
    rw[if_neg (by simp[hz0])]
   case measure=>simp[intOf];omega
  have hc:=zCi hz0;obtain⟨k0,hk0⟩:∃k0,zAp z 0=k0:=⟨_,rfl⟩;rw[hk0]at hc ⊢
  go_wp2;go_ret;refine⟨?_,hb9⟩;rw[hgo.out,zDV HZ.out];conv=>rhs;unfold zCG
  rw[if_pos hz0];rfl
 obtain rfl:k=n:=by omega
 go_wp2;go_ret;refine⟨?_,hb⟩;rw[hgo.out,qJ (zBU HL.out)];rfl
theorem zHr(v1 v2:Value)(z1 z2:Int)(w:World)(h1:jT w v1 z1)(h2:jT w v2 z2)(s1:Sm z1)(s2:Sm z2)(hz:z2≠0):
  Calls Tryz.prog 188 #[v1,v2] w (zDu w (z1/z2)):=by
 obtain⟨neg1,ao1,n1,cap1,xs,rfl,i1⟩:=id h1;obtain⟨neg2,ao2,n2,cap2,ys,rfl,i2⟩:=id h2;have HS1:=xgv s1;have HS2:=xgv s2;clear s1 s2 i1 i2;go_enter Tryz.func188,Tryz.ntmps188;go_upto_region 1 with(fail)
 refine zD ?_;intro W0 hW0;obtain⟨hB0,bx1,bx2,br,hs0⟩:=zCH hW0;obtain⟨c1,c2,c3,c4⟩:=bx1.two;obtain⟨d1,d2,d3,d4⟩:=bx2.two;go_wp2_with fail
 refine(zDj _ _ z1 z2 W0 (h1.ext (lx hB0)).weak (h2.ext (lx hB0)).weak HS1.out HS2.out hz).mono ?_;rintro e w2 ⟨q0,r0,rfl,hq,hr,hb2⟩;obtain⟨qn,qa,ql,qc,qx,rfl,hq'⟩:=id hq;obtain⟨rn,ra,rl,rc,rx,rfl,hr'⟩:=id hr;have HQ':=xgw hq';have HR':=xgw hr';clear hq' hr' c1 c2 c3 c4 d1 d2 d3 d4;go_upto_region 2 with(fail)
 refine zD ?_;intro W3 hW3;obtain⟨hB3,T5,T6,hs3⟩:=zAd hW3;have br:=(br.below hb2).below hB3;obtain⟨c1,c2,c3,c4⟩:=T5.two;obtain⟨d1,d2,d3,d4⟩:=br.two;go_wp2;refine jI rfl rfl rfl (br.put2 _ _) ?_ (yJ (yJ (nx (nx hB0 hb2) hB3) oM 0 _) oM 1 _);exact(hq.ext (lx hB3)).ext (br.lext2 dE _ _)
structure zBr(S:List Nat)(w w':World):Prop where
 bel:Below 0 w w'
 lext:zBq w w'
 old:∀k,k<w.heap.size->k ∉ S->w'.heap[k]?=w.heap[k]?
theorem zBr.refl(S:List Nat)(w:World):zBr S w w:=⟨zA _ _,zBq.refl _,fun _ _ _=>rfl⟩
theorem zBr.of(S:List Nat)(h:Below w.heap.size w w'):zBr S w w':=⟨h.mono (zE _),lx h,fun k hk _=>h.block k hk⟩
theorem zBr.trans{a b:World}(h:zBr S a b)(k:zBr S b c):zBr S a c:=
 ⟨h.bel.trans k.bel,h.lext.trans k.lext,fun i hi hn=>(k.old i (zH hi h.bel.size) hn).trans (h.old i hi hn)⟩
theorem jQ.only(h:jQ w b zs)(k:zBr S w w')(hb:b ∉ S):jQ w' b zs:=h.old (k.old b h.lt hb) k.lext
theorem jQ.vec(h:jQ w b zs)(hn:zs.length=n)(hc:n<=cap)(hc2:cap<=9223372036854775807):zBm w (.slice (some ⟨b,0,none⟩) n cap) zs:=
 ⟨_,_,_,rfl,hn,hc,hc2,fun _=>⟨b,rfl,h⟩⟩
def yL(n:Nat)(f:Nat->Int):List Int:=(List.range n).map f
theorem qC(n:Nat)(f:Nat->Int):(yL n f).length=n:=by simp[yL]
theorem yE{f:Nat->Int}(h:j<n):(yL n f)[j]?=some (f j):=by simp[yL,h]
theorem zDs{f:Nat->Int}(z:Int):(yL n f).set j z=yL n (fun t=>if t=j then z else f t):=by
 apply qO;simp[yL];intro a h1 h2;by_cases e:a=j
 ·subst e;simp[yL]
 have:j≠a:=fun h=>e h.symm
 simp[yL,this,e]
theorem qX{f g:Nat->Int}(h:∀t,t<n->f t=g t):yL n f=yL n g:=by
 unfold yL;exact zAu fun t ht=>h t (yI.1 ht)
def yO(f g:Nat->Int)(j:Nat):Nat->Int:=fun t=>if t<j then f t else g t
theorem zGD(fI:Nat)(hfI:fI=211∨fI=163)(bv bw n capv capw:Nat)(f g:Nat->Int)(kv:Value)(k:Int)(w:World)(hv:jQ w bv (yL n f))(hw:jQ w bw (yL n g))(hne:bv≠bw)(hk:jT w kv k)
  (hn:n<=1000000) (hcv:n<=capv) (hcv2:capv<=9223372036854775807) (hcw:n<=capw) (hcw2:capw<=9223372036854775807)
  (hS:∀t,t<n->Sm (f t)/\Sm (g t)/\Sm (k*g t)) (hks:Sm k):
  Calls Tryz.prog fI #[.slice (some ⟨bv,0,none⟩) n capv,.slice (some ⟨bw,0,none⟩) n capw,kv] w fun e w'=>(∃u,e= .returned u)/\zBr [bv] w w'/\jQ w' bv (yL n (fun t=>f t+k*g t)):=by
 have HS:=xgv hS;have HK:=xgv hks;obtain⟨kn,ka,kl,kc,kx,rfl,hkx⟩:=id hk;have HKX:=xgw hkx;clear hS hks hkx;have hlv:=hv.lt;have hlw:=hw.lt;obtain⟨F,hF⟩:∃F:Nat->Int,(fun t=>f t+k*g t)=F:=⟨_,rfl⟩;rw[hF];have HF:zAN (∀t,F t=f t+k*g t):=⟨fun t=>by rw[<-hF]⟩;clear hF;rcases hfI with rfl|rfl
 all_goals
  first|go_enter Tryz.func211,Tryz.ntmps211|go_enter Tryz.func163,Tryz.ntmps163
  go_upto_region 1 with(fail)
  refine zD ?_;intro W0 hW0;obtain⟨hB0,bx,hs0⟩:=qM hW0;have hv0:=hv.below hB0;have hw0:=hw.below hB0;have hk0:=hk.ext (lx hB0);have hst:yL n f=yL n (yO F f 0):=qX fun t _=>by unfold yO;rw[if_neg oM]
  rw[hst]at hv0;have hO:=zBr.of [bv] hB0;clear hW0 hst hv hw hk;go_wp2;go_loopw [10] (fun jv wr=>∃j:Nat,j<=n/\jv= .int .i64 j/\zBr [bv] w wr/\Blk wr w.heap.size 43 #[.bool kn,.slice ka kl kc]/\jT wr (.agg #[.bool kn,.slice ka kl kc]) k/\jQ wr bw (yL n g)/\jQ wr bv (yL n (yO F f j))) (fun jv _=>n-(intOf jv).toNat)
  case atStart=>exact⟨0,by omega,rfl,hO,bx,hk0,hw0,hv0⟩
  obtain⟨j,hj,rfl,hO,bx,hk,hw,hv⟩:=hrel;by_cases hlt:j<n
  ·obtain⟨xs,xa,xl,xc,p1,p2,-,-,hx⟩:=hw.cell (yE hlt)
   have hlw':=hw.lt;have hlb:=bx.lt;go_upto_region 4 with(fail)
   refine zD ?_;intro W6 hW6;obtain⟨hB6,T7,hs6⟩:=qM hW6;obtain⟨d1,d2,d3,d4⟩:=T7.two;have hO:=hO.trans (zBr.of [bv] hB6);have bx:=bx.below hB6;have hk:=hk.ext (lx hB6);have hw:=hw.below hB6;have hv:=hv.below hB6;have hx:=hx.ext (lx hB6);clear p1 p2 hW6;go_wp2_with fail
   refine(zAa _ (g j) W6 hx.weak).mono ?_;rintro e w7 ⟨rfl,hb7⟩;have hO:=hO.trans (zBr.of [bv] hb7);have bx:=bx.below hb7;have hk:=hk.ext (lx hb7);have hw:=hw.below hb7;have hv:=hv.below hb7;have hx:=hx.ext (lx hb7);have T7:=T7.below hb7;clear d1 d2 d3 d4;by_cases hz0:g j=0
   ·rw [zBX hz0]
    go_wp2;go_roundw
    case rel=>
     have hq:yL n (yO F f j)=yL n (yO F f (j+1)):=qX fun t _=>by
      unfold yO;by_cases h1:t<j
      ·rw[if_pos h1,if_pos oM]
      by_cases h2:t=j
      ·subst h2
       rw[if_neg h1,if_pos oM,HF.out,hz0,zZ,jZ]
      rw[if_neg h1,if_neg oM]
     rw[hq]at hv;exact⟨j+1,by omega,by simp,hO,bx,hk,hw,hv⟩
    case measure=>simp[intOf];omega
   have hc:=zCi hz0;obtain⟨k0,hk0⟩:∃k0,zAp (g j) 0=k0:=⟨_,rfl⟩;rw[hk0]at hc ⊢
   clear hk0;obtain⟨ys,ya,yl,yc,v1,v2,-,-,hy⟩:=hv.cell (yE hlt);have hyf:yO F f j j=f j:=by unfold yO;rw[if_neg oM]
   rw[hyf]at hy;obtain⟨d1,d2,d3,d4⟩:=T7.two;obtain⟨k1,k2,k3,k4⟩:=bx.two;have lv:=hv.lt;have lb:=bx.lt;have l7:=T7.lt;have HSJ:=xgv (HS.out j hlt);go_upto_region 5 with(fail)
   refine yX 11 [pcI 8 (k*g j),pcD 9 [8] (fun w v=>jT w v (f j+k*g j))] ?_;refine sRd ?_;refine sRc (fun wS hI Gk hG=>by go_simp;exact ck hG (zD4 _ _ k (g j) _ (hk.ext hI.lext).weak (hx.ext hI.lext).weak HK.out HSJ.out.2.1)) (fun va8 _=>?_);refine sRc (fun wS hI ha8 Gk hG=>by go_simp;exact ck hG (zHE _ _ (f j) (k*g j) _ (hy.ext hI.lext).weak ha8.weak HSJ.out.1 HSJ.out.2.2)) (fun va9 _=>?_);refine sRd ?_;refine sRe ?_;intro w9 hbw9 ha8 ha9;obtain⟨pn,pa,pl,pc,px,rfl,hpx⟩:=id ha9;have HPX:=xgw hpx;clear hpx;have hv9:=hv.below hbw9;obtain⟨zs,za,zl,zc,z1,z2,z3,z4,-⟩:=hv9.cell (yE hlt);have hset:=hv9.set (k:=j) (by rw[qC];exact hlt) ha9;have hO:=hO.trans (zBr.of [bv] hbw9);have hk:=hk.ext (lx hbw9);have bx:=bx.below hbw9;have hw:=hw.below hbw9;have hsz:=hO.bel.size;go_wp2;go_roundw
   case rel=>
    have hq:(yL n (yO F f j)).set j (f j+k*g j)=yL n (yO F f (j+1)):=by
     rw[zDs];exact qX fun t _=>by
      unfold yO;by_cases h2:t=j
      ·subst h2
       rw[if_pos rfl,if_pos oM,HF.out]
      rw[if_neg h2];by_cases h1:t<j
      ·rw[if_pos h1,if_pos oM]
      rw[if_neg h1,if_neg oM]
    rw[hq]at hset;refine⟨j+1,by omega,by simp,hO.trans ⟨yJ (yJ (zA _ _) (zE _) _ _) (zE _) _ _,hset.2,fun i _ hi=>yS _ _ _ _ _ _ _ (by simpa using hi)⟩,(yS _ _ _ _ _ _ _ oM).trans bx,hk.ext hset.2,hw.old (yS _ _ _ _ _ _ _ (zP hne)) hset.2,hset.1⟩
   case measure=>simp[intOf];omega
  obtain rfl:j=n:=by omega
  have hq:yL j (yO F f j)=yL j F:=qX fun t ht=>by unfold yO;rw[if_pos ht]
  rw[hq]at hv;go_wp2;exact bodyPost_end (results_none rfl _ _ _) rfl ⟨⟨_,rfl⟩,hO,hv⟩
abbrev zQZ:=zGD 211 (.inl rfl)
abbrev zJl:=zGD 163 (.inr rfl)
theorem qA.only(h:qA w base A C bs M)(ho:zBr S w w')(hd:∀b∈bs,b ∉ S)(hr:∀g∈S,∃r,jQ w g r):qA w' base A C bs M:=by
 refine⟨⟨h.own.1,?_⟩,h.len,fun k b r h1 h2=>by
  obtain⟨e1,e2,e3⟩:=h.row k b r h1 h2;exact⟨e1,e2,e3.only ho (hd b (xgd h1))⟩,h.nodup,h.cb⟩
 rcases h.own.2 with h1|⟨g,cap,cur,e1,e2,e3,e4⟩
 exact .inl h1;refine .inr ⟨g,cap,cur,e1,e2,?_,e4⟩;refine(ho.old g (Array.getElem?_eq_some_iff.1 e3).1 ?_).trans e3;intro hg;obtain⟨r,hr⟩:=hr g hg;have:=zGN h.own hr;rw[e1]at this;exact this rfl
theorem qA.setRow{r:List Int}(h:qA w base A C bs M)(hb:bs[i]?=some b)(ho:zBr [b] w w')(hr:jQ w' b r)(hl:r.length=C):
  qA w' base A C bs (M.set i r):=by
 have hib:=(xge.1 hb).1;have hiM:i<M.length:=by rw[h.len];exact hib
 obtain⟨r1,r2,r3⟩:=h.row i b M[i] hb (xga hiM);refine⟨⟨h.own.1,?_⟩,by simp[h.len],?_,h.nodup,h.cb⟩
 ·rcases h.own.2 with h1|⟨g,cap,cur,e1,e2,e3,e4⟩
  ·exact .inl h1
  refine .inr ⟨g,cap,cur,e1,e2,?_,e4⟩;refine(ho.old g (Array.getElem?_eq_some_iff.1 e3).1 ?_).trans e3;intro hg;have:=zGN h.own r3;rw[e1]at this;simp at hg;exact this (by rw[hg];rfl)
 intro k b' r' hk hr';by_cases e:k=i
 ·subst e
  rw[hb]at hk;injection hk with hk
  subst hk;rw[List.getElem?_set_self hiM]at hr';injection hr' with hr'
  subst hr';exact⟨r1,hl,hr⟩
 rw[List.getElem?_set_ne (zP e)]at hr';obtain⟨f1,f2,f3⟩:=h.row k b' r' hk hr';have hkb:=(xge.1 hk).1;have hne:b'≠b:=by
  intro hh;subst hh;have h1:=(xge.1 hk).2;have h2:=(xge.1 hb).2;exact e ((yT h.nodup).1 (h1.trans h2.symm))
 exact⟨f1,f2,f3.only ho (by simpa using hne)⟩
def zCe(F:Nat->Nat->Int)(i j:Nat)(k:Int):Nat->Nat->Int:=fun a b=>if a=i then F i b+k*F j b else F a b
theorem zKD{k:Int}(hi:i<R):(genM R C F).set i (yL C (fun t=>F i t+k*F j t))=genM R C (zCe F i j k):=by
 apply qO;simp[genM];intro a h1 h2;by_cases e:a=i
 ·subst e
  rw[zA3];simp[genM,yL,zCe]
 have e3:i≠a:=fun h=>e h.symm
 rw[zBP e3];simp[genM,zCe,e]
theorem qA.rowAt(h:qA w base A C bs (genM R C F))(hi:i<R):∃b,bs[i]?=some b/\jQ w b (yL C (F i)):=by
 have hl:bs.length=R:=by rw[<-h.len];simp[genM]
 refine⟨bs[i],xga oM,?_⟩;exact(h.row i bs[i] (yL C (F i)) (xga oM) (zC2 R C F hi)).2.2
theorem zMm(h:qA w base A C bs (genM R C F))(hi:i<R)(hj:j<R)(hij:i≠j)(hbi:bs[i]?=some bi)(hbj:bs[j]?=some bj)(kv:Value)(k:Int)
  (hk:jT w kv k) (hC:C<=1000000) (hS:∀t,t<C->Sm (F i t)/\Sm (F j t)/\Sm (k*F j t)) (hks:Sm k):
  Calls Tryz.prog 211 #[.slice (some ⟨bi,0,none⟩) C C,.slice (some ⟨bj,0,none⟩) C C,kv] w fun e w'=>(∃u,e= .returned u)/\zBr [bi] w w'/\qA w' base A C bs (genM R C (zCe F i j k)):=by
 obtain⟨b1,e1,r1⟩:=h.rowAt hi;obtain⟨b2,e2,r2⟩:=h.rowAt hj;obtain rfl:b1=bi:=zX (e1.symm.trans hbi);obtain rfl:b2=bj:=zX (e2.symm.trans hbj);have hne:b1≠b2:=by
  intro hh;subst hh;obtain⟨f1,f2⟩:=xge.1 e1;obtain⟨g1,g2⟩:=xge.1 e2;exact hij ((yT h.nodup).1 (f2.trans g2.symm))
 refine(zQZ b1 b2 C C C (F i) (F j) kv k w r1 r2 hne hk hC (xgf _) oM (xgf _) oM hS hks).mono ?_;rintro e w' ⟨hu,ho,hr⟩;refine⟨hu,ho,?_⟩;rw[<-zKD hi];exact h.setRow e1 ho hr (qC _ _)
def Wri(w:World)(A:Value)(R C:Nat)(bs:List Nat)(F:Nat->Nat->Int):Prop:=qA w 0 A C bs (genM R C F)
theorem Wri.below(h:Wri w A R C bs F)(hb:Below w.heap.size w w'):Wri w' A R C bs F:=qA.below h hb
theorem Wri.len(h:Wri w A R C bs F):bs.length=R:=by rw[<-qA.len h];simp[genM]
theorem Wri.blk(h:Wri w A R C bs F)(hb:b∈bs):∃r,jQ w b r:=by
 obtain⟨k,hk,e⟩:=qS hb;have hl:=h.len;obtain⟨b',e1,e2⟩:=qA.rowAt h (i:=k) oM;rw[xga hk,e]at e1;injection e1 with e1
 subst e1;exact⟨_,e2⟩
theorem Wri.only{r:List Int}(h:Wri w A R C bs F)(ho:zBr [b] w w')(hn:b ∉ bs)(hr:jQ w b r):Wri w' A R C bs F:=
 qA.only h ho (fun x hx=>by
  intro hh;simp at hh;subst hh;exact hn hx) (fun g hg=>by
  simp at hg;subst hg;exact⟨_,hr⟩)
def Far(xs ys:List Nat):Prop:=∀b,b∈xs->b ∉ ys
structure zFS(w:World)(As At Ai:Value)(n Cs Ct:Nat)(bss bst bsi:List Nat)(S T I:Nat->Nat->Int):Prop where
 s:Wri w As n Cs bss S
 t:Wri w At n Ct bst T
 i:Wri w Ai n Ct bsi I
 st:Far bss bst
 si:Far bss bsi
 ti:Far bst bsi
 ast:∀g,As.ownBlock=some g->At.ownBlock≠some g
 asi:∀g,As.ownBlock=some g->Ai.ownBlock≠some g
 ati:∀g,At.ownBlock=some g->Ai.ownBlock≠some g
abbrev tRR:TypeId:=30
theorem Tryz.infoRR:(Tryz.prog.info? tRR).map (fun i=>(i.zero,i.size,i.bytes))=some (some (.slice none 0 0),1,24):=by kernel_rfl
theorem zCL(t:TypeId)(n:Nat)(cs:Array Value)(k:Int)(j:Nat)(v:Value)(W:World)(h:Tryz.prog.underlying t=some (.array n tRR))(hk:k=(j:Int))(hj:j<n)(hv:cs[j]?=some v):
  (Instr.index t (.agg cs) (.int .i64 k)).run Tryz.prog W= .ok v W:=by
 subst hk;obtain⟨i0,hi,hz0,hz1,hz2⟩:=info_parts Tryz.infoRR;have hc:(0:Int)<=(j:Int)/\(j:Int)<(n:Int):=by omega
 have hu:=zAs;simp[Instr.index,run_underlying h,asIntOf,hc,part,isAgg,run_underlying hu,sizeOf,typeInfo,hi,hz1,hv,go_sem];intro h0;omega
def zLI(C:Nat)(F:Nat->Nat->Int)(i j:Nat)(k:Int):Prop:=∀t,t<C->Sm (F i t)/\Sm (F j t)/\Sm (k*F j t)
theorem zLP(As At Ai:Value)(n Cs Ct i j:Nat)(bss bst bsi:List Nat)(S T I:Nat->Nat->Int)(kv:Value)(k:Int)(w:World)(h:zFS w As At Ai n Cs Ct bss bst bsi S T I)(hi:i<n)(hj:j<n)(hij:i≠j)(hk:jT w kv k)
  (hn:n<=1000000) (hCs:Cs<=1000000) (hCt:Ct<=1000000) (hS:zLI Cs S i j k) (hT:zLI Ct T i j k) (hI:zLI Ct I j i (-k)) (hks:Sm k):
  Calls Tryz.prog 200 #[.agg #[As,At,Ai],.int .i64 i,.int .i64 j,kv] w fun e w'=>(∃u,e= .returned u)/\Below 0 w w'/\zBq w w'/\(∀b,b<w.heap.size->b ∉ bss->b ∉ bst->b ∉ bsi->w'.heap[b]?=w.heap[b]?)∧
   zFS w' As At Ai n Cs Ct bss bst bsi (zCe S i j k) (zCe T i j k) (zCe I j i (-k)):=by
 obtain⟨so,sn,sc,rfl,s1,s2,s3,-⟩:=id (qA.rows h.s);obtain⟨uo,tn,tc,rfl,t1,t2,t3,-⟩:=id (qA.rows h.t);obtain⟨io,in_,ic,rfl,i1,i2,i3,-⟩:=id (qA.rows h.i);obtain⟨kn,ka,kl,kc,kx,rfl,hkx⟩:=id hk;have HKX:=xgw hkx;have HS:=xgv hS;have HT:=xgv hT;have HI:=xgv hI;have HK:=xgv hks;clear hkx hS hT hI hks;obtain⟨hs,ht,hi_,fst_,fsi,fti,gst,gsi,gti⟩:=h;have GST:=xgv gst;have GSI:=xgv gsi;have GTI:=xgv gti;clear gst gsi gti;have e1:n=sn:=by rw[<-s1];simp[genM]
 have e2:n=tn:=by rw[<-t1];simp[genM]
 have e3:n=in_:=by rw[<-i1];simp[genM]
 subst e1;subst e2;subst e3;clear s1 t1 i1;have hltbss:∀b∈bss,b<w.heap.size:=fun b hb=>(hs.blk hb).elim fun r hr=>hr.lt
 have hltbst:∀b∈bst,b<w.heap.size:=fun b hb=>(ht.blk hb).elim fun r hr=>hr.lt
 have hltbsi:∀b∈bsi,b<w.heap.size:=fun b hb=>(hi_.blk hb).elim fun r hr=>hr.lt
 go_enter Tryz.func200,Tryz.ntmps200;go_upto_region 1 with(fail)
 refine zD ?_;intro W0 hW0;obtain⟨hB0,bx,bk,hs0⟩:=zAd hW0;obtain⟨c1,c2,c3,c4,c5,c6⟩:=bx.three;have hs:=hs.below hB0;have ht:=ht.below hB0;have hi_:=hi_.below hB0;have hk:=hk.ext (lx hB0);clear hW0;go_wp2;clear c1 c2 c3 c4 c5 c6;go_loopw [15] (fun mv wr=>∃m:Nat,m<=2/\mv= .int .i64 m/\Below 0 w wr/\zBq w wr/\(∀b,b<w.heap.size->b ∉ bss->b ∉ bst->b ∉ bsi->wr.heap[b]?=w.heap[b]?)/\Blk wr w.heap.size 176 #[.slice so n sc,.slice uo n tc,.slice io n ic]∧
  Blk wr (w.heap.size+1) 43 #[.bool kn,.slice ka kl kc]/\jT wr (.agg #[.bool kn,.slice ka kl kc]) k/\Wri wr (.slice so n sc) n Cs bss (if m=0 then S else zCe S i j k)/\Wri wr (.slice uo n tc) n Ct bst (if m=2 then zCe T i j k else T)/\Wri wr (.slice io n ic) n Ct bsi I) (fun mv _=>2-(intOf mv).toNat)
 case atStart=>exact⟨0,by omega,rfl,hB0.mono (zE _),lx hB0,fun b hb _ _ _=>hB0.block b hb,bx,bk,hk,hs,ht,hi_⟩
 obtain⟨m,hm,rfl,hb0,hx0,hold,bx,bk,hk,hs,ht,hi_⟩:=hrel;have lk:=bk.lt;obtain⟨d1,d2,d3,d4⟩:=bk.two;by_cases hm0:m=0
 ·subst hm0
  rw[if_pos rfl]at hs;rw[if_neg oM]at ht;obtain⟨g,bi,rfl,hg,hbi,hbi2,o1,-⟩:=qA.at_ hs (i:=i) (by rw[hs.len];exact hi);obtain⟨g',bj,eg,hg',hbj,hbj2,o2,-⟩:=qA.at_ hs (i:=j) (by rw[hs.len];exact hj);obtain rfl:g=g':=by injection eg with eg;injection eg
  have hmi:=xgd hbi;obtain⟨ri,hri⟩:=hs.blk hmi;have hix:=fun W=>zCL 209 2 #[.slice (some ⟨g,0,none⟩) n sc,.slice uo n tc] 0 0 _ W Tryz.underlying209 rfl oM rfl
  go_upto_region 4 with(fail)
  refine yX 9 [] ?_;refine sRd ?_;refine sRf ?_;intro w8 hbw8;have hlw8:=lx hbw8;have holdw8:=hbw8.block;have hs8:=hs.below hbw8;go_wp2_with fail
  refine(zMm hs8 hi hj hij hbi hbj _ k (hk.ext (lx hbw8)) hCs HS.out HK.out).mono ?_;rintro e w9 ⟨⟨u,rfl⟩,ho,hs9⟩;go_wp2;go_roundw
  case measure=>simp[intOf]
  have hsz:=hb0.size;have hbs2:w.heap.size≠bi:=by have:=hltbss bi hmi;omega
  have hbs3:w.heap.size+1≠bi:=by have:=hltbss bi hmi;omega
  have hri8:=hri.below hbw8;have hoo:=(zBr.of [bi] hbw8).trans ho;refine⟨1,by omega,by simp,hb0.trans hoo.bel,hx0.trans hoo.lext,fun b hb n1 n2 n3=>(hoo.old b oM (by simp;rintro rfl;exact n1 hmi)).trans (hold b hb n1 n2 n3),(hoo.old _ bx.lt (by simpa using hbs2)).trans bx,(hoo.old _ bk.lt (by simpa using hbs3)).trans bk,hk.ext hoo.lext,?_,?_,?_⟩;rw[if_neg oM];exact hs9;rw[if_neg oM];exact(ht.below hbw8).only ho (fun hh=>fst_ _ hmi hh) hri8;exact(hi_.below hbw8).only ho (fun hh=>fsi _ hmi hh) hri8
 by_cases hm1:m=1
 ·subst hm1
  rw[if_neg oM]at hs ht;obtain⟨g,bi,rfl,hg,hbi,hbi2,o1,-⟩:=qA.at_ ht (i:=i) (by rw[ht.len];exact hi);obtain⟨g',bj,eg,hg',hbj,hbj2,o2,-⟩:=qA.at_ ht (i:=j) (by rw[ht.len];exact hj);obtain rfl:g=g':=by injection eg with eg;injection eg
  have hmi:=xgd hbi;obtain⟨ri,hri⟩:=ht.blk hmi;have hix:=fun W=>zCL 209 2 #[.slice so n sc,.slice (some ⟨g,0,none⟩) n tc] 1 1 _ W Tryz.underlying209 rfl oM rfl
  go_upto_region 4 with(fail)
  refine yX 9 [] ?_;refine sRd ?_;refine sRf ?_;intro w8 hbw8;have hlw8:=lx hbw8;have holdw8:=hbw8.block;have hs8:=ht.below hbw8;go_wp2_with fail
  refine(zMm hs8 hi hj hij hbi hbj _ k (hk.ext (lx hbw8)) hCt HT.out HK.out).mono ?_;rintro e w9 ⟨⟨u,rfl⟩,ho,hs9⟩;go_wp2;go_roundw
  case measure=>simp[intOf]
  have hsz:=hb0.size;have hbs2:w.heap.size≠bi:=by have:=hltbst bi hmi;omega
  have hbs3:w.heap.size+1≠bi:=by have:=hltbst bi hmi;omega
  have hri8:=hri.below hbw8;have hoo:=(zBr.of [bi] hbw8).trans ho;refine⟨2,by omega,by simp,hb0.trans hoo.bel,hx0.trans hoo.lext,fun b hb n1 n2 n3=>(hoo.old b oM (by simp;rintro rfl;exact n2 hmi)).trans (hold b hb n1 n2 n3),(hoo.old _ bx.lt (by simpa using hbs2)).trans bx,(hoo.old _ bk.lt (by simpa using hbs3)).trans bk,hk.ext hoo.lext,?_,?_,?_⟩;rw[if_neg oM];exact(hs.below hbw8).only ho (fun hh=>fst_ _ hh hmi) hri8;rw[if_pos rfl];exact hs9;exact(hi_.below hbw8).only ho (fun hh=>fti _ hmi hh) hri8
 obtain rfl:m=2:=by omega
 rw[if_neg oM]at hs;rw[if_pos rfl]at ht;obtain⟨g,bi,rfl,hg,hbi,hbi2,o1,-⟩:=qA.at_ hi_ (i:=i) (by rw[hi_.len];exact hi);obtain⟨g',bj,eg,hg',hbj,hbj2,o2,-⟩:=qA.at_ hi_ (i:=j) (by rw[hi_.len];exact hj);obtain rfl:g=g':=by injection eg with eg;injection eg
 have hmj:=xgd hbj;obtain⟨rj,hrj⟩:=hi_.blk hmj;obtain⟨c1,c2,c3,c4,c5,c6⟩:=bx.three;have lx0:=bx.lt;have hKn:zAN (Sm (-k)):=⟨HK.out.mono (by rw[zT];exact xgf _)⟩;go_upto_region 6 with(fail)
 refine yX 12 [pcI 11 (-k)] ?_;refine sRd ?_;refine sRc (fun wS hI Gk hG=>by go_simp;exact ck hG (zBS _ k _ (hk.ext hI.lext).weak HK.out)) (fun vc11 _=>?_);refine sRe ?_;intro w8 hbw8 hc11;have hlw8:=lx hbw8;have holdw8:=hbw8.block;have hs8:=hi_.below hbw8;go_wp2_with fail
 refine(zMm hs8 hj hi (zP hij) hbj hbi _ (-k) hc11 hCt HI.out hKn.out).mono ?_;rintro e w9 ⟨⟨u,rfl⟩,ho,hs9⟩;have hsz:=hb0.size;have hrj8:=hrj.below hbw8;have hoo:=(zBr.of [bj] hbw8).trans ho;go_wp2;refine bodyPost_end (results_none rfl _ _ _) rfl ⟨⟨_,rfl⟩,hb0.trans hoo.bel,hx0.trans hoo.lext,fun b hb n1 n2 n3=>(hoo.old b oM (by simp;rintro rfl;exact n3 hmj)).trans (hold b hb n1 n2 n3),?_,?_,hs9,fst_,fsi,fti,GST.out,GSI.out,GTI.out⟩;exact(hs.below hbw8).only ho (fun hh=>fsi _ hh hmj) hrj8;exact(ht.below hbw8).only ho (fun hh=>fti _ hh hmj) hrj8
def swp(i j:Nat)(k:Nat):Nat:=if k=i then j else if k=j then i else k
theorem zSh(i j k:Nat):swp i j (swp i j k)=k:=by
 unfold swp;by_cases h1:k=i
 ·rw[if_pos h1]
  by_cases h2:j=i
  ·rw[if_pos h2];omega
  rw[if_neg h2,if_pos rfl];omega
 rw[if_neg h1];by_cases h2:k=j
 ·rw[if_pos h2,if_pos rfl];omega
 rw[if_neg h2,if_neg h1,if_neg h2]
theorem zFr{α:Type}{l:List α}{x y:α}(hx:l[i]?=some x)(hy:l[j]?=some y)(k:Nat):((l.set i y).set j x)[k]?=l[swp i j k]?:=by
 have hi:=(xge.1 hx).1;have hj:=(xge.1 hy).1;unfold swp;by_cases h2:k=j
 ·subst h2
  rw[List.getElem?_set_self (by simpa using hj)];by_cases h1:k=i
  ·subst h1
   rw[if_pos rfl];exact hx.symm
  rw[if_neg h1,if_pos rfl];exact hx.symm
 rw[List.getElem?_set_ne (zP h2)];by_cases h1:k=i
 ·subst h1
  rw[List.getElem?_set_self hi,if_pos rfl];exact hy.symm
 rw[List.getElem?_set_ne (zP h1),if_neg h1,if_neg h2]
theorem zPj{α:Type}{l:List α}{x y:α}(hn:l.Nodup)(hx:l[i]?=some x)(hy:l[j]?=some y):((l.set i y).set j x).Nodup:=by
 show List.Pairwise _ _;rw[List.pairwise_iff_getElem];intro a b ha hb hab he0;have he:((l.set i y).set j x)[a]?=((l.set i y).set j x)[b]?:=by rw[xga ha,xga hb,he0]
 rw[zFr hx hy,zFr hx hy]at he;have hi:=(xge.1 hx).1;have hj:=(xge.1 hy).1;have hlen:((l.set i y).set j x).length=l.length:=by simp
 rw[hlen]at hb ha;have hbnd:∀k,k<l.length->swp i j k<l.length:=by
  intro k hk;unfold swp;split;exact hj;split;exact hi;exact hk
 have h1:=hbnd a oM;have h2:=hbnd b hb;rw[xga h1,xga h2]at he;injection he with he
 have h3:=(yT hn).1 he;have h4:=congrArg (swp i j) h3;rw[zSh,zSh]at h4;omega
theorem qA.swap(h:qA w base (.slice (some ⟨g,0,none⟩) n cap) C bs M){ri rj:List Int}(hi:bs[i]?=some bi)(hj:bs[j]?=some bj)(hri:M[i]?=some ri)(hrj:M[j]?=some rj):
  qA ((w.setCell ⟨g,i,none⟩ (.slice (some ⟨bj,0,none⟩) C C)).setCell ⟨g,j,none⟩ (.slice (some ⟨bi,0,none⟩) C C)) base (.slice (some ⟨g,0,none⟩) n cap) C ((bs.set i bj).set j bi) ((M.set i rj).set j ri)∧
   zBq w ((w.setCell ⟨g,i,none⟩ (.slice (some ⟨bj,0,none⟩) C C)).setCell ⟨g,j,none⟩ (.slice (some ⟨bi,0,none⟩) C C)):=by
 have hib:=(xge.1 hi).1;have hjb:=(xge.1 hj).1;rcases h.own.2 with⟨e,h0⟩|⟨g',cap',cur,e,e2,e3,e4,e5,e6,e7⟩
 omega;injection e with e8 e9 e10
 injection e8 with e8
 injection e8 with e8
 subst e8;subst e9;subst e10;have hB:Blk w g tR cur:=e3;have hx:zBq w ((w.setCell ⟨g,i,none⟩ (.slice (some ⟨bj,0,none⟩) C C)).setCell ⟨g,j,none⟩ (.slice (some ⟨bi,0,none⟩) C C)):=(hB.lext dE _ _).trans ((hB.set_ _ _).lext dE _ _);refine⟨⟨⟨by simp[zBJ],.inr ⟨g,cap,_,by simp,e2,(hB.set_ _ _).set_ _ _,by simpa using e4,e5,by simpa using e6,?_⟩⟩,by simp[h.len],?_,zPj h.nodup hi hj,h.cb⟩,hx⟩
 ·rw[zAx,zAx]
  simp only[List.length_set];rw[List.take_set,List.take_set,e7];simp[zBJ,List.map_set]
 intro k b r hk hr;rw[zFr hi hj]at hk;rw[zFr hri hrj]at hr;obtain⟨f1,f2,f3⟩:=h.row _ b r hk hr;refine⟨f1,f2,f3.old (yS w g _ _ b _ _ ?_) hx⟩;intro hh;have:=zGN h.own f3;exact this (by rw[hh];rfl)
theorem zRD{C:Nat}{F:Nat->Nat->Int}(hi:i<R)(hj:j<R):
  ((genM R C F).set i (yL C (F j))).set j (yL C (F i))=genM R C (fun a b=>F (swp i j a) b):=by
 apply List.ext_getElem?;intro k;have e1:(genM R C F)[i]?=some (yL C (F i)):=zC2 R C F hi;have e2:(genM R C F)[j]?=some (yL C (F j)):=zC2 R C F hj;rw[zFr e1 e2];rcases zG k R with h|h
 ·have h2:swp i j k<R:=by
   unfold swp;split;exact hj;split;exact hi;exact h
  rw[zC2 R C F h2,zC2 R C _ h]
 have h2:swp i j k=k:=by
  unfold swp;rw[if_neg oM,if_neg oM]
 rw[h2,List.getElem?_eq_none (by simp[genM];exact h),List.getElem?_eq_none (by simp[genM];exact h)]
def zS4(bs:List Nat)(i j:Nat):List Nat:=(bs.set i (bs.getD j 0)).set j (bs.getD i 0)
theorem zD9(hi:i<bs.length)(hj:j<bs.length)(h:b∈zS4 bs i j):b∈bs:=by
 have e1:bs[i]?=some bs[i]:=xga hi;have e2:bs[j]?=some bs[j]:=xga hj;unfold zS4 at h;rw[zBu e1,zBu e2]at h;obtain⟨k,hk,e⟩:=qS h;have h3:((bs.set i bs[j]).set j bs[i])[k]?=some b:=by rw[xga hk,e]
 rw[zFr e1 e2]at h3;exact xgd h3
theorem Wri.swap(h:Wri w (.slice (some ⟨g,0,none⟩) n cap) R C bs F)(hi:i<R)(hj:j<R)(hbi:bs[i]?=some bi)(hbj:bs[j]?=some bj):
  Wri ((w.setCell ⟨g,i,none⟩ (.slice (some ⟨bj,0,none⟩) C C)).setCell ⟨g,j,none⟩ (.slice (some ⟨bi,0,none⟩) C C)) (.slice (some ⟨g,0,none⟩) n cap) R C (zS4 bs i j) (fun a b=>F (swp i j a) b)∧
   zBq w ((w.setCell ⟨g,i,none⟩ (.slice (some ⟨bj,0,none⟩) C C)).setCell ⟨g,j,none⟩ (.slice (some ⟨bi,0,none⟩) C C)):=by
 have hs:=qA.swap h hbi hbj (zC2 R C F hi) (zC2 R C F hj);refine⟨?_,hs.2⟩;unfold Wri zS4;rw[zBu hbi,zBu hbj,<-zRD hi hj];exact hs.1
def zG9(F:Nat->Nat->Int)(i j:Nat):Nat->Nat->Int:=fun a b=>F (swp i j a) b
def zDM(F:Nat->Nat->Int)(i:Nat):Nat->Nat->Int:=fun a b=>if a=i then-(F a b)else F a b
def trF(F:Nat->Nat->Int):Nat->Nat->Int:=fun a b=>F b a
def yZ(F:Nat->Nat->Int)(i j:Nat)(m0 m1 m2 m3:Int):Nat->Nat->Int:=fun a b=>if a=i then m0*F i b+m1*F j b else if a=j then m2*F i b+m3*F j b else F a b
structure Bst where
 s:Nat->Nat->Int
 t:Nat->Nat->Int
 i:Nat->Nat->Int
def Bst.add(x:Bst)(i j:Nat)(k:Int):Bst:=⟨zCe x.s i j k,zCe x.t i j k,zCe x.i j i (-k)⟩
def Bst.swap(x:Bst)(i j:Nat):Bst:=⟨zG9 x.s i j,zG9 x.t i j,zG9 x.i i j⟩
def Bst.neg(x:Bst)(i:Nat):Bst:=⟨zDM x.s i,zDM x.t i,zDM x.i i⟩
def okF(B R C:Nat)(F:Nat->Nat->Int):Prop:=∀a,a<R->∀b,b<C->(F a b).natAbs<B
instance (B R C:Nat) (F:Nat->Nat->Int):Decidable (okF B R C F):=by unfold okF;infer_instance
def okB(B n Cs Ct:Nat)(x:Bst):Prop:=okF B n Cs x.s/\okF B n Ct x.t/\okF B n Ct x.i
instance (B n Cs Ct:Nat) (x:Bst):Decidable (okB B n Cs Ct x):=by unfold okB;infer_instance
def zFI(B n Cs Ct:Nat)(x:Bst)(i j:Nat)(k:Int):Prop:=
 k.natAbs<B/\(∀t,t<Cs->(k*x.s j t).natAbs<B)/\(∀t,t<Ct->(k*x.t j t).natAbs<B/\(k*x.i i t).natAbs<B)/\okB B n Cs Ct (x.add i j k)
instance (B n Cs Ct:Nat) (x:Bst) (i j:Nat) (k:Int):Decidable (zFI B n Cs Ct x i j k):=by unfold zFI;infer_instance
def lead(C:Nat)(F:Nat->Nat->Int)(i:Nat):Int:=zCG 0 (yL C (F i))
def adv(L:Nat->Int)(c:Int):Nat->Nat->Nat
 |0,k=>k
 |m+1,k=>if L k<c then adv L c m (k+1)else k
def zVA(k:Nat):Nat->Bst->Bst
 |0,x=>x
 |m+1,x=>zVA k m (x.swap (k+m+1) (k+m))
def zBt(B n Cs Ct m rank:Nat):Nat->Nat->Bst->Option (Bst × Bool)
 |0,_,_=>none
 | f +1,k,x=>
  if lead Cs x.s m<0 then some (x,false)
  else if adv (lead Cs x.s) (lead Cs x.s m) (rank-k) k<rank/\lead Cs x.s (adv (lead Cs x.s) (lead Cs x.s m) (rank-k) k)=lead Cs x.s m then
   if zFI B n Cs Ct x m (adv (lead Cs x.s) (lead Cs x.s m) (rank-k) k) (-(x.s m (lead Cs x.s m).toNat/x.s (adv (lead Cs x.s) (lead Cs x.s m) (rank-k) k) (lead Cs x.s m).toNat))then
    zBt B n Cs Ct m rank f (adv (lead Cs x.s) (lead Cs x.s m) (rank-k) k)
     (if x.s m (lead Cs x.s m).toNat%x.s (adv (lead Cs x.s) (lead Cs x.s m) (rank-k) k) (lead Cs x.s m).toNat=0 then x.add m (adv (lead Cs x.s) (lead Cs x.s m) (rank-k) k) (-(x.s m (lead Cs x.s m).toNat/x.s (adv (lead Cs x.s) (lead Cs x.s m) (rank-k) k) (lead Cs x.s m).toNat))
      else(x.add m (adv (lead Cs x.s) (lead Cs x.s m) (rank-k) k) (-(x.s m (lead Cs x.s m).toNat/x.s (adv (lead Cs x.s) (lead Cs x.s m) (rank-k) k) (lead Cs x.s m).toNat))).swap m (adv (lead Cs x.s) (lead Cs x.s m) (rank-k) k))
   else none
  else some (zVA (adv (lead Cs x.s) (lead Cs x.s m) (rank-k) k) (rank-adv (lead Cs x.s) (lead Cs x.s m) (rank-k) k) ((if x.s m (lead Cs x.s m).toNat<0 then x.neg m else x).swap m rank),true)
def zT8(B n Cs Ct:Nat)(cols:Nat->Int)(i:Nat):Nat->Nat->Bst->Option Bst
 |0,_,x=>some x
 |m+1,j,x=>
  if cols j<0 then none
  else if x.s i (cols j).toNat=0 then zT8 B n Cs Ct cols i m (j+1) x
  else if x.s j (cols j).toNat=0 then none
  else if x.s i (cols j).toNat/x.s j (cols j).toNat=0 then zT8 B n Cs Ct cols i m (j+1) x
  else if zFI B n Cs Ct x i j (-(x.s i (cols j).toNat/x.s j (cols j).toNat))then zT8 B n Cs Ct cols i m (j+1) (x.add i j (-(x.s i (cols j).toNat/x.s j (cols j).toNat)))
  else none
def zWT(B n Cs Ct:Nat)(cols:Nat->Int)(rank:Nat):Nat->Bst->Option Bst
 |0,x=>some x
 |i+1,x=>(zT8 B n Cs Ct cols i (rank-(i+1)) (i+1) x).bind (zWT B n Cs Ct cols rank i)
def zIu(B n Cs Ct rank:Nat)(x:Bst):Option Bst:=zWT B n Cs Ct (lead Cs x.s) rank rank x
def zO7(B n Cs Ct f:Nat):Nat->Nat->Nat->Bst->Option Bst
 |0,_,_,x=>some x
 |l+1,m,rank,x=>
  (zBt B n Cs Ct m rank f 0 x).bind fun r=>(zIu B n Cs Ct (if r.2 then rank+1 else rank) r.1).bind fun y=>zO7 B n Cs Ct f l (m+1) (if r.2 then rank+1 else rank) y
def zXg(B n Cs Ct f:Nat)(x:Bst):Option Bst:=zO7 B n Cs Ct f n 0 0 x
structure W5 where
 s:Nat->Nat->Int
 u:Nat->Nat->Int
 v:Nat->Nat->Int
 w:Nat->Nat->Int
 x:Nat->Nat->Int
def zOY(B R C Cu Cw f:Nat)(z:W5):Option W5:=
 (zXg B R C Cu f ⟨z.s,z.u,z.v⟩).bind fun a=>(zXg B C R Cw f ⟨trF a.s,z.w,z.x⟩).bind fun b=>some ⟨trF b.s,a.t,a.i,b.t,b.i⟩
def zF9(R C:Nat)(F:Nat->Nat->Int):Prop:=∀a,a<R->∀b,b<C->a≠b->F a b=0
instance (R C:Nat) (F:Nat->Nat->Int):Decidable (zF9 R C F):=by unfold zF9;infer_instance
def zHZ(B R C Cu Cw f:Nat):Nat->W5->Option W5
 |0,_=>none
 |r+1,z=>(zOY B R C Cu Cw f z).bind fun y=>if zF9 R C y.s then some y else zHZ B R C Cu Cw f r y
def zH0(F:Nat->Nat->Int)(i j:Nat):Nat->Nat->Int:=fun a b=>if a=j/\b=j then F i i*(F j j/((Int.gcd (F i i) (F j j):Nat):Int))else if a=i/\b=i then((Int.gcd (F i i) (F j j):Nat):Int)else F a b
def zXf(z:W5)(i j:Nat)(s t:Int):W5:=
 ⟨zH0 z.s i j,yZ z.u i j s t (-(z.s j j/((Int.gcd (z.s i i) (z.s j j):Nat):Int))) (z.s i i/((Int.gcd (z.s i i) (z.s j j):Nat):Int)),
  yZ z.v i j (z.s i i/((Int.gcd (z.s i i) (z.s j j):Nat):Int)) (z.s j j/((Int.gcd (z.s i i) (z.s j j):Nat):Int)) (-t) s,
  yZ z.w i j 1 1 (-(t*(z.s j j/((Int.gcd (z.s i i) (z.s j j):Nat):Int)))) (1-t*(z.s j j/((Int.gcd (z.s i i) (z.s j j):Nat):Int))),
  yZ z.x i j (1-t*(z.s j j/((Int.gcd (z.s i i) (z.s j j):Nat):Int))) (t*(z.s j j/((Int.gcd (z.s i i) (z.s j j):Nat):Int))) (-1) 1⟩
def Bez(x y s t:Int):Prop:=s*x+t*y=((Int.gcd x y:Nat):Int)/\s.natAbs<=max 1 y.natAbs/\t.natAbs<=max 1 x.natAbs
inductive zMf (n:Nat):W5->W5->Prop
 |refl (z:W5):zMf n z z
 |step (z y:W5) (i j:Nat) (s t:Int):zMf n z y->i<j->j<n->¬ y.s i i∣y.s j j->Bez (y.s i i) (y.s j j) s t->zMf n z (zXf y i j s t)
def divJ(i:Nat):Nat->Nat->(Nat->Nat->Int)->(Nat->Nat->Int)
 |0,_,F=>F
 |m+1,j,F=>divJ i m (j+1) (if F i i∣F j j then F else zH0 F i j)
def divI:Nat->Nat->(Nat->Nat->Int)->(Nat->Nat->Int)
 |0,_,F=>F
 |m+1,i,F=>divI m (i+1) (divJ i m (i+1) F)
example:(zHZ 1000000 2 1 2 1 20 5 ⟨fun a _=>if a=0 then 4 else 6,fun a b=>if a=b then 1 else 0,fun a b=>if a=b then 1 else 0,fun _ _=>1,fun _ _=>1⟩).map (fun z=>(z.s 0 0,z.s 1 0,z.u 0 0,z.u 0 1,z.u 1 0,z.u 1 1))=some (2,0,-1,1,3,-2):=by decide
structure qG(Z:Nat->Prop)(w w':World):Prop where
 bel:Below 0 w w'
 lext:zBq w w'
 old:∀k,k<w.heap.size->¬ Z k->w'.heap[k]?=w.heap[k]?
theorem qG.refl(Z:Nat->Prop)(w:World):qG Z w w:=⟨zA _ _,zBq.refl _,fun _ _ _=>rfl⟩
theorem qG.of(Z:Nat->Prop)(h:Below w.heap.size w w'):qG Z w w':=⟨h.mono (zE _),lx h,fun k hk _=>h.block k hk⟩
theorem qG.trans{a b:World}(h:qG Z a b)(k:qG Z b c):qG Z a c:=
 ⟨h.bel.trans k.bel,h.lext.trans k.lext,fun i hi hn=>(k.old i (zH hi h.bel.size) hn).trans (h.old i hi hn)⟩
theorem qG.mono{Z':Nat->Prop}(h:qG Z w w')(hs:∀k,k<w.heap.size->Z k->Z' k):qG Z' w w':=⟨h.bel,h.lext,fun k hk hn=>h.old k hk (fun hh=>hn (hs k hk hh))⟩
theorem qG.blk(h:qG Z w w')(hb:Blk w b T cs)(hz:¬ Z b):Blk w' b T cs:=(h.old b hb.lt hz).trans hb
theorem qA.gone(h:qA w base A C bs M){cur:Array Value}(hg:Blk w g tR cur)(hx:zBq w w')(ho:∀k,k<w.heap.size->k≠g->w'.heap[k]?=w.heap[k]?)(hne:A.ownBlock≠some g):
  qA w' base A C bs M:=by
 refine⟨⟨h.own.1,?_⟩,h.len,fun k b r h1 h2=>by
  obtain⟨e1,e2,e3⟩:=h.row k b r h1 h2;refine⟨e1,e2,e3.old (ho b e3.lt ?_) hx⟩;rintro rfl;obtain⟨cs,q1,-⟩:=e3;have hg':w.heap[b]?=some (.cells cur tR (0,0)):=hg;rw[hg']at q1;injection q1 with q1
  injection q1 with _ ht
  exact absurd ht dE,h.nodup,h.cb⟩
 rcases h.own.2 with h1|⟨g',cap,cur',e1,e2,e3,e4⟩
 exact .inl h1;refine .inr ⟨g',cap,cur',e1,e2,?_,e4⟩;refine(ho g' (Array.getElem?_eq_some_iff.1 e3).1 ?_).trans e3;rintro rfl;rw[e1]at hne;exact hne rfl
theorem qA.gblk(h:qA w base (.slice (some ⟨g,0,none⟩) n cap) C bs M):∃cur,Blk w g tR cur/\n<=cur.size:=by
 rcases h.own.2 with⟨e,h0⟩|⟨g',cap',cur,e,e2,e3,e4,e5,e6,e7⟩
 cases e;injection e with e8 e9 e10
 injection e8 with e8
 injection e8 with e8
 subst e8;subst e9;exact⟨cur,e3,by omega⟩
theorem zLl(As At Ai:Value)(n Cs Ct i j:Nat)(bss bst bsi:List Nat)(S T I:Nat->Nat->Int)(w:World)(h:zFS w As At Ai n Cs Ct bss bst bsi S T I)(hi:i<n)(hj:j<n)(hn:n<=1000000):
  Calls Tryz.prog 201 #[.agg #[As,At,Ai],.int .i64 i,.int .i64 j] w fun e w'=>(∃u,e= .returned u)/\qG (fun b=>As.ownBlock=some b∨At.ownBlock=some b∨Ai.ownBlock=some b) w w'∧
   zFS w' As At Ai n Cs Ct (zS4 bss i j) (zS4 bst i j) (zS4 bsi i j) (zG9 S i j) (zG9 T i j) (zG9 I i j):=by
 obtain⟨so,sn,sc,rfl,s1,s2,s3,-⟩:=id (qA.rows h.s);obtain⟨uo,tn,tc,rfl,t1,t2,t3,-⟩:=id (qA.rows h.t);obtain⟨io,in_,ic,rfl,i1,i2,i3,-⟩:=id (qA.rows h.i);have H0:=xgv h;obtain⟨hs,ht,hi_,-,-,-,gst,gsi,gti⟩:=h;have e1:n=sn:=by rw[<-s1];simp[genM]
 have e2:n=tn:=by rw[<-t1];simp[genM]
 have e3:n=in_:=by rw[<-i1];simp[genM]
 subst e1;subst e2;subst e3;clear s1 t1 i1;obtain⟨gs,rfl,-⟩:∃g,so=some ⟨g,0,none⟩/\True:=by
  obtain⟨g,b,e,-⟩:=qA.at_ hs (i:=i) (by rw[hs.len];exact hi);exact⟨g,e,trivial⟩
 obtain⟨gt,rfl,-⟩:∃g,uo=some ⟨g,0,none⟩/\True:=by
  obtain⟨g,b,e,-⟩:=qA.at_ ht (i:=i) (by rw[ht.len];exact hi);exact⟨g,e,trivial⟩
 obtain⟨gi,rfl,-⟩:∃g,io=some ⟨g,0,none⟩/\True:=by
  obtain⟨g,b,e,-⟩:=qA.at_ hi_ (i:=i) (by rw[hi_.len];exact hi);exact⟨g,e,trivial⟩
 have nst:gt≠gs:=fun hh=>gst gs rfl (by rw[<-hh];rfl)
 have nsi:gi≠gs:=fun hh=>gsi gs rfl (by rw[<-hh];rfl)
 have nti:gi≠gt:=fun hh=>gti gt rfl (by rw[<-hh];rfl)
 clear gst gsi gti;go_enter Tryz.func201,Tryz.ntmps201;go_upto_region 1 with(fail)
 refine zD ?_;intro W0 hW0;obtain⟨hB0,bx,hs0⟩:=qM hW0;obtain⟨c1,c2,c3,c4,c5,c6⟩:=bx.three;have hs:=hs.below hB0;have ht:=ht.below hB0;have hi_:=hi_.below hB0;clear hW0;go_wp2;clear c1 c2 c3 c4 c5 c6;go_loopw [15] (fun mv wr=>∃m:Nat,m<=3/\mv= .int .i64 m/\Below 0 w wr/\zBq w wr/\(∀b,b<w.heap.size->b≠gs->b≠gt->b≠gi->wr.heap[b]?=w.heap[b]?)∧
  Wri wr (.slice (some ⟨gs,0,none⟩) n sc) n Cs (if m=0 then bss else zS4 bss i j) (if m=0 then S else zG9 S i j)/\Wri wr (.slice (some ⟨gt,0,none⟩) n tc) n Ct (if m<=1 then bst else zS4 bst i j) (if m<=1 then T else zG9 T i j)/\Wri wr (.slice (some ⟨gi,0,none⟩) n ic) n Ct (if m<=2 then bsi else zS4 bsi i j) (if m<=2 then I else zG9 I i j)) (fun mv _=>3-(intOf mv).toNat)
 case atStart=>exact⟨0,by omega,rfl,hB0.mono (zE _),lx hB0,fun b hb _ _ _=>hB0.block b hb,hs,ht,hi_⟩
 obtain⟨m,hm,rfl,hb0,hx0,hold,hs,ht,hi_⟩:=hrel;have hsz:=hb0.size;have HOLD:=xgv hold;clear hold;by_cases hm0:m=0
 ·subst hm0
  rw[if_pos rfl,if_pos rfl]at hs;rw[if_pos oM,if_pos oM]at ht hi_;obtain⟨g1,bi,eg1,hg,hbi,hbi2,o1,-⟩:=qA.at_ hs (i:=i) (by rw[hs.len];exact hi);obtain rfl:gs=g1:=by injection eg1 with eg1;injection eg1
  obtain⟨g2,bj,eg2,hg',hbj,hbj2,o2,-⟩:=qA.at_ hs (i:=j) (by rw[hs.len];exact hj);obtain rfl:gs=g2:=by injection eg2 with eg2;injection eg2
  clear eg1 eg2;obtain⟨cur,hBr,hcz⟩:=qA.gblk hs;have f1:=hBr.frozen i;have f2:=hBr.frozen j;have hix:=fun W=>zCL 210 3 #[.slice (some ⟨gs,0,none⟩) n sc,.slice (some ⟨gt,0,none⟩) n tc,.slice (some ⟨gi,0,none⟩) n ic] 0 0 _ W zA7 rfl oM rfl
  have s2:(wr.setCell ⟨gs,i,none⟩ (.slice (some ⟨bj,0,none⟩) Cs Cs)).frozen? ⟨gs,j,none⟩=false:=(hBr.set_ i _).frozen j;obtain⟨u,s1⟩:∃u,(wr.setCell ⟨gs,i,none⟩ (.slice (some ⟨bj,0,none⟩) Cs Cs)).cell? ⟨gs,j,none⟩=some u:=by
   rw[(hBr.set_ i _).cell j];exact⟨_,Array.getElem?_eq_getElem (by simpa using(by omega:j<cur.size))⟩
  have hsw:=hs.swap hi hj hbi hbj;have hxx:=hsw.2.trans (lx (dr _));have hoo:∀k,k<wr.heap.size->k≠gs->(((wr.setCell ⟨gs,i,none⟩ (.slice (some ⟨bj,0,none⟩) Cs Cs)).setCell ⟨gs,j,none⟩ (.slice (some ⟨bi,0,none⟩) Cs Cs)).drew).heap[k]?=wr.heap[k]?:=fun k _ hk=>yS _ _ _ _ _ _ _ hk
  have hbb:Below 0 wr (((wr.setCell ⟨gs,i,none⟩ (.slice (some ⟨bj,0,none⟩) Cs Cs)).setCell ⟨gs,j,none⟩ (.slice (some ⟨bi,0,none⟩) Cs Cs)).drew):=(yJ (yJ (zA _ _) (zE _) _ _) (zE _) _ _).drew;have hsw1:=hsw.1.below (dr _);have HFX:=xgv (And.intro hxx (And.intro hoo (And.intro hbb hsw1)));have HBR:=xgv hBr;clear hxx hoo hbb hsw1 hsw hBr;go_upto_region 4 with(fail)
  go_region;go_wp2;go_roundw
  case measure=>simp[intOf]
  obtain⟨hxx,hoo,hbb,hsw1⟩:=HFX.out;have hBr:=HBR.out;refine⟨1,by omega,by simp,hb0.trans hbb,hx0.trans hxx,fun b hb n1 n2 n3=>(hoo b oM n1).trans (HOLD.out b hb n1 n2 n3),?_,?_,?_⟩;rw[if_neg oM,if_neg oM];exact hsw1;rw[if_pos oM,if_pos oM];exact qA.gone ht hBr hxx hoo (fun hh=>nst (by injection hh));rw[if_pos oM,if_pos oM];exact qA.gone hi_ hBr hxx hoo (fun hh=>nsi (by injection hh))
 by_cases hm1:m=1
 ·subst hm1
  rw[if_neg oM,if_neg oM]at hs;rw[if_pos oM,if_pos oM]at ht hi_;obtain⟨g1,bi,eg1,hg,hbi,hbi2,o1,-⟩:=qA.at_ ht (i:=i) (by rw[ht.len];exact hi);obtain rfl:gt=g1:=by injection eg1 with eg1;injection eg1
  obtain⟨g2,bj,eg2,hg',hbj,hbj2,o2,-⟩:=qA.at_ ht (i:=j) (by rw[ht.len];exact hj);obtain rfl:gt=g2:=by injection eg2 with eg2;injection eg2
  clear eg1 eg2;obtain⟨cur,hBr,hcz⟩:=qA.gblk ht;have f1:=hBr.frozen i;have f2:=hBr.frozen j;have hix:=fun W=>zCL 210 3 #[.slice (some ⟨gs,0,none⟩) n sc,.slice (some ⟨gt,0,none⟩) n tc,.slice (some ⟨gi,0,none⟩) n ic] 1 1 _ W zA7 rfl oM rfl
  have s2:(wr.setCell ⟨gt,i,none⟩ (.slice (some ⟨bj,0,none⟩) Ct Ct)).frozen? ⟨gt,j,none⟩=false:=(hBr.set_ i _).frozen j;obtain⟨u,s1⟩:∃u,(wr.setCell ⟨gt,i,none⟩ (.slice (some ⟨bj,0,none⟩) Ct Ct)).cell? ⟨gt,j,none⟩=some u:=by
   rw[(hBr.set_ i _).cell j];exact⟨_,Array.getElem?_eq_getElem (by simpa using(by omega:j<cur.size))⟩
  have hsw:=ht.swap hi hj hbi hbj;have hxx:=hsw.2.trans (lx (dr _));have hoo:∀k,k<wr.heap.size->k≠gt->(((wr.setCell ⟨gt,i,none⟩ (.slice (some ⟨bj,0,none⟩) Ct Ct)).setCell ⟨gt,j,none⟩ (.slice (some ⟨bi,0,none⟩) Ct Ct)).drew).heap[k]?=wr.heap[k]?:=fun k _ hk=>yS _ _ _ _ _ _ _ hk
  have hbb:Below 0 wr (((wr.setCell ⟨gt,i,none⟩ (.slice (some ⟨bj,0,none⟩) Ct Ct)).setCell ⟨gt,j,none⟩ (.slice (some ⟨bi,0,none⟩) Ct Ct)).drew):=(yJ (yJ (zA _ _) (zE _) _ _) (zE _) _ _).drew;have hsw1:=hsw.1.below (dr _);have HFX:=xgv (And.intro hxx (And.intro hoo (And.intro hbb hsw1)));have HBR:=xgv hBr;clear hxx hoo hbb hsw1 hsw hBr;go_upto_region 4 with(fail)
  go_region;go_wp2;go_roundw
  case measure=>simp[intOf]
  obtain⟨hxx,hoo,hbb,hsw1⟩:=HFX.out;have hBr:=HBR.out;refine⟨2,by omega,by simp,hb0.trans hbb,hx0.trans hxx,fun b hb n1 n2 n3=>(hoo b oM n2).trans (HOLD.out b hb n1 n2 n3),?_,?_,?_⟩;rw[if_neg oM,if_neg oM];exact qA.gone hs hBr hxx hoo (fun hh=>nst (by injection hh with hh;exact hh.symm));rw[if_neg oM,if_neg oM];exact hsw1;rw[if_pos oM,if_pos oM];exact qA.gone hi_ hBr hxx hoo (fun hh=>nti (by injection hh))
 by_cases hm2:m=2
 ·subst hm2
  rw[if_neg oM,if_neg oM]at hs ht;rw[if_pos oM,if_pos oM]at hi_;obtain⟨g1,bi,eg1,hg,hbi,hbi2,o1,-⟩:=qA.at_ hi_ (i:=i) (by rw[hi_.len];exact hi);obtain rfl:gi=g1:=by injection eg1 with eg1;injection eg1
  obtain⟨g2,bj,eg2,hg',hbj,hbj2,o2,-⟩:=qA.at_ hi_ (i:=j) (by rw[hi_.len];exact hj);obtain rfl:gi=g2:=by injection eg2 with eg2;injection eg2
  clear eg1 eg2;obtain⟨cur,hBr,hcz⟩:=qA.gblk hi_;have f1:=hBr.frozen i;have f2:=hBr.frozen j;have hix:=fun W=>zCL 210 3 #[.slice (some ⟨gs,0,none⟩) n sc,.slice (some ⟨gt,0,none⟩) n tc,.slice (some ⟨gi,0,none⟩) n ic] 2 2 _ W zA7 rfl oM rfl
  have s2:(wr.setCell ⟨gi,i,none⟩ (.slice (some ⟨bj,0,none⟩) Ct Ct)).frozen? ⟨gi,j,none⟩=false:=(hBr.set_ i _).frozen j;obtain⟨u,s1⟩:∃u,(wr.setCell ⟨gi,i,none⟩ (.slice (some ⟨bj,0,none⟩) Ct Ct)).cell? ⟨gi,j,none⟩=some u:=by
   rw[(hBr.set_ i _).cell j];exact⟨_,Array.getElem?_eq_getElem (by simpa using(by omega:j<cur.size))⟩
  have hsw:=hi_.swap hi hj hbi hbj;have hxx:=hsw.2.trans (lx (dr _));have hoo:∀k,k<wr.heap.size->k≠gi->(((wr.setCell ⟨gi,i,none⟩ (.slice (some ⟨bj,0,none⟩) Ct Ct)).setCell ⟨gi,j,none⟩ (.slice (some ⟨bi,0,none⟩) Ct Ct)).drew).heap[k]?=wr.heap[k]?:=fun k _ hk=>yS _ _ _ _ _ _ _ hk
  have hbb:Below 0 wr (((wr.setCell ⟨gi,i,none⟩ (.slice (some ⟨bj,0,none⟩) Ct Ct)).setCell ⟨gi,j,none⟩ (.slice (some ⟨bi,0,none⟩) Ct Ct)).drew):=(yJ (yJ (zA _ _) (zE _) _ _) (zE _) _ _).drew;have hsw1:=hsw.1.below (dr _);have HFX:=xgv (And.intro hxx (And.intro hoo (And.intro hbb hsw1)));have HBR:=xgv hBr;clear hxx hoo hbb hsw1 hsw hBr;go_upto_region 4 with(fail)
  go_region;go_wp2;go_roundw
  case measure=>simp[intOf]
  obtain⟨hxx,hoo,hbb,hsw1⟩:=HFX.out;have hBr:=HBR.out;refine⟨3,by omega,by simp,hb0.trans hbb,hx0.trans hxx,fun b hb n1 n2 n3=>(hoo b oM n3).trans (HOLD.out b hb n1 n2 n3),?_,?_,?_⟩;rw[if_neg oM,if_neg oM];exact qA.gone hs hBr hxx hoo (fun hh=>nsi (by injection hh with hh;exact hh.symm));rw[if_neg oM,if_neg oM];exact qA.gone ht hBr hxx hoo (fun hh=>nti (by injection hh with hh;exact hh.symm));rw[if_neg oM,if_neg oM];exact hsw1
 obtain rfl:m=3:=by omega
 rw[if_neg oM,if_neg oM]at hs ht hi_;go_wp2;obtain⟨gs1,gt1,gi1,f1,f2,f3,f4,f5,f6⟩:=H0.out;have l1:=gs1.len;have l2:=gt1.len;have l3:=gi1.len;refine bodyPost_end (results_none rfl _ _ _) rfl ⟨⟨_,rfl⟩,⟨hb0,hx0,fun b hb hn=>HOLD.out b hb (fun hh=>hn (.inl (by rw[hh];rfl))) (fun hh=>hn (.inr (.inl (by rw[hh];rfl)))) (fun hh=>hn (.inr (.inr (by rw[hh];rfl))))⟩,hs,ht,hi_,?_,?_,?_,f4,f5,f6⟩;exact fun b h1 h2=>f1 b (zD9 oM oM h1) (zD9 oM oM h2)
 exact fun b h1 h2=>f2 b (zD9 oM oM h1) (zD9 oM oM h2)
 exact fun b h1 h2=>f3 b (zD9 oM oM h1) (zD9 oM oM h2)
theorem zPz(hi:i<R):(genM R C F).set i (yL C (fun t=>-F i t))=genM R C (zDM F i):=by
 apply qO;simp[genM];intro a h1 h2;by_cases e:a=i
 ·subst e
  rw[zA3];simp[genM,yL,zDM]
 have e3:i≠a:=fun h=>e h.symm
 rw[zBP e3];simp[genM,zDM,e]
theorem Wri.negRow(h:Wri w A R C bs F)(hi:i<R)(hb:bs[i]?=some b)(ho:zBr [b] w w')(hr:jQ w' b (yL C (fun t=>-F i t))):Wri w' A R C bs (zDM F i):=by
 unfold Wri;rw[<-zPz hi];exact qA.setRow h hb ho hr (qC _ _)
theorem Wri.rowAt(h:Wri w A R C bs F)(hi:i<R)(hb:bs[i]?=some b):jQ w b (yL C (F i)):=by
 obtain⟨b',e1,e2⟩:=qA.rowAt h hi;obtain rfl:b'=b:=zX (e1.symm.trans hb);exact e2
theorem zPi(As At Ai:Value)(n Cs Ct i:Nat)(bss bst bsi:List Nat)(FS FT FI:Nat->Nat->Int)(w:World)(h:zFS w As At Ai n Cs Ct bss bst bsi FS FT FI)(hi:i<n)(hn:n<=1000000)(hCs:Cs<=1000000)(hCt:Ct<=1000000)
  (hS:∀a,a<n->∀b,b<Cs->Sm (FS a b)) (hT:∀a,a<n->∀b,b<Ct->Sm (FT a b)) (hI:∀a,a<n->∀b,b<Ct->Sm (FI a b)):
  Calls Tryz.prog 202 #[.agg #[As,At,Ai],.int .i64 i] w fun e w'=>(∃u,e= .returned u)/\qG (fun b=>b∈bss∨b∈bst∨b∈bsi) w w'∧
   zFS w' As At Ai n Cs Ct bss bst bsi (zDM FS i) (zDM FT i) (zDM FI i):=by
 obtain⟨so,sn,sc,rfl,s1,s2,s3,-⟩:=id (qA.rows h.s);obtain⟨uo,tn,tc,rfl,t1,t2,t3,-⟩:=id (qA.rows h.t);obtain⟨io,in_,ic,rfl,i1,i2,i3,-⟩:=id (qA.rows h.i);have H0:=xgv h;have HS:=xgv hS;have HT:=xgv hT;have HI:=xgv hI;clear hS hT hI;obtain⟨hs,ht,hi_,fst_,fsi,fti,-,-,-⟩:=h;have e1:n=sn:=by rw[<-s1];simp[genM]
 have e2:n=tn:=by rw[<-t1];simp[genM]
 have e3:n=in_:=by rw[<-i1];simp[genM]
 subst e1;subst e2;subst e3;clear s1 t1 i1;go_enter Tryz.func202,Tryz.ntmps202;go_upto_region 1 with(fail)
 refine zD ?_;intro W0 hW0;obtain⟨hB0,bx,hs0⟩:=qM hW0;obtain⟨c1,c2,c3,c4,c5,c6⟩:=bx.three;have hs:=hs.below hB0;have ht:=ht.below hB0;have hi_:=hi_.below hB0;clear hW0;go_wp2;clear c1 c2 c3 c4 c5 c6;go_loopw [15] (fun mv wr=>∃m:Nat,m<=3/\mv= .int .i64 m/\Below 0 w wr/\zBq w wr/\(∀b,b<w.heap.size->b ∉ bss->b ∉ bst->b ∉ bsi->wr.heap[b]?=w.heap[b]?)∧
  Wri wr (.slice so n sc) n Cs bss (if m=0 then FS else zDM FS i)/\Wri wr (.slice uo n tc) n Ct bst (if m<=1 then FT else zDM FT i)/\Wri wr (.slice io n ic) n Ct bsi (if m<=2 then FI else zDM FI i)) (fun mv _=>3-(intOf mv).toNat)
 case atStart=>exact⟨0,by omega,rfl,hB0.mono (zE _),lx hB0,fun b hb _ _ _=>hB0.block b hb,hs,ht,hi_⟩
 obtain⟨m,hm,rfl,hb0,hx0,hold,hs,ht,hi_⟩:=hrel;have hsz:=hb0.size;have HOLD:=xgv hold;clear hold;by_cases hm0:m=0
 ·subst hm0
  rw[if_pos rfl]at hs;rw[if_pos oM]at ht hi_;simp only[Int.cast_ofNat_Int];obtain⟨g,bi,rfl,hg,hbi,hbi2,o1,-⟩:=qA.at_ hs (i:=i) (by rw[hs.len];exact hi);have hmi:=xgd hbi;have hri:=hs.rowAt hi hbi;have hix:=fun W=>zCL 210 3 #[.slice (some ⟨g,0,none⟩) n sc,.slice uo n tc,.slice io n ic] 0 0 _ W zA7 rfl oM rfl
  have hst:∀F:Nat->Int,yL Cs F=yL Cs (yO (fun t=>-F t) F 0):=fun F=>qX fun t _=>by unfold yO;rw[if_neg oM]
  rw[hst]at hri;clear hst;go_wp2;go_loopw [23] (fun jv wt=>∃j:Nat,j<=Cs/\jv= .int .i64 j/\zBr [bi] wr wt/\(∃G,G=(fun t=>-FS i t)/\jQ wt bi (yL Cs (yO G (FS i) j)))) (fun jv _=>Cs-(intOf jv).toNat)
  case atStart=>exact⟨0,by omega,rfl,zBr.refl _ _,_,rfl,hri⟩
  rename World=>wt
  obtain⟨j,hj,rfl,hO,G,hG,hv⟩:=hrel;have HG:=xgv (congrFun hG);clear hG;have hgb:g≠bi:=by
   rintro rfl;obtain⟨cur,q1,-⟩:=qA.gblk hs;obtain⟨cs,q2,-⟩:=hs.rowAt hi hbi;have q1':wr.heap[g]?=some (.cells cur tR (0,0)):=q1;rw[q1']at q2;injection q2 with q2
   injection q2 with _ ht
   exact absurd ht dE
  have p1:wt.cell? ⟨g,i,none⟩=some (.slice (some ⟨bi,0,none⟩) Cs Cs):=by
   obtain⟨cur,q1,-⟩:=qA.gblk hs;have q2:Blk wt g tR cur:=(hO.old g hg (by simpa using hgb)).trans q1;rw[q2.cell,<-q1.cell];exact o1
  have hOs:=hO.bel.size;by_cases hlt:j<Cs
  ·obtain⟨xs,xa,xl,xc,v1,v2,-,-,hx⟩:=hv.cell (yE hlt)
   have hyf:yO G (FS i) j j=FS i j:=by unfold yO;rw[if_neg oM]
   rw[hyf]at hx;have hlv:=hv.lt;go_upto_region 7 with(fail)
   refine zD ?_;intro W6 hW6;obtain⟨hB6,T7,hs6⟩:=qM hW6;obtain⟨d1,d2,d3,d4⟩:=T7.two;have hO:=hO.trans (zBr.of [bi] hB6);have hv:=hv.below hB6;have hx:=hx.ext (lx hB6);have p1:=jF p1 hB6;have l7:=T7.lt;clear v1 v2 hW6 o1;have HSJ:=xgv (HS.out i hi j hlt);refine yX 8 [pcI 6 (-(FS i j))] ?_;refine sRd ?_;refine sRc (fun wS hI Gk hG=>by go_simp;exact ck hG (zBS _ (FS i j) _ (hx.ext hI.lext).weak HSJ.out)) (fun va6 _=>?_);refine sRd ?_;refine sRe ?_;intro w9 hbw9 ha6;have hlw9:=lx hbw9;have holdw9:=hbw9.block;obtain⟨pn,pa,pl,pc,px,rfl,hpx⟩:=id ha6;have HPX:=xgw hpx;clear hpx;have hv9:=hv.below hbw9;obtain⟨zs,za,zl,zc,z1,z2,z3,z4,-⟩:=hv9.cell (yE hlt);have hset:=hv9.set (k:=j) (by rw[qC];exact hlt) ha6;have hO:=hO.trans (zBr.of [bi] hbw9);go_wp2;go_roundw
   case rel=>
    have hq:(yL Cs (yO G (FS i) j)).set j (-(FS i j))=yL Cs (yO G (FS i) (j+1)):=by
     rw[zDs];exact qX fun t _=>by
      unfold yO;by_cases h2:t=j
      ·subst h2
       rw[if_pos rfl,if_pos oM,HG.out]
      rw[if_neg h2];by_cases h1:t<j
      ·rw[if_pos h1,if_pos oM]
      rw[if_neg h1,if_neg oM]
    rw[hq]at hset;exact⟨j+1,by omega,by simp,hO.trans ⟨yJ (yJ (zA _ _) (zE _) _ _) (zE _) _ _,hset.2,fun i _ hi=>yS _ _ _ _ _ _ _ (by simpa using hi)⟩,_,funext HG.out,hset.1⟩
   case measure=>simp[intOf];omega
  obtain rfl:j=Cs:=by omega
  have hq:yL j (yO G (FS i) j)=yL j (fun t=>-FS i t):=qX fun t ht=>by unfold yO;rw[if_pos ht];exact HG.out t
  rw[hq]at hv;go_wp2;go_roundw
  case measure=>simp[intOf]
  have hri0:=hs.rowAt hi hbi;exact⟨1,by omega,by simp,hb0.trans hO.bel,hx0.trans hO.lext,fun b hb n1 n2 n3=>(hO.old b oM (by simp;rintro rfl;exact n1 hmi)).trans (HOLD.out b hb n1 n2 n3),by simpa using hs.negRow hi hbi hO hv,by simpa using ht.only hO (fun hh=>fst_ _ hmi hh) hri0,by simpa using hi_.only hO (fun hh=>fsi _ hmi hh) hri0⟩
 by_cases hm1:m=1
 ·subst hm1
  rw[if_neg oM]at hs;rw[if_pos oM]at ht hi_;simp only[Int.cast_ofNat_Int];obtain⟨g,bi,rfl,hg,hbi,hbi2,o1,-⟩:=qA.at_ ht (i:=i) (by rw[ht.len];exact hi);have hmi:=xgd hbi;have hri:=ht.rowAt hi hbi;have hix:=fun W=>zCL 210 3 #[.slice so n sc,.slice (some ⟨g,0,none⟩) n tc,.slice io n ic] 1 1 _ W zA7 rfl oM rfl
  have hst:∀F:Nat->Int,yL Ct F=yL Ct (yO (fun t=>-F t) F 0):=fun F=>qX fun t _=>by unfold yO;rw[if_neg oM]
  rw[hst]at hri;clear hst;go_wp2;go_loopw [23] (fun jv wt=>∃j:Nat,j<=Ct/\jv= .int .i64 j/\zBr [bi] wr wt/\(∃G,G=(fun t=>-FT i t)/\jQ wt bi (yL Ct (yO G (FT i) j)))) (fun jv _=>Ct-(intOf jv).toNat)
  case atStart=>exact⟨0,by omega,rfl,zBr.refl _ _,_,rfl,hri⟩
  rename World=>wt
  obtain⟨j,hj,rfl,hO,G,hG,hv⟩:=hrel;have HG:=xgv (congrFun hG);clear hG;have hgb:g≠bi:=by
   rintro rfl;obtain⟨cur,q1,-⟩:=qA.gblk ht;obtain⟨cs,q2,-⟩:=ht.rowAt hi hbi;have q1':wr.heap[g]?=some (.cells cur tR (0,0)):=q1;rw[q1']at q2;injection q2 with q2
   injection q2 with _ ht
   exact absurd ht dE
  have p1:wt.cell? ⟨g,i,none⟩=some (.slice (some ⟨bi,0,none⟩) Ct Ct):=by
   obtain⟨cur,q1,-⟩:=qA.gblk ht;have q2:Blk wt g tR cur:=(hO.old g hg (by simpa using hgb)).trans q1;rw[q2.cell,<-q1.cell];exact o1
  have hOs:=hO.bel.size;by_cases hlt:j<Ct
  ·obtain⟨xs,xa,xl,xc,v1,v2,-,-,hx⟩:=hv.cell (yE hlt)
   have hyf:yO G (FT i) j j=FT i j:=by unfold yO;rw[if_neg oM]
   rw[hyf]at hx;have hlv:=hv.lt;go_upto_region 7 with(fail)
   refine zD ?_;intro W6 hW6;obtain⟨hB6,T7,hs6⟩:=qM hW6;obtain⟨d1,d2,d3,d4⟩:=T7.two;have hO:=hO.trans (zBr.of [bi] hB6);have hv:=hv.below hB6;have hx:=hx.ext (lx hB6);have p1:=jF p1 hB6;have l7:=T7.lt;clear v1 v2 hW6 o1;have HSJ:=xgv (HT.out i hi j hlt);refine yX 8 [pcI 6 (-(FT i j))] ?_;refine sRd ?_;refine sRc (fun wS hI Gk hG=>by go_simp;exact ck hG (zBS _ (FT i j) _ (hx.ext hI.lext).weak HSJ.out)) (fun va6 _=>?_);refine sRd ?_;refine sRe ?_;intro w9 hbw9 ha6;have hlw9:=lx hbw9;have holdw9:=hbw9.block;obtain⟨pn,pa,pl,pc,px,rfl,hpx⟩:=id ha6;have HPX:=xgw hpx;clear hpx;have hv9:=hv.below hbw9;obtain⟨zs,za,zl,zc,z1,z2,z3,z4,-⟩:=hv9.cell (yE hlt);have hset:=hv9.set (k:=j) (by rw[qC];exact hlt) ha6;have hO:=hO.trans (zBr.of [bi] hbw9);go_wp2;go_roundw
   case rel=>
    have hq:(yL Ct (yO G (FT i) j)).set j (-(FT i j))=yL Ct (yO G (FT i) (j+1)):=by
     rw[zDs];exact qX fun t _=>by
      unfold yO;by_cases h2:t=j
      ·subst h2
       rw[if_pos rfl,if_pos oM,HG.out]
      rw[if_neg h2];by_cases h1:t<j
      ·rw[if_pos h1,if_pos oM]
      rw[if_neg h1,if_neg oM]
    rw[hq]at hset;exact⟨j+1,by omega,by simp,hO.trans ⟨yJ (yJ (zA _ _) (zE _) _ _) (zE _) _ _,hset.2,fun i _ hi=>yS _ _ _ _ _ _ _ (by simpa using hi)⟩,_,funext HG.out,hset.1⟩
   case measure=>simp[intOf];omega
  obtain rfl:j=Ct:=by omega
  have hq:yL j (yO G (FT i) j)=yL j (fun t=>-FT i t):=qX fun t ht=>by unfold yO;rw[if_pos ht];exact HG.out t
  rw[hq]at hv;go_wp2;go_roundw
  case measure=>simp[intOf]
  have hri0:=ht.rowAt hi hbi;exact⟨2,by omega,by simp,hb0.trans hO.bel,hx0.trans hO.lext,fun b hb n1 n2 n3=>(hO.old b oM (by simp;rintro rfl;exact n2 hmi)).trans (HOLD.out b hb n1 n2 n3),by simpa using hs.only hO (fun hh=>fst_ _ hh hmi) hri0,by simpa using ht.negRow hi hbi hO hv,by simpa using hi_.only hO (fun hh=>fti _ hmi hh) hri0⟩
 by_cases hm2:m=2
 ·subst hm2
  rw[if_neg oM]at hs ht;rw[if_pos oM]at hi_;simp only[Int.cast_ofNat_Int];obtain⟨g,bi,rfl,hg,hbi,hbi2,o1,-⟩:=qA.at_ hi_ (i:=i) (by rw[hi_.len];exact hi);have hmi:=xgd hbi;have hri:=hi_.rowAt hi hbi;have hix:=fun W=>zCL 210 3 #[.slice so n sc,.slice uo n tc,.slice (some ⟨g,0,none⟩) n ic] 2 2 _ W zA7 rfl oM rfl
  have hst:∀F:Nat->Int,yL Ct F=yL Ct (yO (fun t=>-F t) F 0):=fun F=>qX fun t _=>by unfold yO;rw[if_neg oM]
  rw[hst]at hri;clear hst;go_wp2;go_loopw [23] (fun jv wt=>∃j:Nat,j<=Ct/\jv= .int .i64 j/\zBr [bi] wr wt/\(∃G,G=(fun t=>-FI i t)/\jQ wt bi (yL Ct (yO G (FI i) j)))) (fun jv _=>Ct-(intOf jv).toNat)
  case atStart=>exact⟨0,by omega,rfl,zBr.refl _ _,_,rfl,hri⟩
  rename World=>wt
  obtain⟨j,hj,rfl,hO,G,hG,hv⟩:=hrel;have HG:=xgv (congrFun hG);clear hG;have hgb:g≠bi:=by
   rintro rfl;obtain⟨cur,q1,-⟩:=qA.gblk hi_;obtain⟨cs,q2,-⟩:=hi_.rowAt hi hbi;have q1':wr.heap[g]?=some (.cells cur tR (0,0)):=q1;rw[q1']at q2;injection q2 with q2
   injection q2 with _ ht
   exact absurd ht dE
  have p1:wt.cell? ⟨g,i,none⟩=some (.slice (some ⟨bi,0,none⟩) Ct Ct):=by
   obtain⟨cur,q1,-⟩:=qA.gblk hi_;have q2:Blk wt g tR cur:=(hO.old g hg (by simpa using hgb)).trans q1;rw[q2.cell,<-q1.cell];exact o1
  have hOs:=hO.bel.size;by_cases hlt:j<Ct
  ·obtain⟨xs,xa,xl,xc,v1,v2,-,-,hx⟩:=hv.cell (yE hlt)
   have hyf:yO G (FI i) j j=FI i j:=by unfold yO;rw[if_neg oM]
   rw[hyf]at hx;have hlv:=hv.lt;go_upto_region 7 with(fail)
   refine zD ?_;intro W6 hW6;obtain⟨hB6,T7,hs6⟩:=qM hW6;obtain⟨d1,d2,d3,d4⟩:=T7.two;have hO:=hO.trans (zBr.of [bi] hB6);have hv:=hv.below hB6;have hx:=hx.ext (lx hB6);have p1:=jF p1 hB6;have l7:=T7.lt;clear v1 v2 hW6 o1;have HSJ:=xgv (HI.out i hi j hlt);refine yX 8 [pcI 6 (-(FI i j))] ?_;refine sRd ?_;refine sRc (fun wS hI Gk hG=>by go_simp;exact ck hG (zBS _ (FI i j) _ (hx.ext hI.lext).weak HSJ.out)) (fun va6 _=>?_);refine sRd ?_;refine sRe ?_;intro w9 hbw9 ha6;have hlw9:=lx hbw9;have holdw9:=hbw9.block;obtain⟨pn,pa,pl,pc,px,rfl,hpx⟩:=id ha6;have HPX:=xgw hpx;clear hpx;have hv9:=hv.below hbw9;obtain⟨zs,za,zl,zc,z1,z2,z3,z4,-⟩:=hv9.cell (yE hlt);have hset:=hv9.set (k:=j) (by rw[qC];exact hlt) ha6;have hO:=hO.trans (zBr.of [bi] hbw9);go_wp2;go_roundw
   case rel=>
    have hq:(yL Ct (yO G (FI i) j)).set j (-(FI i j))=yL Ct (yO G (FI i) (j+1)):=by
     rw[zDs];exact qX fun t _=>by
      unfold yO;by_cases h2:t=j
      ·subst h2
       rw[if_pos rfl,if_pos oM,HG.out]
      rw[if_neg h2];by_cases h1:t<j
      ·rw[if_pos h1,if_pos oM]
      rw[if_neg h1,if_neg oM]
    rw[hq]at hset;exact⟨j+1,by omega,by simp,hO.trans ⟨yJ (yJ (zA _ _) (zE _) _ _) (zE _) _ _,hset.2,fun i _ hi=>yS _ _ _ _ _ _ _ (by simpa using hi)⟩,_,funext HG.out,hset.1⟩
   case measure=>simp[intOf];omega
  obtain rfl:j=Ct:=by omega
  have hq:yL j (yO G (FI i) j)=yL j (fun t=>-FI i t):=qX fun t ht=>by unfold yO;rw[if_pos ht];exact HG.out t
  rw[hq]at hv;go_wp2;go_roundw
  case measure=>simp[intOf]
  have hri0:=hi_.rowAt hi hbi;exact⟨3,by omega,by simp,hb0.trans hO.bel,hx0.trans hO.lext,fun b hb n1 n2 n3=>(hO.old b oM (by simp;rintro rfl;exact n3 hmi)).trans (HOLD.out b hb n1 n2 n3),by simpa using hs.only hO (fun hh=>fsi _ hh hmi) hri0,by simpa using ht.only hO (fun hh=>fti _ hh hmi) hri0,by simpa using hi_.negRow hi hbi hO hv⟩
 obtain rfl:m=3:=by omega
 rw[if_neg oM]at hs ht hi_;go_wp2;obtain⟨gs1,gt1,gi1,f1,f2,f3,f4,f5,f6⟩:=H0.out;exact bodyPost_end (results_none rfl _ _ _) rfl ⟨⟨_,rfl⟩,⟨hb0,hx0,fun b hb hn=>HOLD.out b hb (fun hh=>hn (.inl hh)) (fun hh=>hn (.inr (.inl hh))) (fun hh=>hn (.inr (.inr hh)))⟩,hs,ht,hi_,f1,f2,f3,f4,f5,f6⟩
structure zYN(w:World)(f:Value)(R C:Nat)(S U V W X:List (List Int)):Prop where
 ex:∃s u v x y,f= .agg #[.int .i64 R,.int .i64 C,s,.int .i64 R,.int .i64 R,u,.int .i64 R,.int .i64 R,v,.int .i64 C,.int .i64 C,x,.int .i64 C,.int .i64 C,y]/\zBl w s S/\zBl w u U/\zBl w v V/\zBl w x W/\zBl w y X

end Go.Proofs.YtkidaebmhlijlaaGreat
