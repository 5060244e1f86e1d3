/- Matrices that a call itself made. torsionref05.New. Matrices given by their elements; writing an element. torsionref05.Scale. torsionref05: Copied, Identity. -/
import Derived.Test.YtgnmdddaiefooaaGreatR14
set_option linter.unusedVariables false
set_option linter.unusedSimpArgs false
set_option linter.unusedSectionVars false
set_option maxHeartbeats 16000000
set_option maxRecDepth 100000
namespace Go.Proofs.YtgnmdddaiefooaaGreat
open Go.RowKit
abbrev tR:TypeId:=37
theorem Tryz.infoR:(Tryz.prog.info? tR).map (fun i=>(i.zero,i.size,i.bytes))=some (some (.slice none 0 0),1,24):=by kernel_rfl
def zeroCells(n:Nat):Array Value:=madeCells (Value.agg #[.bool false,.slice none 0 0]).cells (n*2)
theorem mkI(m:Int)(n:Nat)(hm:m=n)(h:n<=1099511627776)(W:World):
  (Instr.makeSlice 37 (.int .i64 m) (.int .i64 m)).run Tryz.prog W= .ok (.slice (some ⟨W.heap.size,0,none⟩) n n) (W.alloc (.cells (zeroCells n) tI)):=by
 subst hm;obtain⟨i0,hi,hz0,hz1,hz2⟩:=info_parts Tryz.infoI;have:=zAl (P:=Tryz.prog) 37 tI i0 _ Tryz.underlying37 hi hz0 .i64 .i64 n n (xgf _) (by rw[hz2];omega) oM W;rw[this,hz1];rfl
theorem zF4(w:World)(n:Nat):qF (w.alloc (.cells (zeroCells n) tI)) w.heap.size (List.replicate n 0):=by
 refine⟨zeroCells n,heap_alloc_new w _,fun k z hk=>?_⟩;have hk':=(xge.1 hk);obtain⟨h1,h2⟩:=hk';rw[List.length_replicate]at h1;rw[List.getElem_replicate]at h2;subst h2;refine⟨false,none,0,0,?_,?_,zBt _⟩
 ·unfold zeroCells madeCells
  rw[Array.getElem?_eq_getElem (by simp;omega)];simp[Value.cells]
 ·unfold zeroCells madeCells
  rw[Array.getElem?_eq_getElem (by simp;omega)];have:(k*2+1)%2=1:=by omega
  simp[Value.cells,this]
def qT(C:Nat)(bs:List Nat):List Value:=bs.map fun b=>.slice (some ⟨b,0,none⟩) C C
structure zJ(w:World)(base:Nat)(A:Value)(C:Nat)(bs:List Nat)(M:List (List Int)):Prop where
 own:w.ownsRow base tR 1 A bs.length (qT C bs)
 len:M.length=bs.length
 row:∀(k:Nat) (b:Nat) (r:List Int),bs[k]?=some b->M[k]?=some r->base<=b/\r.length=C/\qF w b r
 nodup:bs.Nodup
 cb:C<=1099511627776
theorem zJ.below{w w':World}{base:Nat}{A:Value}{C:Nat}{bs:List Nat}{M:List (List Int)}(h:zJ w base A C bs M)(hb:Below w.heap.size w w'):zJ w' base A C bs M:=
 ⟨h.own.kept (row:=none) ⟨hb.os,hb.tape,hb.output,hb.size,fun k hk _=>hb.block k hk⟩ (by cases hv:A.ownBlock<;>simp),h.len,fun k b r h1 h2=>by
  obtain⟨e1,e2,e3⟩:=h.row k b r h1 h2;exact⟨e1,e2,e3.below hb⟩,h.nodup,h.cb⟩
theorem zJ.keep{w w':World}{base:Nat}{A:Value}{C:Nat}{bs:List Nat}{M:List (List Int)}(h:zJ w base A C bs M)(e:∀k,base<=k->w'.heap[k]?=w.heap[k]?)(x:yI w w'):zJ w' base A C bs M:=by
 refine⟨⟨h.own.1,?_⟩,h.len,fun k b r h1 h2=>by
  obtain⟨e1,e2,e3⟩:=h.row k b r h1 h2;exact⟨e1,e2,e3.old (e _ e1) x⟩,h.nodup,h.cb⟩
 rcases h.own.2 with h1|⟨g,cap,cur,e1,e2,e3⟩
 ·exact .inl h1
 ·exact .inr ⟨g,cap,cur,e1,e2,(e _ e2).trans e3.1,e3.2⟩
theorem Blk.put3{w:World}{r:Nat}{T:TypeId}{c0 c1 c2:Value}(h:Blk w r T #[c0,c1,c2])(x y z:Value):Blk (((w.setCell ⟨r,0,none⟩ x).setCell ⟨r,1,none⟩ y).setCell ⟨r,2,none⟩ z) r T #[x,y,z]:=by
 simpa using((h.set_ 0 x).set_ 1 y).set_ 2 z
theorem Blk.lext3{w:World}{r:Nat}{T:TypeId}{cs:Array Value}(h:Blk w r T cs)(hne:T≠tU)(x y z:Value):yI w (((w.setCell ⟨r,0,none⟩ x).setCell ⟨r,1,none⟩ y).setCell ⟨r,2,none⟩ z):=
 ((h.lext hne 0 _).trans ((h.set_ 0 _).lext hne 1 _)).trans (((h.set_ 0 _).set_ 1 _).lext hne 2 _)
theorem qZ(w:World)(b k:Nat)(x y z:Value)(h:k≠b):(((w.setCell ⟨b,0,none⟩ x).setCell ⟨b,1,none⟩ y).setCell ⟨b,2,none⟩ z).heap[k]?=w.heap[k]?:=
 (zT _ b 2 k z h).trans (qH w b 0 1 k x y h)
theorem zJ.mono{w:World}{base base':Nat}{A:Value}{C:Nat}{bs:List Nat}{M:List (List Int)}(h:zJ w base A C bs M)(hb:base'<=base):zJ w base' A C bs M:=by
 refine⟨⟨h.own.1,?_⟩,h.len,fun k b r h1 h2=>by
  obtain⟨e1,e2,e3⟩:=h.row k b r h1 h2;exact⟨by omega,e2,e3⟩,h.nodup,h.cb⟩
 rcases h.own.2 with h1|⟨g,cap,cur,e1,e2,e3⟩
 ·exact .inl h1
 ·exact .inr ⟨g,cap,cur,e1,Nat.le_trans hb e2,e3⟩
theorem zJ.fits{w:World}{base:Nat}{A:Value}{C:Nat}{bs:List Nat}{M:List (List Int)}(h:zJ w base A C bs M):yG bs.length C M:=by
 refine⟨h.len,fun r hr=>?_⟩;obtain⟨k,hk,e⟩:=List.getElem_of_mem hr;have hk':k<bs.length:=by have:=h.len;omega
 exact(h.row k bs[k] r (xga hk') (by rw[xga hk,e])).2.1
theorem zJ.rows{w:World}{base:Nat}{A:Value}{C:Nat}{bs:List Nat}{M:List (List Int)}(h:zJ w base A C bs M):qX w A M:=by
 rcases h.own.2 with⟨rfl,h0⟩|⟨g,cap,cur,rfl,e2,e3,e4,e5,e6,e7⟩
 ·have:M= []:=List.eq_nil_of_length_eq_zero (by rw[h.len];exact h0)
  subst this;exact qX.nil w
 ·refine⟨some ⟨g,0,none⟩,bs.length,cap,rfl,h.len,e4,e5,fun _=>⟨g,cur,rfl,e3,fun k zs hk=>?_⟩⟩
  have hkM:=(xge.1 hk).1;have hkb:k<bs.length:=by have:=h.len;omega
  obtain⟨f1,f2,f3⟩:=h.row k bs[k] zs (xga hkb) hk;refine⟨.slice (some ⟨bs[k],0,none⟩) C C,?_,some ⟨bs[k],0,none⟩,C,C,rfl,f2,xgf _,by have:=h.cb;omega,fun _=>⟨_,rfl,f3⟩⟩;have:(qT C bs)[k]?=some (.slice (some ⟨bs[k],0,none⟩) C C):=by simp[qT,hkb]
  rw[<-e7,List.getElem?_take_of_lt oM]at this;simpa using this
def zMt(w:World)(base:Nat)(v:Value)(R C:Nat)(bs:List Nat)(M:List (List Int)):Prop:=bs.length=R/\∃A,v= .agg #[.int .i64 R,.int .i64 C,A]/\zJ w base A C bs M
theorem zMt.mat{w:World}{base:Nat}{v:Value}{R C:Nat}{bs:List Nat}{M:List (List Int)}(h:zMt w base v R C bs M):qL w v R C M/\yG R C M:=by
 obtain⟨rfl,A,rfl,h⟩:=h;exact⟨⟨A,rfl,h.rows⟩,h.fits⟩
theorem zMt.below{w w':World}{base:Nat}{v:Value}{R C:Nat}{bs:List Nat}{M:List (List Int)}(h:zMt w base v R C bs M)(hb:Below w.heap.size w w'):zMt w' base v R C bs M:=by
 obtain⟨h0,A,h1,h2⟩:=h;exact⟨h0,A,h1,h2.below hb⟩
theorem yG.valid{R C:Nat}{M:List (List Int)}(h:yG R C M):qR R C M:=⟨by omega,by omega,by rw[h.1],fun r hr=>by rw[h.2 r hr]⟩
def zAc(w:World)(R C:Nat)(M:List (List Int))(e:Ending)(w':World):Prop:=∃v bs,e= .returned v/\zMt w' w.heap.size v R C bs M/\Below w.heap.size w w'
theorem Tryz.sizeM:(Tryz.prog.info? 28).map (·.size)=some 3:=by kernel_rfl
theorem zX{fn:Func}{a:Act}{W:World}{Q:Ending->World->Prop}{r:Nat}{x y z:Value}{p:Tmp}(h:fn.results=#[.cell p 28])(hd:a.defers= [])
  (hp:a.tmps.getD p undef= .pointer (some ⟨r,0,none⟩)) (hb:Blk W r 28 #[x,y,z]) (hQ:Q (.returned (.agg #[x,y,z])) W):bodyPost Tryz.prog fn Q .ret a W:=
 bodyPost_ret (results_cell_row h _ W r _ _ _ _ hp hb Tryz.underlying28 rfl (by rw[Tryz.sizeM];rfl)) hd hQ
theorem zCU{w:World}{base:Nat}{v:Value}{n:Nat}{xs:List Value}{b:Nat}{r:List Int}(h:w.ownsRow base tR 1 v n xs)(hr:qF w b r):some b≠v.ownBlock:=by
 intro e;rcases h.2 with⟨rfl,-⟩|⟨g,cap,cur,rfl,-,hh,-⟩
 ·cases e
 ·simp only[Value.ownBlock,Option.some.injEq]at e
  subst e;obtain⟨cs,h1,-⟩:=hr;rw[hh]at h1;injection h1 with h1
  injection h1 with _ ht
  exact absurd ht dE
theorem zQS{w:World}{ops:Array Oper}{rest:List Oper}{o:Oper}{a:Act}{Q:Exit->Act->World->Prop}(hgd:o.guard=none)(s x:Operand)
  (ho:o.op= .call {callee:=.builtin .append,args:=#[s,x],argTypes:=#[26,26]})
  (base:Nat) (v:Value) (C:Nat) (bs:List Nat) (M:List (List Int)) (hs:a.eval s=v) (hown:zJ w base v C bs M) (b c nb:Nat) (r:List Int) (hx:a.eval x= .slice (some ⟨b,0,none⟩) 1 c)
  (hb:Blk w b tR #[.slice (some ⟨nb,0,none⟩) C C]) (hr:qF w nb r) (hrl:r.length=C) (hnb:base<=nb) (hfr:∀g∈bs,g≠nb)
  (hlen:bs.length+1<=1099511627776) (hbase:base<=w.heap.size)
  (h:∀v' w',zJ w' base v' C (bs++ [nb]) (M++ [r])->w.grownBy w' v.ownBlock->yI w w'->wpList Tryz.prog ops Q rest (a.put o.dst v') w'):wpList Tryz.prog ops Q (o::rest) a w:=by
 obtain⟨i0,hi,hz0,hz1,hz2⟩:=info_parts Tryz.infoR;have c0:=hb.cell 0;refine wpList_append_own w hgd s x 26 ho base tR i0 _ 1 24 Tryz.underlying26 hi hz0 hz1 hz2 rfl oM v bs.length _ hs hown.own ⟨b,0,none⟩ 1 c [.slice (some ⟨nb,0,none⟩) C C] hx rfl ?_ ?_ (by simp[maxLen];omega) oM hbase ?_
 ·intro j u hj
  rw[Addr.add_lit];match j with
  |0=>simp at hj;subst hj;exact c0
  |j+1=>simp at hj
 ·intro u hu
  simp at hu;subst hu;rfl
 ·intro v' w' k1 k2 _
  have hx:=zAm hown.own dE k2;have hkeep:∀g q,qF w g q->qF w' g q:=fun g q hq=>hq.old (k2.block g hq.lt (zCU hown.own hq)) hx
  refine h v' w' ⟨?_,by simp[hown.len],?_,?_,hown.cb⟩ k2 hx
  ·have:qT C (bs++ [nb])=qT C bs++ [.slice (some ⟨nb,0,none⟩) C C]:=by simp[qT]
   rw[this];simpa using k1
  ·intro k g q hg hq
   rcases Nat.lt_or_ge k bs.length with hlt|hge
   ·rw[List.getElem?_append_left hlt]at hg
    rw[List.getElem?_append_left (by rw[hown.len];exact hlt)]at hq;obtain⟨f1,f2,f3⟩:=hown.row k g q hg hq;exact⟨f1,f2,hkeep _ _ f3⟩
   ·rw[List.getElem?_append_right hge]at hg
    rw[List.getElem?_append_right (by rw[hown.len];exact hge),hown.len]at hq;have hk0:k-bs.length=0:=by
     have:=(xge.1 hg).1;simp at this;omega
    rw[hk0]at hg hq;simp at hg hq;subst hg;subst hq;exact⟨hnb,hrl,hkeep _ _ hr⟩
  ·rw[List.nodup_append]
   refine⟨hown.nodup,by simp,fun x hx y hy=>?_⟩;simp at hy;subst hy;exact hfr x hx
def yX(R C:Nat):List (List Int):=List.replicate R (List.replicate C 0)
theorem zBS(R C:Nat)(w:World)(hR:R<=1000000)(hC:C<=1000000):
  Calls Tryz.prog 33 #[.int .i64 R,.int .i64 C] w (zAc w R C (yX R C)):=by
 have hmk:=fun W=>mkI (C:Int) C rfl oM W
 go_enter Tryz.func33,Tryz.ntmps33;go_upto_block 0 with(fail)
 refine zC ?_;intro W0 hW0;obtain⟨hB0,br,bA,hs0⟩:=qK hW0;go_wp2;go_loopw [5,6] (fun A iv wr=>∃(k:Nat) (bs:List Nat),k<=R/\iv= .int .i64 k/\zJ wr (w.heap.size+1) A C bs (yX k C)/\Below w.heap.size w wr/\Blk wr w.heap.size 28 #[.int .i64 0,.int .i64 0,.slice none 0 0]) (fun _ iv _=>R-(intOf iv).toNat)
 case atStart=>
  refine⟨0,[],by omega,rfl,⟨⟨by simp[qT],.inr ⟨w.heap.size+1,0,#[],rfl,xgf _,bA,xgf _,by simp[maxLen],rfl,rfl⟩⟩,rfl,fun k b r h=>by simp at h,by simp,by omega⟩,hB0,br⟩
 case round=>
  obtain⟨k,bs,hk,rfl,ho,hb,br⟩:=hrel;have hbl:bs.length=k:=by rw[<-ho.len];simp[yX]
  by_cases hlt:k<R
  ·have hmk:=hmk wr
   have hb2:Below wr.heap.size wr ((wr.alloc (.cells (zeroCells C) tI)).alloc (.cells #[.slice (some ⟨wr.heap.size,0,none⟩) C C] tR)):=((Below.refl _ _).alloc (xgf _) _).alloc sI _;have hblk:Blk ((wr.alloc (.cells (zeroCells C) tI)).alloc (.cells #[.slice (some ⟨wr.heap.size,0,none⟩) C C] tR)) (wr.heap.size+1) tR #[.slice (some ⟨wr.heap.size,0,none⟩) C C]:=by
    simpa using Blk.new (wr.alloc (.cells (zeroCells C) tI)) tR #[.slice (some ⟨wr.heap.size,0,none⟩) C C]
   have hrow:=(zF4 wr C).below ((Below.refl (wr.alloc (.cells (zeroCells C) tI)).heap.size _).alloc (xgf _) (.cells #[.slice (some ⟨wr.heap.size,0,none⟩) C C] tR));have hfr:∀g∈bs,g≠wr.heap.size:=by
    intro g hg;obtain⟨j,hj,e⟩:=List.getElem_of_mem hg;have:=(ho.row j g _ (by rw[xga hj,e]) (xga (by rw[ho.len];exact hj))).2.2.lt;omega
   have hsz:=hb.size;have hbr:=br.lt;have ho2:=ho.below hb2;have hxx:=lx hb2;go_wp2_with (at_builtin;refine zQS rfl _ _ rfl (w.heap.size+1) u5 C bs (yX k C) rfl ho2 (wr.heap.size+1) 1 wr.heap.size (List.replicate C 0) rfl hblk hrow sI oM hfr oM (by simp;omega) ?_;intro v' w' hown hgr hxg)
   have hown':∀g,u5.ownBlock=some g->w.heap.size+1<=g:=by
    intro g hg;rcases ho.own.2 with⟨rfl,-⟩|⟨g',cap,cur,rfl,h1,-⟩
    ·cases hg
    ·simp only[Value.ownBlock,Option.some.injEq]at hg
     omega
   have hB9:Below w.heap.size w w':=(nx hb hb2).grown hgr (by simp;omega) (fun g hg=>by have:=hown' g hg;omega);have br9:=(hgr.block _ (by simp;omega) (fun hh=>by have:=hown' _ hh.symm;omega)).trans (br.below hb2);go_roundw
   case rel=>
    refine⟨k+1,bs++ [wr.heap.size],by omega,by simp,?_,hB9,br9⟩;have:yX (k+1) C=yX k C++ [List.replicate C 0]:=by unfold yX;rw[List.replicate_succ']
    rw[this];exact hown
   case measure=>simp[intOf];omega
  ·obtain rfl:k=R:=by omega
   obtain⟨c1,c2,c3,c4,c5,c6⟩:=br.three;obtain⟨ao,an,ac,rfl,a1,a2,a3,-⟩:=id ho.rows;have hsz:=hb.size;go_wp2;refine zX rfl rfl rfl (br.put3 _ _ _) ⟨_,bs,rfl,⟨hbl,_,rfl,?_⟩,zP (zP (zP hb (xgf _) 0 _) (xgf _) 1 _) (xgf _) 2 _⟩;exact(ho.keep (fun k hk=>qZ _ _ k _ _ _ oM) (br.lext3 dE _ _ _)).mono (Nat.le_succ _)
def genM(R C:Nat)(f:Nat->Nat->Int):List (List Int):=(List.range R).map fun i=>(List.range C).map (f i)
def ent(M:List (List Int))(i j:Nat):Int:=(M.getD i []).getD j 0
theorem zS{R C:Nat}{f g:Nat->Nat->Int}(h:∀i,i<R->∀j,j<C->f i j=g i j):genM R C f=genM R C g:=by
 unfold genM;refine List.map_congr_left fun i hi=>List.map_congr_left fun j hj=>h i (List.mem_range.1 hi) j (List.mem_range.1 hj)
theorem zAL(R C:Nat)(f:Nat->Nat->Int){i:Nat}(hi:i<R):(genM R C f)[i]?=some ((List.range C).map (f i)):=by
 simp[genM,hi]
theorem qG{R C:Nat}{f:Nat->Nat->Int}{i j:Nat}(hi:i<R)(hj:j<C):ent (genM R C f) i j=f i j:=by
 unfold ent;rw[jP (zAL R C f hi)];simp[xgb,hj]
theorem zV(R C:Nat)(f:Nat->Nat->Int):yG R C (genM R C f):=by
 refine⟨by simp[genM],fun r hr=>?_⟩;unfold genM at hr;obtain⟨i,-,rfl⟩:=List.mem_map.1 hr;simp
theorem zA7{M:List (List Int)}{i j:Nat}{r:List Int}{z:Int}(h1:M[i]?=some r)(h2:r[j]?=some z):ent M i j=z:=by
 unfold ent;rw[jP h1,jP h2]
theorem jU{R C:Nat}{M:List (List Int)}(h:yG R C M):M=genM R C (ent M):=by
 apply List.ext_getElem
 ·rw[h.1];simp[genM]
 ·intro i h1 h2
  have hi:i<R:=by rw[<-h.1];exact h1
  have e1:M[i]?=some M[i]:=xga h1;have hl:=h.2 _ (xgd e1);apply List.ext_getElem
  ·rw[hl];simp[genM]
  ·intro j h3 h4
   have:=zA7 e1 (xga h3);simp[genM,this]
theorem zBZ(R C:Nat):yX R C=genM R C (fun _ _=>0):=by
 unfold yX genM;apply List.ext_getElem
 ·simp
 ·intro i h1 h2
  apply List.ext_getElem
  ·simp
  ·intro j h3 h4
   simp
def zLH(M:List (List Int))(i j:Nat)(z:Int):List (List Int):=M.set i ((M.getD i []).set j z)
theorem zBV{R C:Nat}{f:Nat->Nat->Int}{i j:Nat}(z:Int)(hi:i<R)(hj:j<C):zLH (genM R C f) i j z=genM R C (fun i' j'=>if i'=i/\j'=j then z else f i' j'):=by
 unfold zLH;rw[jP (zAL R C f hi)];apply List.ext_getElem
 ·simp[genM]
 ·intro a h1 h2
  have ha:a<R:=by simpa[genM]using h2
  by_cases e:a=i
  ·subst e
   rw[List.getElem_set_self];apply List.ext_getElem
   ·simp[genM]
   ·intro b h3 h4
    by_cases e2:b=j
    ·subst e2;simp[genM]
    ·have e3:j≠b:=fun h=>e2 h.symm
     simp[genM,e2,e3]
  ·have e3:i≠a:=fun h=>e h.symm
   rw[List.getElem_set_ne e3];simp[genM,e]
theorem zJ.set{w:World}{base:Nat}{A:Value}{C:Nat}{bs:List Nat}{M:List (List Int)}(h:zJ w base A C bs M){i j b:Nat}(hb:bs[i]?=some b)(hj:j<C)
  {s:Bool} {a:Option Addr} {l c:Nat} {z:Int} (hv:zR w (.agg #[.bool s,.slice a l c]) z):
  zJ ((w.setCell ⟨b,j*2,none⟩ (.bool s)).setCell ⟨b,j*2+1,none⟩ (.slice a l c)) base A C bs (zLH M i j z)/\yI w ((w.setCell ⟨b,j*2,none⟩ (.bool s)).setCell ⟨b,j*2+1,none⟩ (.slice a l c))/\base<=b:=by
 have hib:=(xge.1 hb).1;have hiM:i<M.length:=by rw[h.len];exact hib
 obtain⟨r1,r2,r3⟩:=h.row i b M[i] hb (xga hiM);obtain⟨s1,s2⟩:=r3.set (k:=j) (by rw[r2];exact hj) hv;refine⟨⟨⟨h.own.1,?_⟩,by simp[zLH,h.len],?_,h.nodup,h.cb⟩,s2,r1⟩
 ·rcases h.own.2 with h1|⟨g,cap,cur,e1,e2,e3,e4⟩
  ·exact .inl h1
  ·refine .inr ⟨g,cap,cur,e1,e2,?_,e4⟩
   have hne:g≠b:=by
    have:=zCU h.own r3;rw[e1]at this;simp only[Value.ownBlock]at this;intro hh;exact this (by rw[hh])
   exact(qH w b _ _ g _ _ hne).trans e3
 ·intro k b' r hk hr
  by_cases e:k=i
  ·subst e
   rw[hb]at hk;injection hk with hk
   subst hk;unfold zLH at hr;rw[List.getElem?_set_self hiM]at hr;injection hr with hr
   subst hr;rw[jP (xga hiM)];exact⟨r1,by rw[List.length_set];exact r2,s1⟩
  ·unfold zLH at hr
   rw[List.getElem?_set_ne (Ne.symm e)]at hr;obtain⟨f1,f2,f3⟩:=h.row k b' r hk hr;have hkb:=(xge.1 hk).1;have hne:b'≠b:=by
    intro hh;subst hh;have h1:=(xge.1 hk).2;have h2:=(xge.1 hb).2;exact e ((List.getElem_inj h.nodup).1 (h1.trans h2.symm))
   exact⟨f1,f2,f3.old (qH w b _ _ b' _ _ hne) s2⟩
theorem zJ.at_{w:World}{base:Nat}{ao:Option Addr}{n cap C:Nat}{bs:List Nat}{M:List (List Int)}(h:zJ w base (.slice ao n cap) C bs M){i:Nat}(hi:i<bs.length):
  ∃g b,ao=some ⟨g,0,none⟩/\g<w.heap.size/\bs[i]?=some b/\b<w.heap.size/\w.cell? ⟨g,i,none⟩=some (.slice (some ⟨b,0,none⟩) C C)/\n=bs.length:=by
 rcases h.own.2 with⟨e,h0⟩|⟨g,cap',cur,e,e2,e3,e4,e5,e6,e7⟩
 ·omega
 ·injection e with e8 e9 e10
  subst e8;have hM:i<M.length:=by rw[h.len];exact hi
  have hr:=h.row i bs[i] M[i] (xga hi) (xga hM);refine⟨g,bs[i],rfl,(Array.getElem?_eq_some_iff.1 e3).1,xga hi,hr.2.2.lt,?_,e9⟩;rw[cell_of_row w g i cur _ _ e3];have:(qT C bs)[i]?=some (.slice (some ⟨bs[i],0,none⟩) C C):=by simp[qT,hi]
  rw[<-e7,List.getElem?_take_of_lt oM]at this;simpa using this
theorem zJ.cellAt{w:World}{base:Nat}{A:Value}{C:Nat}{bs:List Nat}{M:List (List Int)}(h:zJ w base A C bs M){i j b:Nat}(hb:bs[i]?=some b)(hj:j<C):
  ∃s a l c,w.cell? ⟨b,j*2,none⟩=some (.bool s)/\w.cell? ⟨b,j*2+1,none⟩=some (.slice a l c)/\w.frozen? ⟨b,j*2,none⟩=false/\w.frozen? ⟨b,j*2+1,none⟩=false/\zR w (.agg #[.bool s,.slice a l c]) (ent M i j):=by
 have hib:=(xge.1 hb).1;have hiM:i<M.length:=by rw[h.len];exact hib
 obtain⟨r1,r2,r3⟩:=h.row i b M[i] hb (xga hiM);have hjr:j<M[i].length:=by rw[r2];exact hj
 have:=r3.cell (xga hjr);rwa[zA7 (xga hiM) (xga hjr)]
def zDe(f:Nat->Nat->Int)(i j:Nat):Nat->Nat->Int:=fun a b=>if a<i∨(a=i/\b<j)then f a b else 0
theorem zCK(R C:Nat)(f:Nat->Nat->Int):yX R C=genM R C (zDe f 0 0):=by
 rw[zBZ];exact zS fun i _ j _=>by unfold zDe;rw[if_neg oM]
theorem zEF{R C:Nat}{f:Nat->Nat->Int}{i:Nat}:genM R C (zDe f i C)=genM R C (zDe f (i+1) 0):=
 zS fun a _ b hb=>by
  unfold zDe;by_cases h:a<i∨(a=i/\b<C)
  ·rw[if_pos h,if_pos oM]
  ·rw[if_neg h,if_neg oM]
theorem zEE{R C:Nat}{f:Nat->Nat->Int}:genM R C (zDe f R 0)=genM R C f:=
 zS fun a ha b _=>by unfold zDe;rw[if_pos oM]
theorem zEy{R C:Nat}{f:Nat->Nat->Int}{i j:Nat}(hi:i<R)(hj:j<C):zLH (genM R C (zDe f i j)) i j (f i j)=genM R C (zDe f i (j+1)):=by
 rw[zBV _ hi hj];exact zS fun a _ b _=>by
  unfold zDe;by_cases h:a=i/\b=j
  ·obtain⟨rfl,rfl⟩:=h
   rw[if_pos ⟨rfl,rfl⟩,if_pos oM]
  ·rw[if_neg h]
   by_cases h2:a<i∨(a=i/\b<j)
   ·rw[if_pos h2,if_pos oM]
   ·rw[if_neg h2,if_neg oM]
theorem zJ.lts{w:World}{base:Nat}{A:Value}{C:Nat}{bs:List Nat}{M:List (List Int)}(h:zJ w base A C bs M):∀(i b:Nat),bs[i]?=some b->b<w.heap.size:=by
 intro i b hb;have hib:=(xge.1 hb).1;have hiM:i<M.length:=by rw[h.len];exact hib
 exact(h.row i b M[i] hb (xga hiM)).2.2.lt
theorem zHr(v kv:Value)(R C:Nat)(M:List (List Int))(k:Int)(w:World)(h:zBm w v R C M)(hF:yG R C M)(hk:zR w kv k)(hR:R<=1000000)(hC:C<=1000000)(hS:∀r∈M,∀z∈r,Sm z)(hks:Sm k):
  Calls Tryz.prog 101 #[v,kv] w (zAc w R C (genM R C (fun i j=>ent M i j*k))):=by
 obtain⟨A,rfl,h⟩:=h;obtain⟨ao,n,cap,rfl,e2,e3,e4,-⟩:=id h;have HX:=xgw e2;have HS:=xgv hS;have HK:=xgv hks;have HF:=xgv hF;obtain rfl:n=R:=by rw[<-e2,hF.1]
 have hkv:=hk;obtain⟨kn,ka,kl,kc,kx,rfl,hkx⟩:=id hk;have HKX:=xgw hkx;clear e2 hS hks hF hkx;obtain⟨f,hf⟩:∃f:Nat->Nat->Int,(fun i j=>ent M i j*k)=f:=⟨_,rfl⟩;rw[hf];have hfe:∀i j,f i j=ent M i j*k:=fun i j=>by rw[<-hf]
 clear hf;have HFE:=xgv hfe;clear hfe;go_enter Tryz.func101,Tryz.ntmps101;go_upto_region 1 with(fail)
 refine zC ?_;intro W0 hW0;obtain⟨hB0,bx1,bx2,br,hs0⟩:=zAS hW0;obtain⟨c1,c2,c3,c4,c5,c6⟩:=bx1.three;go_wp2_with fail
 refine(zBS n C W0 hR hC).mono ?_;rintro e w2 ⟨u,bs,rfl,⟨hbl,A2,rfl,ho⟩,hb2⟩;obtain⟨oo,on,oc,rfl,-,-,-,-⟩:=id ho.rows;have hlts:=ho.lts;go_upto_region 2 with(fail)
 refine zC ?_;intro W3 hW3;obtain⟨hB3,T5,hs3⟩:=zN hW3;have bx1:=(bx1.below hb2).below hB3;have bx2:=(bx2.below hb2).below hB3;have br:=(br.below hb2).below hB3;have ho:=ho.below hB3;rw[zCK n C f]at ho;have hBt:=nx (nx hB0 hb2) hB3;have q2:=hb2.size;clear hW3 hW0 c1 c2 c3 c4 c5 c6;go_wp2;go_loopw [6] (fun iv wr=>∃i:Nat,i<=n/\iv= .int .i64 i/\Below w.heap.size w wr/\Blk wr w.heap.size 28 #[.int .i64 n,.int .i64 C,.slice ao n cap]/\Blk wr (w.heap.size+1) 51 #[.bool kn,.slice ka kl kc]∧
  Blk wr (w.heap.size+1+1) 28 #[.int .i64 0,.int .i64 0,.slice none 0 0]/\Blk wr w2.heap.size 28 #[.int .i64 n,.int .i64 C,.slice oo on oc]/\zJ wr W0.heap.size (.slice oo on oc) C bs (genM n C (zDe f i 0))) (fun iv _=>n-(intOf iv).toNat)
 case atStart=>exact⟨0,by omega,rfl,hBt,bx1,bx2,br,T5,ho⟩
 case round=>
  obtain⟨i,hi,rfl,hb,bx1,bx2,br,T5,ho⟩:=hrel;obtain⟨c1,c2,c3,c4,c5,c6⟩:=bx1.three;by_cases hlt:i<n
  ·go_wp2
   clear c1 c2 c3 c4 c5 c6;go_loopw [7] (fun jv wr=>∃j:Nat,j<=C/\jv= .int .i64 j/\Below w.heap.size w wr/\Blk wr w.heap.size 28 #[.int .i64 n,.int .i64 C,.slice ao n cap]/\Blk wr (w.heap.size+1) 51 #[.bool kn,.slice ka kl kc]∧
    Blk wr (w.heap.size+1+1) 28 #[.int .i64 0,.int .i64 0,.slice none 0 0]/\Blk wr w2.heap.size 28 #[.int .i64 n,.int .i64 C,.slice oo on oc]/\zJ wr W0.heap.size (.slice oo on oc) C bs (genM n C (zDe f i j))) (fun jv _=>C-(intOf jv).toNat)
   case atStart=>exact⟨0,by omega,rfl,hb,bx1,bx2,br,T5,ho⟩
   case round=>
    obtain⟨j,hj,rfl,hb,bx1,bx2,br,T5,ho⟩:=hrel;obtain⟨c1,c2,c3,c4,c5,c6⟩:=bx1.three;by_cases hjc:j<C
    ·obtain⟨b,o,ra,rn,rc,zs,rfl,hbl1,hz,p1,hv⟩:=(h.below hb).row (k:=i) (by rw[HX.out];exact hlt)
     have hzl:=HF.out.2 zs (xgd hz);have hvl:=hv.len;obtain rfl:rn=C:=by omega
     obtain⟨b',z,s,a,l,c,rfl,hbl',hzk,q1,q2',hzv⟩:=hv.cell (k:=j) oM;have hent:=xgw (zA7 hz hzk);have SZ:qM (Sm z):=⟨HS.out _ (xgd hz) _ (xgd hzk)⟩;clear hz hzk hzl;obtain⟨g,bo,rfl,hg,hbo,hbo2,o1,ho3⟩:=ho.at_ (i:=i) oM;obtain⟨d1,d2,d3,d4⟩:=bx2.two;obtain⟨f1,f2,f3,f4,f5,f6⟩:=T5.three;have hio:i<on:=by omega
     have HO3:=xgw ho3;clear ho3;have lt1:=bx1.lt;have lt2:=bx2.lt;have lt5:=T5.lt;have hkw:=hkv.ext (lx hb);go_upto_region 8 with(fail)
     refine zB 17 rfl (RI wr (wr.heap.size) _ 51
       [VP 0 25 w2.heap.size 2,VSl 1 26 g on oc,VN 2 27 i,VP 3 28 g i,VSl 4 29 bo rn rn,VN 5 30 j,VP 6 31 w.heap.size 2,E 7 32 (.slice (some ⟨b,o,none⟩) n cap),VN 8 33 i,VP 9 34 b (o+i),VSl 10 35 b' rn rc,VN 11 36 j,VP 12 37 b' (j*2),E 13 38 (.agg #[.bool s,.slice a l c]),E 14 39 (.agg #[.bool kn,.slice ka kl kc]),EI 15 40 (z*k),VP 16 41 bo (j*2)] [] []) kR RI.start (RI.fin kR ?fin1) ?steps1
     case steps1=>
      refine⟨?_,?_,?_,?_,?_,?_,?_,?_,?_,?_,?_,?_,?_,?_,?_,?_,?_,trivial⟩<;>(intro L T wS hL hd hcl hI K hK;try refine zA rfl ?_)
      ·exact xgs (hI.k 5 rfl kR)
      ·have zt0:=hI.e mm0 (hd 0)
       have cc0:=hI.cell f3 oM nom;exact xgu
      ·exact xgs (hI.k 6 rfl kR)
      ·exact xgt (hI.e mm1 (hd 1)) (hI.e mm2 (hd 2))
      ·have zt3:=hI.e mm3 (hd 3)
       have cc0:=hI.cell o1 oM nom;exact xgu
      ·exact xgs (hI.k 7 rfl kR)
      ·exact xgs (hI.k 2 rfl kR)
      ·have zt6:=hI.e mm6 (hd 6)
       have cc0:=hI.cell c3 oM nom;exact xgu
      ·exact xgs (hI.k 6 rfl kR)
      ·exact xgt (hI.e mm7 (hd 7)) (hI.e mm8 (hd 8))
      ·have zt9:=hI.e mm9 (hd 9)
       have cc0:=hI.cell p1 oM nom;exact xgu
      ·exact xgs (hI.k 7 rfl kR)
      ·exact xgt (hI.e yD (hd 10)) (hI.e zAB (hd 11))
      ·have zt12:=hI.e zAh (hd 12)
       have cc0:=hI.cell q1 oM nom;have cc1:=hI.cell q2' oM nom;exact xgu
      ·have zt:=hI.k 3 rfl kR
       have cc0:=hI.cell d1 oM nom;have cc1:=hI.cell d2 oM nom;exact xgu
      ·have zt13:=hI.e zBv (hd 13)
       have zt14:=hI.e zBF (hd 14);go_simp;refine(zAQ _ _ z k _ (hzv.ext hI.lext) (hkw.ext hI.lext) SZ.out HK.out).mono ?_;exact xgo
      ·exact xgt (hI.e mm4 (hd 4)) (hI.e mm5 (hd 5))
     intro w9 hlw9 hbw9 holdw9 T hT;simp only[Fin,E,EI,VP,VSl,VN,xgg,xgh,xgi,xgj]at hT;obtain⟨va15,ha15,rfl⟩:=hT;simp only[xgl,xgk];obtain⟨pn,pa,pl,pc,px,rfl,hpx⟩:=id ha15;have HPX:=xgw hpx;clear hpx;have ho9:=ho.below hbw9;obtain⟨sn,sa,sl,sc,z1,z2,z3,z4,-⟩:=ho9.cellAt hbo hjc;have hbolt:=hlts i bo hbo;have hset:=ho9.set hbo hjc ha15;go_wp2;go_roundw
     case rel=>
      have hq:z*k=f i j:=by rw[HFE.out,hent.out]
      rw[hq,zEy hlt hjc]at hset;exact⟨j+1,by omega,by simp,zP (zP (nx hb hbw9) oM _ _) oM _ _,(qH _ _ _ _ _ _ _ oM).trans (bx1.below hbw9),(qH _ _ _ _ _ _ _ oM).trans (bx2.below hbw9),(qH _ _ _ _ _ _ _ oM).trans (br.below hbw9),(qH _ _ _ _ _ _ _ oM).trans (T5.below hbw9),hset.1⟩
     case measure=>simp[intOf];omega
    ·obtain rfl:j=C:=by omega
     rw[zEF]at ho;go_wp2;go_roundw
     case rel=>exact⟨i+1,by omega,by simp,hb,bx1,bx2,br,T5,ho⟩
     case measure=>simp[intOf];omega
  ·obtain rfl:i=n:=by omega
   rw[zEE]at ho;obtain⟨f1,f2,f3,f4,f5,f6⟩:=T5.three;obtain⟨r1,r2,r3,r4,r5,r6⟩:=br.three;have q1:=hB0.size;go_wp2;refine zX rfl rfl rfl (br.put3 _ _ _) ⟨_,bs,rfl,⟨hbl,_,rfl,?_⟩,zP (zP (zP hb oM 0 _) oM 1 _) oM 2 _⟩;exact(ho.keep (fun k hk=>qZ _ _ k _ _ _ oM) (br.lext3 dE _ _ _)).mono q1
theorem zB1(v:Value)(R C:Nat)(M:List (List Int))(w:World)(h:zBm w v R C M)(hF:yG R C M)(hR:R<=1000000)(hC:C<=1000000)(hS:∀r∈M,∀z∈r,Sm z):
  Calls Tryz.prog 52 #[v] w (zAc w R C M):=by
 have h0:=h;obtain⟨A,rfl,h⟩:=h;obtain⟨ao,n,cap,rfl,e2,e3,e4,-⟩:=id h;have HS:=xgv hS;have HF:=xgv hF;have S1:qM (Sm 1):=⟨(Smd.one (z:=1) dE).sm⟩;have hM:genM R C (fun i j=>ent M i j*1)=M:=by
  have:(fun i j=>ent M i j*1)=ent M:=by funext i j;rw[Int.mul_one]
  rw[this,<-jU hF]
 clear hS hF e2;go_enter Tryz.func52,Tryz.ntmps52;go_upto_region 1 with(fail)
 refine zC ?_;intro W0 hW0;obtain⟨hB0,bx1,br,hs0⟩:=qK hW0;obtain⟨c1,c2,c3,c4,c5,c6⟩:=bx1.three;refine zB 2 rfl (RI W0 (W0.heap.size) _ 51
   [E 0 3 (.agg #[.int .i64 R,.int .i64 C,.slice ao n cap]),EI 1 4 (1)] [] []) kR RI.start (RI.fin kR ?fin1) ?steps1
 case steps1=>
  refine⟨?_,?_,trivial⟩<;>(intro L T wS hL hd hcl hI K hK;try refine zA rfl ?_)
  ·have zt:=hI.k 1 rfl kR
   have cc0:=hI.cell c1 oM nom;have cc1:=hI.cell c2 oM nom;have cc2:=hI.cell c3 oM nom;exact xgu
  ·go_simp
   refine(zBg 1 _ oM oM).mono ?_;exact xgo
 intro w1 hlw1 hbw1 holdw1 T hT;simp only[Fin,E,EI,VP,VSl,VN,xgg,xgh,xgi,xgj]at hT;obtain⟨va1,ha1,rfl⟩:=hT;simp only[xgl,xgk];have br:=br.below hbw1;have hBt:=nx hB0 hbw1;clear c1 c2 c3 c4 c5 c6;go_wp2_with fail
 refine(zHr _ _ R C M 1 w1 (h0.below hBt) HF.out ha1 hR hC HS.out S1.out).mono ?_;rintro e w2 ⟨u,bs,rfl,⟨hbl,A2,rfl,ho⟩,hb2⟩;rw[hM]at ho;obtain⟨oo,on,oc,rfl,-,-,-,-⟩:=id ho.rows;have br:=br.below hb2;have hBt:=nx hBt hb2;obtain⟨r1,r2,r3,r4,r5,r6⟩:=br.three;have q1:=hbw1.size;have q2:w.heap.size+1<w1.heap.size:=by omega
 clear r1 r2 r3;obtain⟨r1,r2,r3,-,-,-⟩:=br.three;go_wp2;refine zX rfl rfl rfl (br.put3 _ _ _) ⟨_,bs,rfl,⟨hbl,_,rfl,?_⟩,zP (zP (zP hBt oM 0 _) oM 1 _) oM 2 _⟩;exact(ho.keep (fun k hk=>qZ _ _ k _ _ _ oM) (br.lext3 dE _ _ _)).mono oM
def idf(i j:Nat):Int:=if i=j then 1 else 0
def zHF(k:Nat)(i j:Nat):Int:=if i=j/\i<k then 1 else 0
theorem zCW(n:Nat)(w:World)(hn:n<=1000000):Calls Tryz.prog 38 #[.int .i64 n] w (zAc w n n (genM n n idf)):=by
 go_enter Tryz.func38,Tryz.ntmps38;go_upto_region 1 with(fail)
 refine zC ?_;intro W0 hW0;obtain⟨hB0,br,hs0⟩:=zN hW0;go_wp2_with fail
 refine(zBS n n W0 hn hn).mono ?_;rintro e w2 ⟨u,bs,rfl,⟨hbl,A2,rfl,ho⟩,hb2⟩;obtain⟨oo,on,oc,rfl,-,-,-,-⟩:=id ho.rows;have hlts:=ho.lts;go_upto_region 2 with(fail)
 refine zC ?_;intro W3 hW3;obtain⟨hB3,T5,hs3⟩:=zN hW3;have br:=(br.below hb2).below hB3;have ho:=ho.below hB3;have hz0:yX n n=genM n n (zHF 0):=by rw[zBZ];exact zS fun i _ j _=>by unfold zHF;rw[if_neg oM]
 rw[hz0]at ho;have hBt:=nx (nx hB0 hb2) hB3;have q1:=hB0.size;have q2:=hb2.size;clear hW3 hW0 hz0;go_wp2;go_loopw [4] (fun iv wr=>∃i:Nat,i<=n/\iv= .int .i64 i/\Below w.heap.size w wr/\Blk wr w.heap.size 28 #[.int .i64 0,.int .i64 0,.slice none 0 0]/\Blk wr w2.heap.size 28 #[.int .i64 n,.int .i64 n,.slice oo on oc]/\zJ wr W0.heap.size (.slice oo on oc) n bs (genM n n (zHF i))) (fun iv _=>n-(intOf iv).toNat)
 case atStart=>exact⟨0,by omega,rfl,hBt,br,T5,ho⟩
 case round=>
  obtain⟨i,hi,rfl,hb,br,T5,ho⟩:=hrel;obtain⟨f1,f2,f3,f4,f5,f6⟩:=T5.three;by_cases hlt:i<n
  ·obtain⟨g,bo,rfl,hg,hbo,hbo2,o1,ho3⟩:=ho.at_ (i:=i) oM
   have hio:i<on:=by omega
   have HO3:=xgw ho3;clear ho3;have lt5:=T5.lt;go_upto_region 5 with(fail)
   refine zB 8 rfl (RI wr (wr.heap.size) _ 51
     [VP 0 13 w2.heap.size 2,VSl 1 14 g on oc,VN 2 15 i,VP 3 16 g i,VSl 4 17 bo n n,VN 5 18 i,EI 6 19 (1),VP 7 20 bo (i*2)] [] []) kR RI.start (RI.fin kR ?fin2) ?steps2
   case steps2=>
    refine⟨?_,?_,?_,?_,?_,?_,?_,?_,trivial⟩<;>(intro L T wS hL hd hcl hI K hK;try refine zA rfl ?_)
    ·exact xgs (hI.k 3 rfl kR)
    ·have zt0:=hI.e mm0 (hd 0)
     have cc0:=hI.cell f3 oM nom;exact xgu
    ·exact xgs (hI.k 4 rfl kR)
    ·exact xgt (hI.e mm1 (hd 1)) (hI.e mm2 (hd 2))
    ·have zt3:=hI.e mm3 (hd 3)
     have cc0:=hI.cell o1 oM nom;exact xgu
    ·exact xgs (hI.k 4 rfl kR)
    ·go_simp
     refine(zBg 1 _ oM oM).mono ?_;exact xgo
    ·exact xgt (hI.e mm4 (hd 4)) (hI.e mm5 (hd 5))
   intro w9 hlw9 hbw9 holdw9 T hT;simp only[Fin,E,EI,VP,VSl,VN,xgg,xgh,xgi,xgj]at hT;obtain⟨va6,ha6,rfl⟩:=hT;simp only[xgl,xgk];obtain⟨pn,pa,pl,pc,px,rfl,hpx⟩:=id ha6;have HPX:=xgw hpx;clear hpx;have ho9:=ho.below hbw9;obtain⟨sn,sa,sl,sc,z1,z2,z3,z4,-⟩:=ho9.cellAt hbo hlt;have hbolt:=hlts i bo hbo;have hset:=ho9.set hbo hlt ha6;go_wp2;go_roundw
   case rel=>
    have hq:zLH (genM n n (zHF i)) i i 1=genM n n (zHF (i+1)):=by
     rw[zBV _ hlt hlt];exact zS fun a _ b _=>by
      unfold zHF;by_cases h:a=i/\b=i
      ·rw[if_pos h,if_pos oM]
      ·rw[if_neg h]
       by_cases h2:a=b/\a<i
       ·rw[if_pos h2,if_pos oM]
       ·rw[if_neg h2,if_neg oM]
    rw[hq]at hset;exact⟨i+1,by omega,by simp,zP (zP (nx hb hbw9) oM _ _) oM _ _,(qH _ _ _ _ _ _ _ oM).trans (br.below hbw9),(qH _ _ _ _ _ _ _ oM).trans (T5.below hbw9),hset.1⟩
   case measure=>simp[intOf];omega
  ·obtain rfl:i=n:=by omega
   have hq:genM i i (zHF i)=genM i i idf:=zS fun a ha b _=>by
    unfold zHF idf;by_cases h:a=b
    ·rw[if_pos ⟨h,ha⟩,if_pos h]
    ·rw[if_neg (fun h2=>h h2.1),if_neg h]
   rw[hq]at ho;obtain⟨r1,r2,r3,r4,r5,r6⟩:=br.three;go_wp2;refine zX rfl rfl rfl (br.put3 _ _ _) ⟨_,bs,rfl,⟨hbl,_,rfl,?_⟩,zP (zP (zP hb oM 0 _) oM 1 _) oM 2 _⟩;exact(ho.keep (fun k hk=>qZ _ _ k _ _ _ oM) (br.lext3 dE _ _ _)).mono q1
end Go.Proofs.YtgnmdddaiefooaaGreat
