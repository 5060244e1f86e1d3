/- smith: rows are exchanged. What the echelon form, the reduction and the Smith form of package smith compute, in plain Lean. smith: band.exchange. smith: band.negate. smith: blend. smith: a band's steps, by what they do to its state. -/
import Derived.Test.YtgnmdddaiefooaaGreatR16
set_option linter.unusedVariables false
set_option linter.unusedSimpArgs false
set_option linter.unusedSectionVars false
set_option maxHeartbeats 16000000
set_option maxRecDepth 100000
namespace Go.Proofs.YtgnmdddaiefooaaGreat
open Go.RowKit
def swp(i j:Nat)(k:Nat):Nat:=if k=i then j else if k=j then i else k
theorem zLV(i j k:Nat):swp i j (swp i j k)=k:=by
 unfold swp;by_cases h1:k=i
 ·rw[if_pos h1]
  by_cases h2:j=i
  ·rw[if_pos h2];omega
  ·rw[if_neg h2,if_pos rfl];omega
 ·rw[if_neg h1]
  by_cases h2:k=j
  ·rw[if_pos h2,if_pos rfl];omega
  ·rw[if_neg h2,if_neg h1,if_neg h2]
theorem zB9{α:Type}{l:List α}{i j:Nat}{x y:α}(hx:l[i]?=some x)(hy:l[j]?=some y)(k:Nat):((l.set i y).set j x)[k]?=l[swp i j k]?:=by
 have hi:=(xge.1 hx).1;have hj:=(xge.1 hy).1;unfold swp;by_cases h2:k=j
 ·subst h2
  rw[List.getElem?_set_self (by simpa using hj)];by_cases h1:k=i
  ·subst h1
   rw[if_pos rfl];exact hx.symm
  ·rw[if_neg h1,if_pos rfl];exact hx.symm
 ·rw[List.getElem?_set_ne (Ne.symm h2)]
  by_cases h1:k=i
  ·subst h1
   rw[List.getElem?_set_self hi,if_pos rfl];exact hy.symm
  ·rw[List.getElem?_set_ne (Ne.symm h1),if_neg h1,if_neg h2]
theorem zJG{α:Type}{l:List α}{i j:Nat}{x y:α}(hn:l.Nodup)(hx:l[i]?=some x)(hy:l[j]?=some y):((l.set i y).set j x).Nodup:=by
 show List.Pairwise _ _;rw[List.pairwise_iff_getElem];intro a b ha hb hab he0;have he:((l.set i y).set j x)[a]?=((l.set i y).set j x)[b]?:=by rw[xga ha,xga hb,he0]
 rw[zB9 hx hy,zB9 hx hy]at he;have hi:=(xge.1 hx).1;have hj:=(xge.1 hy).1;have hlen:((l.set i y).set j x).length=l.length:=by simp
 rw[hlen]at hb ha;have hbnd:∀k,k<l.length->swp i j k<l.length:=by
  intro k hk;unfold swp;split
  ·exact hj
  ·split
   ·exact hi
   ·exact hk
 have h1:=hbnd a oM;have h2:=hbnd b hb;rw[xga h1,xga h2]at he;injection he with he
 have h3:=(List.getElem_inj hn).1 he;have h4:=congrArg (swp i j) h3;rw[zLV,zLV]at h4;omega
theorem zJ.swap{w:World}{base g n cap C:Nat}{bs:List Nat}{M:List (List Int)}(h:zJ w base (.slice (some ⟨g,0,none⟩) n cap) C bs M){i j bi bj:Nat}{ri rj:List Int}(hi:bs[i]?=some bi)(hj:bs[j]?=some bj)(hri:M[i]?=some ri)(hrj:M[j]?=some rj):
  zJ ((w.setCell ⟨g,i,none⟩ (.slice (some ⟨bj,0,none⟩) C C)).setCell ⟨g,j,none⟩ (.slice (some ⟨bi,0,none⟩) C C)) base (.slice (some ⟨g,0,none⟩) n cap) C ((bs.set i bj).set j bi) ((M.set i rj).set j ri)∧
   yI w ((w.setCell ⟨g,i,none⟩ (.slice (some ⟨bj,0,none⟩) C C)).setCell ⟨g,j,none⟩ (.slice (some ⟨bi,0,none⟩) C C)):=by
 have hib:=(xge.1 hi).1;have hjb:=(xge.1 hj).1;rcases h.own.2 with⟨e,h0⟩|⟨g',cap',cur,e,e2,e3,e4,e5,e6,e7⟩
 ·omega
 ·injection e with e8 e9 e10
  injection e8 with e8
  injection e8 with e8
  subst e8;subst e9;subst e10;have hB:Blk w g tR cur:=e3;have hx:yI w ((w.setCell ⟨g,i,none⟩ (.slice (some ⟨bj,0,none⟩) C C)).setCell ⟨g,j,none⟩ (.slice (some ⟨bi,0,none⟩) C C)):=(hB.lext dE _ _).trans ((hB.set_ _ _).lext dE _ _);refine⟨⟨⟨by simp[qT],.inr ⟨g,cap,_,by simp,e2,(hB.set_ _ _).set_ _ _,by simpa using e4,e5,by simpa using e6,?_⟩⟩,by simp[h.len],?_,zJG h.nodup hi hj,h.cb⟩,hx⟩
  ·rw[Array.toList_setIfInBounds,Array.toList_setIfInBounds]
   simp only[List.length_set];rw[List.take_set,List.take_set,e7];simp[qT,List.map_set]
  ·intro k b r hk hr
   rw[zB9 hi hj]at hk;rw[zB9 hri hrj]at hr;obtain⟨f1,f2,f3⟩:=h.row _ b r hk hr;refine⟨f1,f2,f3.old (qH w g _ _ b _ _ ?_) hx⟩;intro hh;have:=zCU h.own f3;exact this (by rw[hh];rfl)
theorem zKL{R C:Nat}{F:Nat->Nat->Int}{i j:Nat}(hi:i<R)(hj:j<R):
  ((genM R C F).set i (zQ C (F j))).set j (zQ C (F i))=genM R C (fun a b=>F (swp i j a) b):=by
 apply List.ext_getElem?;intro k;have e1:(genM R C F)[i]?=some (zQ C (F i)):=zAL R C F hi;have e2:(genM R C F)[j]?=some (zQ C (F j)):=zAL R C F hj;rw[zB9 e1 e2];rcases Nat.lt_or_ge k R with h|h
 ·have h2:swp i j k<R:=by
   unfold swp;split
   ·exact hj
   ·split
    ·exact hi
    ·exact h
  rw[zAL R C F h2,zAL R C _ h]
 ·have h2:swp i j k=k:=by
   unfold swp;rw[if_neg oM,if_neg oM]
  rw[h2,List.getElem?_eq_none (by simp[genM];exact h),List.getElem?_eq_none (by simp[genM];exact h)]
def zH1(bs:List Nat)(i j:Nat):List Nat:=(bs.set i (bs.getD j 0)).set j (bs.getD i 0)
theorem zMF{bs:List Nat}{i j:Nat}(hi:i<bs.length)(hj:j<bs.length){b:Nat}(h:b∈zH1 bs i j):b∈bs:=by
 have e1:bs[i]?=some bs[i]:=xga hi;have e2:bs[j]?=some bs[j]:=xga hj;unfold zH1 at h;rw[jP e1,jP e2]at h;obtain⟨k,hk,e⟩:=List.getElem_of_mem h;have h3:((bs.set i bs[j]).set j bs[i])[k]?=some b:=by rw[xga hk,e]
 rw[zB9 e1 e2]at h3;exact xgd h3
theorem Wri.swap{w:World}{g n cap R C:Nat}{bs:List Nat}{F:Nat->Nat->Int}(h:Wri w (.slice (some ⟨g,0,none⟩) n cap) R C bs F){i j bi bj:Nat}(hi:i<R)(hj:j<R)(hbi:bs[i]?=some bi)(hbj:bs[j]?=some bj):
  Wri ((w.setCell ⟨g,i,none⟩ (.slice (some ⟨bj,0,none⟩) C C)).setCell ⟨g,j,none⟩ (.slice (some ⟨bi,0,none⟩) C C)) (.slice (some ⟨g,0,none⟩) n cap) R C (zH1 bs i j) (fun a b=>F (swp i j a) b)∧
   yI w ((w.setCell ⟨g,i,none⟩ (.slice (some ⟨bj,0,none⟩) C C)).setCell ⟨g,j,none⟩ (.slice (some ⟨bi,0,none⟩) C C)):=by
 have hs:=zJ.swap h hbi hbj (zAL R C F hi) (zAL R C F hj);refine⟨?_,hs.2⟩;unfold Wri zH1;rw[jP hbi,jP hbj,<-zKL hi hj];exact hs.1
def zFb(F:Nat->Nat->Int)(i j:Nat):Nat->Nat->Int:=fun a b=>F (swp i j a) b
def jQ(F:Nat->Nat->Int)(i:Nat):Nat->Nat->Int:=fun a b=>if a=i then-(F a b)else F a b
def trF(F:Nat->Nat->Int):Nat->Nat->Int:=fun a b=>F b a
def zZ(F:Nat->Nat->Int)(i j:Nat)(m0 m1 m2 m3:Int):Nat->Nat->Int:=fun a b=>if a=i then m0*F i b+m1*F j b else if a=j then m2*F i b+m3*F j b else F a b
structure Bst where
 s:Nat->Nat->Int
 t:Nat->Nat->Int
 i:Nat->Nat->Int
def Bst.add(x:Bst)(i j:Nat)(k:Int):Bst:=⟨jL x.s i j k,jL x.t i j k,jL x.i j i (-k)⟩
def Bst.swap(x:Bst)(i j:Nat):Bst:=⟨zFb x.s i j,zFb x.t i j,zFb x.i i j⟩
def Bst.neg(x:Bst)(i:Nat):Bst:=⟨jQ x.s i,jQ x.t i,jQ x.i i⟩
def okF(B R C:Nat)(F:Nat->Nat->Int):Prop:=∀a,a<R->∀b,b<C->(F a b).natAbs<B
instance (B R C:Nat) (F:Nat->Nat->Int):Decidable (okF B R C F):=by unfold okF;infer_instance
def okB(B n Cs Ct:Nat)(x:Bst):Prop:=okF B n Cs x.s/\okF B n Ct x.t/\okF B n Ct x.i
instance (B n Cs Ct:Nat) (x:Bst):Decidable (okB B n Cs Ct x):=by unfold okB;infer_instance
def zBx(B n Cs Ct:Nat)(x:Bst)(i j:Nat)(k:Int):Prop:=
 k.natAbs<B/\(∀t,t<Cs->(k*x.s j t).natAbs<B)/\(∀t,t<Ct->(k*x.t j t).natAbs<B/\(k*x.i i t).natAbs<B)/\okB B n Cs Ct (x.add i j k)
instance (B n Cs Ct:Nat) (x:Bst) (i j:Nat) (k:Int):Decidable (zBx B n Cs Ct x i j k):=by unfold zBx;infer_instance
def lead(C:Nat)(F:Nat->Nat->Int)(i:Nat):Int:=zAN 0 (zQ C (F i))
def adv(L:Nat->Int)(c:Int):Nat->Nat->Nat
 |0,k=>k
 |m+1,k=>if L k<c then adv L c m (k+1)else k
def zQI(k:Nat):Nat->Bst->Bst
 |0,x=>x
 |m+1,x=>zQI k m (x.swap (k+m+1) (k+m))
def zM9(B n Cs Ct m rank:Nat):Nat->Nat->Bst->Option (Bst × Bool)
 |0,_,_=>none
 | f +1,k,x=>
  if lead Cs x.s m<0 then some (x,false)
  else if adv (lead Cs x.s) (lead Cs x.s m) (rank-k) k<rank/\lead Cs x.s (adv (lead Cs x.s) (lead Cs x.s m) (rank-k) k)=lead Cs x.s m then
   if zBx B n Cs Ct x m (adv (lead Cs x.s) (lead Cs x.s m) (rank-k) k) (-(x.s m (lead Cs x.s m).toNat/x.s (adv (lead Cs x.s) (lead Cs x.s m) (rank-k) k) (lead Cs x.s m).toNat))then
    zM9 B n Cs Ct m rank f (adv (lead Cs x.s) (lead Cs x.s m) (rank-k) k)
     (if x.s m (lead Cs x.s m).toNat%x.s (adv (lead Cs x.s) (lead Cs x.s m) (rank-k) k) (lead Cs x.s m).toNat=0 then x.add m (adv (lead Cs x.s) (lead Cs x.s m) (rank-k) k) (-(x.s m (lead Cs x.s m).toNat/x.s (adv (lead Cs x.s) (lead Cs x.s m) (rank-k) k) (lead Cs x.s m).toNat))
      else(x.add m (adv (lead Cs x.s) (lead Cs x.s m) (rank-k) k) (-(x.s m (lead Cs x.s m).toNat/x.s (adv (lead Cs x.s) (lead Cs x.s m) (rank-k) k) (lead Cs x.s m).toNat))).swap m (adv (lead Cs x.s) (lead Cs x.s m) (rank-k) k))
   else none
  else some (zQI (adv (lead Cs x.s) (lead Cs x.s m) (rank-k) k) (rank-adv (lead Cs x.s) (lead Cs x.s m) (rank-k) k) ((if x.s m (lead Cs x.s m).toNat<0 then x.neg m else x).swap m rank),true)
def zPL(B n Cs Ct:Nat)(cols:Nat->Int)(i:Nat):Nat->Nat->Bst->Option Bst
 |0,_,x=>some x
 |m+1,j,x=>
  if cols j<0 then none
  else if x.s i (cols j).toNat=0 then zPL B n Cs Ct cols i m (j+1) x
  else if x.s j (cols j).toNat=0 then none
  else if x.s i (cols j).toNat/x.s j (cols j).toNat=0 then zPL B n Cs Ct cols i m (j+1) x
  else if zBx B n Cs Ct x i j (-(x.s i (cols j).toNat/x.s j (cols j).toNat))then zPL B n Cs Ct cols i m (j+1) (x.add i j (-(x.s i (cols j).toNat/x.s j (cols j).toNat)))
  else none
def zQH(B n Cs Ct:Nat)(cols:Nat->Int)(rank:Nat):Nat->Bst->Option Bst
 |0,x=>some x
 |i+1,x=>(zPL B n Cs Ct cols i (rank-(i+1)) (i+1) x).bind (zQH B n Cs Ct cols rank i)
def zOE(B n Cs Ct rank:Nat)(x:Bst):Option Bst:=zQH B n Cs Ct (lead Cs x.s) rank rank x
def zOg(B n Cs Ct f:Nat):Nat->Nat->Nat->Bst->Option Bst
 |0,_,_,x=>some x
 |l+1,m,rank,x=>
  (zM9 B n Cs Ct m rank f 0 x).bind fun r=>(zOE B n Cs Ct (if r.2 then rank+1 else rank) r.1).bind fun y=>zOg B n Cs Ct f l (m+1) (if r.2 then rank+1 else rank) y
def zQE(B n Cs Ct f:Nat)(x:Bst):Option Bst:=zOg B n Cs Ct f n 0 0 x
structure W5 where
 s:Nat->Nat->Int
 u:Nat->Nat->Int
 v:Nat->Nat->Int
 w:Nat->Nat->Int
 x:Nat->Nat->Int
def zO1(B R C Cu Cw f:Nat)(z:W5):Option W5:=
 (zQE B R C Cu f ⟨z.s,z.u,z.v⟩).bind fun a=>(zQE B C R Cw f ⟨trF a.s,z.w,z.x⟩).bind fun b=>some ⟨trF b.s,a.t,a.i,b.t,b.i⟩
def zIw(R C:Nat)(F:Nat->Nat->Int):Prop:=∀a,a<R->∀b,b<C->a≠b->F a b=0
instance (R C:Nat) (F:Nat->Nat->Int):Decidable (zIw R C F):=by unfold zIw;infer_instance
def zO2(B R C Cu Cw f:Nat):Nat->W5->Option W5
 |0,_=>none
 |r+1,z=>(zO1 B R C Cu Cw f z).bind fun y=>if zIw R C y.s then some y else zO2 B R C Cu Cw f r y
def zJn(F:Nat->Nat->Int)(i j:Nat):Nat->Nat->Int:=fun a b=>if a=j/\b=j then F i i*(F j j/((Int.gcd (F i i) (F j j):Nat):Int))else if a=i/\b=i then((Int.gcd (F i i) (F j j):Nat):Int)else F a b
def zQD(z:W5)(i j:Nat)(s t:Int):W5:=
 ⟨zJn z.s i j,zZ z.u i j s t (-(z.s j j/((Int.gcd (z.s i i) (z.s j j):Nat):Int))) (z.s i i/((Int.gcd (z.s i i) (z.s j j):Nat):Int)),
  zZ z.v i j (z.s i i/((Int.gcd (z.s i i) (z.s j j):Nat):Int)) (z.s j j/((Int.gcd (z.s i i) (z.s j j):Nat):Int)) (-t) s,
  zZ z.w i j 1 1 (-(t*(z.s j j/((Int.gcd (z.s i i) (z.s j j):Nat):Int)))) (1-t*(z.s j j/((Int.gcd (z.s i i) (z.s j j):Nat):Int))),
  zZ z.x i j (1-t*(z.s j j/((Int.gcd (z.s i i) (z.s j j):Nat):Int))) (t*(z.s j j/((Int.gcd (z.s i i) (z.s j j):Nat):Int))) (-1) 1⟩
def Bez(x y s t:Int):Prop:=s*x+t*y=((Int.gcd x y:Nat):Int)/\s.natAbs<=max 1 y.natAbs/\t.natAbs<=max 1 x.natAbs
inductive zOW (n:Nat):W5->W5->Prop
 |refl (z:W5):zOW n z z
 |step (z y:W5) (i j:Nat) (s t:Int):zOW n z y->i<j->j<n->¬ y.s i i∣y.s j j->Bez (y.s i i) (y.s j j) s t->zOW n z (zQD y i j s t)
def divJ(i:Nat):Nat->Nat->(Nat->Nat->Int)->(Nat->Nat->Int)
 |0,_,F=>F
 |m+1,j,F=>divJ i m (j+1) (if F i i∣F j j then F else zJn F i j)
def divI:Nat->Nat->(Nat->Nat->Int)->(Nat->Nat->Int)
 |0,_,F=>F
 |m+1,i,F=>divI m (i+1) (divJ i m (i+1) F)
example:(zO2 1000000 2 1 2 1 20 5 ⟨fun a _=>if a=0 then 4 else 6,fun a b=>if a=b then 1 else 0,fun a b=>if a=b then 1 else 0,fun _ _=>1,fun _ _=>1⟩).map (fun z=>(z.s 0 0,z.s 1 0,z.u 0 0,z.u 0 1,z.u 1 0,z.u 1 1))=some (2,0,-1,1,3,-2):=by decide
structure zM(Z:Nat->Prop)(w w':World):Prop where
 bel:Below 0 w w'
 lext:yI w w'
 old:∀k,k<w.heap.size->¬ Z k->w'.heap[k]?=w.heap[k]?
theorem zM.refl(Z:Nat->Prop)(w:World):zM Z w w:=⟨Below.refl _ _,yI.refl _,fun _ _ _=>rfl⟩
theorem zM.of{w w':World}(Z:Nat->Prop)(h:Below w.heap.size w w'):zM Z w w':=⟨h.mono (Nat.zero_le _),lx h,fun k hk _=>h.block k hk⟩
theorem zM.trans{Z:Nat->Prop}{a b c:World}(h:zM Z a b)(k:zM Z b c):zM Z a c:=
 ⟨h.bel.trans k.bel,h.lext.trans k.lext,fun i hi hn=>(k.old i (Nat.lt_of_lt_of_le hi h.bel.size) hn).trans (h.old i hi hn)⟩
theorem zM.mono{Z Z':Nat->Prop}{w w':World}(h:zM Z w w')(hs:∀k,k<w.heap.size->Z k->Z' k):zM Z' w w':=⟨h.bel,h.lext,fun k hk hn=>h.old k hk (fun hh=>hn (hs k hk hh))⟩
theorem zM.blk{Z:Nat->Prop}{w w':World}{b:Nat}{T:TypeId}{cs:Array Value}(h:zM Z w w')(hb:Blk w b T cs)(hz:¬ Z b):Blk w' b T cs:=(h.old b hb.lt hz).trans hb
theorem zJ.gblk{w:World}{base g n cap C:Nat}{bs:List Nat}{M:List (List Int)}(h:zJ w base (.slice (some ⟨g,0,none⟩) n cap) C bs M):∃cur,Blk w g tR cur/\n<=cur.size:=by
 rcases h.own.2 with⟨e,h0⟩|⟨g',cap',cur,e,e2,e3,e4,e5,e6,e7⟩
 ·cases e
 ·injection e with e8 e9 e10
  injection e8 with e8
  injection e8 with e8
  subst e8;subst e9;exact⟨cur,e3,by omega⟩
theorem zJW{R C:Nat}{F:Nat->Nat->Int}{i:Nat}(hi:i<R):(genM R C F).set i (zQ C (fun t=>-F i t))=genM R C (jQ F i):=by
 apply List.ext_getElem
 ·simp[genM]
 ·intro a h1 h2
  by_cases e:a=i
  ·subst e
   rw[List.getElem_set_self];simp[genM,zQ,jQ]
  ·have e3:i≠a:=fun h=>e h.symm
   rw[List.getElem_set_ne e3];simp[genM,jQ,e]
theorem Wri.negRow{w w':World}{A:Value}{R C:Nat}{bs:List Nat}{F:Nat->Nat->Int}(h:Wri w A R C bs F){i b:Nat}(hi:i<R)(hb:bs[i]?=some b)(ho:yQ [b] w w')(hr:qF w' b (zQ C (fun t=>-F i t))):Wri w' A R C bs (jQ F i):=by
 unfold Wri;rw[<-zJW hi];exact zJ.setRow h hb ho hr (zE _ _)
theorem Wri.rowAt{w:World}{A:Value}{R C:Nat}{bs:List Nat}{F:Nat->Nat->Int}(h:Wri w A R C bs F){i b:Nat}(hi:i<R)(hb:bs[i]?=some b):qF w b (zQ C (F i)):=by
 obtain⟨b',e1,e2⟩:=zJ.rowAt h hi;obtain rfl:b'=b:=Option.some.inj (e1.symm.trans hb);exact e2
def M4V(w:World)(v:Value)(m0 m1 m2 m3:Int):Prop:=
 ∃s0 a0 l0 c0 s1 a1 l1 c1 s2 a2 l2 c2 s3 a3 l3 c3,v= .agg #[.bool s0,.slice a0 l0 c0,.bool s1,.slice a1 l1 c1,.bool s2,.slice a2 l2 c2,.bool s3,.slice a3 l3 c3]∧
  zR w (.agg #[.bool s0,.slice a0 l0 c0]) m0/\zR w (.agg #[.bool s1,.slice a1 l1 c1]) m1/\zR w (.agg #[.bool s2,.slice a2 l2 c2]) m2/\zR w (.agg #[.bool s3,.slice a3 l3 c3]) m3
theorem M4V.ext{w w':World}{v:Value}{m0 m1 m2 m3:Int}(h:M4V w v m0 m1 m2 m3)(x:yI w w'):M4V w' v m0 m1 m2 m3:=by
 obtain⟨s0,a0,l0,c0,s1,a1,l1,c1,s2,a2,l2,c2,s3,a3,l3,c3,e,h0,h1,h2,h3⟩:=h;exact⟨s0,a0,l0,c0,s1,a1,l1,c1,s2,a2,l2,c2,s3,a3,l3,c3,e,h0.ext x,h1.ext x,h2.ext x,h3.ext x⟩
theorem Blk.eight{w:World}{g:Nat}{t:TypeId}{c0 c1 c2 c3 c4 c5 c6 c7:Value}(h:Blk w g t #[c0,c1,c2,c3,c4,c5,c6,c7]):
  w.cell? ⟨g,0,none⟩=some c0/\w.cell? ⟨g,1,none⟩=some c1/\w.cell? ⟨g,2,none⟩=some c2/\w.cell? ⟨g,3,none⟩=some c3/\w.cell? ⟨g,4,none⟩=some c4/\w.cell? ⟨g,5,none⟩=some c5/\w.cell? ⟨g,6,none⟩=some c6/\w.cell? ⟨g,7,none⟩=some c7:=
 ⟨h.cell 0,h.cell 1,h.cell 2,h.cell 3,h.cell 4,h.cell 5,h.cell 6,h.cell 7⟩
def zMr(n:Nat)(f g:Nat->Int)(m0 m1 m2 m3:Int):Prop:=∀t,t<n->Sm (f t)/\Sm (g t)/\Sm (m0*f t)/\Sm (m1*g t)/\Sm (m2*f t)/\Sm (m3*g t)
theorem Blk.put_at{w W:World}{b i j:Nat}{u v:Value}(hW:Hid (W=(w.setCell ⟨b,i,none⟩ u).setCell ⟨b,j,none⟩ v)){g:Nat}{t:TypeId}{cs:Array Value}(h:Blk w g t cs)(hne:g≠b):Blk W g t cs:=by
 rw[hW.out];exact(qH _ _ _ _ _ _ _ hne).trans h
theorem yQ.put_at{w W:World}{b i j:Nat}{u v:Value}(hW:Hid (W=(w.setCell ⟨b,i,none⟩ u).setCell ⟨b,j,none⟩ v)){S:List Nat}(hb:b∈S)(hx:yI w W):yQ S w W:=by
 refine⟨?_,hx,fun k _ hk=>?_⟩
 ·rw[hW.out]
  exact zP (zP (Below.refl _ _) (Nat.zero_le _) _ _) (Nat.zero_le _) _ _
 ·rw[hW.out]
  exact qH _ _ _ _ _ _ _ (fun e=>hk (e ▸ hb))
theorem qF.put_at{w W:World}{b i j:Nat}{u v:Value}(hW:Hid (W=(w.setCell ⟨b,i,none⟩ u).setCell ⟨b,j,none⟩ v)){g:Nat}{r:List Int}(h:qF w g r)(hne:g≠b)(hx:yI w W):qF W g r:=
 h.old (by rw[hW.out];exact qH _ _ _ _ _ _ _ hne) hx
theorem qF.set_at{w W:World}{b:Nat}{zs:List Int}{k:Nat}{s:Bool}{a:Option Addr}{l c:Nat}(hW:Hid (W=(w.setCell ⟨b,k*2,none⟩ (.bool s)).setCell ⟨b,k*2+1,none⟩ (.slice a l c)))(h:qF w b zs)(hk:k<zs.length){z:Int}(hv:zR w (.agg #[.bool s,.slice a l c]) z):
  qF W b (zs.set k z)/\yI w W:=by
 rw[hW.out];exact h.set hk hv
theorem zF9{n:Nat}{F f:Nat->Int}{j:Nat}{z:Int}(hz:z=F j):(zQ n (qI F f j)).set j z=zQ n (qI F f (j+1)):=by
 rw[zA8];exact qA fun t _=>by
  unfold qI;by_cases h2:t=j
  ·subst h2
   rw[if_pos rfl,if_pos oM,hz]
  ·rw[if_neg h2]
   by_cases h1:t<j
   ·rw[if_pos h1,if_pos oM]
   ·rw[if_neg h1,if_neg oM]
theorem zJx(bv bw n capv capw:Nat)(f g:Nat->Int)(mv:Value)(m0 m1 m2 m3:Int)(w:World)(hv:qF w bv (zQ n f))(hw:qF w bw (zQ n g))(hne:bv≠bw)(hm:M4V w mv m0 m1 m2 m3)
  (hn:n<=1000000) (hcv:n<=capv) (hcv2:capv<=9223372036854775807) (hcw:n<=capw) (hcw2:capw<=9223372036854775807)
  (hS:zMr n f g m0 m1 m2 m3) (hms:Sm m0/\Sm m1/\Sm m2/\Sm m3):
  Calls Tryz.prog 147 #[.slice (some ⟨bv,0,none⟩) n capv,.slice (some ⟨bw,0,none⟩) n capw,mv] w fun e w'=>(∃u,e= .returned u)/\yQ [bv,bw] w w'∧
   qF w' bv (zQ n (fun t=>m0*f t+m1*g t))/\qF w' bw (zQ n (fun t=>m2*f t+m3*g t)):=by
 have HS:=xgv hS;have HK:=xgv hms;have HM:=xgv hm;obtain⟨s0,a0,l0,c0,s1,a1,l1,c1,s2,a2,l2,c2,s3,a3,l3,c3,rfl,-⟩:=id hm;clear hS hms hm;have hlv:=hv.lt;have hlw:=hw.lt;obtain⟨F,hF⟩:∃F:Nat->Int,(fun t=>m0*f t+m1*g t)=F:=⟨_,rfl⟩;obtain⟨G,hG⟩:∃G:Nat->Int,(fun t=>m2*f t+m3*g t)=G:=⟨_,rfl⟩;rw[hF,hG];have HF:qM (∀t,F t=m0*f t+m1*g t):=⟨fun t=>by rw[<-hF]⟩;have HG:qM (∀t,G t=m2*f t+m3*g t):=⟨fun t=>by rw[<-hG]⟩;clear hF hG;go_enter Tryz.func147,Tryz.ntmps147;go_upto_region 1 with(fail)
 refine zC ?_;intro W0 hW0;obtain⟨hB0,bx,hs0⟩:=zN hW0;have hv0:=hv.below hB0;have hw0:=hw.below hB0;have hm0:=HM.out.ext (lx hB0);have hst:∀(a b:Nat->Int),zQ n a=zQ n (qI b a 0):=fun a b=>qA fun t _=>by unfold qI;rw[if_neg oM]
 rw[hst f F]at hv0;rw[hst g G]at hw0;have hO:=yQ.of [bv,bw] hB0;have HM0:=xgv hm0;clear hW0 hst hv hw hm0;go_wp2;go_loopw [11] (fun jv wr=>∃j:Nat,j<=n/\jv= .int .i64 j/\yQ [bv,bw] w wr/\Blk wr w.heap.size 160 #[.bool s0,.slice a0 l0 c0,.bool s1,.slice a1 l1 c1,.bool s2,.slice a2 l2 c2,.bool s3,.slice a3 l3 c3]/\qM (M4V wr (.agg #[.bool s0,.slice a0 l0 c0,.bool s1,.slice a1 l1 c1,.bool s2,.slice a2 l2 c2,.bool s3,.slice a3 l3 c3]) m0 m1 m2 m3)/\qF wr bw (zQ n (qI G g j))/\qF wr bv (zQ n (qI F f j))) (fun jv _=>n-(intOf jv).toNat)
 case atStart=>exact⟨0,by omega,rfl,hO,bx,HM0,hw0,hv0⟩
 case round=>
  obtain⟨j,hj,rfl,hO,bx,HMr,hw,hv⟩:=hrel;by_cases hlt:j<n
  ·obtain⟨xs,xa,xl,xc,p1,p2,-,-,hx⟩:=hv.cell (zW hlt)
   obtain⟨ys,ya,yl,yc,q1,q2,-,-,hy⟩:=hw.cell (zW hlt);have hxf:qI F f j j=f j:=by unfold qI;rw[if_neg oM]
   have hyf:qI G g j j=g j:=by unfold qI;rw[if_neg oM]
   rw[hxf]at hx;rw[hyf]at hy;have hlw':=hw.lt;have hlv':=hv.lt;have hlb:=bx.lt;have hOsz:=hO.bel.size;go_upto_region 5 with(fail)
   refine zC ?_;intro W6 hW6;obtain⟨hB6,T7,T8,hs6⟩:=qK hW6;obtain⟨d1,d2,d3,d4⟩:=T7.two;obtain⟨e1,e2,e3,e4⟩:=T8.two;have hO:=hO.trans (yQ.of [bv,bw] hB6);have bx:=bx.below hB6;have HMr:=xgv (HMr.out.ext (lx hB6));have hw:=hw.below hB6;have hv:=hv.below hB6;have hx:=hx.ext (lx hB6);have hy:=hy.ext (lx hB6);clear p1 p2 q1 q2 hW6;obtain⟨k0,k1,k2,k3,k4,k5,k6,k7⟩:=bx.eight;have lv:=hv.lt;have lb:=bx.lt;have l7:=T7.lt;have l8:=T8.lt;have HSJ:=xgv (HS.out j hlt);obtain⟨s0',a0',l0',c0',s1',a1',l1',c1',s2',a2',l2',c2',s3',a3',l3',c3',hee,i0,i1,i2,i3⟩:=HMr.out;injection hee with hee
   simp only[Array.mk.injEq,List.cons.injEq,Value.bool.injEq,Value.slice.injEq]at hee;obtain⟨rfl,⟨rfl,rfl,rfl⟩,rfl,⟨rfl,rfl,rfl⟩,rfl,⟨rfl,rfl,rfl⟩,rfl,⟨rfl,rfl,rfl⟩,-⟩:=hee;refine zB 14 rfl (RI W6 (W6.heap.size) _ 51
     [VSl 0 20 bv n capv,VN 1 21 j,VP 2 22 w.heap.size 0,VP 3 23 w.heap.size 0,E 4 24 (.agg #[.bool s0,.slice a0 l0 c0]),E 5 25 (.agg #[.bool xs,.slice xa xl xc]),EI 6 26 (m0*f j),VP 7 27 w.heap.size 0,VP 8 28 w.heap.size 2,E 9 29 (.agg #[.bool s1,.slice a1 l1 c1]),E 10 30 (.agg #[.bool ys,.slice ya yl yc]),EI 11 31 (m1*g j),EI 12 32 (m0*f j+m1*g j),VP 13 33 bv (j*2)] [] []) kR RI.start (RI.fin kR ?fin1) ?steps1
   case steps1=>
    refine⟨?_,?_,?_,?_,?_,?_,?_,?_,?_,?_,?_,?_,?_,?_,trivial⟩<;>(intro L T wS hL hd hcl hI K hK;try refine zA rfl ?_)
    ·exact xgs (hI.k 0 rfl kR)
    ·exact xgs (hI.k 6 rfl kR)
    ·exact xgs (hI.k 5 rfl kR)
    ·exact xgs (hI.e mm2 (hd 2))
    ·have zt3:=hI.e mm3 (hd 3)
     have cc0:=hI.cell k0 oM nom;have cc1:=hI.cell k1 oM nom;exact xgu
    ·have zt:=hI.k 7 rfl kR
     have cc0:=hI.cell d1 oM nom;have cc1:=hI.cell d2 oM nom;exact xgu
    ·have zt4:=hI.e mm4 (hd 4)
     have zt5:=hI.e mm5 (hd 5);go_simp;refine(zBw _ _ m0 (f j) _ (i0.ext hI.lext).weak (hx.ext hI.lext).weak HK.out.1 HSJ.out.1).mono ?_;exact xgo
    ·exact xgs (hI.k 5 rfl kR)
    ·exact xgs (hI.e mm7 (hd 7))
    ·have zt8:=hI.e mm8 (hd 8)
     have cc0:=hI.cell k2 oM nom;have cc1:=hI.cell k3 oM nom;exact xgu
    ·have zt:=hI.k 8 rfl kR
     have cc0:=hI.cell e1 oM nom;have cc1:=hI.cell e2 oM nom;exact xgu
    ·have zt9:=hI.e mm9 (hd 9)
     have zt10:=hI.e yD (hd 10);go_simp;refine(zBw _ _ m1 (g j) _ (i1.ext hI.lext).weak (hy.ext hI.lext).weak HK.out.2.1 HSJ.out.2.1).mono ?_;exact xgo
    ·obtain⟨v6,zt6,h6⟩:=hI.vi mm6 (hd 6)
     obtain⟨v11,zt11,h11⟩:=hI.vi zAB (hd 11);go_simp;refine(zFg _ _ (m0*f j) (m1*g j) _ h6.weak h11.weak HSJ.out.2.2.1 HSJ.out.2.2.2.1).mono ?_;exact xgo
    ·exact xgt (hI.e mm0 (hd 0)) (hI.e mm1 (hd 1))
   intro w9 hlw9 hbw9 holdw9 T hT;simp only[Fin,E,EI,VP,VSl,VN,xgg,xgh,xgi,xgj]at hT;obtain⟨va6,ha6,va11,ha11,va12,ha12,rfl⟩:=hT;simp only[xgl,xgk];obtain⟨pn,pa,pl,pc,px,rfl,hpx⟩:=id ha12;have HPX:=xgw hpx;clear hpx k0 k1 k2 k3 k4 k5 k6 k7 d1 d2 d3 d4 e1 e2 e3 e4;have hv9:=hv.below hbw9;obtain⟨zs,za,zl,zc,z1,z2,z3,z4,-⟩:=hv9.cell (zW hlt);have hl9:=hv9.lt;go_upto_region 6 with(fail)
   refine zC ?_;intro W10 hW10;obtain⟨hv10,hx10⟩:=hv9.set_at (k:=j) hW10 (by rw[zE];exact hlt) ha12;rw[zF9 (HF.out j).symm]at hv10;have hO:=(hO.trans (yQ.of [bv,bw] hbw9)).trans (yQ.put_at hW10 sI hx10);have bx:=(bx.below hbw9).put_at hW10 oM;have T7:=(T7.below hbw9).put_at hW10 oM;have T8:=(T8.below hbw9).put_at hW10 oM;have hw:=(hw.below hbw9).put_at hW10 (Ne.symm hne) hx10;have hv:=hv10;have hx:=(hx.ext (lx hbw9)).ext hx10;have hy:=(hy.ext (lx hbw9)).ext hx10;have i0:=(i0.ext (lx hbw9)).ext hx10;have i1:=(i1.ext (lx hbw9)).ext hx10;have i2:=(i2.ext (lx hbw9)).ext hx10;have i3:=(i3.ext (lx hbw9)).ext hx10;clear z1 z2 z3 z4 hW10;obtain⟨k0,k1,k2,k3,k4,k5,k6,k7⟩:=bx.eight;obtain⟨d1,d2,d3,d4⟩:=T7.two;obtain⟨e1,e2,e3,e4⟩:=T8.two;have lw:=hw.lt;have lb:=bx.lt;have l7:=T7.lt;have l8:=T8.lt;refine zB 14 rfl (RI W10 (W10.heap.size) _ 51
     [VSl 0 34 bw n capw,VN 1 35 j,VP 2 36 w.heap.size 4,VP 3 37 w.heap.size 4,E 4 38 (.agg #[.bool s2,.slice a2 l2 c2]),E 5 39 (.agg #[.bool xs,.slice xa xl xc]),EI 6 40 (m2*f j),VP 7 41 w.heap.size 4,VP 8 42 w.heap.size 6,E 9 43 (.agg #[.bool s3,.slice a3 l3 c3]),E 10 44 (.agg #[.bool ys,.slice ya yl yc]),EI 11 45 (m3*g j),EI 12 46 (m2*f j+m3*g j),VP 13 47 bw (j*2)] [] []) kR RI.start (RI.fin kR ?fin2) ?steps2
   case steps2=>
    refine⟨?_,?_,?_,?_,?_,?_,?_,?_,?_,?_,?_,?_,?_,?_,trivial⟩<;>(intro L T wS hL hd hcl hI K hK;try refine zA rfl ?_)
    ·exact xgs (hI.k 1 rfl kR)
    ·exact xgs (hI.k 6 rfl kR)
    ·exact xgs (hI.k 5 rfl kR)
    ·exact xgs (hI.e mm2 (hd 2))
    ·have zt3:=hI.e mm3 (hd 3)
     have cc0:=hI.cell k4 oM nom;have cc1:=hI.cell k5 oM nom;exact xgu
    ·have zt:=hI.k 7 rfl kR
     have cc0:=hI.cell d1 oM nom;have cc1:=hI.cell d2 oM nom;exact xgu
    ·have zt4:=hI.e mm4 (hd 4)
     have zt5:=hI.e mm5 (hd 5);go_simp;refine(zBw _ _ m2 (f j) _ (i2.ext hI.lext).weak (hx.ext hI.lext).weak HK.out.2.2.1 HSJ.out.1).mono ?_;exact xgo
    ·exact xgs (hI.k 5 rfl kR)
    ·exact xgs (hI.e mm7 (hd 7))
    ·have zt8:=hI.e mm8 (hd 8)
     have cc0:=hI.cell k6 oM nom;have cc1:=hI.cell k7 oM nom;exact xgu
    ·have zt:=hI.k 8 rfl kR
     have cc0:=hI.cell e1 oM nom;have cc1:=hI.cell e2 oM nom;exact xgu
    ·have zt9:=hI.e mm9 (hd 9)
     have zt10:=hI.e yD (hd 10);go_simp;refine(zBw _ _ m3 (g j) _ (i3.ext hI.lext).weak (hy.ext hI.lext).weak HK.out.2.2.2 HSJ.out.2.1).mono ?_;exact xgo
    ·obtain⟨v6,zt6,h6⟩:=hI.vi mm6 (hd 6)
     obtain⟨v11,zt11,h11⟩:=hI.vi zAB (hd 11);go_simp;refine(zFg _ _ (m2*f j) (m3*g j) _ h6.weak h11.weak HSJ.out.2.2.2.2.1 HSJ.out.2.2.2.2.2).mono ?_;exact xgo
    ·exact xgt (hI.e mm0 (hd 0)) (hI.e mm1 (hd 1))
   intro w11 hlw11 hbw11 holdw11 T hT;simp only[Fin,E,EI,VP,VSl,VN,xgg,xgh,xgi,xgj]at hT;obtain⟨vb6,hb6,vb11,hb11,vb12,hb12,rfl⟩:=hT;simp only[xgl,xgk];obtain⟨pn,pa,pl,pc,px,rfl,hpx⟩:=id hb12;have HPX:=xgw hpx;clear hpx k0 k1 k2 k3 k4 k5 k6 k7 d1 d2 d3 d4 e1 e2 e3 e4;have hw9:=hw.below hbw11;obtain⟨zs,za,zl,zc,z1,z2,z3,z4,-⟩:=hw9.cell (zW hlt);have hl9:=hw9.lt;go_upto_region 7 with(fail)
   refine zC ?_;intro W12 hW12;obtain⟨hw12,hx12⟩:=hw9.set_at (k:=j) hW12 (by rw[zE];exact hlt) hb12;rw[zF9 (HG.out j).symm]at hw12;have hO:=(hO.trans (yQ.of [bv,bw] hbw11)).trans (yQ.put_at hW12 sI hx12);have bx:=(bx.below hbw11).put_at hW12 oM;have hv:=(hv.below hbw11).put_at hW12 hne hx12;have i0:=(i0.ext (lx hbw11)).ext hx12;have i1:=(i1.ext (lx hbw11)).ext hx12;have i2:=(i2.ext (lx hbw11)).ext hx12;have i3:=(i3.ext (lx hbw11)).ext hx12;clear z1 z2 z3 z4 hW12;go_wp2;go_roundw
   case rel=>exact⟨j+1,by omega,by simp,hO,bx,⟨⟨s0,a0,l0,c0,s1,a1,l1,c1,s2,a2,l2,c2,s3,a3,l3,c3,rfl,i0,i1,i2,i3⟩⟩,hw12,hv⟩
   case measure=>simp[intOf];omega
  ·obtain rfl:j=n:=by omega
   have hq1:zQ j (qI F f j)=zQ j F:=qA fun t ht=>by unfold qI;rw[if_pos ht]
   have hq2:zQ j (qI G g j)=zQ j G:=qA fun t ht=>by unfold qI;rw[if_pos ht]
   rw[hq1]at hv;rw[hq2]at hw;go_wp2;exact bodyPost_end (results_none rfl _ _ _) rfl ⟨⟨_,rfl⟩,hO,hv,hw⟩
structure zDv(Z:Nat->Prop)(w:World)(As At Ai:Value)(n Cs Ct:Nat)(x:Bst):Prop where
 ex:∃bss bst bsi,zDu w As At Ai n Cs Ct bss bst bsi x.s x.t x.i/\(∀b,b∈bss∨b∈bst∨b∈bsi->Z b)
 own:∀g,As.ownBlock=some g∨At.ownBlock=some g∨Ai.ownBlock=some g->Z g
theorem zDv.below{Z:Nat->Prop}{w w':World}{As At Ai:Value}{n Cs Ct:Nat}{x:Bst}(h:zDv Z w As At Ai n Cs Ct x)(hb:Below w.heap.size w w'):zDv Z w' As At Ai n Cs Ct x:=by
 obtain⟨⟨bss,bst,bsi,⟨h1,h2,h3,h4,h5,h6,h7,h8,h9⟩,hz⟩,ho⟩:=h;exact⟨⟨bss,bst,bsi,⟨h1.below hb,h2.below hb,h3.below hb,h4,h5,h6,h7,h8,h9⟩,hz⟩,ho⟩
structure BSm(B:Nat):Prop where
 sm:∀z:Int,z.natAbs<B->Sm z
theorem zDv.shape{Z:Nat->Prop}{w:World}{As At Ai:Value}{n Cs Ct:Nat}{x:Bst}(h:zDv Z w As At Ai n Cs Ct x):∃so sc uo tc io ic,As= .slice so n sc/\At= .slice uo n tc/\Ai= .slice io n ic/\n<=sc/\sc<=9223372036854775807/\(0<n->∃g,so=some ⟨g,0,none⟩):=by
 obtain⟨⟨bss,bst,bsi,hv,hz⟩,ho⟩:=h;obtain⟨so,sn,sc,e1,s1,s2,s3,-⟩:=id (zJ.rows hv.s);obtain⟨uo,tn,tc,e2,t1,t2,t3,-⟩:=id (zJ.rows hv.t);obtain⟨io,in_,ic,e3,i1,i2,i3,-⟩:=id (zJ.rows hv.i);obtain rfl:n=sn:=by rw[<-s1];simp[genM]
 obtain rfl:n=tn:=by rw[<-t1];simp[genM]
 obtain rfl:n=in_:=by rw[<-i1];simp[genM]
 refine⟨so,sc,uo,tc,io,ic,e1,e2,e3,s2,s3,fun hn=>?_⟩;have hs:=hv.s;rw[e1]at hs;obtain⟨g,b,e,-⟩:=zJ.at_ hs (i:=0) (by rw[hs.len];exact hn);exact⟨g,e⟩
theorem zDv.row{Z:Nat->Prop}{w:World}{At Ai:Value}{g n sc Cs Ct:Nat}{x:Bst}(h:zDv Z w (.slice (some ⟨g,0,none⟩) n sc) At Ai n Cs Ct x){i:Nat}(hi:i<n):
  ∃b,w.cell? ⟨g,i,none⟩=some (.slice (some ⟨b,0,none⟩) Cs Cs)/\qF w b (zQ Cs (x.s i)):=by
 obtain⟨⟨bss,bst,bsi,hv,hz⟩,ho⟩:=h;obtain⟨g',b,e,hg,hb,hb2,o1,-⟩:=zJ.at_ hv.s (i:=i) (by rw[hv.s.len];exact hi);injection e with e
 injection e with e
 subst e;exact⟨b,o1,hv.s.rowAt hi hb⟩
theorem zDv.glt{Z:Nat->Prop}{w:World}{At Ai:Value}{g n sc Cs Ct:Nat}{x:Bst}(h:zDv Z w (.slice (some ⟨g,0,none⟩) n sc) At Ai n Cs Ct x){i:Nat}(hi:i<n):g<w.heap.size:=by
 obtain⟨⟨bss,bst,bsi,hv,hz⟩,ho⟩:=h;obtain⟨g',b,e,hg,-⟩:=zJ.at_ hv.s (i:=i) (by rw[hv.s.len];exact hi);injection e with e
 injection e with e
 subst e;exact hg
theorem zHb(k:Nat)(zs:List Int):(zAN k zs=-1/\∀z∈zs,z=0)∨∃j,zAN k zs=((k+j:Nat):Int)/\j<zs.length/\zs.getD j 0≠0/\∀t,t<j->zs.getD t 0=0:=by
 induction zs generalizing k with
 |nil=>exact .inl ⟨rfl,fun z hz=>by cases hz⟩
 | cons z zs ih=>
  unfold zAN;by_cases hz:z=0
  ·rw[if_neg (by simp[hz])]
   rcases ih (k+1)with⟨h1,h2⟩|⟨j,h1,h2,h3,h4⟩
   ·refine .inl ⟨h1,fun y hy=>?_⟩
    rcases List.mem_cons.1 hy with rfl|hy
    ·exact hz
    ·exact h2 y hy
   ·refine .inr ⟨j+1,by rw[h1];congr 1;omega,by simp;omega,by simpa using h3,fun t ht=>?_⟩
    cases t with
    |zero=>simpa using hz
    |succ t=>simpa using h4 t oM
  ·rw[if_pos hz]
   exact .inr ⟨0,by simp,by simp,by simpa using hz,fun t ht=>by omega⟩
theorem zGg{n:Nat}{f:Nat->Int}{j:Nat}(h:j<n):(zQ n f).getD j 0=f j:=by rw[xgb,zW h];rfl
theorem zAO(C:Nat)(F:Nat->Nat->Int)(i:Nat):(lead C F i=-1/\∀t,t<C->F i t=0)∨∃j:Nat,lead C F i=(j:Int)/\j<C/\F i j≠0/\∀t,t<j->F i t=0:=by
 unfold lead;rcases zHb 0 (zQ C (F i))with⟨h1,h2⟩|⟨j,h1,h2,h3,h4⟩
 ·exact .inl ⟨h1,fun t ht=>h2 _ (xgd (zW ht))⟩
 ·rw[zE]at h2
  rw[zGg h2]at h3;refine .inr ⟨j,by rw[h1];simp,h2,h3,fun t ht=>?_⟩;have:=h4 t ht;rwa[zGg oM]at this
theorem zIR{C:Nat}{F:Nat->Nat->Int}{i:Nat}(h:¬ lead C F i<0):∃c:Nat,lead C F i=(c:Int)/\c<C/\F i c≠0/\∀t,t<c->F i t=0:=by
 rcases zAO C F i with⟨h1,-⟩|h1
 ·omega
 ·exact h1
noncomputable def leastOf (P:Nat->Prop):Nat:=open Classical in if h:∃f,P f/\∀g,P g->f<=g then h.choose else 0
theorem zMC{P:Nat->Prop}:∀f,P f->∃f,P f/\∀g,P g->f<=g:=by
 intro f;induction f using Nat.strongRecOn with
 | _ f ih=>
  intro hf;by_cases h:∃g,g<f/\P g
  ·obtain⟨g,h1,h2⟩:=h
   exact ih g h1 h2
  ·refine⟨f,hf,fun g hg=>?_⟩
   rcases Nat.lt_or_ge g f with h3|h3
   ·exact absurd ⟨g,h3,hg⟩ h
   ·exact h3
theorem zDm{P:Nat->Prop}{f:Nat}(h:P f):P (leastOf P)/\∀g,P g->leastOf P<=g:=by
 have hx:∃f,P f/\∀g,P g->f<=g:=zMC f h;unfold leastOf;rw[dif_pos hx];exact hx.choose_spec
theorem zFQ{P:Nat->Prop}{f n:Nat}(h:P f)(hf:f<n):leastOf P<n:=Nat.lt_of_le_of_lt ((zDm h).2 f h) hf
end Go.Proofs.YtgnmdddaiefooaaGreat
