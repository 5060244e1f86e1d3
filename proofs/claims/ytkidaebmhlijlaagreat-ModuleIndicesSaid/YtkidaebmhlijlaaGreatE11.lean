/- Joined. -/
import Derived.ScopeJumps
import Derived.WalkMore
import Derived.Test.YtkidaebmhlijlaaGreatE09
set_option linter.unusedVariables false
set_option linter.unusedSimpArgs false
set_option linter.unusedSectionVars false
set_option maxHeartbeats 16000000
set_option maxRecDepth 100000
variable{cs:Array Go.Value}{c z:Int}{M:List (List Int)}{bs:List Nat}{B C Cs Ct R b base g i j k l m n rank sc:Nat}{L f:Nat->Int}{F:Nat->Nat->Int}{P Z:Nat->Prop}{t:Go.TypeId}{A Ai As At u v:Go.Value}{W w w':Go.World}
namespace Go.Proofs.YtkidaebmhlijlaaGreat
open Go.RowKit
def zH7(F:Nat->Nat->Int)(i j:Nat):Nat->Nat->Int:=fun a b=>F (swp i j a) b
def zCq(F:Nat->Nat->Int)(i:Nat):Nat->Nat->Int:=fun a b=>if a=i then-(F a b)else F a b
def trF(F:Nat->Nat->Int):Nat->Nat->Int:=fun a b=>F b a
def jQ(F:Nat->Nat->Int)(i j:Nat)(m0 m1 m2 m3:Int):Nat->Nat->Int:=fun a b=>if a=i then m0*F i b+m1*F j b else if a=j then m2*F i b+m3*F j b else F a b
structure Bst where
 s:Nat->Nat->Int
 t:Nat->Nat->Int
 i:Nat->Nat->Int
def Bst.add(x:Bst)(i j:Nat)(k:Int):Bst:=⟨zB4 x.s i j k,zB4 x.t i j k,zB4 x.i j i (-k)⟩
def Bst.swap(x:Bst)(i j:Nat):Bst:=⟨zH7 x.s i j,zH7 x.t i j,zH7 x.i i j⟩
def Bst.neg(x:Bst)(i:Nat):Bst:=⟨zCq x.s i,zCq x.t i,zCq x.i i⟩
def okF(B R C:Nat)(F:Nat->Nat->Int):Prop:=∀a,a<R->∀b,b<C->(F a b).natAbs<B
instance (B R C:Nat) (F:Nat->Nat->Int):Decidable (okF B R C F):=by unfold okF;infer_instance
def okB(B n Cs Ct:Nat)(x:Bst):Prop:=okF B n Cs x.s/\okF B n Ct x.t/\okF B n Ct x.i
instance (B n Cs Ct:Nat) (x:Bst):Decidable (okB B n Cs Ct x):=by unfold okB;infer_instance
def zEn(B n Cs Ct:Nat)(x:Bst)(i j:Nat)(k:Int):Prop:=
 k.natAbs<B/\(∀t,t<Cs->(k*x.s j t).natAbs<B)/\(∀t,t<Ct->(k*x.t j t).natAbs<B/\(k*x.i i t).natAbs<B)/\okB B n Cs Ct (x.add i j k)
instance (B n Cs Ct:Nat) (x:Bst) (i j:Nat) (k:Int):Decidable (zEn B n Cs Ct x i j k):=by unfold zEn;infer_instance
def lead(C:Nat)(F:Nat->Nat->Int)(i:Nat):Int:=zCL 0 (yV C (F i))
def adv(L:Nat->Int)(c:Int):Nat->Nat->Nat
 |0,k=>k
 |m+1,k=>if L k<c then adv L c m (k+1)else k
def zY7(k:Nat):Nat->Bst->Bst
 |0,x=>x
 |m+1,x=>zY7 k m (x.swap (k+m+1) (k+m))
def zB7(B n Cs Ct m rank:Nat):Nat->Nat->Bst->Option (Bst × Bool)
 |0,_,_=>none
 | f +1,k,x=>
  if lead Cs x.s m<0 then some (x,false)
  else if adv (lead Cs x.s) (lead Cs x.s m) (rank-k) k<rank/\lead Cs x.s (adv (lead Cs x.s) (lead Cs x.s m) (rank-k) k)=lead Cs x.s m then
   if zEn B n Cs Ct x m (adv (lead Cs x.s) (lead Cs x.s m) (rank-k) k) (-(x.s m (lead Cs x.s m).toNat/x.s (adv (lead Cs x.s) (lead Cs x.s m) (rank-k) k) (lead Cs x.s m).toNat))then
    zB7 B n Cs Ct m rank f (adv (lead Cs x.s) (lead Cs x.s m) (rank-k) k)
     (if x.s m (lead Cs x.s m).toNat%x.s (adv (lead Cs x.s) (lead Cs x.s m) (rank-k) k) (lead Cs x.s m).toNat=0 then x.add m (adv (lead Cs x.s) (lead Cs x.s m) (rank-k) k) (-(x.s m (lead Cs x.s m).toNat/x.s (adv (lead Cs x.s) (lead Cs x.s m) (rank-k) k) (lead Cs x.s m).toNat))
      else(x.add m (adv (lead Cs x.s) (lead Cs x.s m) (rank-k) k) (-(x.s m (lead Cs x.s m).toNat/x.s (adv (lead Cs x.s) (lead Cs x.s m) (rank-k) k) (lead Cs x.s m).toNat))).swap m (adv (lead Cs x.s) (lead Cs x.s m) (rank-k) k))
   else none
  else some (zY7 (adv (lead Cs x.s) (lead Cs x.s m) (rank-k) k) (rank-adv (lead Cs x.s) (lead Cs x.s m) (rank-k) k) ((if x.s m (lead Cs x.s m).toNat<0 then x.neg m else x).swap m rank),true)
def zWW(B n Cs Ct:Nat)(cols:Nat->Int)(i:Nat):Nat->Nat->Bst->Option Bst
 |0,_,x=>some x
 |m+1,j,x=>
  if cols j<0 then none
  else if x.s i (cols j).toNat=0 then zWW B n Cs Ct cols i m (j+1) x
  else if x.s j (cols j).toNat=0 then none
  else if x.s i (cols j).toNat/x.s j (cols j).toNat=0 then zWW B n Cs Ct cols i m (j+1) x
  else if zEn B n Cs Ct x i j (-(x.s i (cols j).toNat/x.s j (cols j).toNat))then zWW B n Cs Ct cols i m (j+1) (x.add i j (-(x.s i (cols j).toNat/x.s j (cols j).toNat)))
  else none
def zY6(B n Cs Ct:Nat)(cols:Nat->Int)(rank:Nat):Nat->Bst->Option Bst
 |0,x=>some x
 |i+1,x=>(zWW B n Cs Ct cols i (rank-(i+1)) (i+1) x).bind (zY6 B n Cs Ct cols rank i)
def zKS(B n Cs Ct rank:Nat)(x:Bst):Option Bst:=zY6 B n Cs Ct (lead Cs x.s) rank rank x
def zRC(B n Cs Ct f:Nat):Nat->Nat->Nat->Bst->Option Bst
 |0,_,_,x=>some x
 |l+1,m,rank,x=>
  (zB7 B n Cs Ct m rank f 0 x).bind fun r=>(zKS B n Cs Ct (if r.2 then rank+1 else rank) r.1).bind fun y=>zRC B n Cs Ct f l (m+1) (if r.2 then rank+1 else rank) y
def qAM(B n Cs Ct f:Nat)(x:Bst):Option Bst:=zRC B n Cs Ct f n 0 0 x
structure W5 where
 s:Nat->Nat->Int
 u:Nat->Nat->Int
 v:Nat->Nat->Int
 w:Nat->Nat->Int
 x:Nat->Nat->Int
def zQb(B R C Cu Cw f:Nat)(z:W5):Option W5:=
 (qAM B R C Cu f ⟨z.s,z.u,z.v⟩).bind fun a=>(qAM B C R Cw f ⟨trF a.s,z.w,z.x⟩).bind fun b=>some ⟨trF b.s,a.t,a.i,b.t,b.i⟩
def zGi(R C:Nat)(F:Nat->Nat->Int):Prop:=∀a,a<R->∀b,b<C->a≠b->F a b=0
instance (R C:Nat) (F:Nat->Nat->Int):Decidable (zGi R C F):=by unfold zGi;infer_instance
def zIV(B R C Cu Cw f:Nat):Nat->W5->Option W5
 |0,_=>none
 |r+1,z=>(zQb B R C Cu Cw f z).bind fun y=>if zGi R C y.s then some y else zIV B R C Cu Cw f r y
def zI2(F:Nat->Nat->Int)(i j:Nat):Nat->Nat->Int:=fun a b=>if a=j/\b=j then F i i*(F j j/((Int.gcd (F i i) (F j j):Nat):Int))else if a=i/\b=i then((Int.gcd (F i i) (F j j):Nat):Int)else F a b
def qAL(z:W5)(i j:Nat)(s t:Int):W5:=
 ⟨zI2 z.s i j,jQ z.u i j s t (-(z.s j j/((Int.gcd (z.s i i) (z.s j j):Nat):Int))) (z.s i i/((Int.gcd (z.s i i) (z.s j j):Nat):Int)),
  jQ z.v i j (z.s i i/((Int.gcd (z.s i i) (z.s j j):Nat):Int)) (z.s j j/((Int.gcd (z.s i i) (z.s j j):Nat):Int)) (-t) s,
  jQ z.w i j 1 1 (-(t*(z.s j j/((Int.gcd (z.s i i) (z.s j j):Nat):Int)))) (1-t*(z.s j j/((Int.gcd (z.s i i) (z.s j j):Nat):Int))),
  jQ z.x i j (1-t*(z.s j j/((Int.gcd (z.s i i) (z.s j j):Nat):Int))) (t*(z.s j j/((Int.gcd (z.s i i) (z.s j j):Nat):Int))) (-1) 1⟩
def Bez(x y s t:Int):Prop:=s*x+t*y=((Int.gcd x y:Nat):Int)/\s.natAbs<=max 1 y.natAbs/\t.natAbs<=max 1 x.natAbs
inductive zOR (n:Nat):W5->W5->Prop
 |refl (z:W5):zOR n z z
 |step (z y:W5) (i j:Nat) (s t:Int):zOR n z y->i<j->j<n->¬ y.s i i∣y.s j j->Bez (y.s i i) (y.s j j) s t->zOR n z (qAL y i j s t)
def divJ(i:Nat):Nat->Nat->(Nat->Nat->Int)->(Nat->Nat->Int)
 |0,_,F=>F
 |m+1,j,F=>divJ i m (j+1) (if F i i∣F j j then F else zI2 F i j)
def divI:Nat->Nat->(Nat->Nat->Int)->(Nat->Nat->Int)
 |0,_,F=>F
 |m+1,i,F=>divI m (i+1) (divJ i m (i+1) F)
example:(zIV 1000000 2 1 2 1 20 5 ⟨fun a _=>if a=0 then 4 else 6,fun a b=>if a=b then 1 else 0,fun a b=>if a=b then 1 else 0,fun _ _=>1,fun _ _=>1⟩).map (fun z=>(z.s 0 0,z.s 1 0,z.u 0 0,z.u 0 1,z.u 1 0,z.u 1 1))=some (2,0,-1,1,3,-2):=by decide
structure qK(Z:Nat->Prop)(w w':World):Prop where
 bel:Below 0 w w'
 lext:zBq w w'
 old:∀k,k<w.heap.size->¬ Z k->w'.heap[k]?=w.heap[k]?
theorem qK.refl(Z:Nat->Prop)(w:World):qK Z w w:=⟨zC _ _,zBq.refl _,fun _ _ _=>rfl⟩
theorem qK.of(Z:Nat->Prop)(h:BWq w w'):qK Z w w':=⟨h.mono (zH _),lx h,fun k a _=>h.block k a⟩
theorem qK.trans{a b c:World}(h:qK Z a b)(k:qK Z b c):qK Z a c:=
 ⟨h.bel.trans k.bel,h.lext.trans k.lext,fun i d e=>(k.old i (zM d h.bel.size) e).trans (h.old i d e)⟩
theorem qK.mono{Z':Nat->Prop}(h:qK Z w w')(d:∀k,k<w.heap.size->Z k->Z' k):qK Z' w w':=⟨h.bel,h.lext,fun k a c=>h.old k a (fun b=>c (d k a b))⟩
theorem qK.blk{T:TypeId}(h:qK Z w w')(a:Blk w b T cs)(c:¬ Z b):Blk w' b T cs:=(h.old b a.lt c).trans a
theorem qH.gone(h:qH w base A C bs M){i:Array Value}(s:Blk w g tR i)(v:zBq w w')(m:∀k,k<w.heap.size->k≠g->w'.heap[k]?=w.heap[k]?)(l:A.ownBlock≠some g):
  qH w' base A C bs M:=by
 refine⟨⟨h.own.1,?_⟩,h.len,fun k b r f q=>by
  obtain⟨c,e,a⟩:=h.row k b r f q;refine⟨c,e,a.old (m b a.lt ?_) v⟩;rintro rfl;obtain⟨cs,d,-⟩:=a;have t:w.heap[b]?=some (.cells i tR (0,0)):=s;rw[t]at d;injection d with d
  injection d with _ u
  exact absurd u dE,h.nodup,h.cb⟩
 rcases h.own.2 with f|⟨j,n,o,c,e,a,p⟩
 exact .inl f;refine .inr ⟨j,n,o,c,e,?_,p⟩;refine(m j (Array.getElem?_eq_some_iff.1 a).1 ?_).trans a;rintro rfl;rw[c]at l;exact l rfl
theorem qH.gblk{c:Nat}(h:qH w base (slq g n c) C bs M):∃b,Blk w g tR b/\n<=b.size:=by
 rcases h.own.2 with⟨e,r⟩|⟨q,i,b,e,k,d,l,m,o,p⟩
 cases e;injection e with a f j
 injection a with a
 injection a with a
 subst a;subst f;exact⟨b,d,oM⟩
theorem zNP(Y Z X:Value)(n Cs Ct i j:Nat)(a4 a5 a3:List Nat)(a2 T a1:Nat->Nat->Int)(w:World)(h:zFx w Y Z X n Cs Ct a4 a5 a3 a2 T a1)(C:i<n)(F:j<n)(hn:n<=1000000):
  CPq 201 #[.agg #[Y,Z,X],.int .i64 i,.int .i64 j] w fun e w'=>(∃u,e= .returned u)/\qK (fun b=>Y.ownBlock=some b∨Z.ownBlock=some b∨X.ownBlock=some b) w w'∧
   zFx w' Y Z X n Cs Ct (zKu a4 i j) (zKu a5 i j) (zKu a3 i j) (zH7 a2 i j) (zH7 T i j) (zH7 a1 i j):=by
 obtain⟨so,sn,sc,rfl,V,s2,s3,-⟩:=id (qH.rows h.s);obtain⟨uo,tn,tc,rfl,t1,t2,t3,-⟩:=id (qH.rows h.t);obtain⟨io,c8,ic,rfl,i1,i2,i3,-⟩:=id (qH.rows h.i);have H0:=xgv h;obtain⟨q,r,p,-,-,-,a8,a7,a9⟩:=h;have e1:n=sn:=by rw[<-V];simp[genM]
 have e2:n=tn:=by rw[<-t1];simp[genM]
 have e3:n=c8:=by rw[<-i1];simp[genM]
 subst e1;subst e2;subst e3;clear V t1 i1;obtain⟨d,rfl,-⟩:∃g,so=some ⟨g,0,none⟩/\True:=by
  obtain⟨g,b,e,-⟩:=qH.at_ q (i:=i) (by rw[q.len];exact C);exact⟨g,e,trivial⟩
 obtain⟨o,rfl,-⟩:∃g,uo=some ⟨g,0,none⟩/\True:=by
  obtain⟨g,b,e,-⟩:=qH.at_ r (i:=i) (by rw[r.len];exact C);exact⟨g,e,trivial⟩
 obtain⟨s,rfl,-⟩:∃g,io=some ⟨g,0,none⟩/\True:=by
  obtain⟨g,b,e,-⟩:=qH.at_ p (i:=i) (by rw[p.len];exact C);exact⟨g,e,trivial⟩
 have b9:o≠d:=fun c=>a8 d rfl (by rw[<-c];rfl)
 have b8:s≠d:=fun c=>a7 d rfl (by rw[<-c];rfl)
 have c0:s≠o:=fun c=>a9 o rfl (by rw[<-c];rfl)
 clear a8 a7 a9;go_enter Tryz.func201,Tryz.ntmps201;go_upto_region 1 with(fail)
 refine zF ?_;intro W0 b0;obtain⟨E,bx,c9⟩:=qJ b0;have c1:=bx.three;have q:=q.I E;have r:=r.I E;have p:=p.I E;clear b0;go_wp2;clear c1;go_loopw [15] (fun mv wr=>∃m:Nat,m<=3/\mv= .int .i64 m/\Below 0 w wr/\zBq w wr/\(∀b,b<w.heap.size->b≠d->b≠o->b≠s->wr.heap[b]?=w.heap[b]?)∧
  Wri wr (.slice (some ⟨d,0,none⟩) n sc) n Cs (if m=0 then a4 else zKu a4 i j) (if m=0 then a2 else zH7 a2 i j)/\Wri wr (.slice (some ⟨o,0,none⟩) n tc) n Ct (if m<=1 then a5 else zKu a5 i j) (if m<=1 then T else zH7 T i j)/\Wri wr (.slice (some ⟨s,0,none⟩) n ic) n Ct (if m<=2 then a3 else zKu a3 i j) (if m<=2 then a1 else zH7 a1 i j)) (fun mv _=>3-(intOf mv).toNat)
 case atStart=>exact⟨0,oM,rfl,E.mono (zH _),lx E,fun b B _ _ _=>E.block b B,q,r,p⟩
 obtain⟨m,hm,rfl,Q,a6,b7,q,r,p⟩:=hrel;have d0:=Q.size;have a0:=xgv b7;clear b7;by_cases c5:m=0
 .subst c5
  rw[zB rfl,zB rfl]at q;rw[zB oM,zB oM]at r p;obtain⟨M,D,v,hg,R,b2,o1,-⟩:=qH.at_ q (i:=i) (by rw[q.len];exact C);obtain rfl:d=M:=by injection v with v;injection v
  obtain⟨N,t,x,b5,S,b3,o2,-⟩:=qH.at_ q (i:=j) (by rw[q.len];exact F);obtain rfl:d=N:=by injection x with x;injection x
  clear v x;obtain⟨L,a,b4⟩:=qH.gblk q;have f1:=a.frozen i;have f2:=a.frozen j;have b6:=fun W=>zCg 210 3 #[.slice (some ⟨d,0,none⟩) n sc,.slice (some ⟨o,0,none⟩) n tc,.slice (some ⟨s,0,none⟩) n ic] 0 0 _ W zBK rfl oM rfl
  have s2:(wr.setCell ⟨d,i,none⟩ (.slice (some ⟨t,0,none⟩) Cs Cs)).frozen? ⟨d,j,none⟩=false:=(a.set_ i _).frozen j;obtain⟨u,V⟩:∃u,(wr.setCell ⟨d,i,none⟩ (.slice (some ⟨t,0,none⟩) Cs Cs)).cell? ⟨d,j,none⟩=some u:=by
   rw[(a.set_ i _).cell j];exact⟨_,Array.getElem?_eq_getElem (by simpa using(by omega:j<L.size))⟩
  have A:=q.swap C F R S;have l:=A.2.trans (lx (dr _));have f:∀k,k<wr.heap.size->k≠d->(((wr.setCell ⟨d,i,none⟩ (.slice (some ⟨t,0,none⟩) Cs Cs)).setCell ⟨d,j,none⟩ (.slice (some ⟨D,0,none⟩) Cs Cs)).drew).heap[k]?=wr.heap[k]?:=fun k _ U=>yL _ _ _ _ _ _ _ U
  have y:Below 0 wr (((wr.setCell ⟨d,i,none⟩ (.slice (some ⟨t,0,none⟩) Cs Cs)).setCell ⟨d,j,none⟩ (.slice (some ⟨D,0,none⟩) Cs Cs)).drew):=(yB (yB (zC _ _) (zH _) _ _) (zH _) _ _).drew;have z:=A.1.I (dr _);have K:=xgv (And.intro l (And.intro f (And.intro y z)));have J:=xgv a;clear l f y z A a;go_upto_region 4 with(fail)
  go_region;go_wp2;go_roundw
  case measure=>simp[intOf]
  obtain⟨l,f,y,z⟩:=K.out;have a:=J.out;refine⟨1,oM,by simp,Q.trans y,a6.trans l,fun b B G H I=>(f b oM G).trans (a0.out b B G H I),?_,?_,?_⟩;rw[zA oM,zA oM];exact z;rw[zB oM,zB oM];exact qH.gone r a l f (fun c=>b9 (by injection c));rw[zB oM,zB oM];exact qH.gone p a l f (fun c=>b8 (by injection c))
 by_cases c6:m=1
 .subst c6
  rw[zA oM,zA oM]at q;rw[zB oM,zB oM]at r p;obtain⟨M,D,v,hg,R,b2,o1,-⟩:=qH.at_ r (i:=i) (by rw[r.len];exact C);obtain rfl:o=M:=by injection v with v;injection v
  obtain⟨N,t,x,b5,S,b3,o2,-⟩:=qH.at_ r (i:=j) (by rw[r.len];exact F);obtain rfl:o=N:=by injection x with x;injection x
  clear v x;obtain⟨L,a,b4⟩:=qH.gblk r;have f1:=a.frozen i;have f2:=a.frozen j;have b6:=fun W=>zCg 210 3 #[.slice (some ⟨d,0,none⟩) n sc,.slice (some ⟨o,0,none⟩) n tc,.slice (some ⟨s,0,none⟩) n ic] 1 1 _ W zBK rfl oM rfl
  have s2:(wr.setCell ⟨o,i,none⟩ (.slice (some ⟨t,0,none⟩) Ct Ct)).frozen? ⟨o,j,none⟩=false:=(a.set_ i _).frozen j;obtain⟨u,V⟩:∃u,(wr.setCell ⟨o,i,none⟩ (.slice (some ⟨t,0,none⟩) Ct Ct)).cell? ⟨o,j,none⟩=some u:=by
   rw[(a.set_ i _).cell j];exact⟨_,Array.getElem?_eq_getElem (by simpa using(by omega:j<L.size))⟩
  have A:=r.swap C F R S;have l:=A.2.trans (lx (dr _));have f:∀k,k<wr.heap.size->k≠o->(((wr.setCell ⟨o,i,none⟩ (.slice (some ⟨t,0,none⟩) Ct Ct)).setCell ⟨o,j,none⟩ (.slice (some ⟨D,0,none⟩) Ct Ct)).drew).heap[k]?=wr.heap[k]?:=fun k _ U=>yL _ _ _ _ _ _ _ U
  have y:Below 0 wr (((wr.setCell ⟨o,i,none⟩ (.slice (some ⟨t,0,none⟩) Ct Ct)).setCell ⟨o,j,none⟩ (.slice (some ⟨D,0,none⟩) Ct Ct)).drew):=(yB (yB (zC _ _) (zH _) _ _) (zH _) _ _).drew;have z:=A.1.I (dr _);have K:=xgv (And.intro l (And.intro f (And.intro y z)));have J:=xgv a;clear l f y z A a;go_upto_region 4 with(fail)
  go_region;go_wp2;go_roundw
  case measure=>simp[intOf]
  obtain⟨l,f,y,z⟩:=K.out;have a:=J.out;refine⟨2,oM,by simp,Q.trans y,a6.trans l,fun b B G H I=>(f b oM H).trans (a0.out b B G H I),?_,?_,?_⟩;rw[zA oM,zA oM];exact qH.gone q a l f (fun c=>b9 (by injection c with c;exact c.symm));rw[zA oM,zA oM];exact z;rw[zB oM,zB oM];exact qH.gone p a l f (fun c=>c0 (by injection c))
 by_cases c7:m=2
 .subst c7
  rw[zA oM,zA oM]at q r;rw[zB oM,zB oM]at p;obtain⟨M,D,v,hg,R,b2,o1,-⟩:=qH.at_ p (i:=i) (by rw[p.len];exact C);obtain rfl:s=M:=by injection v with v;injection v
  obtain⟨N,t,x,b5,S,b3,o2,-⟩:=qH.at_ p (i:=j) (by rw[p.len];exact F);obtain rfl:s=N:=by injection x with x;injection x
  clear v x;obtain⟨L,a,b4⟩:=qH.gblk p;have f1:=a.frozen i;have f2:=a.frozen j;have b6:=fun W=>zCg 210 3 #[.slice (some ⟨d,0,none⟩) n sc,.slice (some ⟨o,0,none⟩) n tc,.slice (some ⟨s,0,none⟩) n ic] 2 2 _ W zBK rfl oM rfl
  have s2:(wr.setCell ⟨s,i,none⟩ (.slice (some ⟨t,0,none⟩) Ct Ct)).frozen? ⟨s,j,none⟩=false:=(a.set_ i _).frozen j;obtain⟨u,V⟩:∃u,(wr.setCell ⟨s,i,none⟩ (.slice (some ⟨t,0,none⟩) Ct Ct)).cell? ⟨s,j,none⟩=some u:=by
   rw[(a.set_ i _).cell j];exact⟨_,Array.getElem?_eq_getElem (by simpa using(by omega:j<L.size))⟩
  have A:=p.swap C F R S;have l:=A.2.trans (lx (dr _));have f:∀k,k<wr.heap.size->k≠s->(((wr.setCell ⟨s,i,none⟩ (.slice (some ⟨t,0,none⟩) Ct Ct)).setCell ⟨s,j,none⟩ (.slice (some ⟨D,0,none⟩) Ct Ct)).drew).heap[k]?=wr.heap[k]?:=fun k _ U=>yL _ _ _ _ _ _ _ U
  have y:Below 0 wr (((wr.setCell ⟨s,i,none⟩ (.slice (some ⟨t,0,none⟩) Ct Ct)).setCell ⟨s,j,none⟩ (.slice (some ⟨D,0,none⟩) Ct Ct)).drew):=(yB (yB (zC _ _) (zH _) _ _) (zH _) _ _).drew;have z:=A.1.I (dr _);have K:=xgv (And.intro l (And.intro f (And.intro y z)));have J:=xgv a;clear l f y z A a;go_upto_region 4 with(fail)
  go_region;go_wp2;go_roundw
  case measure=>simp[intOf]
  obtain⟨l,f,y,z⟩:=K.out;have a:=J.out;refine⟨3,oM,by simp,Q.trans y,a6.trans l,fun b B G H I=>(f b oM I).trans (a0.out b B G H I),?_,?_,?_⟩;rw[zA oM,zA oM];exact qH.gone q a l f (fun c=>b8 (by injection c with c;exact c.symm));rw[zA oM,zA oM];exact qH.gone r a l f (fun c=>c0 (by injection c with c;exact c.symm));rw[zA oM,zA oM];exact z
 obtain rfl:m=3:=oM;rw[zA oM,zA oM]at q r p;go_wp2;obtain⟨c3,c4,c2,f1,f2,f3,f4,f5,f6⟩:=H0.out;have l1:=c3.len;have l2:=c4.len;have l3:=c2.len;refine bodyPost_end (results_none rfl _ _ _) rfl ⟨⟨_,rfl⟩,⟨Q,a6,fun b B hn=>a0.out b B (fun c=>hn (.inl (by rw[c];rfl))) (fun c=>hn (.inr (.inl (by rw[c];rfl)))) (fun c=>hn (.inr (.inr (by rw[c];rfl))))⟩,q,r,p,?_,?_,?_,f4,f5,f6⟩;exact fun b O P=>f1 b (zEH oM oM O) (zEH oM oM P)
 exact fun b O P=>f2 b (zEH oM oM O) (zEH oM oM P)
 exact fun b O P=>f3 b (zEH oM oM O) (zEH oM oM P)
theorem zSB(f:i<R):(genM R C F).set i (yV C (fun t=>-F i t))=genM R C (zCq F i):=by
 apply qX;simp[genM];intro a c d;by_cases e:a=i
 .subst e
  rw[zBG];simp[genM,yV,zCq]
 have b:i≠a:=fun h=>e h.symm
 rw[zBb b];simp[genM,zCq,e]
theorem Wri.negRow(h:Wri w A R C bs F)(c:i<R)(a:bs[i]?=some b)(d:zB0 [b] w w')(e:jY w' b (yV C (fun t=>-F i t))):Wri w' A R C bs (zCq F i):=by
 unfold Wri;rw[<-zSB c];exact qH.setRow h a d e (qN _ _)
theorem Wri.rowAt(h:Wri w A R C bs F)(f:i<R)(e:bs[i]?=some b):jY w b (yV C (F i)):=by
 obtain⟨a,c,d⟩:=qH.rowAt h f;obtain rfl:a=b:=qD (c.symm.trans e);exact d
theorem zRo(As At Ai:Value)(n Cs Ct i:Nat)(a3 a4 a2:List Nat)(y z x:Nat->Nat->Int)(w:World)(h:zFx w As At Ai n Cs Ct a3 a4 a2 y z x)(f:i<n)(hn:n<=1000000)(d5:Cs<=1000000)(d6:Ct<=1000000)
  (hS:∀a,a<n->∀b,b<Cs->Sm (y a b)) (hT:∀a,a<n->∀b,b<Ct->Sm (z a b)) (hI:∀a,a<n->∀b,b<Ct->Sm (x a b)):
  CPq 202 #[.agg #[As,At,Ai],niq i] w fun e w'=>(∃u,e= .returned u)/\qK (fun b=>b∈a3∨b∈a4∨b∈a2) w w'∧
   zFx w' As At Ai n Cs Ct a3 a4 a2 (zCq y i) (zCq z i) (zCq x i):=by
 obtain⟨so,sn,sc,rfl,s1,s2,s3,-⟩:=id (qH.rows h.s);obtain⟨uo,tn,tc,rfl,t1,t2,t3,-⟩:=id (qH.rows h.t);obtain⟨io,d0,ic,rfl,i1,i2,i3,-⟩:=id (qH.rows h.i);have H0:=xgv h;have HS:=xgv hS;have HT:=xgv hT;have HI:=xgv hI;clear hS hT hI;obtain⟨r,d,q,b4,b3,b5,-,-,-⟩:=h;have e1:n=sn:=by rw[<-s1];simp[genM]
 have e2:n=tn:=by rw[<-t1];simp[genM]
 have e3:n=d0:=by rw[<-i1];simp[genM]
 subst e1;subst e2;subst e3;clear s1 t1 i1;go_enter Tryz.func202,Tryz.ntmps202;go_upto_region 1 with(fail)
 refine zF ?_;intro W0 b7;obtain⟨a0,bx,d7⟩:=qJ b7;have c1:=bx.three;have r:=r.I a0;have d:=d.I a0;have q:=q.I a0;clear b7;go_wp2;clear c1;go_loopw [15] (fun mv wr=>∃m:Nat,m<=3/\mv=niq m/\Below 0 w wr/\zBq w wr/\(∀b,b<w.heap.size->b ∉ a3->b ∉ a4->b ∉ a2->wr.heap[b]?=w.heap[b]?)∧
  Wri wr (.slice so n sc) n Cs a3 (if m=0 then y else zCq y i)/\Wri wr (.slice uo n tc) n Ct a4 (if m<=1 then z else zCq z i)/\Wri wr (.slice io n ic) n Ct a2 (if m<=2 then x else zCq x i)) (fun mv _=>3-(intOf mv).toNat)
 case atStart=>exact⟨0,oM,rfl,a0.mono (zH _),lx a0,fun b O _ _ _=>a0.block b O,r,d,q⟩
 obtain⟨m,hm,rfl,a5,b0,c3,r,d,q⟩:=hrel;have d8:=a5.size;have a9:=xgv c3;clear c3;by_cases c7:m=0
 .subst c7
  rw[zB rfl]at r;rw[zB oM]at d q;simp only[Int.cast_ofNat_Int];obtain⟨g,o,rfl,hg,s,b8,o1,-⟩:=qH.at_ r (i:=i) (by rw[r.len];exact f);have K:=xgd s;have V:=r.rowAt f s;have b9:=fun W=>zCg 210 3 #[slq g n sc,.slice uo n tc,.slice io n ic] 0 0 _ W zBK rfl oM rfl
  have Y:∀F:Nat->Int,yV Cs F=yV Cs (jD (fun t=>-F t) F 0):=fun F=>yH fun t _=>by unfold jD;rw[zA oM]
  rw[Y]at V;clear Y;go_wp2;go_loopw [23] (fun N wt=>∃j:Nat,j<=Cs/\N=niq j/\zB0 [o] wr wt/\(∃G,G=(fun t=>-y i t)/\jY wt o (yV Cs (jD G (y i) j)))) (fun N _=>Cs-(intOf N).toNat)
  case atStart=>exact⟨0,oM,rfl,zB0.refl _ _,_,rfl,V⟩
  rename World=>wt
  obtain⟨j,hj,rfl,c,G,B,l⟩:=hrel;have I:=xgv (congrFun B);clear B;have a6:g≠o:=by
   rintro rfl;obtain⟨J,H,-⟩:=qH.gblk r;obtain⟨cs,p,-⟩:=r.rowAt f s;have a8:wr.heap[g]?=some (.cells J tR (0,0)):=H;rw[a8]at p;injection p with p
   injection p with _ d
   exact absurd d dE
  have p1:wt.cell? ⟨g,i,none⟩=some (slq o Cs Cs):=by
   obtain⟨J,H,-⟩:=qH.gblk r;have p:Blk wt g tR J:=(c.old g hg (by simpa using a6)).trans H;rw[p.cell,<-H.cell];exact o1
  have b6:=c.bel.size;by_cases D:j<Cs
  .obtain⟨xs,xa,xl,xc,v1,v2,-,-,E⟩:=l.cell (yO D)
   have a7:jD G (y i) j j=y i j:=by unfold jD;rw[zA oM]
   rw[a7]at E;have c0:=l.lt;go_upto_region 7 with(fail)
   refine zF ?_;intro W6 S;obtain⟨A,P,c5⟩:=qJ S;have d1:=P.two;have c:=c.trans (zB0.of [o] A);have l:=l.I A;have E:=E.ext (lx A);have p1:=jP p1 A;have l7:=P.lt;clear v1 v2 S o1;have a1:=xgv (HS.out i f j D);refine yA 8 [pcI 6 (-(y i j))] ?_;refine sRd ?_;refine sRc (fun wS hI Gk B=>by go_simp;exact ck B (zBk _ (y i j) _ (E.ext hI.lext).J a1.out)) (fun c6 _=>?_);refine sRd ?_;refine sRe ?_;intro w9 C T;have c2:=lx C;have c4:=C.block;obtain⟨pn,pa,pl,pc,px,rfl,U⟩:=id T;have b2:=xgw U;clear U;have Z:=l.I C;obtain⟨zs,za,zl,zc,z1,z2,z3,z4,-⟩:=Z.cell (yO D);have M:=Z.set (k:=j) (by rw[qN];exact D) T;have c:=c.trans (zB0.of [o] C);go_wp2;go_roundw
   case rel=>
    have L:(yV Cs (jD G (y i) j)).set j (-(y i j))=yV Cs (jD G (y i) (j+1)):=by
     rw[zEF];exact yH fun t _=>by
      unfold jD;by_cases R:t=j
      .subst R
       rw[zB rfl,zB oM,I.out]
      rw[zA R];by_cases Q:t<j
      .rw[zB Q,zB oM]
      rw[zA Q,zA oM]
    rw[L]at M;exact⟨j+1,oM,by simp,c.trans ⟨yB (yB (zC _ _) (zH _) _ _) (zH _) _ _,M.2,fun i _ f=>yL _ _ _ _ _ _ _ (by simpa using f)⟩,_,funext I.out,M.1⟩
   case measure=>exact meq
  obtain rfl:j=Cs:=oM;have L:yV j (jD G (y i) j)=yV j (fun t=>-y i t):=yH fun t d=>by unfold jD;rw[zB d];exact I.out t
  rw[L]at l;go_wp2;go_roundw
  case measure=>simp[intOf]
  have X:=r.rowAt f s;exact⟨1,oM,by simp,a5.trans c.bel,b0.trans c.lext,fun b O n1 n2 n3=>(c.old b oM (by simp;rintro rfl;exact n1 K)).trans (a9.out b O n1 n2 n3),by simpa using r.negRow f s c l,by simpa using d.only c (fun v=>b4 _ K v) X,by simpa using q.only c (fun v=>b3 _ K v) X⟩
 by_cases c8:m=1
 .subst c8
  rw[zA oM]at r;rw[zB oM]at d q;simp only[Int.cast_ofNat_Int];obtain⟨g,o,rfl,hg,s,b8,o1,-⟩:=qH.at_ d (i:=i) (by rw[d.len];exact f);have K:=xgd s;have V:=d.rowAt f s;have b9:=fun W=>zCg 210 3 #[.slice so n sc,slq g n tc,.slice io n ic] 1 1 _ W zBK rfl oM rfl
  have Y:∀F:Nat->Int,yV Ct F=yV Ct (jD (fun t=>-F t) F 0):=fun F=>yH fun t _=>by unfold jD;rw[zA oM]
  rw[Y]at V;clear Y;go_wp2;go_loopw [23] (fun N wt=>∃j:Nat,j<=Ct/\N=niq j/\zB0 [o] wr wt/\(∃G,G=(fun t=>-z i t)/\jY wt o (yV Ct (jD G (z i) j)))) (fun N _=>Ct-(intOf N).toNat)
  case atStart=>exact⟨0,oM,rfl,zB0.refl _ _,_,rfl,V⟩
  rename World=>wt
  obtain⟨j,hj,rfl,c,G,B,l⟩:=hrel;have I:=xgv (congrFun B);clear B;have a6:g≠o:=by
   rintro rfl;obtain⟨J,H,-⟩:=qH.gblk d;obtain⟨cs,p,-⟩:=d.rowAt f s;have a8:wr.heap[g]?=some (.cells J tR (0,0)):=H;rw[a8]at p;injection p with p
   injection p with _ d
   exact absurd d dE
  have p1:wt.cell? ⟨g,i,none⟩=some (slq o Ct Ct):=by
   obtain⟨J,H,-⟩:=qH.gblk d;have p:Blk wt g tR J:=(c.old g hg (by simpa using a6)).trans H;rw[p.cell,<-H.cell];exact o1
  have b6:=c.bel.size;by_cases D:j<Ct
  .obtain⟨xs,xa,xl,xc,v1,v2,-,-,E⟩:=l.cell (yO D)
   have a7:jD G (z i) j j=z i j:=by unfold jD;rw[zA oM]
   rw[a7]at E;have c0:=l.lt;go_upto_region 7 with(fail)
   refine zF ?_;intro W6 S;obtain⟨A,P,c5⟩:=qJ S;have d1:=P.two;have c:=c.trans (zB0.of [o] A);have l:=l.I A;have E:=E.ext (lx A);have p1:=jP p1 A;have l7:=P.lt;clear v1 v2 S o1;have a1:=xgv (HT.out i f j D);refine yA 8 [pcI 6 (-(z i j))] ?_;refine sRd ?_;refine sRc (fun wS hI Gk B=>by go_simp;exact ck B (zBk _ (z i j) _ (E.ext hI.lext).J a1.out)) (fun c6 _=>?_);refine sRd ?_;refine sRe ?_;intro w9 C T;have c2:=lx C;have c4:=C.block;obtain⟨pn,pa,pl,pc,px,rfl,U⟩:=id T;have b2:=xgw U;clear U;have Z:=l.I C;obtain⟨zs,za,zl,zc,z1,z2,z3,z4,-⟩:=Z.cell (yO D);have M:=Z.set (k:=j) (by rw[qN];exact D) T;have c:=c.trans (zB0.of [o] C);go_wp2;go_roundw
   case rel=>
    have L:(yV Ct (jD G (z i) j)).set j (-(z i j))=yV Ct (jD G (z i) (j+1)):=by
     rw[zEF];exact yH fun t _=>by
      unfold jD;by_cases R:t=j
      .subst R
       rw[zB rfl,zB oM,I.out]
      rw[zA R];by_cases Q:t<j
      .rw[zB Q,zB oM]
      rw[zA Q,zA oM]
    rw[L]at M;exact⟨j+1,oM,by simp,c.trans ⟨yB (yB (zC _ _) (zH _) _ _) (zH _) _ _,M.2,fun i _ f=>yL _ _ _ _ _ _ _ (by simpa using f)⟩,_,funext I.out,M.1⟩
   case measure=>exact meq
  obtain rfl:j=Ct:=oM;have L:yV j (jD G (z i) j)=yV j (fun t=>-z i t):=yH fun t d=>by unfold jD;rw[zB d];exact I.out t
  rw[L]at l;go_wp2;go_roundw
  case measure=>simp[intOf]
  have X:=d.rowAt f s;exact⟨2,oM,by simp,a5.trans c.bel,b0.trans c.lext,fun b O n1 n2 n3=>(c.old b oM (by simp;rintro rfl;exact n2 K)).trans (a9.out b O n1 n2 n3),by simpa using r.only c (fun v=>b4 _ v K) X,by simpa using d.negRow f s c l,by simpa using q.only c (fun v=>b5 _ K v) X⟩
 by_cases c9:m=2
 .subst c9
  rw[zA oM]at r d;rw[zB oM]at q;simp only[Int.cast_ofNat_Int];obtain⟨g,o,rfl,hg,s,b8,o1,-⟩:=qH.at_ q (i:=i) (by rw[q.len];exact f);have K:=xgd s;have V:=q.rowAt f s;have b9:=fun W=>zCg 210 3 #[.slice so n sc,.slice uo n tc,slq g n ic] 2 2 _ W zBK rfl oM rfl
  have Y:∀F:Nat->Int,yV Ct F=yV Ct (jD (fun t=>-F t) F 0):=fun F=>yH fun t _=>by unfold jD;rw[zA oM]
  rw[Y]at V;clear Y;go_wp2;go_loopw [23] (fun N wt=>∃j:Nat,j<=Ct/\N=niq j/\zB0 [o] wr wt/\(∃G,G=(fun t=>-x i t)/\jY wt o (yV Ct (jD G (x i) j)))) (fun N _=>Ct-(intOf N).toNat)
  case atStart=>exact⟨0,oM,rfl,zB0.refl _ _,_,rfl,V⟩
  rename World=>wt
  obtain⟨j,hj,rfl,c,G,B,l⟩:=hrel;have I:=xgv (congrFun B);clear B;have a6:g≠o:=by
   rintro rfl;obtain⟨J,H,-⟩:=qH.gblk q;obtain⟨cs,p,-⟩:=q.rowAt f s;have a8:wr.heap[g]?=some (.cells J tR (0,0)):=H;rw[a8]at p;injection p with p
   injection p with _ d
   exact absurd d dE
  have p1:wt.cell? ⟨g,i,none⟩=some (slq o Ct Ct):=by
   obtain⟨J,H,-⟩:=qH.gblk q;have p:Blk wt g tR J:=(c.old g hg (by simpa using a6)).trans H;rw[p.cell,<-H.cell];exact o1
  have b6:=c.bel.size;by_cases D:j<Ct
  .obtain⟨xs,xa,xl,xc,v1,v2,-,-,E⟩:=l.cell (yO D)
   have a7:jD G (x i) j j=x i j:=by unfold jD;rw[zA oM]
   rw[a7]at E;have c0:=l.lt;go_upto_region 7 with(fail)
   refine zF ?_;intro W6 S;obtain⟨A,P,c5⟩:=qJ S;have d1:=P.two;have c:=c.trans (zB0.of [o] A);have l:=l.I A;have E:=E.ext (lx A);have p1:=jP p1 A;have l7:=P.lt;clear v1 v2 S o1;have a1:=xgv (HI.out i f j D);refine yA 8 [pcI 6 (-(x i j))] ?_;refine sRd ?_;refine sRc (fun wS hI Gk B=>by go_simp;exact ck B (zBk _ (x i j) _ (E.ext hI.lext).J a1.out)) (fun c6 _=>?_);refine sRd ?_;refine sRe ?_;intro w9 C T;have c2:=lx C;have c4:=C.block;obtain⟨pn,pa,pl,pc,px,rfl,U⟩:=id T;have b2:=xgw U;clear U;have Z:=l.I C;obtain⟨zs,za,zl,zc,z1,z2,z3,z4,-⟩:=Z.cell (yO D);have M:=Z.set (k:=j) (by rw[qN];exact D) T;have c:=c.trans (zB0.of [o] C);go_wp2;go_roundw
   case rel=>
    have L:(yV Ct (jD G (x i) j)).set j (-(x i j))=yV Ct (jD G (x i) (j+1)):=by
     rw[zEF];exact yH fun t _=>by
      unfold jD;by_cases R:t=j
      .subst R
       rw[zB rfl,zB oM,I.out]
      rw[zA R];by_cases Q:t<j
      .rw[zB Q,zB oM]
      rw[zA Q,zA oM]
    rw[L]at M;exact⟨j+1,oM,by simp,c.trans ⟨yB (yB (zC _ _) (zH _) _ _) (zH _) _ _,M.2,fun i _ f=>yL _ _ _ _ _ _ _ (by simpa using f)⟩,_,funext I.out,M.1⟩
   case measure=>exact meq
  obtain rfl:j=Ct:=oM;have L:yV j (jD G (x i) j)=yV j (fun t=>-x i t):=yH fun t d=>by unfold jD;rw[zB d];exact I.out t
  rw[L]at l;go_wp2;go_roundw
  case measure=>simp[intOf]
  have X:=q.rowAt f s;exact⟨3,oM,by simp,a5.trans c.bel,b0.trans c.lext,fun b O n1 n2 n3=>(c.old b oM (by simp;rintro rfl;exact n3 K)).trans (a9.out b O n1 n2 n3),by simpa using r.only c (fun v=>b3 _ v K) X,by simpa using d.only c (fun v=>b5 _ v K) X,by simpa using q.negRow f s c l⟩
 obtain rfl:m=3:=oM;rw[zA oM]at r d q;go_wp2;obtain⟨d3,d4,d2,f1,f2,f3,f4,f5,f6⟩:=H0.out;exact bodyPost_end (results_none rfl _ _ _) rfl ⟨⟨_,rfl⟩,⟨a5,b0,fun b O hn=>a9.out b O (fun v=>hn (.inl v)) (fun v=>hn (.inr (.inl v))) (fun v=>hn (.inr (.inr v)))⟩,r,d,q,f1,f2,f3,f4,f5,f6⟩
def M4V(w:World)(v:Value)(m0 m1 m2 m3:Int):Prop:=
 ∃s0 a0 l0 c0 s1 a1 l1 c1 s2 a2 l2 c2 s3 a3 l3 c3,v= .agg #[.bool s0,.slice a0 l0 c0,.bool s1,.slice a1 l1 c1,.bool s2,.slice a2 l2 c2,.bool s3,.slice a3 l3 c3]∧
  jE w (.agg #[.bool s0,.slice a0 l0 c0]) m0/\jE w (.agg #[.bool s1,.slice a1 l1 c1]) m1/\jE w (.agg #[.bool s2,.slice a2 l2 c2]) m2/\jE w (.agg #[.bool s3,.slice a3 l3 c3]) m3
theorem M4V.ext{m0 m1 m2 m3:Int}(h:M4V w v m0 m1 m2 m3)(x:zBq w w'):M4V w' v m0 m1 m2 m3:=by
 obtain⟨s,a,o,f,t,b,p,g,u,c,q,i,y,d,r,j,e,k,l,m,n⟩:=h;exact⟨s,a,o,f,t,b,p,g,u,c,q,i,y,d,r,j,e,k.ext x,l.ext x,m.ext x,n.ext x⟩
theorem Blk.eight{a b c d e f i j:Value}(h:Blk w g t #[a,b,c,d,e,f,i,j]):
  w.cell? ⟨g,0,none⟩=some a/\w.cell? ⟨g,1,none⟩=some b/\w.cell? ⟨g,2,none⟩=some c/\w.cell? ⟨g,3,none⟩=some d/\w.cell? ⟨g,4,none⟩=some e/\w.cell? ⟨g,5,none⟩=some f/\w.cell? ⟨g,6,none⟩=some i/\w.cell? ⟨g,7,none⟩=some j:=
 ⟨h.cell 0,h.cell 1,h.cell 2,h.cell 3,h.cell 4,h.cell 5,h.cell 6,h.cell 7⟩
def zSc(n:Nat)(f g:Nat->Int)(m0 m1 m2 m3:Int):Prop:=∀t,t<n->Sm (f t)/\Sm (g t)/\Sm (m0*f t)/\Sm (m1*g t)/\Sm (m2*f t)/\Sm (m3*g t)
theorem Blk.put_at(a:Hid (W=(w.setCell ⟨b,i,none⟩ u).setCell ⟨b,j,none⟩ v))(h:Blk w g t cs)(c:g≠b):Blk W g t cs:=by
 rw[a.out];exact(yL _ _ _ _ _ _ _ c).trans h
theorem zB0.put_at(a:Hid (W=(w.setCell ⟨b,i,none⟩ u).setCell ⟨b,j,none⟩ v)){S:List Nat}(c:b∈S)(f:zBq w W):zB0 S w W:=by
 refine⟨?_,f,fun k _ d=>?_⟩
 .rw[a.out]
  exact yB (yB (zC _ _) (zH _) _ _) (zH _) _ _
 rw[a.out];exact yL _ _ _ _ _ _ _ (fun e=>d (e ▸ c))
theorem jY.put_at(a:Hid (W=(w.setCell ⟨b,i,none⟩ u).setCell ⟨b,j,none⟩ v)){r:List Int}(h:jY w g r)(c:g≠b)(d:zBq w W):jY W g r:=
 h.old (by rw[a.out];exact yL _ _ _ _ _ _ _ c) d
theorem jY.set_at{zs:List Int}{s:Bool}{a:Option Addr}{c:Nat}(d:Hid (W=(w.setCell ⟨b,k*2,none⟩ (.bool s)).setCell ⟨b,k*2+1,none⟩ (.slice a l c)))(h:jY w b zs)(e:k<zs.length)(hv:jE w (.agg #[.bool s,.slice a l c]) z):
  jY W b (zs.set k z)/\zBq w W:=by
 rw[d.out];exact h.set e hv
theorem zJS{F:Nat->Int}(c:z=F j):(yV n (jD F f j)).set j z=yV n (jD F f (j+1)):=by
 rw[zEF];exact yH fun t _=>by
  unfold jD;by_cases b:t=j
  .subst b
   rw[zB rfl,zB oM,c]
  rw[zA b];by_cases a:t<j
  .rw[zB a,zB oM]
  rw[zA a,zA oM]
theorem zGo(fI:Nat)(d2:fI=204∨fI=179)(l m n a4 a5:Nat)(f g:Nat->Int)(mv:Value)(m0 m1 m2 m3:Int)(w:World)(hv:jY w l (yV n f))(h:jY w m (yV n g))(c4:l≠m)(hm:M4V w mv m0 m1 m2 m3)
  (hn:n<=1000000) (f0:n<=a4) (f1:a4<=9223372036854775807) (f2:n<=a5) (f3:a5<=9223372036854775807)
  (hS:zSc n f g m0 m1 m2 m3) (b9:Sm m0/\Sm m1/\Sm m2/\Sm m3):
  CPq fI #[.slice (some ⟨l,0,none⟩) n a4,.slice (some ⟨m,0,none⟩) n a5,mv] w fun e w'=>(∃u,e= .returned u)/\zB0 [l,m] w w'∧
   jY w' l (yV n (fun t=>m0*f t+m1*g t))/\jY w' m (yV n (fun t=>m2*f t+m3*g t)):=by
 have HS:=xgv hS;have O:=xgv b9;have HM:=xgv hm;obtain⟨s0,S,l0,W,s1,T,l1,X,s2,U,l2,Y,s3,V,l3,Z,rfl,-⟩:=id hm;clear hS b9 hm;have f5:=hv.lt;have f7:=h.lt;obtain⟨F,hF⟩:∃F:Nat->Int,(fun t=>m0*f t+m1*g t)=F:=⟨_,rfl⟩;obtain⟨G,c⟩:∃G:Nat->Int,(fun t=>m2*f t+m3*g t)=G:=⟨_,rfl⟩;rw[hF,c];have HF:jI (∀t,F t=m0*f t+m1*g t):=⟨fun t=>by rw[<-hF]⟩;have HG:jI (∀t,G t=m2*f t+m3*g t):=⟨fun t=>by rw[<-c]⟩;clear hF c;rcases d2 with rfl|rfl
 all_goals
  first|go_enter Tryz.func204,Tryz.ntmps204|go_enter Tryz.func179,Tryz.ntmps179
  go_upto_region 1 with(fail)
  refine zF ?_;intro W0 a9;obtain⟨P,d,f9⟩:=qJ a9;have c5:=hv.I P;have c7:=h.I P;have b8:=HM.out.ext (lx P);have a6:∀(a b:Nat->Int),yV n a=yV n (jD b a 0):=fun a b=>yH fun t _=>by unfold jD;rw[zA oM]
  rw[a6 f F]at c5;rw[a6 g G]at c7;have o:=zB0.of [l,m] P;have c9:=xgv b8;clear a9 a6 hv h b8;go_wp2;go_loopw [11] (fun jv wr=>∃j:Nat,j<=n/\jv= .int .i64 j/\zB0 [l,m] w wr/\Blk wr w.heap.size 191 #[.bool s0,.slice S l0 W,.bool s1,.slice T l1 X,.bool s2,.slice U l2 Y,.bool s3,.slice V l3 Z]/\jI (M4V wr (.agg #[.bool s0,.slice S l0 W,.bool s1,.slice T l1 X,.bool s2,.slice U l2 Y,.bool s3,.slice V l3 Z]) m0 m1 m2 m3)/\jY wr m (yV n (jD G g j))/\jY wr l (yV n (jD F f j))) (fun jv _=>n-(intOf jv).toNat)
  case atStart=>exact⟨0,oM,rfl,o,d,c9,c7,c5⟩
  obtain⟨j,hj,rfl,o,d,R,h,hv⟩:=hrel;by_cases y:j<n
  .obtain⟨xs,xa,xl,xc,p1,p2,-,-,z⟩:=hv.cell (yO y)
   obtain⟨ys,ya,yl,yc,q1,q2,-,-,A⟩:=h.cell (yO y);have d6:jD F f j j=f j:=by unfold jD;rw[zA oM]
   have d7:jD G g j j=g j:=by unfold jD;rw[zA oM]
   rw[d6]at z;rw[d7]at A;have f8:=h.lt;have f6:=hv.lt;have f4:=d.lt;have e9:=o.bel.size;go_upto_region 5 with(fail)
   refine zF ?_;intro W6 b0;obtain⟨s,B,C,g1⟩:=zAU b0;have d1:=B.two;have e1:=C.two;have o:=o.trans (zB0.of [l,m] s);have d:=d.I s;have R:=xgv (R.out.ext (lx s));have h:=h.I s;have hv:=hv.I s;have z:=z.ext (lx s);have A:=A.ext (lx s);clear p1 p2 q1 q2 b0;obtain⟨k0,k1,k2,k3,k4,k5,k6,k7⟩:=d.eight;have lv:=hv.lt;have lb:=d.lt;have l7:=B.lt;have l8:=C.lt;have p:=xgv (HS.out j y);obtain⟨g6,e0,g2,e5,g7,e2,g3,e6,g8,e3,g4,e7,g9,e4,g5,e8,Q,E,H,I,J⟩:=R.out;injection Q with Q
   simp only[Array.mk.injEq,List.cons.injEq,Value.bool.injEq,Value.slice.injEq]at Q;obtain⟨rfl,⟨rfl,rfl,rfl⟩,rfl,⟨rfl,rfl,rfl⟩,rfl,⟨rfl,rfl,rfl⟩,rfl,⟨rfl,rfl,rfl⟩,-⟩:=Q;refine yA 14 [pcI 6 (m0*f j),pcI 11 (m1*g j),pcD 12 [6,11] (fun w v=>jE w v (m0*f j+m1*g j))] ?_;refine sRd ?_;refine sRc (fun N hI K c=>by go_simp;exact ck c (zES _ _ m0 (f j) _ (E.ext hI.lext).J (z.ext hI.lext).J O.out.1 p.out.1)) (fun h2 _=>?_);refine sRd ?_;refine sRc (fun N hI K c=>by go_simp;exact ck c (zES _ _ m1 (g j) _ (H.ext hI.lext).J (A.ext hI.lext).J O.out.2.1 p.out.2.1)) (fun h0 _=>?_);refine sRc (fun N hI b4 b2 K c=>by go_simp;exact ck c (zIE _ _ (m0*f j) (m1*g j) _ b4.J b2.J p.out.2.2.1 p.out.2.2.2.1)) (fun h1 _=>?_);refine sRd ?_;refine sRe ?_;intro w9 i b4 b2 b3;obtain⟨pn,pa,pl,pc,px,rfl,M⟩:=id b3;have d0:=xgw M;clear M k0 k1 k2 k3 k4 k5 k6 k7 d1 e1;have a7:=hv.I i;obtain⟨zs,za,zl,zc,z1,z2,z3,z4,-⟩:=a7.cell (yO y);have d3:=a7.lt;go_upto_region 6 with(fail)
   refine zF ?_;intro d8 x;obtain⟨c6,r⟩:=a7.set_at (k:=j) x (by rw[qN];exact y) b3;rw[zJS (HF.out j).symm]at c6;have o:=(o.trans (zB0.of [l,m] i)).trans (zB0.put_at x sI r);have d:=(d.I i).put_at x oM;have B:=(B.I i).put_at x oM;have C:=(C.I i).put_at x oM;have h:=(h.I i).put_at x (qF c4) r;have hv:=c6;have z:=(z.ext (lx i)).ext r;have A:=(A.ext (lx i)).ext r;have E:=(E.ext (lx i)).ext r;have H:=(H.ext (lx i)).ext r;have I:=(I.ext (lx i)).ext r;have J:=(J.ext (lx i)).ext r;clear z1 z2 z3 z4 x;obtain⟨k0,k1,k2,k3,k4,k5,k6,k7⟩:=d.eight;have d1:=B.two;have e1:=C.two;have lw:=h.lt;have lb:=d.lt;have l7:=B.lt;have l8:=C.lt;refine yA 14 [pcI 6 (m2*f j),pcI 11 (m3*g j),pcD 12 [6,11] (fun w v=>jE w v (m2*f j+m3*g j))] ?_;refine sRd ?_;refine sRc (fun N hI K c=>by go_simp;exact ck c (zES _ _ m2 (f j) _ (I.ext hI.lext).J (z.ext hI.lext).J O.out.2.2.1 p.out.1)) (fun h5 _=>?_);refine sRd ?_;refine sRc (fun N hI K c=>by go_simp;exact ck c (zES _ _ m3 (g j) _ (J.ext hI.lext).J (A.ext hI.lext).J O.out.2.2.2 p.out.2.1)) (fun h3 _=>?_);refine sRc (fun N hI b7 b5 K c=>by go_simp;exact ck c (zIE _ _ (m2*f j) (m3*g j) _ b7.J b5.J p.out.2.2.2.2.1 p.out.2.2.2.2.2)) (fun h4 _=>?_);refine sRd ?_;refine sRe ?_;intro h6 q b7 b5 b6;obtain⟨pn,pa,pl,pc,px,rfl,M⟩:=id b6;have d0:=xgw M;clear M k0 k1 k2 k3 k4 k5 k6 k7 d1 e1;have a8:=h.I q;obtain⟨zs,za,zl,zc,z1,z2,z3,z4,-⟩:=a8.cell (yO y);have d3:=a8.lt;go_upto_region 7 with(fail)
   refine zF ?_;intro d9 L;obtain⟨c8,D⟩:=a8.set_at (k:=j) L (by rw[qN];exact y) b6;rw[zJS (HG.out j).symm]at c8;have o:=(o.trans (zB0.of [l,m] q)).trans (zB0.put_at L sI D);have d:=(d.I q).put_at L oM;have hv:=(hv.I q).put_at L c4 D;have E:=(E.ext (lx q)).ext D;have H:=(H.ext (lx q)).ext D;have I:=(I.ext (lx q)).ext D;have J:=(J.ext (lx q)).ext D;clear z1 z2 z3 z4 L;go_wp2;go_roundw
   case rel=>exact⟨j+1,oM,by simp,o,d,⟨⟨s0,S,l0,W,s1,T,l1,X,s2,U,l2,Y,s3,V,l3,Z,rfl,E,H,I,J⟩⟩,c8,hv⟩
   case measure=>exact meq
  obtain rfl:j=n:=oM;have d4:yV j (jD F f j)=yV j F:=yH fun t ht=>by unfold jD;rw[zB ht]
  have d5:yV j (jD G g j)=yV j G:=yH fun t ht=>by unfold jD;rw[zB ht]
  rw[d4]at hv;rw[d5]at h;go_wp2;exact bodyPost_end (results_none rfl _ _ _) rfl ⟨⟨_,rfl⟩,o,hv,h⟩
abbrev zSs:=zGo 204 (.inl rfl)
abbrev zRI:=zGo 179 (.inr rfl)
structure zCh(Z:Nat->Prop)(w:World)(As At Ai:Value)(n Cs Ct:Nat)(x:Bst):Prop where
 ex:∃bss bst bsi,zFx w As At Ai n Cs Ct bss bst bsi x.s x.t x.i/\(∀b,b∈bss∨b∈bst∨b∈bsi->Z b)
 own:∀g,As.ownBlock=some g∨At.ownBlock=some g∨Ai.ownBlock=some g->Z g
theorem zCh.I{x:Bst}(h:zCh Z w As At Ai n Cs Ct x)(a:BWq w w'):zCh Z w' As At Ai n Cs Ct x:=by
 obtain⟨⟨c,d,b,⟨e,f,g,i,j,k,l,m,o⟩,q⟩,p⟩:=h;exact⟨⟨c,d,b,⟨e.I a,f.I a,g.I a,i,j,k,l,m,o⟩,q⟩,p⟩
structure BSm(B:Nat):Prop where
 sm:∀z:Int,z.natAbs<B->Sm z
theorem qA7(c:BSm B){x:Bst}{o:Value}{k:Int}(h:zCh Z w As At Ai n Cs Ct x)(O:okB B n Cs Ct x)(g:i<n)(l:j<n)(L:i≠j)(M:jE w o k)
  (f:n<=1000000) (H:Cs<=1000000) (I:Ct<=1000000) (J:zEn B n Cs Ct x i j k):
  CPq 200 #[.agg #[As,At,Ai],niq i,niq j,o] w fun e w'=>(∃u,e= .returned u)/\qK Z w w'/\zCh Z w' As At Ai n Cs Ct (x.add i j k):=by
 obtain⟨⟨r,s,q,Q,m⟩,N⟩:=h;obtain⟨A,C,p,R⟩:=J;obtain⟨v,y,z⟩:=O;refine(zM3 As At Ai n Cs Ct i j r s q x.s x.t x.i o k w Q g l L M f H I (fun t a=>⟨c.sm _ (v i g t a),c.sm _ (v j l t a),c.sm _ (C t a)⟩) (fun t a=>⟨c.sm _ (y i g t a),c.sm _ (y j l t a),c.sm _ (p t a).1⟩)
  (fun t a=>⟨c.sm _ (z j l t a),c.sm _ (z i g t a),c.sm _ (by rw[yE,zY];exact(p t a).2)⟩) (c.sm _ A)).mono ?_
 rintro e w' ⟨P,D,E,F,G⟩;exact⟨P,⟨D,E,fun b K f=>F b K (fun d=>f (m b (.inl d))) (fun d=>f (m b (.inr (.inl d)))) (fun d=>f (m b (.inr (.inr d))))⟩,⟨r,s,q,G,m⟩,N⟩
theorem zWk{x:Bst}(h:zCh Z w As At Ai n Cs Ct x)(m:i<n)(o:j<n)(p:n<=1000000):
  CPq 201 #[.agg #[As,At,Ai],niq i,niq j] w fun e w'=>(∃u,e= .returned u)/\qK Z w w'/\zCh Z w' As At Ai n Cs Ct (x.swap i j):=by
 obtain⟨⟨f,g,d,a,r⟩,c⟩:=h;have s:=a.s.len;have t:=a.t.len;have v:=a.i.len;refine(zNP As At Ai n Cs Ct i j f g d x.s x.t x.i w a m o p).mono ?_;rintro e w' ⟨q,k,l⟩;refine⟨q,k.mono (fun b _ hb=>c b hb),⟨_,_,_,l,fun b hb=>r b ?_⟩,c⟩;rcases hb with hb|hb|hb
 exact .inl (zEH oM oM hb);exact .inr (.inl (zEH oM oM hb));exact .inr (.inr (zEH oM oM hb))
theorem qBC(f:BSm B){x:Bst}(h:zCh Z w As At Ai n Cs Ct x)(v:okB B n Cs Ct x)(r:i<n)(s:n<=1000000)(p:Cs<=1000000)(q:Ct<=1000000):
  CPq 202 #[.agg #[As,At,Ai],niq i] w fun e w'=>(∃u,e= .returned u)/\qK Z w w'/\zCh Z w' As At Ai n Cs Ct (x.neg i):=by
 obtain⟨⟨j,k,g,z,l⟩,t⟩:=h;obtain⟨A,C,D⟩:=v;refine(zRo As At Ai n Cs Ct i j k g x.s x.t x.i w z r s p q (fun a d b c=>f.sm _ (A a d b c)) (fun a d b c=>f.sm _ (C a d b c)) (fun a d b c=>f.sm _ (D a d b c))).mono ?_;rintro e w' ⟨y,m,o⟩;exact⟨y,m.mono (fun b _ c=>l b c),⟨j,k,g,o,l⟩,t⟩
theorem zCh.shape{x:Bst}(h:zCh Z w As At Ai n Cs Ct x):∃c sc l k j f,As= .slice c n sc/\At= .slice l n k/\Ai= .slice j n f/\n<=sc/\sc<=9223372036854775807/\(0<n->∃g,c=some ⟨g,0,none⟩):=by
 obtain⟨⟨C,D,B,a,F⟩,E⟩:=h;obtain⟨c,y,sc,m,t,u,v,-⟩:=id (qH.rows a.s);obtain⟨l,A,k,o,z,I,J,-⟩:=id (qH.rows a.t);obtain⟨j,s,f,p,r,G,H,-⟩:=id (qH.rows a.i);obtain rfl:n=y:=by rw[<-t];simp[genM]
 obtain rfl:n=A:=by rw[<-z];simp[genM]
 obtain rfl:n=s:=by rw[<-r];simp[genM]
 refine⟨c,sc,l,k,j,f,m,o,p,u,v,fun q=>?_⟩;have d:=a.s;rw[m]at d;obtain⟨g,b,e,-⟩:=qH.at_ d (i:=0) (by rw[d.len];exact q);exact⟨g,e⟩
theorem zCh.row{x:Bst}(h:zCh Z w (slq g n sc) At Ai n Cs Ct x)(c:i<n):
  ∃b,w.cell? ⟨g,i,none⟩=some (slq b Cs Cs)/\jY w b (yV Cs (x.s i)):=by
 obtain⟨⟨k,l,j,a,r⟩,q⟩:=h;obtain⟨m,b,e,p,d,o,f,-⟩:=qH.at_ a.s (i:=i) (by rw[a.s.len];exact c);injection e with e
 injection e with e
 subst e;exact⟨b,f,a.s.rowAt c d⟩
theorem zCh.glt{x:Bst}(h:zCh Z w (slq g n sc) At Ai n Cs Ct x)(d:i<n):g<w.heap.size:=by
 obtain⟨⟨j,k,f,a,o⟩,m⟩:=h;obtain⟨l,b,e,c,-⟩:=qH.at_ a.s (i:=i) (by rw[a.s.len];exact d);injection e with e
 injection e with e
 subst e;exact c
theorem zO5(k:Nat)(zs:List Int):(zCL k zs=-1/\∀z∈zs,z=0)∨∃j,zCL k zs=((k+j:Nat):Int)/\j<zs.length/\zs.getD j 0≠0/\∀t,t<j->zs.getD t 0=0:=by
 induction zs generalizing k with
 |nil=>exact .inl ⟨rfl,fun z a=>by cases a⟩
 | cons z zs g=>
  unfold zCL;by_cases a:z=0
  .rw[zA (by simp[a])]
   rcases g (k+1)with⟨b,c⟩|⟨j,b,c,d,e⟩
   .refine .inl ⟨b,fun y hy=>?_⟩
    rcases List.mem_cons.1 hy with rfl|hy
    exact a;exact c y hy
   refine .inr ⟨j+1,by rw[b];congr 1;omega,by simp;omega,by simpa using d,fun t f=>?_⟩;cases t with
   |zero=>simpa using a
   |succ t=>simpa using e t oM
  rw[zB a];exact .inr ⟨0,by simp,by simp,by simpa using a,fun t f=>oM⟩
theorem zNS(h:j<n):(yV n f).getD j 0=f j:=by rw[xgb,yO h];rfl
theorem zCp(C:Nat)(F:Nat->Nat->Int)(i:Nat):(lead C F i=-1/\∀t,t<C->F i t=0)∨∃j:Nat,lead C F i=(j:Int)/\j<C/\F i j≠0/\∀t,t<j->F i t=0:=by
 unfold lead;rcases zO5 0 (yV C (F i))with⟨b,a⟩|⟨j,b,a,d,e⟩
 exact .inl ⟨b,fun t c=>a _ (xgd (yO c))⟩;rw[qN]at a;rw[zNS a]at d;refine .inr ⟨j,by rw[b];simp,a,d,fun t c=>?_⟩;have:=e t c;rwa[zNS oM]at this
theorem zHl(h:¬ lead C F i<0):∃c:Nat,lead C F i=(c:Int)/\c<C/\F i c≠0/\∀t,t<c->F i t=0:=by
 rcases zCp C F i with⟨h1,-⟩|h1
 omega;exact h1
noncomputable def leastOf (P:Nat->Prop):Nat:=open Classical in if h:∃f,P f/\∀g,P g->f<=g then h.choose else 0
theorem zQL:∀f,P f->∃f,P f/\∀g,P g->f<=g:=by
 intro f;induction f using Nat.strongRecOn with
 | _ f e=>
  intro c;by_cases h:∃g,g<f/\P g
  .obtain⟨g,a,b⟩:=h
   exact e g a b
  refine⟨f,c,fun g d=>?_⟩;rcases zK g f with h3|h3
  exact absurd ⟨g,h3,d⟩ h;exact h3
theorem zE1{f:Nat}(h:P f):P (leastOf P)/\∀g,P g->leastOf P<=g:=by
 have a:∃f,P f/\∀g,P g->f<=g:=zQL f h;unfold leastOf;rw[dif_pos a];exact a.choose_spec
theorem zFL{f:Nat}(h:P f)(a:f<n):leastOf P<n:=zI ((zE1 h).2 f h) a
section
variable {P:Program} {a:Act} {w:World} {Q:Exit->Act->World->Prop}
theorem Exit.jump_ret{J:Act->World->Prop}:Exit.jump l J Q .ret a w=Q .ret a w:=rfl
theorem zG0{c rest:Code}(J:Act->World->Prop)(f:Act->World->Nat)(i:findLabel (c.seq ((Code.label l).seq rest)) l=some (Code.skip.seq rest))
  (first:c.wp P (fun e a w=>e= .normal/\J a w) a w)
  (g:∀a w,J a w->rest.wp P (Exit.jump l (fun b w'=>J b w'/\f b w'<f a w) Q) a w):(Code.scope (c.seq ((Code.label l).seq rest))).wp P Q a w:=by
 have j:∀a w,J a w->rest.wp P (Exit.jump l J Q) a w:=fun a w d=>wp_mono (g a w d) (by
  intro e b w' h;cases e<;>first|exact h|exact⟨h.1,h.2.1⟩)
 refine wp_scope_jumps l J f i ?_ ?_
 .refine wp_seq (wp_mono first ?_)
  rintro e b w' ⟨rfl,d⟩;exact wp_seq (wp_label (j _ _ d))
 intro b w' d;exact wp_seq (wp_skip (g b w' d))
theorem zKh{rest:Code}{l:Nat}(J:Act->World->Prop)(d:Act->World->Nat)(first:J a w)
  (f:∀a w,J a w->rest.wp P (Exit.jump l (fun b w'=>J b w'/\d b w'<d a w) Q) a w):(Code.scope ((Code.label l).seq rest)).wp P Q a w:=by
 have g:∀a w,J a w->rest.wp P (Exit.jump l J Q) a w:=fun a w c=>wp_mono (f a w c) (by
  intro e b w' h;cases e<;>first|exact h|exact⟨h.1,h.2.1⟩)
 refine wp_scope_jumps (rest:=Code.skip.seq rest) l J d (by simp[findLabel]) ?_ ?_;exact wp_seq (wp_label (g _ _ first));intro b w' c;exact wp_seq (wp_skip (f b w' c))
end
def DMV(a b:Int):World->Value->Prop:=fun w v=>∃q r,v= .tuple #[q,r,niq 0]/\jE w q (a/b)/\jE w r (a%b)
theorem zML(a b:Int):zG2 (DMV a b):=by
 intro w w' v e h;obtain⟨q,r,c,d,f⟩:=h;exact⟨q,r,c,d.ext e,f.ext e⟩
theorem zL9(a b:Value)(d c:Int)(w:World)(h1:zIh w a d)(h2:zIh w b c)(h:Sm d)(i:Sm c)(g:c≠0):
  CPq 162 #[a,b] w fun e w'=>∃v,e= .returned v/\DMV d c w' v/\BWq w w':=by
 refine(zD6 a b d c w h1 h2 h i g).mono ?_;rintro e w' ⟨a,b,rfl,h1,h2,f⟩;exact⟨_,rfl,⟨a,b,rfl,h1,h2⟩,f⟩
theorem zMc(h:okF B R C F)(e:i<R)(f:j<R):okF B R C (zH7 F i j):=by
 intro a c b d;refine h _ ?_ b d;unfold swp;split;exact f;split;exact e;exact c
theorem zPG(h:okF B R C F):okF B R C (zCq F i):=by
 intro a c b d;unfold zCq;split;rw[zY];exact h a c b d;exact h a c b d
theorem zHv{x:Bst}(h:okB B n Cs Ct x)(a:i<n)(b:j<n):okB B n Cs Ct (x.swap i j):=⟨zMc h.1 a b,zMc h.2.1 a b,zMc h.2.2 a b⟩
theorem zT2{x:Bst}(h:okB B n Cs Ct x):okB B n Cs Ct (x.neg i):=⟨zPG h.1,zPG h.2.1,zPG h.2.2⟩
theorem zEn.ok{x:Bst}{k:Int}(h:zEn B n Cs Ct x i j k):okB B n Cs Ct (x.add i j k):=h.2.2.2
theorem zVW(h:¬ L k<c):adv L c m k=k:=by
 cases m with
 |zero=>rfl
 |succ m=>unfold adv;rw[zA h]
theorem zVV(b:k<rank)(h:L k<c):adv L c (rank-k) k=adv L c (rank-(k+1)) (k+1):=by
 obtain⟨m,a⟩:∃m,rank-k=m+1:=⟨rank-k-1,oM⟩;have e:rank-(k+1)=m:=oM;rw[a,e];conv=>lhs;unfold adv
 rw[zB h]
theorem jE.two{x y:Value}(h:jE w (.agg #[x,y]) z):∃s a l c,x= .bool s/\y= .slice a l c:=by
 obtain⟨s,a,l,c,b,e,-⟩:=id h;injection e with e
 simp only[Array.mk.injEq,List.cons.injEq]at e;exact⟨s,a,l,c,e.1,e.2.1⟩
theorem zJg(h:¬ z<0):0<=zAv z 0:=zD5 h
theorem zXi{x:Bst}{a b:Int}(i j:Nat)(h:zCh Z w As At Ai n Cs Ct x)(c:i<n)(f:j<n)(k:n<=1000000)(d:a=i)(g:b=j):
  CPq 201 #[.agg #[As,At,Ai],niq a,niq b] w fun e w'=>(∃u,e= .returned u)/\qK Z w w'/\zCh Z w' As At Ai n Cs Ct (x.swap i j):=by
 subst d;subst g;exact zWk h c f k
theorem zWm(hB:BSm B){x:Bst}{m rank ff:Nat}{y:Bst}{bb:Bool}(O:∀b,Z b->b<w.heap.size)(h:zCh Z w As At Ai n Cs Ct x)(s:okB B n Cs Ct x)
  (D:m<n) (hr:rank<=m) (S:n<=1000000) (c7:Cs<=1000000) (c8:Ct<=1000000) (r:zB7 B n Cs Ct m rank ff 0 x=some (y,bb)):
  CPq 185 #[.agg #[As,At,Ai],niq m,niq rank] w fun e w'=>e= .returned (.bool bb)/\qK Z w w'/\zCh Z w' As At Ai n Cs Ct y/\okB B n Cs Ct y:=by
 obtain⟨so,sc,uo,tc,io,Y,rfl,rfl,rfl,i3,i4,hg⟩:=h.shape;obtain⟨g,rfl⟩:=hg oM;have d5:=xgv (And.intro s r);have c3:rank<n:=oM;clear s r hg;go_enter Tryz.func185,Tryz.ntmps185;go_wp2;refine zF ?_;intro W0 e0;obtain⟨d7,l,i0⟩:=qJ e0;have o:=h.I d7;have q:=qK.of Z d7;clear e0 h;obtain⟨JF,d8⟩:∃JF:Nat->Act->World->Prop,∀f M wt,JF f M wt↔∃(k:Nat) (d:Bst) (u8 u9 u10 u11 u13 u14 u15 u16 u17 u18 u19 u20 u21 u22 u23 u24 u25 u26 u27 u28 u29 u30 u31 u32 u33 u34 u35 u36 u37 u38 u39 u40 u41 u42 u43 u44 u45 u46 u47 u48 u49 u50 u51 u52 u53 u54 u55 u56 u57 u58 u59 u60 u61 u62 u63 u64 u65 u66 u67 u68 u69 u70 u71 u72 u73 u74 u75 u76 u77 u78 u79 u80 u81 u82:Value),M={tmps:=#[.agg #[slq g n sc,.slice uo n tc,.slice io n Y],niq m,niq rank,ptq w.heap.size 0,undef,undef,.bool false,niq k,u8,u9,u10,u11,undef,u13,u14,u15,u16,u17,u18,u19,u20,u21,u22,u23,u24,u25,u26,u27,u28,u29,u30,u31,u32,u33,u34,u35,u36,u37,u38,u39,u40,u41,u42,u43,u44,u45,u46,u47,u48,u49,u50,u51,u52,u53,u54,u55,u56,u57,u58,u59,u60,u61,u62,u63,u64,u65,u66,u67,u68,u69,u70,u71,u72,u73,u74,u75,u76,u77,u78,u79,u80,u81,u82,undef,undef,undef,undef,undef,undef,undef,undef,undef,undef,undef,undef,undef,undef,undef,undef,undef,undef,undef,undef,undef,undef,undef,undef,undef,undef,undef,undef],defers:=[]}/\k<=rank∧
  qK Z w wt/\Blk wt w.heap.size 176 #[slq g n sc,.slice uo n tc,.slice io n Y]/\zCh Z wt (slq g n sc) (.slice uo n tc) (.slice io n Y) n Cs Ct d/\jI (okB B n Cs Ct d/\zB7 B n Cs Ct m rank f k d=some (y,bb)):=⟨_,fun _ _ _=>yF⟩
 have a0:=xgv d8;clear d8;refine zG0 (fun M wt=>∃f,JF f M wt) (fun M wt=>leastOf (fun f=>JF f M wt)) rfl ?_ ?_
 .go_wp2
  exact⟨ff,(a0.out _ _ _).2 ⟨0,x,_,_,_,_,_,_,_,_,_,_,_,_,_,_,_,_,_,_,_,_,_,_,_,_,_,_,_,_,_,_,_,_,_,_,_,_,_,_,_,_,_,_,_,_,_,_,_,_,_,_,_,_,_,_,_,_,_,_,_,_,_,_,_,_,_,_,_,_,_,_,_,_,_,_,rfl,zH _,q,l,o,d5⟩⟩
 intro M wr V;obtain⟨f1,V⟩:=V;replace V:=(zE1 (P:=fun f=>JF f M wr) V).1;generalize leastOf (fun f=>JF f M wr)=f0 at V ⊢
 rw[a0.out]at V;obtain⟨k,d,u8,u9,u10,u11,u13,u14,u15,u16,u17,u18,u19,u20,u21,u22,u23,u24,u25,u26,u27,u28,u29,u30,u31,u32,u33,u34,u35,u36,u37,u38,u39,u40,u41,u42,u43,u44,u45,u46,u47,u48,u49,u50,u51,u52,u53,u54,u55,u56,u57,u58,u59,u60,u61,u62,u63,u64,u65,u66,u67,u68,u69,u70,u71,u72,u73,u74,u75,u76,u77,u78,u79,u80,u81,u82,rfl,hk,q,l,o,e7⟩:=V;obtain⟨s,r⟩:=e7.out;clear d5 e7;cases f0 with
 |zero=>cases r
 | succ f=>
  unfold zB7 at r;obtain⟨bm,o1,H⟩:=o.row D;have t:=l.three;have K:=xgv s;have d6:=xgv r;clear s r;go_wp2_with fail
  refine(zFi _ (yV Cs (d.s m)) _ (H.vec (qN _ _) (xgf _) oM)).mono ?_;rintro e w1 ⟨rfl,c9⟩;have r:=d6.out;clear d6;have o:=o.I c9;have l:=l.I c9;have q:=q.trans (qK.of Z c9);clear o1 H t;by_cases A:lead Cs d.s m<0
  .rw[zB A]at r
   injection r with r
   injection r with X b3
   subst X;subst b3;have N:zCL 0 (yV Cs (d.s m))=-1:=by
    rcases zCp Cs d.s m with⟨h1,-⟩|⟨j,h1,-⟩
    exact h1;omega
   rw[N];have h6:=K;clear A N;go_wp2;rw[Exit.jump_ret];go_ret;exact⟨rfl,q,o,K.out⟩
  rw[zA A]at r;obtain⟨c,b5,a4,-,-⟩:=zHl A;have N:zCL 0 (yV Cs (d.s m))=(c:Int):=b5;rw[N];rw[b5,zBr]at r;have z:=xgv r;have h5:=xgv b5;clear r A N b5;go_wp2;go_loopw [7] (fun kv wt=>∃a:Nat,kv=niq a/\a<=rank/\BWq w1 wt/\jI (adv (lead Cs d.s) (c:Int) (rank-k) k=adv (lead Cs d.s) (c:Int) (rank-a) a)) (fun kv _=>rank-(intOf kv).toNat)
  case atStart=>exact⟨k,rfl,hk,zC _ _,⟨rfl⟩⟩
  rename World=>wt
  obtain⟨a,rfl,e4,b9,b8⟩:=hrel;have o:=o.I b9;have l:=l.I b9;have q:=q.trans (qK.of Z b9);by_cases R:a<rank
  .obtain⟨bk,o2,T⟩:=o.row (i:=a) oM
   have t:=l.three;go_wp2_with fail
   refine(zFi _ (yV Cs (d.s a)) _ (T.vec (qN _ _) (xgf _) oM)).mono ?_;rintro e w3 ⟨rfl,c0⟩;have o:=o.I c0;have l:=l.I c0;have q:=q.trans (qK.of Z c0);clear o2 T t;obtain⟨L,N⟩:∃L,zCL 0 (yV Cs (d.s a))=L:=⟨_,rfl⟩;have b6:lead Cs d.s a=L:=N;rw[N];by_cases e5:L<(c:Int)
   .go_wp2
    go_roundw
    case rel=>exact⟨a+1,by simp,oM,nx b9 c0,⟨b8.out.trans (zVV R (by rw[b6];exact e5))⟩⟩
    case measure=>exact meq
   have r:=z.out;rw[b8.out,zVW (by rw[b6];exact e5)]at r;clear z;obtain⟨bk,o2,T⟩:=o.row (i:=a) oM;have t:=l.three;have z:=xgv r;clear r;go_wp2_with fail
   refine(zFi _ (yV Cs (d.s a)) _ (T.vec (qN _ _) (xgf _) oM)).mono ?_;rintro e w4 ⟨rfl,d2⟩;have o:=o.I d2;have l:=l.I d2;have q:=q.trans (qK.of Z d2);have r:=z.out;have s:=K.out;clear o2 T t z;rw[N];by_cases e3:L=(c:Int)
   .subst e3
    rw[zB ⟨R,b6⟩]at r;have e6:d.s a c≠0:=by
     rcases zCp Cs d.s a with⟨h1,-⟩|⟨j,h1,-,C,-⟩
     omega;obtain rfl:j=c:=oM;exact C
    by_cases b0:zEn B n Cs Ct d m a (-(d.s m c/d.s a c))
    .rw[zB b0]at r
     have z:=xgv r;have d4:=xgv b0;have SX:jI (Sm (d.s m c)):=⟨hB.sm _ (s.1 m D c a4)⟩;have SY:jI (Sm (d.s a c)):=⟨hB.sm _ (s.1 a oM c a4)⟩;have SQ:jI (Sm (d.s m c/d.s a c)):=⟨hB.sm _ (by have:=b0.1;rwa[zY]at this)⟩;clear r b0 s;obtain⟨bm,o1,H⟩:=o.row D;obtain⟨bk,o2,T⟩:=o.row (i:=a) oM;have t:=l.three;obtain⟨xs,xa,xl,xc,v1,v2,-,-,I⟩:=H.cell (yO a4);obtain⟨ys,ya,yl,yc,r1,r2,-,-,hy⟩:=T.cell (yO a4);have h9:=zML (d.s m c) (d.s a c);have l0:=l.lt;have l1:=H.lt;have l2:=T.lt;have lg:=o.glt D;have f9:=xgv e6;have d3:a<n:=oM;clear e6 b8;go_upto_region 8 with(fail)
     refine zBP [pcD 16 [] (DMV (d.s m c) (d.s a c)),pcD 17 [16] (DMV (d.s m c) (d.s a c)),pcD 18 [17] (fun w v=>jE w v (d.s m c/d.s a c)),pcD 19 [17] (fun w v=>jE w v (d.s m c%d.s a c)),pcD 20 [17] (fun _ v=>v=niq 0),pbA 21 43 2,pbA 22 43 2,pbS 23 21 43 2,pbS 24 22 43 2] ?_;refine sRd ?_;refine sRc (fun wS hI Gk G=>by go_simp;exact ck G (zL9 _ _ (d.s m c) (d.s a c) _ (I.ext hI.lext).J (hy.ext hI.lext).J SX.out SY.out f9.out)) (fun k1 _=>?_);refine sRc (fun wS hI e2 Gk G=>?_) (fun k2 _=>?_)
     .go_simp
      exact⟨G _ _ e2,zC _ _⟩
     refine sRc (fun wS hI a2 Gk G=>?_) (fun k3 F=>?_)
     .obtain⟨f3,f4,rfl,hq,hr⟩:=a2
      go_simp;exact⟨G _ _ hq,zC _ _⟩
     obtain⟨f5,f7,rfl,g9⟩:=zJD F;clear F;refine sRc (fun wS hI a2 Gk G=>?_) (fun k4 F=>?_)
     .obtain⟨f3,f4,rfl,hq,hr⟩:=a2
      go_simp;exact⟨G _ _ hr,zC _ _⟩
     obtain⟨f6,f8,rfl,h0⟩:=zJD F;clear F;refine sRc (fun wS hI a2 Gk G=>?_) (fun _ F=>?_)
     .obtain⟨f3,f4,rfl,hq,hr⟩:=a2
      go_simp;exact⟨G _ _ rfl,zC _ _⟩
     obtain⟨_,-,rfl⟩:=F;refine sRa (cs:=#[.bool false,.slice none 0 0]) fun c6 h7=>?_
     refine sRa (cs:=#[.bool false,.slice none 0 0]) fun b4 h8=>?_
     refine sRs c6 (.agg #[f5,f7]) ?_ g9;refine sRs b4 (.agg #[f6,f8]) ?_ h0;refine sRd ?_;refine sRb ?_;simp only[FA,FC,FN,ptr,List.nil_append,List.cons_append,Act.put,xgh,xgi,xgj];intro w9 c2 e2 a2 g1 g2 _ c4 c5 f2 g8;replace c4:Blk w9 c6 43 #[f5,f7]:=c4 _ rfl;have e8:=g1;replace c5:Blk w9 b4 43 #[f6,f8]:=c5 _ rfl;have e9:=g2;have i7:c6≠b4:=f2 (22,b4) sI;clear f2 g8;obtain⟨qs,qa,ql,qc,rfl,rfl⟩:=e8.two;obtain⟨rs,ra,rl,rc,rfl,rfl⟩:=e9.two;have o:=o.I c2;have l:=l.I c2;have q:=q.trans (qK.of Z c2);have lq:=c4.lt;have lr:=c5.lt;have i6:=c2.size;clear o1 o2 t v1 v2 r1 r2;have t:=l.three;have d1:=c4.two;have l0:=l.lt;go_upto_region 9 with(fail)
     refine yA 5 [pcI 4 (-(d.s m c/d.s a c))] ?_;refine sRd ?_;refine sRc (fun wS hI Gk G=>by go_simp;exact ck G (zBk _ (d.s m c/d.s a c) _ (e8.ext hI.lext).J SQ.out)) (fun k5 _=>?_);refine sRe ?_;intro k6 a3 g6;have o:=o.I a3;have l:=l.I a3;have q:=q.trans (qK.of Z a3);have i5:=a3.size;clear t d1;go_wp2_with fail
     refine(qA7 hB o K.out D d3 oM g6 S c7 c8 d4.out).mono ?_;rintro e k7 ⟨⟨i8,rfl⟩,b7,o⟩;have s:=d4.out.ok;have q:=q.trans b7;have l:=b7.blk l (fun u=>by have:=O _ u;omega);have g7:=b7.blk (c5.I a3) (fun u=>by have:=O _ u;omega);have ir:=(e9.ext (lx a3)).ext b7.lext;have e1:=g7.two;have a1:=xgv s;clear s;go_wp2_with fail
     refine(zAw _ (d.s m c%d.s a c) _ ir.J).mono ?_;rintro e k8 ⟨rfl,d0⟩;have o:=o.I d0;have l:=l.I d0;have q:=q.trans (qK.of Z d0);clear e1;by_cases a5:d.s m c%d.s a c=0
     .rw[zBL a5]
      rw[zB a5]at z;clear a5;go_wp2;go_step3;refine⟨rfl,⟨f,(a0.out _ _ _).2 ⟨a,d.add m a (-(d.s m c/d.s a c)),_,_,_,_,_,_,_,_,_,_,_,_,_,_,_,_,_,_,_,_,_,_,_,_,_,_,_,_,_,_,_,_,_,_,_,_,_,_,_,_,_,_,_,_,_,_,_,_,_,_,_,_,_,_,_,_,_,_,_,_,_,_,_,_,_,_,_,_,_,_,_,_,_,_,rfl,zAi R,q,l,o,⟨a1.out,z.out⟩⟩⟩,zFL ((a0.out _ _ _).2 ⟨a,d.add m a (-(d.s m c/d.s a c)),_,_,_,_,_,_,_,_,_,_,_,_,_,_,_,_,_,_,_,_,_,_,_,_,_,_,_,_,_,_,_,_,_,_,_,_,_,_,_,_,_,_,_,_,_,_,_,_,_,_,_,_,_,_,_,_,_,_,_,_,_,_,_,_,_,_,_,_,_,_,_,_,_,_,rfl,zAi R,q,l,o,⟨a1.out,z.out⟩⟩) (zA0 f)⟩
     have hc:=zCm a5;obtain⟨U,Q⟩:∃U,zAv (d.s m c%d.s a c) 0=U:=⟨_,rfl⟩;rw[Q]at hc ⊢
     rw[zA a5]at z;clear Q a5;have t:=l.three;go_wp2_with fail
     refine(zWk o D d3 S).mono ?_;rintro e k9 ⟨⟨i9,rfl⟩,d9,o⟩;have a1:=xgv (zHv a1.out D d3);have q:=q.trans d9;have l:=d9.blk l (fun u=>by have:=O _ u;omega);go_wp2;go_step3;refine⟨rfl,⟨f,(a0.out _ _ _).2 ⟨a,(d.add m a (-(d.s m c/d.s a c))).swap m a,_,_,_,_,_,_,_,_,_,_,_,_,_,_,_,_,_,_,_,_,_,_,_,_,_,_,_,_,_,_,_,_,_,_,_,_,_,_,_,_,_,_,_,_,_,_,_,_,_,_,_,_,_,_,_,_,_,_,_,_,_,_,_,_,_,_,_,_,_,_,_,_,_,_,rfl,zAi R,q,l,o,⟨a1.out,z.out⟩⟩⟩,zFL ((a0.out _ _ _).2 ⟨a,(d.add m a (-(d.s m c/d.s a c))).swap m a,_,_,_,_,_,_,_,_,_,_,_,_,_,_,_,_,_,_,_,_,_,_,_,_,_,_,_,_,_,_,_,_,_,_,_,_,_,_,_,_,_,_,_,_,_,_,_,_,_,_,_,_,_,_,_,_,_,_,_,_,_,_,_,_,_,_,_,_,_,_,_,_,_,_,rfl,zAi R,q,l,o,⟨a1.out,z.out⟩⟩) (zA0 f)⟩
    rw[zA b0]at r;cases r
   have b2:¬ (a<rank/\lead Cs d.s a=(c:Int)):=fun u=>e3 (b6.symm.trans u.2)
   rw[zA b2]at r;injection r with r
   injection r with X b3
   subst b3;have z:=xgv X;clear X b2;have t:=l.three;obtain⟨bm,o1,H⟩:=o.row D;obtain⟨zs,za,zl,zc,v1,v2,-,-,F⟩:=H.cell (yO a4);go_wp2_with fail
   refine(zAw _ (d.s m c) _ F.J).mono ?_;rintro e w5 ⟨rfl,W⟩;have o:=o.I W;have l:=l.I W;have q:=q.trans (qK.of Z W);clear v1 v2 o1 H F t;obtain⟨x2,E⟩:∃x2:Bst,x2=(if d.s m c<0 then d.neg m else d):=⟨_,rfl⟩;rw[<-E]at z;by_cases A:d.s m c<0;case' pos=>
    rw[zBj A];rw[zB A]at E;have t:=l.three;go_wp2_with fail
    refine(qBC hB o s D S c7 c8).mono ?_;rintro e w6 ⟨⟨uu,rfl⟩,a7,o⟩;have s:=zT2 (i:=m) s;rw[<-E]at o s;have q:=q.trans a7;have l:=a7.blk l (fun u=>by have:=O _ u;omega);clear t E A
   case' neg=>
    rw[zA A]at E;rw[<-E]at o s;have hc:=zJg A;obtain⟨U,Q⟩:∃U,zAv (d.s m c) 0=U:=⟨_,rfl⟩;rw[Q]at hc ⊢
    clear E Q A
   all_goals
    have t:=l.three;go_wp2_with fail
    refine(zWk o D c3 S).mono ?_;rintro e w7 ⟨⟨h2,rfl⟩,a8,o⟩;have s:=zHv s D c3;have q:=q.trans a8;have l:=a8.blk l (fun u=>by have:=O _ u;omega);have K:=xgv s;clear t s;go_wp2;go_loopw [12] (fun iv wt=>∃(i:Nat) (J:Bst),iv=niq i/\a<=i/\i<=rank/\qK Z w wt/\Blk wt w.heap.size 176 #[slq g n sc,.slice uo n tc,.slice io n Y]/\zCh Z wt (slq g n sc) (.slice uo n tc) (.slice io n Y) n Cs Ct J/\jI (okB B n Cs Ct J/\zY7 a (i-a) J=y)) (fun iv _=>(intOf iv).toNat)
    case atStart=>exact⟨rank,_,rfl,e4,xgf _,q,l,o,⟨⟨K.out,z.out⟩⟩⟩
    rename World=>wv
    obtain⟨i,J,rfl,g3,g4,q,l,o,I⟩:=hrel;have t:=l.three;by_cases g5:a<i
    .obtain⟨p,rfl⟩:∃p,i=a+p+1:=⟨i-a-1,oM⟩
     go_wp2_with fail
     refine(zXi (a+p+1) (a+p) o oM oM S oM oM).mono ?_;rintro e w8 ⟨⟨h4,rfl⟩,a9,o⟩;have l:=a9.blk l (fun u=>by have:=O _ u;omega);go_wp2;go_roundw
     case rel=>
      refine⟨a+p,_,?_,oM,oM,q.trans a9,l,o,⟨⟨zHv I.out.1 oM oM,?_⟩⟩⟩
      .first|(simp;done)|(congr 1;omega)
      have C:=I.out.2;rw[show a+p+1-a=p+1 by omega]at C;rw[show a+p-a=p by omega];exact C
     case measure=>exact meq
    obtain rfl:i=a:=oM;have C:=I.out.2;rw[zAL]at C;have a6:=xgv (show J=y from C);clear C;go_wp2;rw[Exit.jump_ret];go_ret;exact⟨rfl,q,by rw[<-a6.out];exact o,by rw[<-a6.out];exact I.out.1⟩
  have r:=z.out;have hA:adv (lead Cs d.s) (c:Int) (rank-a) a=a:=by rw[show rank-a=0 by omega];rfl
  rw[b8.out,hA]at r;have s:=K.out;have b2:¬ (a<rank/\lead Cs d.s a=(c:Int)):=fun u=>R u.1
  clear z hA;go_upto_region 12 with(fail)
  clear R;rw[zA b2]at r;injection r with r
  injection r with X b3
  subst b3;have z:=xgv X;clear X b2;have t:=l.three;obtain⟨bm,o1,H⟩:=o.row D;obtain⟨zs,za,zl,zc,v1,v2,-,-,F⟩:=H.cell (yO a4);go_wp2_with fail
  refine(zAw _ (d.s m c) _ F.J).mono ?_;rintro e w5 ⟨rfl,W⟩;have o:=o.I W;have l:=l.I W;have q:=q.trans (qK.of Z W);clear v1 v2 o1 H F t;obtain⟨x2,E⟩:∃x2:Bst,x2=(if d.s m c<0 then d.neg m else d):=⟨_,rfl⟩;rw[<-E]at z;by_cases A:d.s m c<0;case' pos=>
   rw[zBj A];rw[zB A]at E;have t:=l.three;go_wp2_with fail
   refine(qBC hB o s D S c7 c8).mono ?_;rintro e w6 ⟨⟨uu,rfl⟩,a7,o⟩;have s:=zT2 (i:=m) s;rw[<-E]at o s;have q:=q.trans a7;have l:=a7.blk l (fun u=>by have:=O _ u;omega);clear t E A
  case' neg=>
   rw[zA A]at E;rw[<-E]at o s;have hc:=zJg A;obtain⟨U,Q⟩:∃U,zAv (d.s m c) 0=U:=⟨_,rfl⟩;rw[Q]at hc ⊢
   clear E Q A
  all_goals
   have t:=l.three;go_wp2_with fail
   refine(zWk o D c3 S).mono ?_;rintro e w7 ⟨⟨h2,rfl⟩,a8,o⟩;have s:=zHv s D c3;have q:=q.trans a8;have l:=a8.blk l (fun u=>by have:=O _ u;omega);have K:=xgv s;clear t s;go_wp2;go_loopw [12] (fun iv wt=>∃(i:Nat) (J:Bst),iv=niq i/\a<=i/\i<=rank/\qK Z w wt/\Blk wt w.heap.size 176 #[slq g n sc,.slice uo n tc,.slice io n Y]/\zCh Z wt (slq g n sc) (.slice uo n tc) (.slice io n Y) n Cs Ct J/\jI (okB B n Cs Ct J/\zY7 a (i-a) J=y)) (fun iv _=>(intOf iv).toNat)
   case atStart=>exact⟨rank,_,rfl,e4,xgf _,q,l,o,⟨⟨K.out,z.out⟩⟩⟩
   rename World=>wv
   obtain⟨i,J,rfl,g3,g4,q,l,o,I⟩:=hrel;have t:=l.three;by_cases g5:a<i
   .obtain⟨p,rfl⟩:∃p,i=a+p+1:=⟨i-a-1,oM⟩
    go_wp2_with fail
    refine(zXi (a+p+1) (a+p) o oM oM S oM oM).mono ?_;rintro e w8 ⟨⟨h4,rfl⟩,a9,o⟩;have l:=a9.blk l (fun u=>by have:=O _ u;omega);go_wp2;go_roundw
    case rel=>
     refine⟨a+p,_,?_,oM,oM,q.trans a9,l,o,⟨⟨zHv I.out.1 oM oM,?_⟩⟩⟩
     .first|(simp;done)|(congr 1;omega)
     have C:=I.out.2;rw[show a+p+1-a=p+1 by omega]at C;rw[show a+p-a=p by omega];exact C
    case measure=>exact meq
   obtain rfl:i=a:=oM;have C:=I.out.2;rw[zAL]at C;have a6:=xgv (show J=y from C);clear C;go_wp2;rw[Exit.jump_ret];go_ret;exact⟨rfl,q,by rw[<-a6.out];exact o,by rw[<-a6.out];exact I.out.1⟩
abbrev tN:TypeId:=3
theorem Tryz.infoN:(Tryz.prog.info? tN).map (fun i=>(i.zero,i.size,i.bytes))=some (some (niq 0),1,8):=by kernel_rfl
def zBo(n:Nat)(g:Nat->Int):Array Value:=((List.range n).map fun i=>Value.int .i64 (g i)).toArray
theorem zEe{g:Nat->Int}(h:i<n):(zBo n g)[i]?=some (niq (g i)):=by simp[zBo,h]
theorem zK2{g:Nat->Int}:(zBo n g).setIfInBounds i (niq z)=zBo n (fun t=>if t=i then z else g t):=by
 apply zCd;simp[zBo];intro a b c;by_cases e:a=i
 .subst e;simp[zBo]
 have:i≠a:=fun h=>e h.symm
 simp[zBo,this,e]
theorem qAj(n:Nat):madeCells (Value.int .i64 0).cells (n*1)=zBo n (fun _=>0):=by
 apply zCd;simp[madeCells,zBo];intro i a b;simp[madeCells,zBo,Nat.mod_one,Value.cells]
theorem mkN(m:Int)(n:Nat)(b:m=n)(h:n<=1099511627776)(W:World):
  (Instr.makeSlice 96 (niq m) (niq m)).run Tryz.prog W= .ok (slq W.heap.size n n) (W.alloc (.cells (zBo n (fun _=>0)) tN)):=by
 subst b;obtain⟨f,a,c,d,e⟩:=info_parts Tryz.infoN;have:=zCn (P:=Tryz.prog) 96 tN f _ Tryz.underlying96 a c .i64 .i64 n n (xgf _) (by rw[e];omega) oM W;rw[this,d,qAj]
theorem zEL{g:Nat->Int}(h:∀t,t<n->f t=g t):zBo n f=zBo n g:=by
 unfold zBo;rw[zA7 fun t a=>by rw[h t (yP.1 a)]]
def zIc(f:Nat->Int)(j:Nat):Nat->Int:=fun t=>if t<j then f t else 0
theorem zLu:zBo n (fun t=>if t=j then f j else zIc f j t)=zBo n (zIc f (j+1)):=
 zEL fun t _=>by
  unfold zIc;by_cases h:t=j
  .subst h;rw[zB rfl,zB oM]
  rw[zA h];by_cases a:t<j
  .rw[zB a,zB oM]
  rw[zA a,zA oM]
theorem qH.same(h:qH w base A C bs M)(l:∀b∈bs,w'.heap[b]?=w.heap[b]?)(m:∀g,A.ownBlock=some g->w'.heap[g]?=w.heap[g]?)(x:zBq w w'):qH w' base A C bs M:=by
 refine⟨⟨h.own.1,?_⟩,h.len,fun k b r d j=>by
  obtain⟨a,e,c⟩:=h.row k b r d j;exact⟨a,e,c.old (l b (xgd d)) x⟩,h.nodup,h.cb⟩
 rcases h.own.2 with d|⟨g,f,i,a,e,c⟩
 exact .inl d;exact .inr ⟨g,f,i,a,e,(m g (by rw[a];rfl)).trans c.1,c.2⟩
theorem zCh.same{x:Bst}(h:zCh Z w As At Ai n Cs Ct x)(e:∀k,Z k->w'.heap[k]?=w.heap[k]?)(i:zBq w w'):zCh Z w' As At Ai n Cs Ct x:=by
 obtain⟨⟨l,m,j,⟨o,p,q,r,s,t,u,v,y⟩,f⟩,d⟩:=h;exact⟨⟨l,m,j,⟨qH.same o (fun b a=>e b (f b (.inl a))) (fun g c=>e g (d g (.inl c))) i,qH.same p (fun b a=>e b (f b (.inr (.inl a)))) (fun g c=>e g (d g (.inr (.inl c)))) i,
  qH.same q (fun b a=>e b (f b (.inr (.inr a)))) (fun g c=>e g (d g (.inr (.inr c)))) i,r,s,t,u,v,y⟩,f⟩,d⟩
theorem zTn(h:¬ lead C F i<0):(lead C F i).toNat<C:=by
 obtain⟨c,a,b,-⟩:=zHl h;omega
theorem zR5(hB:BSm B){x:Bst}{rank:Nat}{y:Bst}(hZ:∀b,Z b->b<w.heap.size)(h:zCh Z w As At Ai n Cs Ct x)(D:okB B n Cs Ct x)
  (hr:rank<=n) (hn:n<=1000000) (d4:Cs<=1000000) (d5:Ct<=1000000) (hy:zKS B n Cs Ct rank x=some y):
  CPq 186 #[.agg #[As,At,Ai],.int .i64 rank] w fun e w'=>(∃u,e= .returned u)/\qK Z w w'/\zCh Z w' As At Ai n Cs Ct y/\okB B n Cs Ct y:=by
 obtain⟨so,sc,R,Q,N,M,rfl,rfl,rfl,f2,f3,hg⟩:=h.shape;have HX:=xgv (And.intro D hy);obtain⟨q,b6⟩:∃q:Nat->Int,q=lead Cs x.s:=⟨_,rfl⟩;have HC:=xgv (fun t=>congrFun b6 t);have e3:=fun W=>mkN (rank:Int) rank rfl oM W
 clear D hy b6;go_enter Tryz.func186,Tryz.ntmps186;go_upto_region 2 with(fail)
 refine zF ?_;intro W0 b2;obtain⟨b0,l,f,H⟩:=zAU b2;have o:=h.I b0;have p:=qK.of Z b0;have c0:zBo rank (fun _=>0)=zBo rank (zIc q 0):=zEL fun t _=>by unfold zIc;rw[zA oM]
 rw[c0]at f;clear b2 h e3 c0;go_wp2;go_loopw [16] (fun jv wt=>∃j:Nat,jv= .int .i64 j/\j<=rank/\qK Z w wt/\Blk wt w.heap.size 176 #[.slice so n sc,.slice R n Q,.slice N n M]/\Blk wt (w.heap.size+1) tN (zBo rank (zIc q j))/\zCh Z wt (.slice so n sc) (.slice R n Q) (.slice N n M) n Cs Ct x) (fun jv _=>rank-(intOf jv).toNat)
 case atStart=>exact⟨0,rfl,oM,p,l,f,o⟩
 rename World=>wr
 obtain⟨j,rfl,hj,p,l,f,o⟩:=hrel;by_cases e1:j<rank
 .obtain⟨g,rfl⟩:=hg oM
  obtain⟨bj,o1,E⟩:=o.row (i:=j) oM;have F:=l.three;go_wp2_with fail
  refine(zFi _ (yV Cs (x.s j)) _ (E.vec (qN _ _) (xgf _) oM)).mono ?_;rintro e w1 ⟨rfl,C⟩;have o:=o.I C;have l:=l.I C;have f:=f.I C;have p:=p.trans (qK.of Z C);have hL:zCL 0 (yV Cs (x.s j))=q j:=(HC.out j).symm;rw[hL];clear o1 E F hL;have O:=(f.cell j).trans (zEe e1);have k2:=f.frozen j;have b4:=f.set_ j (.int .i64 (q j));rw[zK2,zLu]at b4;go_wp2;go_roundw
  case rel=>
   have c2:zBq w1 (w1.setCell ⟨w.heap.size+1,j,none⟩ (.int .i64 (q j))):=f.lext dE _ _;have d6:qK Z w (w1.setCell ⟨w.heap.size+1,j,none⟩ (.int .i64 (q j))):=⟨yB p.bel (zH _) _ _,p.lext.trans c2,fun b hb hn=>(qC _ _ _ _ _ oM).trans (p.old b hb hn)⟩;exact⟨j+1,by simp,oM,d6,(qC _ _ _ _ _ oM).trans l,b4,o.same (fun k hk=>qC _ _ _ _ _ (by have:=hZ _ hk;omega)) c2⟩
  case measure=>exact meq
 obtain rfl:j=rank:=oM;have b5:zBo j (zIc q j)=zBo j q:=zEL fun t ht=>by unfold zIc;rw[zB ht]
 rw[b5]at f;clear b5;go_wp2;go_loopw [6] (fun iv wt=>∃(i:Nat) (z:Int) (xi:Bst),iv= .int .i64 z/\z=(i:Int)-1/\i<=j/\qK Z w wt/\Blk wt w.heap.size 176 #[.slice so n sc,.slice R n Q,.slice N n M]/\Blk wt (w.heap.size+1) tN (zBo j q)/\zCh Z wt (.slice so n sc) (.slice R n Q) (.slice N n M) n Cs Ct xi/\jI (okB B n Cs Ct xi/\zY6 B n Cs Ct q j i xi=some y)) (fun iv _=>(intOf iv+1).toNat)
 case atStart=>
  refine⟨j,_,x,rfl,rfl,xgf _,p,l,f,o,⟨⟨HX.out.1,?_⟩⟩⟩;have a:=HX.out.2;unfold zKS at a;rw[show q=lead Cs x.s from funext HC.out];exact a
 rename World=>wr
 obtain⟨i,z,xi,rfl,c3,hi,p,l,f,o,s⟩:=hrel;cases i with
 |zero=>
  obtain rfl:z=-1:=oM;clear c3;have a:=s.out.2;injection a with a
  have r:=xgv a;clear a;go_wp2;exact bodyPost_end (results_none rfl _ _ _) rfl ⟨⟨_,rfl⟩,p,by rw[<-r.out];exact o,by rw[<-r.out];exact s.out.1⟩
 | succ i=>
  obtain rfl:z=(i:Int):=oM;clear c3;have a:=s.out.2;unfold zY6 at a;rw[zAW]at a;obtain⟨a4,h4,h5⟩:=a;have HR:=xgv h5;have HJ:=xgv (And.intro s.out.1 h4);clear h4 h5 s;obtain⟨g,rfl⟩:=hg oM;go_wp2;go_loopw [7] (fun tv wt=>∃(t:Nat) (d:Bst),tv= .int .i64 t/\i+1<=t/\t<=j/\qK Z w wt/\Blk wt w.heap.size 176 #[.slice (some ⟨g,0,none⟩) n sc,.slice R n Q,.slice N n M]/\Blk wt (w.heap.size+1) tN (zBo j q)/\zCh Z wt (.slice (some ⟨g,0,none⟩) n sc) (.slice R n Q) (.slice N n M) n Cs Ct d/\jI (okB B n Cs Ct d/\zWW B n Cs Ct q i (j-t) t d=some a4)) (fun tv _=>j-(intOf tv).toNat)
  case atStart=>exact⟨i+1,xi,by simp,oM,oM,p,l,f,o,HJ⟩
  rename World=>wt
  obtain⟨t,d,rfl,f0,f7,p,l,f,o,s⟩:=hrel;by_cases e2:t<j
  .obtain⟨m,hm⟩:∃m,j-t=m+1:=⟨j-t-1,oM⟩
   have a7:j-(t+1)=m:=oM;have a:=s.out.2;have D:=s.out.1;rw[hm]at a;unfold zWW at a;by_cases Y:q t<0
   .rw[zB Y]at a
    cases a
   rw[zA Y]at a;have K:(q t).toNat<Cs:=by
    have:=HC.out t;rw[this]at Y ⊢
    exact zTn Y
   obtain⟨c,hc⟩:∃c:Nat,q t=(c:Int):=⟨(q t).toNat,oM⟩;rw[hc,zBr]at a K;have r:=xgv a;have T:=xgv D;clear a Y D s;have F:=l.three;have O:=(f.cell t).trans (zEe e2);rw[hc]at O;obtain⟨bi,o1,E⟩:=o.row (i:=i) oM;obtain⟨xs,xa,xl,xc,v1,v2,-,-,s⟩:=E.cell (yO K);have a1:i<n:=oM;go_wp2_with fail
   refine(zAw _ (d.s i c) _ s.J).mono ?_;rintro e w1 ⟨rfl,C⟩;have o:=o.I C;have l:=l.I C;have f:=f.I C;have p:=p.trans (qK.of Z C);have a:=r.out;clear F O o1 E v1 v2 s r;by_cases H:d.s i c=0
   .rw[zB H]at a
    rw[zBL H];have r:=xgv a;clear a H;go_wp2;go_roundw
    case rel=>exact⟨t+1,d,by simp,oM,oM,p,l,f,o,⟨⟨T.out,by rw[a7];exact r.out⟩⟩⟩
    case measure=>exact meq
   rw[zA H]at a;by_cases a2:d.s t c=0
   .rw[zB a2]at a
    cases a
   rw[zA a2]at a;have d9:=zCm H;obtain⟨k0,b7⟩:∃k0,zAv (d.s i c) 0=k0:=⟨_,rfl⟩;rw[b7]at d9 ⊢
   have a8:t<n:=oM;have d2:=xgv a2;have r:=xgv a;have SX:jI (Sm (d.s i c)):=⟨hB.sm _ (T.out.1 i a1 c K)⟩;have SY:jI (Sm (d.s t c)):=⟨hB.sm _ (T.out.1 t a8 c K)⟩;clear a a2 H b7;obtain⟨bi,o1,E⟩:=o.row (i:=i) a1;obtain⟨bk,o2,b9⟩:=o.row (i:=t) a8;have F:=l.three;obtain⟨xs,xa,xl,xc,v1,v2,-,-,s⟩:=E.cell (yO K);obtain⟨ys,ya,yl,yc,r1,r2,-,-,hy⟩:=b9.cell (yO K);have f1:=zML (d.s i c) (d.s t c);have l0:=l.lt;have l3:=f.lt;have l1:=E.lt;have l2:=b9.lt;have lg:=o.glt a1;go_upto_region 15 with(fail)
   refine zBP [pcD 16 [] (DMV (d.s i c) (d.s t c)),pcD 17 [16] (DMV (d.s i c) (d.s t c)),pcD 18 [17] (fun w v=>jE w v (d.s i c/d.s t c)),pcD 19 [17] (fun w v=>jE w v (d.s i c%d.s t c)),pcD 20 [17] (fun _ v=>v= .int .i64 0),pbA 21 43 2,pbA 22 43 2,pbS 23 21 43 2,pbS 24 22 43 2] ?_;refine sRd ?_;refine sRc (fun wS hI S A=>by go_simp;exact ck A (zL9 _ _ (d.s i c) (d.s t c) _ (s.ext hI.lext).J (hy.ext hI.lext).J SX.out SY.out d2.out)) (fun g2 _=>?_);refine sRc (fun wS hI b3 S A=>?_) (fun g3 _=>?_)
   .go_simp
    exact⟨A _ _ b3,zC _ _⟩
   refine sRc (fun wS hI J S A=>?_) (fun g4 I=>?_)
   .obtain⟨c6,a4,rfl,hq,hr⟩:=J
    go_simp;exact⟨A _ _ hq,zC _ _⟩
   obtain⟨c7,c9,rfl,e6⟩:=zJD I;clear I;refine sRc (fun wS hI J S A=>?_) (fun g5 I=>?_)
   .obtain⟨c6,a4,rfl,hq,hr⟩:=J
    go_simp;exact⟨A _ _ hr,zC _ _⟩
   obtain⟨c8,d0,rfl,e7⟩:=zJD I;clear I;refine sRc (fun wS hI J S A=>?_) (fun _ I=>?_)
   .obtain⟨c6,a4,rfl,hq,hr⟩:=J
    go_simp;exact⟨A _ _ rfl,zC _ _⟩
   obtain⟨_,-,rfl⟩:=I;refine sRa (cs:=#[.bool false,.slice none 0 0]) fun a5 e8=>?_
   refine sRa (cs:=#[.bool false,.slice none 0 0]) fun a0 e9=>?_
   refine sRs a5 (.agg #[c7,c9]) ?_ e6;refine sRs a0 (.agg #[c8,d0]) ?_ e7;refine sRd ?_;refine sRb ?_;simp only[FA,FC,FN,ptr,List.nil_append,List.cons_append,Act.put,xgh,xgi,xgj];intro w9 X b3 J d7 d8 _ P c4 c5 e5;replace P:Blk w9 a5 43 #[c7,c9]:=P _ rfl;have a3:=d7;replace c4:Blk w9 a0 43 #[c8,d0]:=c4 _ rfl;have f8:=d8;have f9:a5≠a0:=c5 (22,a0) sI;clear c5 e5;obtain⟨qs,qa,ql,qc,rfl,rfl⟩:=a3.two;have o:=o.I X;have l:=l.I X;have f:=f.I X;have p:=p.trans (qK.of Z X);have lq:=P.lt;have f6:=X.size;clear o1 o2 F v1 v2 r1 r2;have d1:=P.two;go_wp2_with fail
   refine(zAw _ (d.s i c/d.s t c) _ a3.J).mono ?_;rintro e g7 ⟨rfl,G⟩;have o:=o.I G;have l:=l.I G;have f:=f.I G;have p:=p.trans (qK.of Z G);have kq:=P.I G;have iq:=a3.ext (lx G);have a:=r.out;clear d1 r P a3;have f4:=G.size;by_cases L:d.s i c/d.s t c=0
   .rw[zB L]at a
    rw[zBL L];have r:=xgv a;clear a L;go_wp2;go_roundw
    case rel=>exact⟨t+1,d,by simp,oM,oM,p,l,f,o,⟨⟨T.out,by rw[a7];exact r.out⟩⟩⟩
    case measure=>exact meq
   rw[zA L]at a;by_cases U:zEn B n Cs Ct d i t (-(d.s i c/d.s t c))
   .rw[zB U]at a
    have e0:=zCm L;obtain⟨O,b8⟩:∃O,zAv (d.s i c/d.s t c) 0=O:=⟨_,rfl⟩;rw[b8]at e0 ⊢
    have r:=xgv a;have a9:=xgv U;have SQ:jI (Sm (d.s i c/d.s t c)):=⟨hB.sm _ (by have:=U.1;rwa[zY]at this)⟩;clear a U L b8;have F:=l.three;have d1:=kq.two;have lq:=kq.lt;have l0:=l.lt;go_upto_region 17 with(fail)
    refine yA 5 [pcI 4 (-(d.s i c/d.s t c))] ?_;refine sRd ?_;refine sRc (fun wS hI S A=>by go_simp;exact ck A (zBk _ (d.s i c/d.s t c) _ (iq.ext hI.lext).J SQ.out)) (fun g6 _=>?_);refine sRe ?_;intro g8 V e4;have o:=o.I V;have l:=l.I V;have f:=f.I V;have p:=p.trans (qK.of Z V);have f5:=V.size;clear F d1;go_wp2_with fail
    refine(qA7 hB o T.out a1 a8 oM e4 hn d4 d5 a9.out).mono ?_;rintro e g9 ⟨⟨g1,rfl⟩,a6,o⟩;have D:=a9.out.ok;have p:=p.trans a6;have l:=a6.blk l (fun hh=>by have:=hZ _ hh;omega);have f:=a6.blk f (fun hh=>by have:=hZ _ hh;omega);have d3:=xgv D;clear D;go_wp2;go_roundw
    case rel=>exact⟨t+1,_,by simp,oM,oM,p,l,f,o,⟨⟨d3.out,by rw[a7];exact r.out⟩⟩⟩
    case measure=>exact meq
   rw[zA U]at a;cases a
  obtain rfl:t=j:=oM;have a:=s.out.2;rw[zAL]at a;injection a with a
  have r:=xgv a;clear a;go_wp2;go_roundw
  case rel=>exact⟨i,_,d,rfl,oM,oM,p,l,f,o,⟨⟨s.out.1,by rw[r.out];exact HR.out⟩⟩⟩
  case measure=>simp[intOf]
end Go.Proofs.YtkidaebmhlijlaaGreat
