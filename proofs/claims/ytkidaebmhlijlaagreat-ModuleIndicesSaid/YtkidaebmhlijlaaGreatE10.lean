/- Joined. -/
import Derived.Test.YtkidaebmhlijlaaGreatE08
set_option linter.unusedVariables false
set_option linter.unusedSimpArgs false
set_option linter.unusedSectionVars false
set_option maxHeartbeats 16000000
set_option maxRecDepth 100000
variable{cs cs':Array Go.Value}{C R:Int}{M:List (List Int)}{zs:List Int}{b b' g k n o:Nat}{t t':Go.TypeId}{c0 c1 c2 c3 c4 c5 c6 c7 c8:Go.Value}{w:Go.World}
namespace Go.Proofs.YtkidaebmhlijlaaGreat
open Go.RowKit
theorem zSu(h:Blk w b t cs)(a:Blk w b' t' cs')(c:t'≠t):b'≠b:=by
 rintro rfl;have e:=congrArg (fun o:Option Obj=>match o with|some (Obj.cells _ t _)=>t|_=>0) (a.symm.trans h);exact c e
theorem Blk.wrT{a:Array Value}(h:Blk w b' t' a)(c:Blk w b t cs)(d:t'≠t):Blk (wr w b t cs') b' t' a:=(zID (zSu c h d)).trans h
theorem jY.wrT(h:jY w b' zs)(c:Blk w b t cs)(f:tI≠t)(g:t≠tU):jY (wr w b t cs') b' zs:=by
 obtain⟨d,a,e⟩:=h;exact jY.old ⟨d,a,e⟩ (zID (zSu c a f)) (zPr c g)
theorem jY.wrM(h:jY w b' zs)(i:Blk w b t cs)(m:cs.size<2*zs.length)(k:t≠tU):jY (wr w b t cs') b' zs:=by
 obtain⟨d,f,g⟩:=h;refine jY.old ⟨d,f,g⟩ (zID ?_) (zPr i k);rintro rfl;have e:=congrArg (fun o:Option Obj=>match o with|some (Obj.cells c _ _)=>c|_=>#[]) (f.symm.trans i);replace e:d=cs:=e;obtain⟨s,a,l,c,-,j,-⟩:=g (zs.length-1) _ (xga (show zs.length-1<zs.length by omega));have:=(Array.getElem?_eq_some_iff.1 j).1;rw[e]at this;omega
theorem zBy.wrT{v:Value}(h:zBy w v zs)(d:Blk w b t cs)(f:tI≠t)(g:t≠tU):zBy (wr w b t cs') v zs:=by
 obtain⟨a,n,c,i,j,k,l,m⟩:=h;exact⟨a,n,c,i,j,k,l,fun e=>(m e).elim fun b' h=>⟨b',h.1,h.2.wrT d f g⟩⟩
theorem zAQ.wrG{v:Value}(h:zAQ w v R C M)(p:Blk w b t cs)(r:∀(b':Nat) (zs:List Int),zs∈M->jY w b' zs->jY (wr w b t cs') b' zs)(s:46≠t):zAQ (wr w b t cs') v R C M:=by
 obtain⟨A,o,d,n,f,E,F,G,H,I⟩:=h;refine⟨A,o,d,n,f,E,F,G,H,fun q=>?_⟩;obtain⟨b',i,j,a,l⟩:=I q;refine⟨b',i,j,(zID (zSu p a s)).trans a,fun k zs c=>?_⟩;obtain⟨K,m,e,J,g,x,y,z,B,D⟩:=l k zs c;exact⟨K,m,e,J,g,x,y,z,B,fun u=>(D u).elim fun b' h=>⟨b',h.1,r _ _ (xgd c) h.2⟩⟩
theorem zAQ.wrT{v:Value}(h:zAQ w v R C M)(a:Blk w b t cs)(c:tI≠t)(d:46≠t)(e:t≠tU):zAQ (wr w b t cs') v R C M:=h.wrG a (fun _ _ _ h=>h.wrT a c e) d
theorem zFI(z:Int):zAj (fun w v=>jE w v z):=fun _ _ _ e h=>h.ext (lx e)
theorem zGD(x:Value):zAj (fun _ v=>v=x):=fun _ _ _ _ h=>h
theorem zCt(R C:Int)(M:List (List Int)):zAj (fun w v=>zAQ w v R C M):=fun _ _ _ e h=>h.I e
theorem zCc(zs:List Int):zAj (fun w v=>zBy w v zs):=fun _ _ _ e h=>h.I e
def zIy(N:Nat)(vs:List VS):Bool:=decide (vs.map (·.slot)).Nodup && decide (vs.map (·.op)).Nodup && (vs.map (·.slot)).all (fun s=>decide (s<N))
structure RV(W:World)(T0:Array Value)(vs:List VS)(L:Array Bool)(T:Array Value)(w:World):Prop where
 wf:zIy T0.size vs=true
 lv:∀s∈vs,zAj s.P
 size:T.size=T0.size
 keep:∀j,(∀s∈vs,s.slot≠j)->T[j]?=T0[j]?
 bel:BWq W w
 val:∀s∈vs,L[s.op]?=some true->∃v,T[s.slot]?=some v/\s.P w v
section
variable {W:World} {T0:Array Value} {vs:List VS} {L:Array Bool} {T:Array Value} {w w':World}
theorem RV.start(a:zIy T0.size vs=true:=by kernel_rfl)(hv:∀s∈vs,zAj s.P:=by repeat' (first|exact zFI _|exact zGD _|exact zCt _ _ _|exact zCc _|assumption|refine xgm.2 ⟨?_,?_⟩|exact xgn _)):RV W T0 vs (Array.replicate n false) T0 W.drew:=
 ⟨a,hv,rfl,fun _ _=>rfl,dr _,fun s _ h=>by
  rw[Array.getElem?_replicate]at h;split at h<;>simp at h⟩
theorem RV.world(h:RV W T0 vs L T w)(a:BWq w w'):RV W T0 vs L T w':=
 ⟨h.wf,h.lv,h.size,h.keep,nx h.bel a,fun s b e=>by
  obtain⟨v,c,d⟩:=h.val s b e;exact⟨v,c,h.lv s b _ _ _ a d⟩⟩
theorem RV.value{v:Value}(h:RV W T0 vs L T w)(s:VS)(b:s∈vs)(l:s.op=k)(i:s.P w v):RV W T0 vs (L.setIfInBounds k true) (T.setIfInBounds s.slot v) w:=by
 subst l;have f:=h.wf;unfold zIy at f;simp only[Bool.and_eq_true,decide_eq_true_eq,List.all_eq_true]at f;obtain⟨⟨q,r⟩,x⟩:=f;have n:s.slot<T0.size:=x _ (List.mem_map.2 ⟨s,b,rfl⟩);refine⟨h.wf,h.lv,by simp[h.size],fun j a=>by rw[xgc (a s b)];exact h.keep j a,h.bel,?_⟩;intro t d m;by_cases c:t=s
 .subst c
  exact⟨v,by rw[Array.getElem?_setIfInBounds_self_of_lt (by rw[h.size];exact n)],i⟩
 have o:t.op≠s.op:=fun e=>c (yN r d b e)
 have p:t.slot≠s.slot:=fun e=>c (yN q d b e)
 obtain⟨u,a,g⟩:=h.val t d (zAE m (qF o));exact⟨u,by rw[xgc (qF p)];exact a,g⟩
theorem RV.v{s:VS}(h:RV W T0 vs L T w)(b:s∈vs)(a:L[s.op]?=some true):∃v,T[s.slot]?=some v/\s.P w v:=h.val s b a
theorem RV.y{v:Value}(h:RV W T0 vs L T w){s:VS}(c:s∈vs)(a:s.P w v)(b:s.op=k:=by rfl):RV W T0 vs (L.setIfInBounds k true) (T.setIfInBounds s.slot v) w:=h.value s c b a
theorem RV.cell{v:Value}(h:RV W T0 vs L T w)(hc:W.cell? ⟨b,o,none⟩=some v):w.cell? ⟨b,o,none⟩=some v:=jP hc h.bel
end
theorem Blk.all9(h:Blk w g t #[c0,c1,c2,c3,c4,c5,c6,c7,c8]):
  (w.cell? ⟨g,0,none⟩=some c0/\w.cell? ⟨g,1,none⟩=some c1/\w.cell? ⟨g,2,none⟩=some c2/\w.cell? ⟨g,3,none⟩=some c3/\w.cell? ⟨g,4,none⟩=some c4/\w.cell? ⟨g,5,none⟩=some c5/\w.cell? ⟨g,6,none⟩=some c6/\w.cell? ⟨g,7,none⟩=some c7/\w.cell? ⟨g,8,none⟩=some c8)/\(w.frozen? ⟨g,0,none⟩=false/\w.frozen? ⟨g,1,none⟩=false/\w.frozen? ⟨g,2,none⟩=false/\w.frozen? ⟨g,3,none⟩=false/\w.frozen? ⟨g,4,none⟩=false/\w.frozen? ⟨g,5,none⟩=false/\w.frozen? ⟨g,6,none⟩=false/\w.frozen? ⟨g,7,none⟩=false/\w.frozen? ⟨g,8,none⟩=false):=
 ⟨⟨h.cell 0,h.cell 1,h.cell 2,h.cell 3,h.cell 4,h.cell 5,h.cell 6,h.cell 7,h.cell 8⟩,⟨h.frozen 0,h.frozen 1,h.frozen 2,h.frozen 3,h.frozen 4,h.frozen 5,h.frozen 6,h.frozen 7,h.frozen 8⟩⟩
theorem Blk.put9(h:Blk w g t #[c0,c1,c2,c3,c4,c5,c6,c7,c8])(x0 a b c d e f i j:Value):Blk (((((((((w.setCell ⟨g,0,none⟩ x0).setCell ⟨g,1,none⟩ a).setCell ⟨g,2,none⟩ b).setCell ⟨g,3,none⟩ c).setCell ⟨g,4,none⟩ d).setCell ⟨g,5,none⟩ e).setCell ⟨g,6,none⟩ f).setCell ⟨g,7,none⟩ i).setCell ⟨g,8,none⟩ j) g t #[x0,a,b,c,d,e,f,i,j]:=by
 simpa using(((((((((h.set_ 0 x0).set_ 1 a).set_ 2 b).set_ 3 c).set_ 4 d).set_ 5 e).set_ 6 f).set_ 7 i).set_ 8 j)
theorem Blk.lext9(h:Blk w g t cs)(a:t≠tU)(x0 b c d e f i j k:Value):zBq w (((((((((w.setCell ⟨g,0,none⟩ x0).setCell ⟨g,1,none⟩ b).setCell ⟨g,2,none⟩ c).setCell ⟨g,3,none⟩ d).setCell ⟨g,4,none⟩ e).setCell ⟨g,5,none⟩ f).setCell ⟨g,6,none⟩ i).setCell ⟨g,7,none⟩ j).setCell ⟨g,8,none⟩ k):=
 (((((((((h.lext a 0 x0).trans ((h.set_ 0 x0).lext a 1 b)).trans (((h.set_ 0 x0).set_ 1 b).lext a 2 c)).trans ((((h.set_ 0 x0).set_ 1 b).set_ 2 c).lext a 3 d)).trans (((((h.set_ 0 x0).set_ 1 b).set_ 2 c).set_ 3 d).lext a 4 e)).trans ((((((h.set_ 0 x0).set_ 1 b).set_ 2 c).set_ 3 d).set_ 4 e).lext a 5 f)).trans (((((((h.set_ 0 x0).set_ 1 b).set_ 2 c).set_ 3 d).set_ 4 e).set_ 5 f).lext a 6 i)).trans ((((((((h.set_ 0 x0).set_ 1 b).set_ 2 c).set_ 3 d).set_ 4 e).set_ 5 f).set_ 6 i).lext a 7 j)).trans (((((((((h.set_ 0 x0).set_ 1 b).set_ 2 c).set_ 3 d).set_ 4 e).set_ 5 f).set_ 6 i).set_ 7 j).lext a 8 k))
theorem zQe(w:World)(g k:Nat)(x0 b c d e f h i j:Value)(a:k≠g):((((((((((w.setCell ⟨g,0,none⟩ x0).setCell ⟨g,1,none⟩ b).setCell ⟨g,2,none⟩ c).setCell ⟨g,3,none⟩ d).setCell ⟨g,4,none⟩ e).setCell ⟨g,5,none⟩ f).setCell ⟨g,6,none⟩ h).setCell ⟨g,7,none⟩ i).setCell ⟨g,8,none⟩ j)).heap[k]?=w.heap[k]?:=
 ((qC _ g 8 k j a).trans ((qC _ g 7 k i a).trans ((qC _ g 6 k h a).trans ((qC _ g 5 k f a).trans ((qC _ g 4 k e a).trans ((qC _ g 3 k d a).trans ((qC _ g 2 k c a).trans ((qC _ g 1 k b a).trans (qC _ g 0 k x0 a)))))))))
theorem zXF{B:Nat}{a:World}(h:Below B a w)(b:B<=g)(x0 c d e f i j k l:Value):Below B a (((((((((w.setCell ⟨g,0,none⟩ x0).setCell ⟨g,1,none⟩ c).setCell ⟨g,2,none⟩ d).setCell ⟨g,3,none⟩ e).setCell ⟨g,4,none⟩ f).setCell ⟨g,5,none⟩ i).setCell ⟨g,6,none⟩ j).setCell ⟨g,7,none⟩ k).setCell ⟨g,8,none⟩ l):=
 (yB (yB (yB (yB (yB (yB (yB (yB (yB h b 0 x0) b 1 c) b 2 d) b 3 e) b 4 f) b 5 i) b 6 j) b 7 k) b 8 l)
structure Cpy where
 k:Nat
 s:Nat
 d:Nat
 t:Nat
def Cpy.fine(vs:List VS)(c:Cpy):Bool:=vs.any (fun a=>a.op==c.k && a.slot==c.s) && vs.any (fun a=>a.op==c.d && a.slot==c.t) && !(c.k==c.d)
theorem zSo{vs:List VS}{s:Nat}(h:vs.any (fun a=>a.op==k && a.slot==s)=true):∃P,(⟨k,s,P⟩:VS)∈vs:=by
 obtain⟨a,b,e⟩:=zAz.1 h;simp only[Bool.and_eq_true,beq_iff_eq]at e;obtain⟨rfl,rfl⟩:=e;exact⟨a.P,b⟩
theorem Cpy.fine_all{vs:List VS}{a:List Cpy}(h:a.all (Cpy.fine vs)=true){c:Cpy}(hc:c∈a):(∃P,(⟨c.k,c.s,P⟩:VS)∈vs)/\(∃P,(⟨c.d,c.t,P⟩:VS)∈vs)/\c.k≠c.d:=by
 have:=zAB.1 h c hc;unfold Cpy.fine at this;simp only[Bool.and_eq_true]at this;exact⟨zSo this.1.1,zSo this.1.2,by have:=this.2;simpa using this⟩
structure RVP(ka sa kb sb:Nat)(Q:Value->Value->Prop)(cp:List Cpy)(W:World)(T0:Array Value)(vs:List VS)(L:Array Bool)(T:Array Value)(w:World):Prop where
 rv:RV W T0 vs L T w
 ma:∃P,(⟨ka,sa,P⟩:VS)∈vs
 mb:∃P,(⟨kb,sb,P⟩:VS)∈vs
 ne:ka≠kb
 mc:cp.all (Cpy.fine vs)=true
 pair:L[ka]?=some true->L[kb]?=some true->∃u v,T[sa]?=some u/\T[sb]?=some v/\Q u v
 cpy:∀c∈cp,L[c.k]?=some true->L[c.d]?=some true/\T[c.s]?=T[c.t]?
section
variable {ka sa kb sb:Nat} {Q:Value->Value->Prop} {cp:List Cpy} {W:World} {T0:Array Value} {vs:List VS} {L:Array Bool} {T:Array Value} {w w':World}
theorem RVP.start(b:zIy T0.size vs=true)(hv:∀s∈vs,zAj s.P)(c:∃P,(⟨ka,sa,P⟩:VS)∈vs)(d:∃P,(⟨kb,sb,P⟩:VS)∈vs)(f:ka≠kb)(e:cp.all (Cpy.fine vs)=true):RVP ka sa kb sb Q cp W T0 vs (Array.replicate n false) T0 W.drew:=
 have a:∀k,¬ (Array.replicate n false)[k]?=some true:=fun k h=>by
  rw[Array.getElem?_replicate]at h;split at h<;>simp at h
 ⟨RV.start b hv,c,d,f,e,fun h _=>absurd h (a _),fun _ _ h=>absurd h (a _)⟩
theorem RVP.world(h:RVP ka sa kb sb Q cp W T0 vs L T w)(a:BWq w w'):RVP ka sa kb sb Q cp W T0 vs L T w':=⟨h.rv.world a,h.ma,h.mb,h.ne,h.mc,h.pair,h.cpy⟩
theorem RVP.cell(h:RVP ka sa kb sb Q cp W T0 vs L T w){v:Value}(hc:W.cell? ⟨b,o,none⟩=some v):w.cell? ⟨b,o,none⟩=some v:=h.rv.cell hc
theorem RVP.bel(h:RVP ka sa kb sb Q cp W T0 vs L T w):BWq W w:=h.rv.bel
theorem RVP.size(h:RVP ka sa kb sb Q cp W T0 vs L T w):T.size=T0.size:=h.rv.size
theorem RVP.keep(h:RVP ka sa kb sb Q cp W T0 vs L T w):∀j,(∀s∈vs,s.slot≠j)->T[j]?=T0[j]?:=h.rv.keep
theorem RVP.val(h:RVP ka sa kb sb Q cp W T0 vs L T w):∀s∈vs,L[s.op]?=some true->∃v,T[s.slot]?=some v/\s.P w v:=h.rv.val
theorem RVP.value{v:Value}(h:RVP ka sa kb sb Q cp W T0 vs L T w)(s:VS)(b:s∈vs)(G:s.op=k)(U:s.P w v)
  (J:∀u,(k=ka->T[sb]?=some u->L[kb]?=some true->Q v u)/\(k=kb->T[sa]?=some u->L[ka]?=some true->Q u v):=by intro u;exact⟨fun e=>absurd e dE,fun e=>absurd e dE⟩)
  (S:L[k]?=some false:=by assumption) (hc:cp.all (fun c=>!(c.k==k))=true∨∀c∈cp,c.k=k->L[c.d]?=some true/\T[c.t]?=some v:=by first|exact .inl rfl|exact .inl dE):
  RVP ka sa kb sb Q cp W T0 vs (L.setIfInBounds k true) (T.setIfInBounds s.slot v) w:=by
 have X:=h.rv.value s b G U;subst G;obtain⟨N,q⟩:=h.ma;obtain⟨O,r⟩:=h.mb;have B:=h.rv.wf;unfold zIy at B;simp only[Bool.and_eq_true,decide_eq_true_eq,List.all_eq_true]at B;obtain⟨⟨g,D⟩,Y⟩:=B;have A:s.slot<T.size:=by rw[h.rv.size];exact Y _ (List.mem_map.2 ⟨s,b,rfl⟩)
 have F:sb≠sa:=fun e=>h.ne (congrArg VS.op (yN g q r e.symm))
 have H:∀{j:Nat},L[j]?=some true->j≠s.op:=fun l e=>by rw[e,S]at l;cases l
 have K:∀{j:Nat},L[j]?=some true->(L.setIfInBounds s.op true)[j]?=some true:=fun {j} l=>by rw[xgc (qF (H l))];exact l
 refine⟨X,h.ma,h.mb,h.ne,h.mc,fun t E=>?_,fun c p t=>?_⟩
 .by_cases a:s.op=ka
  .have es:s=⟨ka,sa,N⟩:=yN D b q a
   have d:s.slot=sa:=by rw[es]
   have I:L[kb]?=some true:=zAE E (by rw[a];exact h.ne);obtain⟨u,m,-⟩:=h.rv.val _ r I;exact⟨v,u,by rw[d,Array.getElem?_setIfInBounds_self_of_lt (by rw[<-d];exact A)],by rw[d,xgc (qF F)];exact m,(J u).1 a m I⟩
  have z:L[ka]?=some true:=zAE t a;obtain⟨u,m,-⟩:=h.rv.val _ q z;by_cases o:s.op=kb
  .have es:s=⟨kb,sb,O⟩:=yN D b r o
   have d:s.slot=sb:=by rw[es]
   exact⟨u,v,by rw[d,xgc F];exact m,by rw[d,Array.getElem?_setIfInBounds_self_of_lt (by rw[<-d];exact A)],(J u).2 o m z⟩
  obtain⟨x,y,f,i,R⟩:=h.pair z (zAE E o);have C:s.slot≠sa:=fun e=>a (congrArg VS.op (yN g b q e))
  have n:s.slot≠sb:=fun e=>o (congrArg VS.op (yN g b r e))
  exact⟨x,y,by rw[xgc C];exact f,by rw[xgc n];exact i,R⟩
 obtain⟨⟨P,mk⟩,⟨Z,M⟩,V⟩:=Cpy.fine_all h.mc p;by_cases a:c.k=s.op
 .rcases hc with hc|hc
  .have:=zAB.1 hc c p
   simp[a]at this
  obtain⟨f,i⟩:=hc c p a;have es:s=⟨c.k,c.s,P⟩:=yN D b mk a.symm;have d:s.slot=c.s:=by rw[es]
  have n:s.slot≠c.t:=fun e=>V (by rw[a];exact congrArg VS.op (yN g b M e))
  exact⟨K f,by rw[<-d,Array.getElem?_setIfInBounds_self_of_lt A,xgc n,i]⟩
 obtain⟨f,i⟩:=h.cpy c p (zAE t (qF a));have C:s.slot≠c.s:=fun e=>a (congrArg VS.op (yN g b mk e)).symm
 have n:s.slot≠c.t:=fun e=>H f (congrArg VS.op (yN g b M e)).symm
 exact⟨K f,by rw[xgc C,xgc n];exact i⟩
theorem RVP.v{s:VS}(h:RVP ka sa kb sb Q cp W T0 vs L T w)(b:s∈vs)(a:L[s.op]?=some true):∃v,T[s.slot]?=some v/\s.P w v:=h.val s b a
theorem RVP.y{k:Nat}{v:Value}(h:RVP ka sa kb sb Q cp W T0 vs L T w){s:VS}(g:s∈vs)(b:s.P w v)
  (f:∀u,(k=ka->T[sb]?=some u->L[kb]?=some true->Q v u)/\(k=kb->T[sa]?=some u->L[ka]?=some true->Q u v):=by intro u;exact⟨fun e=>absurd e dE,fun e=>absurd e dE⟩)
  (a:L[k]?=some false:=by assumption) (hc:cp.all (fun c=>!(c.k==k))=true∨∀c∈cp,c.k=k->L[c.d]?=some true/\T[c.t]?=some v:=by first|exact .inl rfl|exact .inl dE) (d:s.op=k:=by rfl):
  RVP ka sa kb sb Q cp W T0 vs (L.setIfInBounds k true) (T.setIfInBounds s.slot v) w:=h.value s g d b f a hc
end
end Go.Proofs.YtkidaebmhlijlaaGreat
