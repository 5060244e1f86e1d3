/- Joined. -/
import Derived.Test.YtkidaebmhlijlaaGreatS07
set_option linter.unusedVariables false
set_option linter.unusedSimpArgs false
set_option linter.unusedSectionVars false
set_option maxHeartbeats 16000000
set_option maxRecDepth 100000
variable{g k:Nat}{t:Go.TypeId}{c0 c1 c2 c3 c4 c5 c6 c7 c8:Go.Value}{w:Go.World}
namespace Go.Proofs.YtkidaebmhlijlaaGreat
open Go.RowKit
theorem Blk.all9(h:Blk w g t #[c0,c1,c2,c3,c4,c5,c6,c7,c8]):
  (w.cell? ⟨g,0,none⟩=some c0/\w.cell? ⟨g,1,none⟩=some c1/\w.cell? ⟨g,2,none⟩=some c2/\w.cell? ⟨g,3,none⟩=some c3/\w.cell? ⟨g,4,none⟩=some c4/\w.cell? ⟨g,5,none⟩=some c5/\w.cell? ⟨g,6,none⟩=some c6/\w.cell? ⟨g,7,none⟩=some c7/\w.cell? ⟨g,8,none⟩=some c8)/\(w.frozen? ⟨g,0,none⟩=false/\w.frozen? ⟨g,1,none⟩=false/\w.frozen? ⟨g,2,none⟩=false/\w.frozen? ⟨g,3,none⟩=false/\w.frozen? ⟨g,4,none⟩=false/\w.frozen? ⟨g,5,none⟩=false/\w.frozen? ⟨g,6,none⟩=false/\w.frozen? ⟨g,7,none⟩=false/\w.frozen? ⟨g,8,none⟩=false):=
 ⟨⟨h.cell 0,h.cell 1,h.cell 2,h.cell 3,h.cell 4,h.cell 5,h.cell 6,h.cell 7,h.cell 8⟩,⟨h.frozen 0,h.frozen 1,h.frozen 2,h.frozen 3,h.frozen 4,h.frozen 5,h.frozen 6,h.frozen 7,h.frozen 8⟩⟩
theorem Blk.put9(h:Blk w g t #[c0,c1,c2,c3,c4,c5,c6,c7,c8])(x0 x1 x2 x3 x4 x5 x6 x7 x8:Value):Blk (((((((((w.setCell ⟨g,0,none⟩ x0).setCell ⟨g,1,none⟩ x1).setCell ⟨g,2,none⟩ x2).setCell ⟨g,3,none⟩ x3).setCell ⟨g,4,none⟩ x4).setCell ⟨g,5,none⟩ x5).setCell ⟨g,6,none⟩ x6).setCell ⟨g,7,none⟩ x7).setCell ⟨g,8,none⟩ x8) g t #[x0,x1,x2,x3,x4,x5,x6,x7,x8]:=by
 simpa using(((((((((h.set_ 0 x0).set_ 1 x1).set_ 2 x2).set_ 3 x3).set_ 4 x4).set_ 5 x5).set_ 6 x6).set_ 7 x7).set_ 8 x8)
theorem Blk.lext9{cs:Array Value}(h:Blk w g t cs)(hne:t≠tU)(x0 x1 x2 x3 x4 x5 x6 x7 x8:Value):zBq w (((((((((w.setCell ⟨g,0,none⟩ x0).setCell ⟨g,1,none⟩ x1).setCell ⟨g,2,none⟩ x2).setCell ⟨g,3,none⟩ x3).setCell ⟨g,4,none⟩ x4).setCell ⟨g,5,none⟩ x5).setCell ⟨g,6,none⟩ x6).setCell ⟨g,7,none⟩ x7).setCell ⟨g,8,none⟩ x8):=
 (((((((((h.lext hne 0 x0).trans ((h.set_ 0 x0).lext hne 1 x1)).trans (((h.set_ 0 x0).set_ 1 x1).lext hne 2 x2)).trans ((((h.set_ 0 x0).set_ 1 x1).set_ 2 x2).lext hne 3 x3)).trans (((((h.set_ 0 x0).set_ 1 x1).set_ 2 x2).set_ 3 x3).lext hne 4 x4)).trans ((((((h.set_ 0 x0).set_ 1 x1).set_ 2 x2).set_ 3 x3).set_ 4 x4).lext hne 5 x5)).trans (((((((h.set_ 0 x0).set_ 1 x1).set_ 2 x2).set_ 3 x3).set_ 4 x4).set_ 5 x5).lext hne 6 x6)).trans ((((((((h.set_ 0 x0).set_ 1 x1).set_ 2 x2).set_ 3 x3).set_ 4 x4).set_ 5 x5).set_ 6 x6).lext hne 7 x7)).trans (((((((((h.set_ 0 x0).set_ 1 x1).set_ 2 x2).set_ 3 x3).set_ 4 x4).set_ 5 x5).set_ 6 x6).set_ 7 x7).lext hne 8 x8))
theorem zUH(w:World)(g k:Nat)(x0 x1 x2 x3 x4 x5 x6 x7 x8:Value)(hk:k≠g):((((((((((w.setCell ⟨g,0,none⟩ x0).setCell ⟨g,1,none⟩ x1).setCell ⟨g,2,none⟩ x2).setCell ⟨g,3,none⟩ x3).setCell ⟨g,4,none⟩ x4).setCell ⟨g,5,none⟩ x5).setCell ⟨g,6,none⟩ x6).setCell ⟨g,7,none⟩ x7).setCell ⟨g,8,none⟩ x8)).heap[k]?=w.heap[k]?:=
 ((zW _ g 8 k x8 hk).trans ((zW _ g 7 k x7 hk).trans ((zW _ g 6 k x6 hk).trans ((zW _ g 5 k x5 hk).trans ((zW _ g 4 k x4 hk).trans ((zW _ g 3 k x3 hk).trans ((zW _ g 2 k x2 hk).trans ((zW _ g 1 k x1 hk).trans (zW _ g 0 k x0 hk)))))))))
theorem zWr{B:Nat}{a:World}(h:Below B a w)(hp:B<=g)(x0 x1 x2 x3 x4 x5 x6 x7 x8:Value):Below B a (((((((((w.setCell ⟨g,0,none⟩ x0).setCell ⟨g,1,none⟩ x1).setCell ⟨g,2,none⟩ x2).setCell ⟨g,3,none⟩ x3).setCell ⟨g,4,none⟩ x4).setCell ⟨g,5,none⟩ x5).setCell ⟨g,6,none⟩ x6).setCell ⟨g,7,none⟩ x7).setCell ⟨g,8,none⟩ x8):=
 (yJ (yJ (yJ (yJ (yJ (yJ (yJ (yJ (yJ h hp 0 x0) hp 1 x1) hp 2 x2) hp 3 x3) hp 4 x4) hp 5 x5) hp 6 x6) hp 7 x7) hp 8 x8)
structure Cpy where
 k:Nat
 s:Nat
 d:Nat
 t:Nat
def Cpy.fine(vs:List VS)(c:Cpy):Bool:=vs.any (fun a=>a.op==c.k && a.slot==c.s) && vs.any (fun a=>a.op==c.d && a.slot==c.t) && !(c.k==c.d)
theorem zQc{vs:List VS}{s:Nat}(h:vs.any (fun a=>a.op==k && a.slot==s)=true):∃P,(⟨k,s,P⟩:VS)∈vs:=by
 obtain⟨a,ha,e⟩:=zAj.1 h;simp only[Bool.and_eq_true,beq_iff_eq]at e;obtain⟨rfl,rfl⟩:=e;exact⟨a.P,ha⟩
theorem Cpy.fine_all{vs:List VS}{cp:List Cpy}(h:cp.all (Cpy.fine vs)=true){c:Cpy}(hc:c∈cp):(∃P,(⟨c.k,c.s,P⟩:VS)∈vs)/\(∃P,(⟨c.d,c.t,P⟩:VS)∈vs)/\c.k≠c.d:=by
 have:=qW.1 h c hc;unfold Cpy.fine at this;simp only[Bool.and_eq_true]at this;exact⟨zQc this.1.1,zQc this.1.2,by have:=this.2;simpa using this⟩
structure RVP(ka sa kb sb:Nat)(Q:Value->Value->Prop)(cp:List Cpy)(W:World)(T0:Array Value)(vs:List VS)(L:Array Bool)(T:Array Value)(w:World):Prop where
 rv:RV W T0 vs L T w
 ma:∃P,(⟨ka,sa,P⟩:VS)∈vs
 mb:∃P,(⟨kb,sb,P⟩:VS)∈vs
 ne:ka≠kb
 mc:cp.all (Cpy.fine vs)=true
 pair:L[ka]?=some true->L[kb]?=some true->∃u v,T[sa]?=some u/\T[sb]?=some v/\Q u v
 cpy:∀c∈cp,L[c.k]?=some true->L[c.d]?=some true/\T[c.s]?=T[c.t]?
section
variable {ka sa kb sb:Nat} {Q:Value->Value->Prop} {cp:List Cpy} {W:World} {T0:Array Value} {vs:List VS} {L:Array Bool} {T:Array Value} {w w':World}
theorem RVP.start(hwf:zGQ T0.size vs=true)(hv:∀s∈vs,zAQ s.P)(ma:∃P,(⟨ka,sa,P⟩:VS)∈vs)(mb:∃P,(⟨kb,sb,P⟩:VS)∈vs)(ne:ka≠kb)(mc:cp.all (Cpy.fine vs)=true){n:Nat}:RVP ka sa kb sb Q cp W T0 vs (Array.replicate n false) T0 W.drew:=
 have no:∀k,¬ (Array.replicate n false)[k]?=some true:=fun k h=>by
  rw[Array.getElem?_replicate]at h;split at h<;>simp at h
 ⟨zE4 hwf hv,ma,mb,ne,mc,fun h _=>absurd h (no _),fun _ _ h=>absurd h (no _)⟩
theorem RVP.world(h:RVP ka sa kb sb Q cp W T0 vs L T w)(hb:Below w.heap.size w w'):RVP ka sa kb sb Q cp W T0 vs L T w':=⟨h.rv.world hb,h.ma,h.mb,h.ne,h.mc,h.pair,h.cpy⟩
theorem RVP.cell(h:RVP ka sa kb sb Q cp W T0 vs L T w){b o:Nat}{v:Value}(hc:W.cell? ⟨b,o,none⟩=some v):w.cell? ⟨b,o,none⟩=some v:=h.rv.cell hc
theorem RVP.bel(h:RVP ka sa kb sb Q cp W T0 vs L T w):Below W.heap.size W w:=h.rv.bel
theorem RVP.size(h:RVP ka sa kb sb Q cp W T0 vs L T w):T.size=T0.size:=h.rv.size
theorem RVP.keep(h:RVP ka sa kb sb Q cp W T0 vs L T w):∀j,(∀s∈vs,s.slot≠j)->T[j]?=T0[j]?:=h.rv.keep
theorem RVP.val(h:RVP ka sa kb sb Q cp W T0 vs L T w):∀s∈vs,L[s.op]?=some true->∃v,T[s.slot]?=some v/\s.P w v:=h.rv.val
theorem RVP.value{v:Value}(h:RVP ka sa kb sb Q cp W T0 vs L T w)(s:VS)(hs:s∈vs)(hk:s.op=k)(hP:s.P w v)
  (hq:∀u,(k=ka->T[sb]?=some u->L[kb]?=some true->Q v u)/\(k=kb->T[sa]?=some u->L[ka]?=some true->Q u v):=by intro u;exact⟨fun e=>absurd e dE,fun e=>absurd e dE⟩)
  (hL:L[k]?=some false:=by assumption) (hc:cp.all (fun c=>!(c.k==k))=true∨∀c∈cp,c.k=k->L[c.d]?=some true/\T[c.t]?=some v:=by first|exact .inl rfl|exact .inl dE):
  RVP ka sa kb sb Q cp W T0 vs (L.setIfInBounds k true) (T.setIfInBounds s.slot v) w:=by
 have hr:=h.rv.value s hs hk hP;subst hk;obtain⟨Pa,ma⟩:=h.ma;obtain⟨Pb,mb⟩:=h.mb;have hwf:=h.rv.wf;unfold zGQ at hwf;simp only[Bool.and_eq_true,decide_eq_true_eq,List.all_eq_true]at hwf;obtain⟨⟨w1,w2⟩,w3⟩:=hwf;have hslot:s.slot<T.size:=by rw[h.rv.size];exact w3 _ (List.mem_map.2 ⟨s,hs,rfl⟩)
 have hab:sb≠sa:=fun e=>h.ne (congrArg VS.op (qY w1 ma mb e.symm))
 have hkeep:∀{j:Nat},L[j]?=some true->j≠s.op:=fun hj e=>by rw[e,hL]at hj;cases hj
 have hset:∀{j:Nat},L[j]?=some true->(L.setIfInBounds s.op true)[j]?=some true:=fun {j} hj=>by rw[xgc (zP (hkeep hj))];exact hj
 refine⟨hr,h.ma,h.mb,h.ne,h.mc,fun h1 h2=>?_,fun c hcm h1=>?_⟩
 ·by_cases e1:s.op=ka
  ·have es:s=⟨ka,sa,Pa⟩:=qY w2 hs ma e1
   have e2:s.slot=sa:=by rw[es]
   have hlb:L[kb]?=some true:=qU h2 (by rw[e1];exact h.ne);obtain⟨u,hu,-⟩:=h.rv.val _ mb hlb;exact⟨v,u,by rw[e2,Array.getElem?_setIfInBounds_self_of_lt (by rw[<-e2];exact hslot)],by rw[e2,xgc (zP hab)];exact hu,(hq u).1 e1 hu hlb⟩
  have hla:L[ka]?=some true:=qU h1 e1;obtain⟨u,hu,-⟩:=h.rv.val _ ma hla;by_cases e3:s.op=kb
  ·have es:s=⟨kb,sb,Pb⟩:=qY w2 hs mb e3
   have e2:s.slot=sb:=by rw[es]
   exact⟨u,v,by rw[e2,xgc hab];exact hu,by rw[e2,Array.getElem?_setIfInBounds_self_of_lt (by rw[<-e2];exact hslot)],(hq u).2 e3 hu hla⟩
  obtain⟨x,y,g1,g2,g3⟩:=h.pair hla (qU h2 e3);have n1:s.slot≠sa:=fun e=>e1 (congrArg VS.op (qY w1 hs ma e))
  have n2:s.slot≠sb:=fun e=>e3 (congrArg VS.op (qY w1 hs mb e))
  exact⟨x,y,by rw[xgc n1];exact g1,by rw[xgc n2];exact g2,g3⟩
 obtain⟨⟨Pk,mk⟩,⟨Pd,md⟩,hne⟩:=Cpy.fine_all h.mc hcm;by_cases e1:c.k=s.op
 ·rcases hc with hc|hc
  ·have:=qW.1 hc c hcm
   simp[e1]at this
  obtain⟨g1,g2⟩:=hc c hcm e1;have es:s=⟨c.k,c.s,Pk⟩:=qY w2 hs mk e1.symm;have e2:s.slot=c.s:=by rw[es]
  have n2:s.slot≠c.t:=fun e=>hne (by rw[e1];exact congrArg VS.op (qY w1 hs md e))
  exact⟨hset g1,by rw[<-e2,Array.getElem?_setIfInBounds_self_of_lt hslot,xgc n2,g2]⟩
 obtain⟨g1,g2⟩:=h.cpy c hcm (qU h1 (zP e1));have n1:s.slot≠c.s:=fun e=>e1 (congrArg VS.op (qY w1 hs mk e)).symm
 have n2:s.slot≠c.t:=fun e=>hkeep g1 (congrArg VS.op (qY w1 hs md e)).symm
 exact⟨hset g1,by rw[xgc n1,xgc n2];exact g2⟩
theorem RVP.v{s:VS}(h:RVP ka sa kb sb Q cp W T0 vs L T w)(hs:s∈vs)(hl:L[s.op]?=some true):∃v,T[s.slot]?=some v/\s.P w v:=h.val s hs hl
theorem RVP.y{k:Nat}{v:Value}(h:RVP ka sa kb sb Q cp W T0 vs L T w){s:VS}(hs:s∈vs)(hP:s.P w v)
  (hq:∀u,(k=ka->T[sb]?=some u->L[kb]?=some true->Q v u)/\(k=kb->T[sa]?=some u->L[ka]?=some true->Q u v):=by intro u;exact⟨fun e=>absurd e dE,fun e=>absurd e dE⟩)
  (hL:L[k]?=some false:=by assumption) (hc:cp.all (fun c=>!(c.k==k))=true∨∀c∈cp,c.k=k->L[c.d]?=some true/\T[c.t]?=some v:=by first|exact .inl rfl|exact .inl dE) (hk:s.op=k:=by rfl):
  RVP ka sa kb sb Q cp W T0 vs (L.setIfInBounds k true) (T.setIfInBounds s.slot v) w:=h.value s hs hk hP hq hL hc
end
end Go.Proofs.YtkidaebmhlijlaaGreat
