/- Joined. -/
import Derived.Test.YtkidaebmhlijlaaGreatD13
set_option linter.unusedVariables false
set_option linter.unusedSimpArgs false
set_option linter.unusedSectionVars false
set_option maxHeartbeats 16000000
set_option maxRecDepth 100000
variable{k n:Nat}{v:Go.Value}{w w':Go.World}
namespace Go.Proofs.YtkidaebmhlijlaaGreat
open Go.RowKit
structure RA(S:List Nat)(k:Nat)(W:World)(T0:Array Value)(vs:List VS)(L:Array Bool)(T:Array Value)(w:World):Prop where
 wf:zIm T0.size vs=true
 lv:∀s∈vs,zAK s.P
 size:T.size=T0.size
 keep:∀j,(∀s∈vs,s.slot≠j)->T[j]?=T0[j]?
 onl:zB0 S W w
 bef:L[k]?=some false->BWq W w
 val:∀s∈vs,L[s.op]?=some true->∃v,T[s.slot]?=some v/\s.P w v
section
variable {S:List Nat} {p:Nat} {W:World} {T0:Array Value} {vs:List VS} {L:Array Bool} {T:Array Value} {w w':World}
theorem RA.start(hwf:zIm T0.size vs=true)(hv:∀s∈vs,zAK s.P):RA S p W T0 vs (Array.replicate n false) T0 W.drew:=
 ⟨hwf,hv,rfl,fun _ _=>rfl,zB0.of S (dr _),fun _=>dr _,fun s _ h=>by
  rw[Array.getElem?_replicate]at h;split at h<;>simp at h⟩
theorem RA.world(h:RA S p W T0 vs L T w)(hb:BWq w w'):RA S p W T0 vs L T w':=
 ⟨h.wf,h.lv,h.size,h.keep,h.onl.trans (zB0.of S hb),fun hp=>nx (h.bef hp) hb,fun s hs hl=>by
  obtain⟨v,h1,h2⟩:=h.val s hs hl;exact⟨v,h1,h.lv s hs _ _ _ hb h2⟩⟩
theorem RA.value(h:RA S p W T0 vs L T w)(s:VS)(hs:s∈vs)(hk:s.op=k)(hP:s.P w v):RA S p W T0 vs (L.setIfInBounds k true) (T.setIfInBounds s.slot v) w:=by
 subst hk;have hwf:=h.wf;unfold zIm at hwf;simp only[Bool.and_eq_true,decide_eq_true_eq,List.all_eq_true]at hwf;obtain⟨⟨w1,w2⟩,w3⟩:=hwf;have hslot:s.slot<T0.size:=w3 _ (List.mem_map.2 ⟨s,hs,rfl⟩);refine⟨h.wf,h.lv,by simp[h.size],fun j h1=>by rw[xgc (h1 s hs)];exact h.keep j h1,h.onl,fun hp=>h.bef ?_,?_⟩
 ·by_cases he:s.op=p
  ·subst he
   rw[Array.getElem?_setIfInBounds]at hp;split at hp;split at hp<;>cases hp
   exact hp
  rwa[xgc he]at hp
 intro t ht hl;by_cases he:t=s
 ·subst he
  exact⟨v,by rw[Array.getElem?_setIfInBounds_self_of_lt (by rw[h.size];exact hslot)],hP⟩
 have n1:t.op≠s.op:=fun e=>he (yI w2 ht hs e)
 have n2:t.slot≠s.slot:=fun e=>he (yI w1 ht hs e)
 obtain⟨u,h1,h2⟩:=h.val t ht (jT hl (qD n1));exact⟨u,by rw[xgc (qD n2)];exact h1,h2⟩
theorem RA.cell{b o:Nat}(h:RA S p W T0 vs L T w)(hb:b ∉ S)(hlt:b<W.heap.size)(hc:W.cell? ⟨b,o,none⟩=some v):w.cell? ⟨b,o,none⟩=some v:=by
 have:=h.onl.old b hlt hb;unfold World.cell? at hc ⊢
 rw[this];exact hc
end
def RAS(S:List Nat)(p:Nat)(W:World)(T0:Array Value)(vs:List VS)(q:Nat)(st:Array Value->World->World)(L:Array Bool)(T:Array Value)(w:World):Prop:=
 ∃w0,RA S p W T0 vs L T w0/\(L[q]?≠some true->w=w0)/\(L[q]?=some true->w=st T w0)
section
variable {S:List Nat} {p:Nat} {W:World} {T0:Array Value} {vs:List VS} {L:Array Bool} {T:Array Value} {w w':World} {q:Nat} {st:Array Value->World->World}
theorem RAS.start(h:RA S p W T0 vs (Array.replicate n false) T0 W.drew):RAS S p W T0 vs q st (Array.replicate n false) T0 W.drew:=
 ⟨_,h,fun _=>rfl,fun hh=>by
  rw[Array.getElem?_replicate]at hh;split at hh<;>simp at hh⟩
theorem RA.mark(h:RA S p W T0 vs L T w)(hq:∀s∈vs,s.op≠q)(hp:q≠p):RA S p W T0 vs (L.setIfInBounds q true) T w:=
 ⟨h.wf,h.lv,h.size,h.keep,h.onl,fun hh=>h.bef (by rwa[xgc hp]at hh),fun s hs hl=>h.val s hs (jT hl (qD (hq s hs)))⟩
theorem zAF.liftA{P:Program}{ops:Array Oper}{Q:Exit->Act->World->Prop}{ds:List Deferred}{i:Nat}{o:Oper}(hq:zIt ops 5 q i=true)(hne:i≠q)
  (h:zAF P ops Q ds (RA S p W T0 vs) i o):zAF P ops Q ds (RAS S p W T0 vs q st) i o:=by
 intro L T w hL hd hcl hI K hK;obtain⟨w0,h0,h1,h2⟩:=hI;have hLq:L[q]?≠some true:=fun hh=>by
  have:=zDv hcl hq hh;rw[hL]at this;cases this
 obtain rfl:=h1 hLq;exact h L T w hL @hd hcl h0 K (fun T' w' h'=>hK T' w' ⟨w',h',fun _=>rfl,fun hh=>absurd (jT hh hne) hLq⟩)
theorem RAS.pure(h:RAS S p W T0 vs q st L T w)(s:VS)(hs:s∈vs)(hk:s.op=k)(hP:∀w,s.P w v)(hne:k≠q)(hst:∀w,st (T.setIfInBounds s.slot v) w=st T w):RAS S p W T0 vs q st (L.setIfInBounds k true) (T.setIfInBounds s.slot v) w:=by
 obtain⟨w0,h0,h1,h2⟩:=h;exact⟨w0,h0.value s hs hk (hP w0),fun hn=>h1 fun hh=>hn (zB7 hh),fun hh=>(h2 (jT hh hne)).trans (hst w0).symm⟩
theorem RAS.store(h:RA S p W T0 vs L T w)(hL:L[q]?=some false)(hq:∀s∈vs,s.op≠q)(hp:q≠p)(hw:w'=st T w):RAS S p W T0 vs q st (L.setIfInBounds q true) T w':=
 ⟨w,h.mark hq hp,fun hn=>absurd (Array.getElem?_setIfInBounds_self_of_lt (Array.getElem?_eq_some_iff.1 hL).1) hn,fun _=>hw⟩
theorem RAS.here(h:RAS S p W T0 vs q st L T w)(hL:L[q]?=some false):RA S p W T0 vs L T w:=by
 obtain⟨w0,h0,h1,-⟩:=h;obtain rfl:=h1 (by rw[hL];simp);exact h0
end
def put3(a b:Nat)(T:Array Value)(w:World):World:=
 match T[a]?,T[b]? with
 |some (.pointer (some ⟨g,0,none⟩)),some (.agg #[x,y,z])=>((w.setCell ⟨g,0,none⟩ x).setCell ⟨g,1,none⟩ y).setCell ⟨g,2,none⟩ z
 |_,_=>w
theorem zQv(hg:w.grownBy w' v.ownBlock)(hx:zBw w w'):zB0 v.ownBlock.toList w w':=
 ⟨(zA 0 w).grown hg (zE _) (fun g _=>zE g),hx,fun k hk hn=>hg.block k hk (fun e=>hn (by rw[<-e];simp))⟩
theorem Below.only{B:Nat}{S:List Nat}{w0:World}(h:Below B w0 w)(ho:zB0 S w w')(hB:B<=w0.heap.size)(hS:∀b∈S,B<=b):Below B w0 w':=
 h.trans ⟨ho.bel.os,ho.bel.tape,ho.bel.output,ho.bel.size,fun k hk=>ho.old k (zJ hk (zB hB h.size)) fun hm=>absurd (hS k hm) (by omega)⟩
end Go.Proofs.YtkidaebmhlijlaaGreat
