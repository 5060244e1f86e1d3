/- Joined. -/
import Derived.Test.YtkidaebmhlijlaaGreatE10
import Derived.Test.YtkidaebmhlijlaaGreatE13
set_option linter.unusedVariables false
set_option linter.unusedSimpArgs false
set_option linter.unusedSectionVars false
set_option maxHeartbeats 16000000
set_option maxRecDepth 100000
variable{S:List Nat}{b k n:Nat}{w w':Go.World}
namespace Go.Proofs.YtkidaebmhlijlaaGreat
open Go.RowKit
structure RA(S:List Nat)(k:Nat)(W:World)(T0:Array Value)(vs:List VS)(L:Array Bool)(T:Array Value)(w:World):Prop where
 wf:zIy T0.size vs=true
 lv:∀s∈vs,zAj s.P
 size:T.size=T0.size
 keep:∀j,(∀s∈vs,s.slot≠j)->T[j]?=T0[j]?
 onl:zB0 S W w
 bef:L[k]?=some false->BWq W w
 val:∀s∈vs,L[s.op]?=some true->∃v,T[s.slot]?=some v/\s.P w v
section
variable {S:List Nat} {p:Nat} {W:World} {T0:Array Value} {vs:List VS} {L:Array Bool} {T:Array Value} {w w':World}
theorem RA.start(a:zIy T0.size vs=true)(hv:∀s∈vs,zAj s.P):RA S p W T0 vs (Array.replicate n false) T0 W.drew:=
 ⟨a,hv,rfl,fun _ _=>rfl,zB0.of S (dr _),fun _=>dr _,fun s _ h=>by
  rw[Array.getElem?_replicate]at h;split at h<;>simp at h⟩
theorem RA.world(h:RA S p W T0 vs L T w)(a:BWq w w'):RA S p W T0 vs L T w':=
 ⟨h.wf,h.lv,h.size,h.keep,h.onl.trans (zB0.of S a),fun f=>nx (h.bef f) a,fun s b e=>by
  obtain⟨v,c,d⟩:=h.val s b e;exact⟨v,c,h.lv s b _ _ _ a d⟩⟩
theorem RA.value{v:Value}(h:RA S p W T0 vs L T w)(s:VS)(d:s∈vs)(m:s.op=k)(l:s.P w v):RA S p W T0 vs (L.setIfInBounds k true) (T.setIfInBounds s.slot v) w:=by
 subst m;have g:=h.wf;unfold zIy at g;simp only[Bool.and_eq_true,decide_eq_true_eq,List.all_eq_true]at g;obtain⟨⟨x,y⟩,z⟩:=g;have o:s.slot<T0.size:=z _ (List.mem_map.2 ⟨s,d,rfl⟩);refine⟨h.wf,h.lv,by simp[h.size],fun j c=>by rw[xgc (c s d)];exact h.keep j c,h.onl,fun b=>h.bef ?_,?_⟩
 .by_cases a:s.op=p
  .subst a
   rw[Array.getElem?_setIfInBounds]at b;split at b;split at b<;>cases b
   exact b
  rwa[xgc a]at b
 intro t f n;by_cases a:t=s
 .subst a
  exact⟨v,by rw[Array.getElem?_setIfInBounds_self_of_lt (by rw[h.size];exact o)],l⟩
 have q:t.op≠s.op:=fun e=>a (yN y f d e)
 have r:t.slot≠s.slot:=fun e=>a (yN x f d e)
 obtain⟨u,c,i⟩:=h.val t f (zAE n (qF q));exact⟨u,by rw[xgc (qF r)];exact c,i⟩
theorem RA.turn{v:Value}(h:RA S p W T0 vs L T w)(s:VS)(c:s∈vs)(n:s.op=p)(l:p<L.size)(q:zB0 S w w')(r:∀t∈vs,t≠s->L[t.op]?=some true->∀v,t.P w v->t.P w' v)(m:s.P w' v):RA S p W T0 vs (L.setIfInBounds p true) (T.setIfInBounds s.slot v) w':=by
 subst n;have f:=h.wf;unfold zIy at f;simp only[Bool.and_eq_true,decide_eq_true_eq,List.all_eq_true]at f;obtain⟨⟨A,B⟩,C⟩:=f;have x:s.slot<T0.size:=C _ (List.mem_map.2 ⟨s,c,rfl⟩);refine⟨h.wf,h.lv,by simp[h.size],fun j a=>by rw[xgc (a s c)];exact h.keep j a,h.onl.trans q,fun i=>?_,?_⟩
 .rw[Array.getElem?_setIfInBounds_self_of_lt l]at i
  cases i
 intro t d o;by_cases b:t=s
 .subst b
  exact⟨v,by rw[Array.getElem?_setIfInBounds_self_of_lt (by rw[h.size];exact x)],m⟩
 have y:t.op≠s.op:=fun e=>b (yN B d c e)
 have z:t.slot≠s.slot:=fun e=>b (yN A d c e)
 have g:=zAE o (qF y);obtain⟨u,a,k⟩:=h.val t d g;exact⟨u,by rw[xgc (qF z)];exact a,r t d b g u k⟩
theorem RA.v{s:VS}(h:RA S p W T0 vs L T w)(b:s∈vs)(a:L[s.op]?=some true):∃v,T[s.slot]?=some v/\s.P w v:=h.val s b a
theorem RA.y{v:Value}(h:RA S p W T0 vs L T w){s:VS}(c:s∈vs)(a:s.P w v)(b:s.op=k:=by rfl):RA S p W T0 vs (L.setIfInBounds k true) (T.setIfInBounds s.slot v) w:=h.value s c b a
theorem RA.cell{o:Nat}{v:Value}(h:RA S p W T0 vs L T w)(a:b ∉ S)(c:b<W.heap.size)(hc:W.cell? ⟨b,o,none⟩=some v):w.cell? ⟨b,o,none⟩=some v:=by
 have:=h.onl.old b c a;unfold World.cell? at hc ⊢
 rw[this];exact hc
end
def RAS(S:List Nat)(p:Nat)(W:World)(T0:Array Value)(vs:List VS)(q:Nat)(st:Array Value->World->World)(L:Array Bool)(T:Array Value)(w:World):Prop:=
 ∃w0,RA S p W T0 vs L T w0/\(L[q]?≠some true->w=w0)/\(L[q]?=some true->w=st T w0)
section
variable {S:List Nat} {p:Nat} {W:World} {T0:Array Value} {vs:List VS} {L:Array Bool} {T:Array Value} {w w':World} {q:Nat} {st:Array Value->World->World}
theorem RAS.start(h:RA S p W T0 vs (Array.replicate n false) T0 W.drew):RAS S p W T0 vs q st (Array.replicate n false) T0 W.drew:=
 ⟨_,h,fun _=>rfl,fun a=>by
  rw[Array.getElem?_replicate]at a;split at a<;>simp at a⟩
theorem RA.mark(h:RA S p W T0 vs L T w)(e:∀s∈vs,s.op≠q)(d:q≠p):RA S p W T0 vs (L.setIfInBounds q true) T w:=
 ⟨h.wf,h.lv,h.size,h.keep,h.onl,fun b=>h.bef (by rwa[xgc d]at b),fun s a c=>h.val s a (zAE c (qF (e s a)))⟩
theorem zAO.liftA{P:Program}{ops:Array Oper}{Q:Exit->Act->World->Prop}{b:List Deferred}{i:Nat}{o:Oper}(m:zI9 ops 5 q i=true)(l:i≠q)
  (h:zAO P ops Q b (RA S p W T0 vs) i o):zAO P ops Q b (RAS S p W T0 vs q st) i o:=by
 intro L T w c hd e hI K hK;obtain⟨r,j,k,n⟩:=hI;have d:L[q]?≠some true:=fun a=>by
  have:=zD7 e m a;rw[c]at this;cases this
 obtain rfl:=k d;exact h L T w c @hd e j K (fun f w' g=>hK f w' ⟨w',g,fun _=>rfl,fun a=>absurd (zAE a l) d⟩)
theorem RAS.pure{v:Value}(h:RAS S p W T0 vs q st L T w)(s:VS)(l:s∈vs)(g:s.op=k)(f:∀w,s.P w v)(j:k≠q)(m:∀w,st (T.setIfInBounds s.slot v) w=st T w):RAS S p W T0 vs q st (L.setIfInBounds k true) (T.setIfInBounds s.slot v) w:=by
 obtain⟨b,c,d,e⟩:=h;exact⟨b,c.value s l g (f b),fun i=>d fun a=>i (zCK a),fun a=>(e (zAE a j)).trans (m b).symm⟩
theorem RAS.store(h:RA S p W T0 vs L T w)(a:L[q]?=some false)(d:∀s∈vs,s.op≠q)(c:q≠p)(e:w'=st T w):RAS S p W T0 vs q st (L.setIfInBounds q true) T w':=
 ⟨w,h.mark d c,fun b=>absurd (Array.getElem?_setIfInBounds_self_of_lt (Array.getElem?_eq_some_iff.1 a).1) b,fun _=>e⟩
theorem RAS.here(h:RAS S p W T0 vs q st L T w)(c:L[q]?=some false):RA S p W T0 vs L T w:=by
 obtain⟨d,a,b,-⟩:=h;obtain rfl:=b (by rw[c];simp);exact a
end
def put3(a b:Nat)(T:Array Value)(w:World):World:=
 match T[a]?,T[b]? with
 |some (.pointer (some ⟨g,0,none⟩)),some (.agg #[x,y,z])=>((w.setCell ⟨g,0,none⟩ x).setCell ⟨g,1,none⟩ y).setCell ⟨g,2,none⟩ z
 |_,_=>w
theorem zRs{v:Value}(a:w.grownBy w' v.ownBlock)(d:zBq w w'):zB0 v.ownBlock.toList w w':=
 ⟨(zC 0 w).grown a (zH _) (fun g _=>zH g),d,fun k b c=>a.block k b (fun e=>c (by rw[<-e];simp))⟩
theorem Below.only{B:Nat}{c:World}(h:Below B c w)(a:zB0 S w w')(d:B<=c.heap.size)(e:∀b∈S,B<=b):Below B c w':=
 h.trans ⟨a.bel.os,a.bel.tape,a.bel.output,a.bel.size,fun k f=>a.old k (zM f (zD d h.size)) fun g=>absurd (e k g) (by omega)⟩
theorem Blk.only{t:TypeId}{cs:Array Value}(h:Blk w b t cs)(c:zB0 S w w')(a:b ∉ S):Blk w' b t cs:=(c.old b h.lt a).trans h
end Go.Proofs.YtkidaebmhlijlaaGreat
