/- Lists of pivots: slices.Insert. The law for regions that draw, where two elements of rows are written: at the end, but for operations that may come behind the first store. The law for regions that draw, where one operation (an append) may write into blocks S that nothing else reads. slices.Insert at pivots. -/
import Derived.Lib.AppendZeros
import Derived.Lib.AppendZerosOnto
import Derived.Lib.Overlaps
import Derived.Laws.CopyRow
import Derived.Laws.Externs
import Derived.Test.YtnbmaipobhppcaaGreatD09
import Derived.Test.YtnbmaipobhppcaaGreatD13
import Derived.Test.YtnbmaipobhppcaaGreatD16
set_option linter.unusedVariables false
set_option linter.unusedSimpArgs false
set_option linter.unusedSectionVars false
set_option maxHeartbeats 16000000
set_option maxRecDepth 100000
namespace Go.Proofs.YtnbmaipobhppcaaGreat
open Go.RowKit
theorem Tryz.infoPiv:(Tryz.prog.info? zAl).map (fun i=>(i.zero,i.size,i.bytes))=some (some (.agg #[.int .i64 0,.int .i64 0]),2,16):=by kernel_rfl
def pc(L:List (Nat × Nat)):List Value:=L.flatMap fun p=>[.int .i64 (p.1:Nat),.int .i64 (p.2:Nat)]
theorem zK4:pc []= []:=rfl
theorem zDc(p:Nat × Nat)(L:List (Nat × Nat)):pc (p::L)= .int .i64 (p.1:Nat):: .int .i64 (p.2:Nat)::pc L:=rfl
theorem zK2(L M:List (Nat × Nat)):pc (L++M)=pc L++pc M:=by unfold pc;rw[List.flatMap_append]
theorem zEb(L:List (Nat × Nat)):(pc L).length=L.length*2:=by
 induction L with
 |nil=>rfl
 |cons p L ih=>rw[zDc];simp[ih];omega
theorem zK5(L:List (Nat × Nat))(k:Nat):(pc L).take (k*2)=pc (L.take k):=by
 induction L generalizing k with
 |nil=>simp[zK4]
 |cons p L ih=>
  cases k with
  |zero=>simp[zK4]
  |succ k=>rw[List.take_succ_cons,zDc,zDc,show(k+1)*2=k*2+1+1 by omega,List.take_succ_cons,List.take_succ_cons,ih]
theorem zK3(L:List (Nat × Nat))(k:Nat):(pc L).drop (k*2)=pc (L.drop k):=by
 induction L generalizing k with
 |nil=>simp[zK4]
 |cons p L ih=>
  cases k with
  |zero=>simp
  |succ k=>rw[xgl,zDc,show(k+1)*2=k*2+1+1 by omega,xgl,xgl,ih]
theorem zPS{L:List (Nat × Nat)}{k:Nat}{p:Nat × Nat}(h:L[k]?=some p):(pc L)[k*2]?=some (.int .i64 (p.1:Nat))/\(pc L)[k*2+1]?=some (.int .i64 (p.2:Nat)):=by
 induction L generalizing k with
 |nil=>simp at h
 | cons q L ih=>
  cases k with
  |zero=>simp at h;subst h;exact⟨rfl,rfl⟩
  |succ k=>
   rw[List.getElem?_cons_succ]at h;obtain⟨h1,h2⟩:=ih h;rw[zDc,show(k+1)*2=k*2+1+1 by omega];exact⟨h1,h2⟩
theorem zIg(L:List (Nat × Nat)):∀u∈pc L,u.oneCell'=true:=by
 induction L with
 |nil=>intro u hu;cases hu
 | cons p L ih=>
  intro u hu;rw[zDc]at hu;rcases List.mem_cons.1 hu with rfl|hu
  ·rfl
  ·rcases List.mem_cons.1 hu with rfl|hu
   ·rfl
   ·exact ih u hu
def zDk(w:World)(base:Nat)(v:Value)(L:List (Nat × Nat)):Prop:=w.ownsRow base zAl 2 v L.length (pc L)
theorem zDk.piv{w:World}{base:Nat}{v:Value}{L:List (Nat × Nat)}(h:zDk w base v L):zHR w v L.length (fun k=>(L.getD k (0,0)).1) (fun k=>(L.getD k (0,0)).2):=by
 rcases h.2 with⟨rfl,h0⟩|⟨g,cap,cur,rfl,k1,k2,k3,k4,k5,k6⟩
 ·exact⟨none,0,by rw[h0],by omega,by omega,fun h=>by omega⟩
 ·refine⟨_,cap,rfl,k3,k4,fun _=>⟨g,cur,rfl,k2,fun k hk=>?_⟩⟩
  have hx:=xga hk;obtain⟨c1,c2⟩:=zPS hx;have hg:L.getD k (0,0)=L[k]:=by rw[xgb,hx];rfl
  show cur[k*2]?=some (Value.int .i64 (((L.getD k (0,0)).1:Nat):Int))/\cur[k*2+1]?=some (Value.int .i64 (((L.getD k (0,0)).2:Nat):Int));rw[hg];rw[<-k6,List.getElem?_take]at c1 c2;constructor
  ·split at c1
   ·simpa using c1
   ·cases c1
  ·split at c2
   ·simpa using c2
   ·cases c2
theorem zDk.below{w w':World}{base:Nat}{v:Value}{L:List (Nat × Nat)}(h:zDk w base v L)(hb:Below w.heap.size w w'):zDk w' base v L:=
 World.ownsRow.kept h (row:=none) ⟨hb.os,hb.tape,hb.output,hb.size,fun k hk _=>hb.block k hk⟩ (by cases hv:v.ownBlock<;>simp)
theorem zDk.own{w:World}{base:Nat}{v:Value}{L:List (Nat × Nat)}(h:zDk w base v L):∀g,v.ownBlock=some g->base<=g/\g<w.heap.size:=World.ownsRow.lt h
theorem zDk.old{w w':World}{base:Nat}{v:Value}{L:List (Nat × Nat)}(h:zDk w base v L)(ho:∀g,v.ownBlock=some g->w'.heap[g]?=w.heap[g]?):zDk w' base v L:=by
 obtain⟨h1,h2⟩:=h;refine⟨h1,?_⟩;rcases h2 with h2|⟨g,cap,cur,rfl,k1,k2,r⟩
 ·exact .inl h2
 ·exact .inr ⟨g,cap,cur,rfl,k1,(ho g rfl).trans k2,r⟩
theorem zDk.nil(w:World)(base:Nat):zDk w base (.slice none 0 0) []:=⟨rfl,.inl ⟨rfl,rfl⟩⟩
theorem zCN{w:World}{ops:Array Oper}{rest:List Oper}{o:Oper}{a:Act}{Q:Exit->Act->World->Prop}(hgd:o.guard=none)(d s:Operand)(t t':TypeId)
  (ho:o.op= .call {callee:=.builtin .copy,args:=#[d,s],argTypes:=#[t,t']}) (v u:Value) (hd:a.eval d=v) (hs:a.eval s=u) {v':Value} {w':World}
  (hr:(Builtin.copy_ #[t,t'] o.type #[v,u]).run Tryz.prog w= .ok v' w') (h:wpList Tryz.prog ops Q rest (a.put o.dst v') w'):wpList Tryz.prog ops Q (o::rest) a w:=by
 refine wpList_plain hgd fun K hK=>?_
 unfold Oper.wp execOp;simp only[ho,resolve,invoke,builtin,Sem.run_bind,Sem.run_pure,Result.andThen_ok,List.map_toArray,List.map_cons,List.map_nil,hd,hs,hr];exact hK _ _ h
theorem zDF(w:World)(ty:TypeId)(g o dLen dCap:Nat)(a:Addr)(sLen sCap:Nat)(cur:Array Value)(t:TypeId)(cs:List Value)
  (hg:w.heap[g]?=some (.cells cur t (0,0))) (hn:cs.length=Nat.min sLen dLen*2)
  (hsrc:∀j v,cs[j]?=some v->w.cell? (a.add j)=some v) (hfit:o+cs.length<=cur.size) (h1:∀v∈cs,v.oneCell'=true):
  ∃v,(Builtin.copy_ #[266,266] ty #[.slice (some ⟨g,o,none⟩) dLen dCap,.slice (some a) sLen sCap]).run Tryz.prog w=
   .ok v (w.setRow g (cur.toList.take o++cs++cur.toList.drop (o+cs.length)).toArray):=by
 obtain⟨i0,hi,hz0,hz1,hz2⟩:=info_parts Tryz.infoPiv;have hl:=run_loadCells_list (P:=Tryz.prog) w a cs hsrc;have hst:=run_storeCells_at Tryz.prog g o t cs 0 cur w hg (by simpa using hfit) h1;have hu:=Tryz.underlying266;refine⟨goInt (Nat.min sLen dLen),?_⟩;simp[Builtin.copy_,run_underlying hu,Builtin.lenOf,Builtin.firstCells,sizeOf,typeInfo,hi,hz1,<-hn,hl,hst]
section
variable {P:Program} {ops:Array Oper} {Q:Exit->Act->World->Prop}
def zD0(ops:Array Oper):Nat->Nat->Nat->Bool
 |0,j,k=>j==k
 |f+1,j,k=>j==k||((ops[j]?).map (fun o=>o.after.any fun e=>Region.binds .any e && zD0 ops f e.on k)).getD false
theorem zAe{L:Array Bool}(hcl:zAO ops L):∀{f j k:Nat},zD0 ops f j k=true->L[j]?=some true->L[k]?=some true:=by
 intro f;induction f with
 |zero=>
  intro j k h hj;unfold zD0 at h;rw[<-(beq_iff_eq.1 h)];exact hj
 | succ f ih=>
  intro j k h hj;unfold zD0 at h;rw[Bool.or_eq_true]at h;rcases h with h|h
  ·rw[<-(beq_iff_eq.1 h)]
   exact hj
  ·cases ho:ops[j]? with
   |none=>rw[ho]at h;simp at h
   |some o=>
    rw[ho]at h;simp only[Option.map_some,Option.getD_some]at h;rw[<-Array.any_toList,List.any_eq_true]at h;obtain⟨e,he,h2⟩:=h;rw[Bool.and_eq_true]at h2;refine ih h2.2 (hcl j o ho hj e.on ?_);unfold zGF;rw[<-Array.any_toList,List.any_eq_true];exact⟨e,he,by simp[h2.1]⟩
variable {W:World} {n0:Nat} {T0:Array Value} {tB:TypeId} {vs:List VS} {bs:List BS} {es:List ES} {L:Array Bool} {T:Array Value} {w w':World}
theorem RI.skip{k:Nat}(h:RI W n0 T0 tB vs bs es L T w)(h1:∀s∈vs,s.op≠k)(h2:∀s∈bs,s.al≠k/\s.st≠k)(h3:∀s∈es,s.st≠k):RI W n0 T0 tB vs bs es (L.setIfInBounds k true) T w:=
 ⟨h.wf,h.tb,h.lv,h.lb,h.le,h.eb,h.ed,h.size,h.keep,h.bel0,h.old,h.lext,h.ge,
  fun s hs hl=>yE (h.sto s hs (zL hl (Ne.symm (h2 s hs).2))),
  fun s hs hl=>h.val s hs (zL hl (Ne.symm (h1 s hs))),
  fun s hs hl=>by
   obtain⟨b,x,y,e1,e2,e3,e4⟩:=h.box s hs (zL hl (Ne.symm (h2 s hs).1));exact⟨b,x,y,e1,e2,e3,fun hh=>e4 (zL hh (Ne.symm (h2 s hs).2))⟩,
  fun s hs t ht hne l1 l2 b c e1 e2=>h.far s hs t ht hne (zL l1 (Ne.symm (h2 s hs).1)) (zL l2 (Ne.symm (h2 t ht).1)) b c e1 e2,
  fun s hs=>by
   obtain⟨⟨x,y,e1,e2⟩,e3⟩:=h.ex s hs;exact⟨⟨x,y,e1,fun hh=>e2 (zL hh (Ne.symm (h3 s hs)))⟩,fun hh=>e3 (zEj hh)⟩⟩
theorem zHd{w W:World}{b o:Nat}(h:w.heap[b]?=W.heap[b]?):w.frozen? ⟨b,o,none⟩=W.frozen? ⟨b,o,none⟩:=by
 simp only[World.frozen?,h]
theorem zJ9{w W:World}{b o:Nat}(h:w.heap[b]?=W.heap[b]?):w.cell? ⟨b,o,none⟩=W.cell? ⟨b,o,none⟩:=by
 simp only[World.cell?,h]
def zNS(T:Array Value)(sl k:Nat):Value:=match T[sl]? with
 |some (.agg cs)=>cs.getD k undef
 |_=>undef
def zQQ(sl b o:Nat):Array Value->World->World:=fun T w=>(w.setCell ⟨b,o,none⟩ (zNS T sl 0)).setCell ⟨b,o+1,none⟩ (zNS T sl 1)
structure RIS(W:World)(n0:Nat)(T0:Array Value)(tB:TypeId)(vs:List VS)(bs:List BS)(es:List ES)(k1 k2:Nat)(p1:World->World)(p2:Array Value->World->World)(L:Array Bool)(T:Array Value)(w:World):Prop where
 ex:∃w0,RI W n0 T0 tB vs bs es L T w0/\(L[k1]?≠some true->w=w0)/\(L[k1]?=some true->L[k2]?≠some true->w=p1 w0)/\(L[k2]?=some true->w=p2 T (p1 w0))
variable {n k1 k2:Nat} {p1:World->World} {p2:Array Value->World->World}
theorem RIS.start(h:RI W n0 T0 tB vs bs es (Array.replicate n false) T w):RIS W n0 T0 tB vs bs es k1 k2 p1 p2 (Array.replicate n false) T w:=by
 have hf:∀k:Nat,(Array.replicate n false)[k]?≠some true:=by
  intro k h;rw[Array.getElem?_replicate]at h;split at h<;>simp at h
 exact⟨w,h,fun _=>rfl,fun h1=>absurd h1 (hf _),fun h1=>absurd h1 (hf _)⟩
theorem zF.lift{ds:List Deferred}{k:Nat}{o:Oper}(hr1:zD0 ops 9 k1 k=true)(hr2:zD0 ops 9 k2 k1=true)(hk:k≠k1/\k≠k2)(h:zF P ops Q ds (RI W n0 T0 tB vs bs es) k o):zF P ops Q ds (RIS W n0 T0 tB vs bs es k1 k2 p1 p2) k o:=by
 intro L T w hL hd hcl hI K hK;obtain⟨w0,hri,h1,h2,h3⟩:=hI.ex;have hn:L[k1]?≠some true:=fun hh=>by
  have:=zAe hcl hr1 hh;rw[hL]at this;cases this
 have hn2:L[k2]?≠some true:=fun hh=>hn (zAe hcl hr2 hh)
 obtain rfl:=h1 hn;exact h L T w hL @hd hcl hri K (fun T' w' hI'=>hK T' w' ⟨w',hI',fun _=>rfl,fun hh=>absurd (zL hh hk.1) hn,fun hh=>absurd (zL hh hk.2) hn2⟩)
theorem RIS.value{k:Nat}{v:Value}(h:RIS W n0 T0 tB vs bs es k1 k2 p1 p2 L T w)(hcl:zAO ops L)(hr2:zD0 ops 9 k2 k=true)(hL:L[k]?=some false)(hk:k≠k1/\k≠k2)(s:VS)(hs:s∈vs)(hsk:s.op=k)(hP:∀w,s.P w v):
  RIS W n0 T0 tB vs bs es k1 k2 p1 p2 (L.setIfInBounds k true) (T.setIfInBounds s.slot v) w:=by
 obtain⟨w0,hri,h1,h2,h3⟩:=h.ex;have hn2:L[k2]?≠some true:=fun hh=>by
  have:=zAe hcl hr2 hh;rw[hL]at this;cases this
 exact⟨w0,hri.value s hs hsk (hP w0),fun hh=>h1 (zEj hh),fun hh hh2=>h2 (zL hh hk.1) (zEj hh2),fun hh=>absurd (zL hh hk.2) hn2⟩
theorem RIS.val{s:VS}(h:RIS W n0 T0 tB vs bs es k1 k2 p1 p2 L T w)(hs:s∈vs)(hl:L[s.op]?=some true)(hP:∀w w' v,s.P w v->s.P w' v):∃v,T[s.slot]?=some v/\∀w,s.P w v:=by
 obtain⟨w0,hri,-⟩:=h.ex;obtain⟨v,e1,e2⟩:=hri.val s hs hl;exact⟨v,e1,fun w=>hP _ _ _ e2⟩
theorem RIS.keep{j:Nat}(h:RIS W n0 T0 tB vs bs es k1 k2 p1 p2 L T w)(h1:∀s∈vs,s.slot≠j)(h2:∀s∈bs,s.slot≠j):T[j]?=T0[j]?:=by
 obtain⟨w0,hri,-⟩:=h.ex;exact hri.keep j h1 h2
theorem RIS.first(h:RIS W n0 T0 tB vs bs es k1 k2 p1 p2 L T w)(hcl:zAO ops L)(hr2:zD0 ops 9 k2 k1=true)(hL:L[k1]?=some false)(hne:k1≠k2)(h1:∀s∈vs,s.op≠k1)(h2:∀s∈bs,s.al≠k1/\s.st≠k1)(h3:∀s∈es,s.st≠k1):
  RI W n0 T0 tB vs bs es L T w/\RIS W n0 T0 tB vs bs es k1 k2 p1 p2 (L.setIfInBounds k1 true) T (p1 w):=by
 obtain⟨w0,hri,g1,g2,g3⟩:=h.ex;have hn:L[k1]?≠some true:=by rw[hL];simp
 have hn2:L[k2]?≠some true:=fun hh=>hn (zAe hcl hr2 hh)
 have hw:w=w0:=g1 hn;subst hw;refine⟨hri,⟨w,hri.skip h1 h2 h3,fun hh=>absurd (Array.getElem?_setIfInBounds_self_of_lt (Array.getElem?_eq_some_iff.1 hL).1) hh,fun _ _=>rfl,fun hh=>absurd (zL hh hne) hn2⟩⟩
theorem RIS.second(h:RIS W n0 T0 tB vs bs es k1 k2 p1 p2 L T w)(hl1:L[k1]?=some true)(hL:L[k2]?=some false)(h1:∀s∈vs,s.op≠k2)(h2:∀s∈bs,s.al≠k2/\s.st≠k2)(h3:∀s∈es,s.st≠k2):
  ∃w0,w=p1 w0/\RI W n0 T0 tB vs bs es L T w0/\RIS W n0 T0 tB vs bs es k1 k2 p1 p2 (L.setIfInBounds k2 true) T (p2 T (p1 w0)):=by
 obtain⟨w0,hri,g1,g2,g3⟩:=h.ex;have hn2:L[k2]?≠some true:=by rw[hL];simp
 refine⟨w0,g2 hl1 hn2,hri,⟨w0,hri.skip h1 h2 h3,fun hh=>absurd (yE hl1) hh,fun _ hh=>absurd (Array.getElem?_setIfInBounds_self_of_lt (Array.getElem?_eq_some_iff.1 hL).1) hh,fun _=>rfl⟩⟩
theorem RIS.fin(h:RIS W n0 T0 tB vs bs es k1 k2 p1 p2 (Array.replicate n true) T w)(hk:k2<n):∃w0,RI W n0 T0 tB vs bs es (Array.replicate n true) T w0/\w=p2 T (p1 w0):=by
 obtain⟨w0,hri,g1,g2,g3⟩:=h.ex;exact⟨w0,hri,g3 (by simp[hk])⟩
end
structure RA(S:List Nat)(k:Nat)(W:World)(T0:Array Value)(vs:List VS)(L:Array Bool)(T:Array Value)(w:World):Prop where
 wf:zCZ T0.size vs=true
 lv:∀s∈vs,qS s.P
 size:T.size=T0.size
 keep:∀j,(∀s∈vs,s.slot≠j)->T[j]?=T0[j]?
 onl:yC S W w
 bef:L[k]?=some false->Below W.heap.size W w
 val:∀s∈vs,L[s.op]?=some true->∃v,T[s.slot]?=some v/\s.P w v
section
variable {S:List Nat} {p:Nat} {W:World} {T0:Array Value} {vs:List VS} {L:Array Bool} {T:Array Value} {w w':World}
theorem RA.start(hwf:zCZ T0.size vs=true)(hv:∀s∈vs,qS s.P){n:Nat}:RA S p W T0 vs (Array.replicate n false) T0 W.drew:=
 ⟨hwf,hv,rfl,fun _ _=>rfl,yC.of S (dr _),fun _=>dr _,fun s _ h=>by
  rw[Array.getElem?_replicate]at h;split at h<;>simp at h⟩
theorem RA.world(h:RA S p W T0 vs L T w)(hb:Below w.heap.size w w'):RA S p W T0 vs L T w':=
 ⟨h.wf,h.lv,h.size,h.keep,h.onl.trans (yC.of S hb),fun hp=>nx (h.bef hp) hb,fun s hs hl=>by
  obtain⟨v,h1,h2⟩:=h.val s hs hl;exact⟨v,h1,h.lv s hs _ _ _ hb h2⟩⟩
theorem RA.value{k:Nat}{v:Value}(h:RA S p W T0 vs L T w)(s:VS)(hs:s∈vs)(hk:s.op=k)(hP:s.P w v):RA S p W T0 vs (L.setIfInBounds k true) (T.setIfInBounds s.slot v) w:=by
 subst hk;have hwf:=h.wf;unfold zCZ at hwf;simp only[Bool.and_eq_true,decide_eq_true_eq,List.all_eq_true]at hwf;obtain⟨⟨w1,w2⟩,w3⟩:=hwf;have hslot:s.slot<T0.size:=w3 _ (List.mem_map.2 ⟨s,hs,rfl⟩);refine⟨h.wf,h.lv,by simp[h.size],fun j h1=>by rw[xgc (h1 s hs)];exact h.keep j h1,h.onl,fun hp=>h.bef ?_,?_⟩
 ·by_cases he:s.op=p
  ·subst he
   rw[Array.getElem?_setIfInBounds]at hp;split at hp
   ·split at hp<;>cases hp
   ·exact hp
  ·rwa[xgc he]at hp
 intro t ht hl;by_cases he:t=s
 ·subst he
  exact⟨v,by rw[Array.getElem?_setIfInBounds_self_of_lt (by rw[h.size];exact hslot)],hP⟩
 ·have n1:t.op≠s.op:=fun e=>he (zN w2 ht hs e)
  have n2:t.slot≠s.slot:=fun e=>he (zN w1 ht hs e)
  obtain⟨u,h1,h2⟩:=h.val t ht (zL hl (Ne.symm n1));exact⟨u,by rw[xgc (Ne.symm n2)];exact h1,h2⟩
theorem RA.turn{v:Value}(h:RA S p W T0 vs L T w)(s:VS)(hs:s∈vs)(hk:s.op=p)(hL:p<L.size)(ho:yC S w w')(hq:∀t∈vs,t≠s->L[t.op]?=some true->∀v,t.P w v->t.P w' v)(hP:s.P w' v):RA S p W T0 vs (L.setIfInBounds p true) (T.setIfInBounds s.slot v) w':=by
 subst hk;have hwf:=h.wf;unfold zCZ at hwf;simp only[Bool.and_eq_true,decide_eq_true_eq,List.all_eq_true]at hwf;obtain⟨⟨w1,w2⟩,w3⟩:=hwf;have hslot:s.slot<T0.size:=w3 _ (List.mem_map.2 ⟨s,hs,rfl⟩);refine⟨h.wf,h.lv,by simp[h.size],fun j h1=>by rw[xgc (h1 s hs)];exact h.keep j h1,h.onl.trans ho,fun hp=>?_,?_⟩
 ·rw[Array.getElem?_setIfInBounds_self_of_lt hL]at hp
  cases hp
 intro t ht hl;by_cases he:t=s
 ·subst he
  exact⟨v,by rw[Array.getElem?_setIfInBounds_self_of_lt (by rw[h.size];exact hslot)],hP⟩
 ·have n1:t.op≠s.op:=fun e=>he (zN w2 ht hs e)
  have n2:t.slot≠s.slot:=fun e=>he (zN w1 ht hs e)
  have hl':=zL hl (Ne.symm n1);obtain⟨u,h1,h2⟩:=h.val t ht hl';exact⟨u,by rw[xgc (Ne.symm n2)];exact h1,hq t ht he hl' u h2⟩
theorem RA.v{s:VS}(h:RA S p W T0 vs L T w)(hs:s∈vs)(hl:L[s.op]?=some true):∃v,T[s.slot]?=some v/\s.P w v:=h.val s hs hl
theorem RA.y{k:Nat}{v:Value}(h:RA S p W T0 vs L T w){s:VS}(hs:s∈vs)(hP:s.P w v)(hk:s.op=k:=by rfl):RA S p W T0 vs (L.setIfInBounds k true) (T.setIfInBounds s.slot v) w:=h.value s hs hk hP
theorem RA.cell{b o:Nat}{v:Value}(h:RA S p W T0 vs L T w)(hb:b ∉ S)(hlt:b<W.heap.size)(hc:W.cell? ⟨b,o,none⟩=some v):w.cell? ⟨b,o,none⟩=some v:=by
 have:=h.onl.old b hlt hb;unfold World.cell? at hc ⊢
 rw[this];exact hc
end
def RAS(S:List Nat)(p:Nat)(W:World)(T0:Array Value)(vs:List VS)(q:Nat)(st:Array Value->World->World)(L:Array Bool)(T:Array Value)(w:World):Prop:=
 ∃w0,RA S p W T0 vs L T w0/\(L[q]?≠some true->w=w0)/\(L[q]?=some true->w=st T w0)
section
variable {S:List Nat} {p:Nat} {W:World} {T0:Array Value} {vs:List VS} {L:Array Bool} {T:Array Value} {w w':World} {q:Nat} {st:Array Value->World->World}
theorem RAS.start{n:Nat}(h:RA S p W T0 vs (Array.replicate n false) T0 W.drew):RAS S p W T0 vs q st (Array.replicate n false) T0 W.drew:=
 ⟨_,h,fun _=>rfl,fun hh=>by
  rw[Array.getElem?_replicate]at hh;split at hh<;>simp at hh⟩
theorem RA.mark(h:RA S p W T0 vs L T w)(hq:∀s∈vs,s.op≠q)(hp:q≠p):RA S p W T0 vs (L.setIfInBounds q true) T w:=
 ⟨h.wf,h.lv,h.size,h.keep,h.onl,fun hh=>h.bef (by rwa[xgc hp]at hh),fun s hs hl=>h.val s hs (zL hl (Ne.symm (hq s hs)))⟩
theorem zF.liftA{P:Program}{ops:Array Oper}{Q:Exit->Act->World->Prop}{ds:List Deferred}{i:Nat}{o:Oper}(hq:zD0 ops 5 q i=true)(hne:i≠q)
  (h:zF P ops Q ds (RA S p W T0 vs) i o):zF P ops Q ds (RAS S p W T0 vs q st) i o:=by
 intro L T w hL hd hcl hI K hK;obtain⟨w0,h0,h1,h2⟩:=hI;have hLq:L[q]?≠some true:=fun hh=>by
  have:=zAe hcl hq hh;rw[hL]at this;cases this
 obtain rfl:=h1 hLq;exact h L T w hL @hd hcl h0 K (fun T' w' h'=>hK T' w' ⟨w',h',fun _=>rfl,fun hh=>absurd (zL hh hne) hLq⟩)
theorem RAS.pure{k:Nat}{v:Value}(h:RAS S p W T0 vs q st L T w)(s:VS)(hs:s∈vs)(hk:s.op=k)(hP:∀w,s.P w v)(hne:k≠q)(hst:∀w,st (T.setIfInBounds s.slot v) w=st T w):RAS S p W T0 vs q st (L.setIfInBounds k true) (T.setIfInBounds s.slot v) w:=by
 obtain⟨w0,h0,h1,h2⟩:=h;exact⟨w0,h0.value s hs hk (hP w0),fun hn=>h1 fun hh=>hn (yE hh),fun hh=>(h2 (zL hh hne)).trans (hst w0).symm⟩
theorem RAS.store(h:RA S p W T0 vs L T w)(hL:L[q]?=some false)(hq:∀s∈vs,s.op≠q)(hp:q≠p)(hw:w'=st T w):RAS S p W T0 vs q st (L.setIfInBounds q true) T w':=
 ⟨w,h.mark hq hp,fun hn=>absurd (Array.getElem?_setIfInBounds_self_of_lt (Array.getElem?_eq_some_iff.1 hL).1) hn,fun _=>hw⟩
theorem RAS.here(h:RAS S p W T0 vs q st L T w)(hL:L[q]?=some false):RA S p W T0 vs L T w:=by
 obtain⟨w0,h0,h1,-⟩:=h;obtain rfl:=h1 (by rw[hL];simp);exact h0
end
def put3(a b:Nat)(T:Array Value)(w:World):World:=
 match T[a]?,T[b]? with
 |some (.pointer (some ⟨g,0,none⟩)),some (.agg #[x,y,z])=>((w.setCell ⟨g,0,none⟩ x).setCell ⟨g,1,none⟩ y).setCell ⟨g,2,none⟩ z
 |_,_=>w
theorem zB3{a b g:Nat}{T:Array Value}{w:World}{x y z:Value}(h1:T[a]?=some (.pointer (some ⟨g,0,none⟩)))(h2:T[b]?=some (.agg #[x,y,z])):put3 a b T w=((w.setCell ⟨g,0,none⟩ x).setCell ⟨g,1,none⟩ y).setCell ⟨g,2,none⟩ z:=by
 unfold put3;rw[h1,h2];rfl
theorem zD8{a b c:Nat}{T:Array Value}{w:World}{v:Value}(h1:c≠a)(h2:c≠b):put3 a b (T.setIfInBounds c v) w=put3 a b T w:=by
 unfold put3;rw[xgc h1,xgc h2]
theorem zFV{w w':World}{v:Value}(hg:w.grownBy w' v.ownBlock)(hx:yO w w'):yC v.ownBlock.toList w w':=
 ⟨(Below.refl 0 w).grown hg (Nat.zero_le _) (fun g _=>Nat.zero_le g),hx,fun k hk hn=>hg.block k hk (fun e=>hn (by rw[<-e];simp))⟩
theorem Below.only{B:Nat}{S:List Nat}{w0 w w':World}(h:Below B w0 w)(ho:yC S w w')(hB:B<=w0.heap.size)(hS:∀b∈S,B<=b):Below B w0 w':=
 h.trans ⟨ho.bel.os,ho.bel.tape,ho.bel.output,ho.bel.size,fun k hk=>ho.old k (Nat.lt_of_lt_of_le hk (Nat.le_trans hB h.size)) fun hm=>absurd (hS k hm) (by omega)⟩
theorem Blk.only{S:List Nat}{w w':World}{b:Nat}{t:TypeId}{cs:Array Value}(h:Blk w b t cs)(ho:yC S w w')(hb:b ∉ S):Blk w' b t cs:=(ho.old b h.lt hb).trans h
theorem zMn{w w':World}{g:Nat}{t:TypeId}{cs:Array Value}(hb:Blk w g t cs)(ht:t≠tU)(hbel:Below 0 w w')(ho:∀k,k≠g->w'.heap[k]?=w.heap[k]?):yC [g] w w':=
 ⟨hbel,fun b cs' fz hh=>(ho b (by
  rintro rfl
  have h1:w.heap[b]?=some (.cells cs t (0,0)):=hb
  rw[h1]at hh
  injection hh with hh
  injection hh with _ e
  exact ht e)).trans hh,fun k _ hk=>ho k (by simpa using hk)⟩
theorem zA8(w:World)(g:Nat)(cs:Array Value):Below 0 w (w.setRow g cs):=⟨rfl,rfl,rfl,by unfold World.setRow;simp,fun k hk=>by omega⟩
theorem zG6{w:World}{g:Nat}{t:TypeId}{cs:Array Value}(h:Blk w g t cs):w.shape? g=some (t,cs.size):=by
 have h1:w.heap[g]?=some (.cells cs t (0,0)):=h;unfold World.shape?;rw[h1]
theorem zFL{w:World}{g o:Nat}{t:TypeId}{cs:Array Value}(h:Blk w g t cs):w.frozen? ⟨g,o,none⟩=false:=by
 have h1:w.heap[g]?=some (.cells cs t (0,0)):=h;unfold World.frozen?;rw[h1];simp
theorem zKe{cur:List Value}{L:List (Nat × Nat)}{n k:Nat}(hn:L.length=n)(hk:k<=n)(hc:cur.take (n*2)=pc L)(hs:n*2+2<=cur.length)(r c:Nat):
  (((cur.take ((k+1)*2)++pc (L.drop k)++cur.drop ((k+1)*2+(pc (L.drop k)).length)).take (k*2)++pc [(r,c)]++(cur.take ((k+1)*2)++pc (L.drop k)++cur.drop ((k+1)*2+(pc (L.drop k)).length)).drop (k*2+(pc [(r,c)]).length)).take ((n+1)*2))=pc (L.take k++(r,c)::L.drop k):=by
 have l1:(pc (L.drop k)).length=(n-k)*2:=by rw[zEb,List.length_drop,hn]
 have l2:(pc [(r,c)]).length=2:=rfl;have l3:(cur.take ((k+1)*2)).length=(k+1)*2:=by rw[List.length_take];omega
 have t1:(cur.take ((k+1)*2)++pc (L.drop k)++cur.drop ((k+1)*2+(pc (L.drop k)).length)).take (k*2)=pc (L.take k):=by
  rw[List.append_assoc,List.take_append_of_le_length oM,List.take_take,Nat.min_eq_left oM,<-zK5,<-hc,List.take_take,Nat.min_eq_left oM]
 have t2:(cur.take ((k+1)*2)++pc (L.drop k)++cur.drop ((k+1)*2+(pc (L.drop k)).length)).drop (k*2+(pc [(r,c)]).length)=pc (L.drop k)++cur.drop ((k+1)*2+(pc (L.drop k)).length):=by
  rw[List.append_assoc,List.drop_append_of_le_length oM,l2,List.drop_eq_nil_of_le oM,List.nil_append]
 rw[t1,t2,zK2,show pc ((r,c)::L.drop k)=pc [(r,c)]++pc (L.drop k) from rfl,<-List.append_assoc,<-List.append_assoc];have l4:(pc (L.take k)++pc [(r,c)]++pc (L.drop k)).length=(n+1)*2:=by
  rw[List.length_append,List.length_append,l1,l2,zEb,List.length_take];omega
 rw[<-l4,List.take_left]
theorem zCC(base:Nat)(v:Value)(L:List (Nat × Nat))(k r c xb:Nat)(w:World)(h:zDk w base v L)(hk:k<=L.length)(hx:Blk w xb zAl #[.int .i64 r,.int .i64 c])(hne:∀g,v.ownBlock=some g->g≠xb)(hb:base<=w.heap.size)(hL:L.length<=1000000):
  Calls Tryz.prog 259 #[v,.int .i64 k,.slice (some ⟨xb,0,none⟩) 1 1] w fun e w'=>∃v',e= .returned v'/\zDk w' base v' (L.take k++(r,c)::L.drop k)/\yC v.ownBlock.toList w w':=by
 obtain⟨i0,hi,hz0,hz1,hz2⟩:=info_parts Tryz.infoPiv;have hown:=h;obtain⟨c0,c1,-,-⟩:=hx.two;have hnews:∀(j:Nat) (u:Value),[Value.int .i64 (r:Nat),Value.int .i64 (c:Nat)][j]?=some u->w.cell? ((⟨xb,0,none⟩:Addr).add j)=some u:=by
  intro j u hj;rw[Addr.add_lit];match j with
  |0=>simp at hj;subst hj;exact c0
  |1=>simp at hj;subst hj;exact c1
  |j+2=>simp at hj
 have hone:∀u∈ [Value.int .i64 (r:Nat),Value.int .i64 (c:Nat)],u.oneCell'=true:=by
  intro u hu;simp at hu;rcases hu with rfl|rfl<;>rfl
 have hend:∀v' w',w'.ownsRow base zAl 2 v' (L.length+1) (pc L++ [.int .i64 (r:Nat),.int .i64 (c:Nat)])->w.grownBy w' v.ownBlock->k=L.length->zDk w' base v' (L.take k++(r,c)::L.drop k)/\yC v.ownBlock.toList w w':=fun v' w' h1 h2 hkn=>by
  subst hkn;refine⟨?_,zFV h2 (zAM hown dE h2)⟩;unfold zDk;rw[List.take_length,List.drop_length,zK2,List.length_append];exact h1
 rcases h.2 with⟨rfl,h0⟩|⟨g,cap,cur,rfl,k1,k2,k3,k4,k5,k6⟩
 ·obtain rfl:k=0:=by omega
  have hl0:L= []:=List.eq_nil_of_length_eq_zero h0;subst hl0;go_enter Tryz.func259,Tryz.ntmps259;go_wp2_with (at_builtin;refine wpList_append_own w rfl _ _ 266 rfl base zAl i0 _ 2 16 Tryz.underlying266 hi hz0 hz1 hz2 rfl oM (.slice none 0 0) 0 (pc []) rfl hown ⟨xb,0,none⟩ 1 1 [.int .i64 (r:Nat),.int .i64 (c:Nat)] rfl rfl hnews hone (by simp[maxLen]) oM hb ?_;intro v' w' h1 h2 _)
  go_ret;exact⟨_,rfl,hend _ _ h1 h2 rfl⟩
 ·have hcap63:cap<=9223372036854775807:=k4
  by_cases hkn:k=L.length
  ·obtain⟨n,hn⟩:∃n,L.length=n:=⟨_,rfl⟩
   rw[hn]at hkn hk hL hown k3 k6 ⊢
   subst hkn;by_cases hck:cap=k;all_goals
    go_enter Tryz.func259,Tryz.ntmps259;go_wp2_with (at_builtin;refine wpList_append_own w rfl _ _ 266 rfl base zAl i0 _ 2 16 Tryz.underlying266 hi hz0 hz1 hz2 rfl oM (.slice (some ⟨g,0,none⟩) k cap) k (pc L) rfl (hn ▸ h) ⟨xb,0,none⟩ 1 1 [.int .i64 (r:Nat),.int .i64 (c:Nat)] rfl rfl hnews hone (by simp[maxLen];omega) oM hb ?_;intro v' w' h1 h2 _)
    go_ret;exact⟨_,rfl,hend _ _ (hn ▸ h1) h2 hn.symm⟩
  ·have hkl:k<L.length:=by omega
   obtain⟨n,hn⟩:∃n,L.length=n:=⟨_,rfl⟩;have HN:=xgw hn;rw[hn]at hkn hk hL k3 k6 hkl ⊢
   have hck:¬ cap=k:=by omega
   have hkn':((k:Int)==(n:Int))=false:=by simp;omega
   have hw1:IntKind.i64.wrap ((n:Int)+1)=(n:Int)+1:=IntWalk.i64_in _ oM;have hw2:IntKind.i64.wrap ((k:Int)+1)=(k:Int)+1:=IntWalk.i64_in _ oM;have hcs:(pc (L.drop k)).length=(n-k)*2:=by rw[zEb,List.length_drop,HN.out]
   by_cases hroom:n+1<=cap
   ·have hck1:¬ cap=k+1:=by omega
    have hnr:¬ ((cap:Int)<(n:Int)+1):=by omega
    have hkn1:(k:Int)<=(n:Int)+1:=by omega
    have hgx:g≠xb:=hne g rfl;have hG:Blk w g zAl cur:=k2;have hsz:∀w:World,(sizeOf zAl).run Tryz.prog w= .ok 2 w:=fun w=>by simp[sizeOf,typeInfo,hi,hz1]
    have hov:∀lb cb,(callFunc 300 #[.slice (some ⟨xb,0,none⟩) 1 1,.slice (some ⟨g,(k+1)*2,none⟩) lb cb]).run Tryz.prog w= .ok (.value (.bool false)) w:=fun lb cb=>by
     rw[run_callFunc_extern Tryz.func300 kR kR kR (e:=Extern.SlicesOverlaps.overlaps #[266,266] #[4]) kR,
      Lib.run_overlaps_apart w 266 4 zAl Tryz.underlying266 2 hsz ⟨xb,0,none⟩ ⟨g,(k+1)*2,none⟩ 1 1 lb cb (Ne.symm hgx) zAl zAl 2 cur.size (zG6 hx) (zG6 hG) oM (zFL hx) (zFL hx)]
     rfl
    go_enter Tryz.func259,Tryz.ntmps259;go_upto_region 15 with(simp only[hov])
    refine zC 8 rfl (RV w _ [E 0 69 (.slice (some ⟨g,0,none⟩) (n+1) cap),VN 1 70 k,VN 2 71 1,E 3 72 (.int .i64 (k+1)),E 4 73 (.slice (some ⟨g,(k+1)*2,none⟩) (n-k) (cap-(k+1))),E 5 74 (.slice (some ⟨g,0,none⟩) (n+1) cap),VN 6 75 k,E 7 76 (.slice (some ⟨g,k*2,none⟩) (n+1-k) (cap-k))]) kR RV.start (RV.fin kR ?fin1) ?steps1
    case steps1=>
     refine⟨?_,?_,?_,?_,?_,?_,?_,?_,trivial⟩<;>(intro L T wS hL hd hcl hI K hK;try refine zA rfl ?_)
     ·exact xgs (hI.k 0 rfl kR)
     ·exact xgs (hI.k 1 rfl kR)
     ·exact xgs (hI.k 7 rfl kR)
     ·exact xgt (hI.e mm1 (hd 1)) (hI.e mm2 (hd 2))
     ·exact xgt (hI.e mm0 (hd 0)) (hI.e mm3 (hd 3))
     ·exact xgs (hI.k 0 rfl kR)
     ·exact xgs (hI.k 1 rfl kR)
     ·exact xgt (hI.e mm5 (hd 5)) (hI.e mm6 (hd 6))
    intro w1 hbw1 T hT;simp only[Fin,E,EI,VP,VSl,VN,xgg,xgh,xgi,xgj]at hT;subst hT;simp only[xgl,xgk];have hG1:=hG.below hbw1;have hX1:=hx.below hbw1;obtain⟨v1,hr1⟩:=zDF w1 3 g ((k+1)*2) (n-k) (cap-(k+1)) ⟨g,k*2,none⟩ (n+1-k) (cap-k) cur zAl (pc (L.drop k)) hG1 (by rw[hcs];congr 1;simp only[Nat.min_def];split<;>omega)
     (fun j u hj=>by
      rw[Addr.add_lit,hG1.cell];rw[<-zK3,<-k6,List.getElem?_drop,List.getElem?_take]at hj;split at hj
      ·rw[<-hj,Array.getElem?_toList]
      ·cases hj) (by rw[hcs];omega) (zIg _)
    obtain⟨R1,hR1⟩:∃R1:Array Value,(cur.toList.take ((k+1)*2)++pc (L.drop k)++cur.toList.drop ((k+1)*2+(pc (L.drop k)).length)).toArray=R1:=⟨_,rfl⟩;rw[hR1]at hr1;have hR1s:R1.size=cap*2:=by
     rw[<-hR1];simp[hcs];omega
    have hG2:Blk (w1.setRow g R1) g zAl R1:=setRow_heap w1 g cur R1 zAl (0,0) hG1;have hX2:Blk (w1.setRow g R1) xb zAl #[.int .i64 r,.int .i64 c]:=(setRow_other w1 g xb R1 (Ne.symm hgx)).trans hX1;obtain⟨d0,d1,-,-⟩:=hX2.two;obtain⟨v2,hr2⟩:=zDF (w1.setRow g R1) 3 g (k*2) (n+1-k) (cap-k) ⟨xb,0,none⟩ 1 1 R1 zAl (pc [(r,c)]) hG2 (by show 2=_;simp only[Nat.min_def];split<;>omega)
     (fun j u hj=>by
      rw[Addr.add_lit];match j with
      |0=>simp[pc]at hj;subst hj;exact d0
      |1=>simp[pc]at hj;subst hj;exact d1
      |j+2=>simp[pc]at hj) (by show k*2+2<=_;omega) (zIg _)
    obtain⟨R2,hR2⟩:∃R2:Array Value,(R1.toList.take (k*2)++pc [(r,c)]++R1.toList.drop (k*2+(pc [(r,c)]).length)).toArray=R2:=⟨_,rfl⟩;rw[hR2]at hr2;have hfin:zDk ((w1.setRow g R1).setRow g R2) base (.slice (some ⟨g,0,none⟩) (n+1) cap) (L.take k++(r,c)::L.drop k)/\yC [g] w ((w1.setRow g R1).setRow g R2):=by
     have hl:(L.take k++(r,c)::L.drop k).length=n+1:=by simp[HN.out];omega
     refine⟨⟨zEb _,.inr ⟨g,cap,R2,by rw[hl],k1,setRow_heap _ g R1 R2 zAl (0,0) hG2,by omega,k4,?_,?_⟩⟩,?_⟩
     ·rw[<-hR2]
      have:(pc [(r,c)]).length=2:=rfl;simp[this];omega
     ·rw[hl,<-hR2,<-hR1]
      exact zKe HN.out oM (HN.out ▸ k6) (by simp;omega) r c
     ·refine(yC.of [g] hbw1).trans (zMn hG1 dE ((zA8 _ _ _).trans (zA8 _ _ _)) fun k hk=>(setRow_other _ g k R2 hk).trans (setRow_other _ g k R1 hk))
    clear hR1 hR2;go_wp2_with (first
     |(at_builtin;refine zCN rfl _ _ 266 266 rfl _ _ rfl rfl hr1 ?_)
     |(at_builtin;refine zCN rfl _ _ 266 266 rfl _ _ rfl rfl hr2 ?_))
    go_ret;exact⟨_,rfl,hfin⟩
   ·obtain rfl:cap=n:=by omega
    have hnr:((cap:Int)<(cap:Int)+1):=by omega
    have hG:Blk w g zAl cur:=k2;have hgx:g≠xb:=hne g rfl;have lg:=hG.lt;have lxb:=hx.lt;obtain⟨N,hN⟩:∃N,w.heap.size=N:=⟨_,rfl⟩;have hold:(Builtin.firstCells i0.size k (.slice (some ⟨g,0,none⟩) k cap)).run Tryz.prog w.drew= .ok (pc (L.take k)).toArray w.drew:=by
     rw[hz1];exact run_firstCells_some w.drew 2 k ⟨g,0,none⟩ k cap (pc (L.take k)) (by rw[zEb,List.length_take,HN.out];omega) (fun j u hj=>by
      rw[Addr.add_lit];show w.cell? _=_;rw[hG.cell,Nat.zero_add];rw[<-zK5,<-k6,List.getElem?_take,List.getElem?_take]at hj;split at hj
      ·split at hj
       ·rw[<-hj,Array.getElem?_toList]
       ·cases hj
      ·cases hj)
    have hik:k+(cap+1-k)=cap+1:=by omega
    obtain⟨G,hGc⟩:∃G,grownCap w (cap+1) cap zAl=G:=⟨_,rfl⟩;have hGn:cap+1<=G:=by rw[<-hGc];exact grownCap_ge w _ _ _
    have hG63:G<=9223372036854775807:=by
     have:=grownCap_le_maxLen w (cap+1) cap zAl (by unfold maxLen;omega);rw[hGc]at this;unfold maxLen at this;omega
    obtain⟨ROW,hROW⟩:∃ROW:Array Value,(pc (L.take k)).toArray++Builtin.zeroCells (Value.agg #[.int .i64 0,.int .i64 0]).cells (cap+1-k)++Builtin.zeroCells (Value.agg #[.int .i64 0,.int .i64 0]).cells (G-(cap+1))=ROW:=⟨_,rfl⟩;have hrz:∀ty,(Builtin.append_ #[266,3] ty #[.slice (some ⟨g,0,none⟩) k cap,.int .i64 ((cap:Int)+1-(k:Int))]).run Tryz.prog w= .ok (.slice (some ⟨N,0,none⟩) (cap+1) G) (w.drew.alloc (.cells ROW zAl)):=fun ty=>by
     have h:=Lib.run_append_grow_zeros w 266 3 ty zAl i0 _ .i64 .i64 Tryz.underlying266 Tryz.underlying3 hi hz0 (some ⟨g,0,none⟩) k cap (pc (L.take k)) hold (cap+1-k) oM oM oM oM (by rw[hz2];omega) (by rw[hz2,hik];exact growslice_fits oM oM);rw[hik,hGc,hROW,hN]at h;rw[show(cap:Int)+1-(k:Int)=((cap+1-k:Nat):Int) by omega];exact h
    have hlt:(pc (L.take k)).length=k*2:=by rw[zEb,List.length_take,HN.out];omega
    have hRs:ROW.size=G*2:=by
     rw[<-hROW];simp[Builtin.zeroCells,Value.cells,hlt];omega
    have hRt:ROW.toList.take (k*2)=pc (L.take k):=by
     rw[<-hROW];simp only[Array.toList_append,List.append_assoc];rw[<-hlt,List.take_left]
    have hG1:Blk ((w.alloc (.cells ROW zAl)).drew) N zAl ROW:=by rw[<-hN];exact Blk.new w.drew zAl ROW
    have hBa:Below w.heap.size w ((w.alloc (.cells ROW zAl)).drew):=((Below.refl _ _).alloc (xgf _) _).drew;have hX1:=hx.below hBa;obtain⟨d0,d1,-,-⟩:=hX1.two;obtain⟨v2,hr2⟩:=zDF ((w.alloc (.cells ROW zAl)).drew) 3 N (k*2) (cap+1-k) (G-k) ⟨xb,0,none⟩ 1 1 ROW zAl (pc [(r,c)]) hG1 (by show 2=_;simp only[Nat.min_def];split<;>omega)
     (fun j u hj=>by
      rw[Addr.add_lit];match j with
      |0=>simp[pc]at hj;subst hj;exact d0
      |1=>simp[pc]at hj;subst hj;exact d1
      |j+2=>simp[pc]at hj) (by show k*2+2<=_;omega) (zIg _)
    obtain⟨R1,hR1⟩:∃R1:Array Value,(ROW.toList.take (k*2)++pc [(r,c)]++ROW.toList.drop (k*2+(pc [(r,c)]).length)).toArray=R1:=⟨_,rfl⟩;rw[hR1]at hr2;have l2:(pc [(r,c)]).length=2:=rfl;have hR1s:R1.size=G*2:=by
     rw[<-hR1];simp[l2];omega
    have hR1t:R1.toList.take ((k+1)*2)=pc (L.take k)++pc [(r,c)]:=by
     rw[<-hR1];show List.take _ (_++_++_)=_;rw[hRt,<-(show(pc (L.take k)++pc [(r,c)]).length=(k+1)*2 by rw[List.length_append,hlt,l2];omega),List.take_left]
    obtain⟨W2,hW2⟩:∃W2,((w.alloc (.cells ROW zAl)).drew).setRow N R1=W2:=⟨_,rfl⟩;have hG2:Blk W2 N zAl R1:=by rw[<-hW2];exact setRow_heap _ N ROW R1 zAl (0,0) hG1
    have hB2:Below w.heap.size w W2:=by
     rw[<-hW2];exact⟨hBa.os,hBa.tape,hBa.output,by have:=(zA8 ((w.alloc (.cells ROW zAl)).drew) N R1).size;have:=hBa.size;omega,fun k hk=>(setRow_other _ N k R1 oM).trans (hBa.block k hk)⟩
    rw[hW2]at hr2;have hck1:¬ G=k+1:=by omega
    have hck2:¬ G=k:=by omega
    have hkn1:(k:Int)<=(cap:Int)+1:=by omega
    go_enter Tryz.func259,Tryz.ntmps259;go_upto_region 11 with(first
     |(at_builtin;refine Lib.wpList_append_run _ rfl _ _ _ _ rfl _ _ rfl rfl _ _ (hrz _) ?_)
     |(at_builtin;refine zCN rfl _ _ 266 266 rfl _ _ rfl rfl hr2 ?_))
    refine zC 8 rfl (RV W2 _ [E 0 46 (.slice (some ⟨N,0,none⟩) (cap+1) G),VN 1 47 k,VN 2 48 1,E 3 49 (.int .i64 (k+1)),E 4 50 (.slice (some ⟨N,(k+1)*2,none⟩) (cap-k) (G-(k+1))),VSl 5 51 g cap cap,VN 6 52 k,E 7 53 (.slice (some ⟨g,k*2,none⟩) (cap-k) (cap-k))]) kR RV.start (RV.fin kR ?fin2) ?steps2
    case steps2=>
     refine⟨?_,?_,?_,?_,?_,?_,?_,?_,trivial⟩<;>(intro L T wS hL hd hcl hI K hK;try refine zA rfl ?_)
     ·exact xgs (hI.k 9 rfl kR)
     ·exact xgs (hI.k 1 rfl kR)
     ·exact xgs (hI.k 7 rfl kR)
     ·exact xgt (hI.e mm1 (hd 1)) (hI.e mm2 (hd 2))
     ·exact xgt (hI.e mm0 (hd 0)) (hI.e mm3 (hd 3))
     ·exact xgs (hI.k 0 rfl kR)
     ·exact xgs (hI.k 1 rfl kR)
     ·exact xgt (hI.e mm5 (hd 5)) (hI.e mm6 (hd 6))
    intro w3 hbw3 T hT;simp only[Fin,E,EI,VP,VSl,VN,xgg,xgh,xgi,xgj]at hT;subst hT;simp only[xgl,xgk];have hG3:=hG2.below hbw3;have hO3:=(hG.below hB2).below hbw3;obtain⟨v3,hr3⟩:=zDF w3 3 N ((k+1)*2) (cap-k) (G-(k+1)) ⟨g,k*2,none⟩ (cap-k) (cap-k) R1 zAl (pc (L.drop k)) hG3 (by rw[hcs];congr 1;simp only[Nat.min_def];split<;>omega)
     (fun j u hj=>by
      rw[Addr.add_lit,hO3.cell];rw[<-zK3,<-k6,List.getElem?_drop,List.getElem?_take]at hj;split at hj
      ·rw[<-hj,Array.getElem?_toList]
      ·cases hj) (by rw[hcs];omega) (zIg _)
    obtain⟨R2,hR2⟩:∃R2:Array Value,(R1.toList.take ((k+1)*2)++pc (L.drop k)++R1.toList.drop ((k+1)*2+(pc (L.drop k)).length)).toArray=R2:=⟨_,rfl⟩;rw[hR2]at hr3;have hfin:zDk (w3.setRow N R2) base (.slice (some ⟨N,0,none⟩) (cap+1) G) (L.take k++(r,c)::L.drop k)/\yC [g] w (w3.setRow N R2):=by
     have hl:(L.take k++(r,c)::L.drop k).length=cap+1:=by simp[HN.out];omega
     refine⟨⟨zEb _,.inr ⟨N,G,R2,by rw[hl],by omega,setRow_heap _ N R1 R2 zAl (0,0) hG3,by omega,hG63,?_,?_⟩⟩,?_⟩
     ·rw[<-hR2]
      simp[hcs];omega
     ·rw[hl,<-hR2]
      show List.take _ (_++_++_)=_;rw[hR1t,zK2,show pc ((r,c)::L.drop k)=pc [(r,c)]++pc (L.drop k) from rfl,<-List.append_assoc];rw[<-(show(pc (L.take k)++pc [(r,c)]++pc (L.drop k)).length=(cap+1)*2 by rw[List.length_append,List.length_append,hcs,hlt,l2];omega),List.take_left]
     ·refine yC.of [g] ?_
      have hb3:=hB2.trans (hbw3.mono hB2.size);exact⟨hb3.os,hb3.tape,hb3.output,by have:=(zA8 w3 N R2).size;have:=hb3.size;omega,fun k hk=>(setRow_other _ N k R2 oM).trans (hb3.block k hk)⟩
    clear hR1 hR2;go_wp2_with (at_builtin;refine zCN rfl _ _ 266 266 rfl _ _ rfl rfl hr3 ?_)
    go_ret;exact⟨_,rfl,hfin⟩
end Go.Proofs.YtnbmaipobhppcaaGreat
