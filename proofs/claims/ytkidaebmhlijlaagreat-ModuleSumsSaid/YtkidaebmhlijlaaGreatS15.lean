/- Joined. -/
import Derived.ChangeKeysEq
import Derived.Laws.StructEq
import Derived.Test.YtkidaebmhlijlaaGreatS13
set_option linter.unusedVariables false
set_option linter.unusedSimpArgs false
set_option linter.unusedSectionVars false
set_option maxHeartbeats 16000000
set_option maxRecDepth 100000
variable{ops:Array Go.Oper}{T:Array Go.Value}{Q:Go.Exit->Go.Act->Go.World->Prop}{M:List (List Int)}{bs:List Nat}{B C R a b base g i k n:Nat}{F:Nat->Nat->Int}{o:Go.Oper}{A:Go.Value}{w w':Go.World}
namespace Go.Proofs.YtkidaebmhlijlaaGreat
open Go.RowKit
structure RA(S:List Nat)(k:Nat)(W:World)(T0:Array Value)(vs:List VS)(L:Array Bool)(T:Array Value)(w:World):Prop where
 wf:zGQ T0.size vs=true
 lv:∀s∈vs,zAQ s.P
 size:T.size=T0.size
 keep:∀j,(∀s∈vs,s.slot≠j)->T[j]?=T0[j]?
 onl:zBr S W w
 bef:L[k]?=some false->Below W.heap.size W w
 val:∀s∈vs,L[s.op]?=some true->∃v,T[s.slot]?=some v/\s.P w v
section
variable {S:List Nat} {p:Nat} {W:World} {T0:Array Value} {vs:List VS} {L:Array Bool} {T:Array Value} {w w':World}
theorem RA.start(hwf:zGQ T0.size vs=true)(hv:∀s∈vs,zAQ s.P){n:Nat}:RA S p W T0 vs (Array.replicate n false) T0 W.drew:=
 ⟨hwf,hv,rfl,fun _ _=>rfl,zBr.of S (dr _),fun _=>dr _,fun s _ h=>by
  rw[Array.getElem?_replicate]at h;split at h<;>simp at h⟩
abbrev zE3:=@RA.start
theorem RA.world(h:RA S p W T0 vs L T w)(hb:Below w.heap.size w w'):RA S p W T0 vs L T w':=
 ⟨h.wf,h.lv,h.size,h.keep,h.onl.trans (zBr.of S hb),fun hp=>nx (h.bef hp) hb,fun s hs hl=>by
  obtain⟨v,h1,h2⟩:=h.val s hs hl;exact⟨v,h1,h.lv s hs _ _ _ hb h2⟩⟩
theorem RA.value{v:Value}(h:RA S p W T0 vs L T w)(s:VS)(hs:s∈vs)(hk:s.op=k)(hP:s.P w v):RA S p W T0 vs (L.setIfInBounds k true) (T.setIfInBounds s.slot v) w:=by
 subst hk;have hwf:=h.wf;unfold zGQ at hwf;simp only[Bool.and_eq_true,decide_eq_true_eq,List.all_eq_true]at hwf;obtain⟨⟨w1,w2⟩,w3⟩:=hwf;have hslot:s.slot<T0.size:=w3 _ (List.mem_map.2 ⟨s,hs,rfl⟩);refine⟨h.wf,h.lv,by simp[h.size],fun j h1=>by rw[xgc (h1 s hs)];exact h.keep j h1,h.onl,fun hp=>h.bef ?_,?_⟩
 ·by_cases he:s.op=p
  ·subst he
   rw[Array.getElem?_setIfInBounds]at hp;split at hp;split at hp<;>cases hp
   exact hp
  rwa[xgc he]at hp
 intro t ht hl;by_cases he:t=s
 ·subst he
  exact⟨v,by rw[Array.getElem?_setIfInBounds_self_of_lt (by rw[h.size];exact hslot)],hP⟩
 have n1:t.op≠s.op:=fun e=>he (qY w2 ht hs e)
 have n2:t.slot≠s.slot:=fun e=>he (qY w1 ht hs e)
 obtain⟨u,h1,h2⟩:=h.val t ht (qU hl (zP n1));exact⟨u,by rw[xgc (zP n2)];exact h1,h2⟩
theorem RA.turn{v:Value}(h:RA S p W T0 vs L T w)(s:VS)(hs:s∈vs)(hk:s.op=p)(hL:p<L.size)(ho:zBr S w w')(hq:∀t∈vs,t≠s->L[t.op]?=some true->∀v,t.P w v->t.P w' v)(hP:s.P w' v):RA S p W T0 vs (L.setIfInBounds p true) (T.setIfInBounds s.slot v) w':=by
 subst hk;have hwf:=h.wf;unfold zGQ at hwf;simp only[Bool.and_eq_true,decide_eq_true_eq,List.all_eq_true]at hwf;obtain⟨⟨w1,w2⟩,w3⟩:=hwf;have hslot:s.slot<T0.size:=w3 _ (List.mem_map.2 ⟨s,hs,rfl⟩);refine⟨h.wf,h.lv,by simp[h.size],fun j h1=>by rw[xgc (h1 s hs)];exact h.keep j h1,h.onl.trans ho,fun hp=>?_,?_⟩
 ·rw[Array.getElem?_setIfInBounds_self_of_lt hL]at hp
  cases hp
 intro t ht hl;by_cases he:t=s
 ·subst he
  exact⟨v,by rw[Array.getElem?_setIfInBounds_self_of_lt (by rw[h.size];exact hslot)],hP⟩
 have n1:t.op≠s.op:=fun e=>he (qY w2 ht hs e)
 have n2:t.slot≠s.slot:=fun e=>he (qY w1 ht hs e)
 have hl':=qU hl (zP n1);obtain⟨u,h1,h2⟩:=h.val t ht hl';exact⟨u,by rw[xgc (zP n2)];exact h1,hq t ht he hl' u h2⟩
theorem RA.v{s:VS}(h:RA S p W T0 vs L T w)(hs:s∈vs)(hl:L[s.op]?=some true):∃v,T[s.slot]?=some v/\s.P w v:=h.val s hs hl
theorem RA.y{v:Value}(h:RA S p W T0 vs L T w){s:VS}(hs:s∈vs)(hP:s.P w v)(hk:s.op=k:=by rfl):RA S p W T0 vs (L.setIfInBounds k true) (T.setIfInBounds s.slot v) w:=h.value s hs hk hP
theorem RA.cell{o:Nat}{v:Value}(h:RA S p W T0 vs L T w)(hb:b ∉ S)(hlt:b<W.heap.size)(hc:W.cell? ⟨b,o,none⟩=some v):w.cell? ⟨b,o,none⟩=some v:=by
 have:=h.onl.old b hlt hb;unfold World.cell? at hc ⊢
 rw[this];exact hc
end
def RAS(S:List Nat)(p:Nat)(W:World)(T0:Array Value)(vs:List VS)(q:Nat)(st:Array Value->World->World)(L:Array Bool)(T:Array Value)(w:World):Prop:=
 ∃w0,RA S p W T0 vs L T w0/\(L[q]?≠some true->w=w0)/\(L[q]?=some true->w=st T w0)
section
variable {S:List Nat} {p:Nat} {W:World} {T0:Array Value} {vs:List VS} {L:Array Bool} {T:Array Value} {w w':World} {q:Nat} {st:Array Value->World->World}
theorem RAS.start{n:Nat}(h:RA S p W T0 vs (Array.replicate n false) T0 W.drew):RAS S p W T0 vs q st (Array.replicate n false) T0 W.drew:=
 ⟨_,h,fun _=>rfl,fun hh=>by
  rw[Array.getElem?_replicate]at hh;split at hh<;>simp at hh⟩
abbrev zEX:=@RAS.start
theorem RA.mark(h:RA S p W T0 vs L T w)(hq:∀s∈vs,s.op≠q)(hp:q≠p):RA S p W T0 vs (L.setIfInBounds q true) T w:=
 ⟨h.wf,h.lv,h.size,h.keep,h.onl,fun hh=>h.bef (by rwa[xgc hp]at hh),fun s hs hl=>h.val s hs (qU hl (zP (hq s hs)))⟩
theorem yM.liftA{P:Program}{Q:Exit->Act->World->Prop}{ds:List Deferred}{o:Oper}(hq:zHV ops 5 q i=true)(hne:i≠q)
  (h:yM P ops Q ds (RA S p W T0 vs) i o):yM P ops Q ds (RAS S p W T0 vs q st) i o:=by
 intro L T w hL hd hcl hI K hK;obtain⟨w0,h0,h1,h2⟩:=hI;have hLq:L[q]?≠some true:=fun hh=>by
  have:=zDK hcl hq hh;rw[hL]at this;cases this
 obtain rfl:=h1 hLq;exact h L T w hL @hd hcl h0 K (fun T' w' h'=>hK T' w' ⟨w',h',fun _=>rfl,fun hh=>absurd (qU hh hne) hLq⟩)
theorem RAS.pure{v:Value}(h:RAS S p W T0 vs q st L T w)(s:VS)(hs:s∈vs)(hk:s.op=k)(hP:∀w,s.P w v)(hne:k≠q)(hst:∀w,st (T.setIfInBounds s.slot v) w=st T w):RAS S p W T0 vs q st (L.setIfInBounds k true) (T.setIfInBounds s.slot v) w:=by
 obtain⟨w0,h0,h1,h2⟩:=h;exact⟨w0,h0.value s hs hk (hP w0),fun hn=>h1 fun hh=>hn (zBI hh),fun hh=>(h2 (qU hh hne)).trans (hst w0).symm⟩
theorem RAS.store(h:RA S p W T0 vs L T w)(hL:L[q]?=some false)(hq:∀s∈vs,s.op≠q)(hp:q≠p)(hw:w'=st T w):RAS S p W T0 vs q st (L.setIfInBounds q true) T w':=
 ⟨w,h.mark hq hp,fun hn=>absurd (Array.getElem?_setIfInBounds_self_of_lt (Array.getElem?_eq_some_iff.1 hL).1) hn,fun _=>hw⟩
abbrev zEY:=@RAS.store
theorem RAS.here(h:RAS S p W T0 vs q st L T w)(hL:L[q]?=some false):RA S p W T0 vs L T w:=by
 obtain⟨w0,h0,h1,-⟩:=h;obtain rfl:=h1 (by rw[hL];simp);exact h0
end
def put3(a b:Nat)(T:Array Value)(w:World):World:=
 match T[a]?,T[b]? with
 |some (.pointer (some ⟨g,0,none⟩)),some (.agg #[x,y,z])=>((w.setCell ⟨g,0,none⟩ x).setCell ⟨g,1,none⟩ y).setCell ⟨g,2,none⟩ z
 |_,_=>w
theorem zR4{x y z:Value}(h1:T[a]?=some (.pointer (some ⟨g,0,none⟩)))(h2:T[b]?=some (.agg #[x,y,z])):put3 a b T w=((w.setCell ⟨g,0,none⟩ x).setCell ⟨g,1,none⟩ y).setCell ⟨g,2,none⟩ z:=by
 unfold put3;rw[h1,h2];rfl
theorem zT3{c:Nat}{v:Value}(h1:c≠a)(h2:c≠b):put3 a b (T.setIfInBounds c v) w=put3 a b T w:=by
 unfold put3;rw[xgc h1,xgc h2]
theorem zPm{v:Value}(hg:w.grownBy w' v.ownBlock)(hx:zBq w w'):zBr v.ownBlock.toList w w':=
 ⟨(zA 0 w).grown hg (zE _) (fun g _=>zE g),hx,fun k hk hn=>hg.block k hk (fun e=>hn (by rw[<-e];simp))⟩
theorem Below.only{S:List Nat}{w0:World}(h:Below B w0 w)(ho:zBr S w w')(hB:B<=w0.heap.size)(hS:∀b∈S,B<=b):Below B w0 w':=
 h.trans ⟨ho.bel.os,ho.bel.tape,ho.bel.output,ho.bel.size,fun k hk=>ho.old k (zH hk (zB hB h.size)) fun hm=>absurd (hS k hm) (by omega)⟩
def okW(B R C Cu Cw:Nat)(z:W5):Prop:=okF B R C z.s/\okF B R Cu z.u/\okF B R Cu z.v/\okF B C Cw z.w/\okF B C Cw z.x
theorem qA.fresh(h:qA w base A C bs M)(hb:Zn A bs b):base<=b:=by
 rcases hb with hb|hb
 ·obtain⟨k,hk,e⟩:=qS hb
  exact(h.row k b (M[k]'(by rw[h.len];exact hk)) (by rw[xga hk,e]) (xga _)).1
 rcases h.own.2 with⟨rfl,-⟩|⟨g,cap,cur,rfl,h2,-⟩
 cases hb;simp only[Value.ownBlock,Option.some.injEq]at hb;omega
section
variable {w w':World} {base wb RS CS R C Cu Cw:Nat} {AS AU AV AW AX:Value} {bS bU bV bW bX:List Nat} {z:W5}
theorem zCW.band1(h:zCW w base wb R C R C Cu Cw AS AU AV AW AX bS bU bV bW bX z):zCA (fun b=>Zn AS bS b∨Zn AU bU b∨Zn AV bV b) w AS AU AV R C Cu ⟨z.s,z.u,z.v⟩:=
 ⟨⟨bS,bU,bV,⟨h.mS,h.mU,h.mV,h.su.far,h.sv.far,h.uv.far,h.su.own,h.sv.own,h.uv.own⟩,fun b hb=>by
  rcases hb with hb|hb|hb
  exact .inl (.inl hb);exact .inr (.inl (.inl hb));exact .inr (.inr (.inl hb))⟩,fun g hg=>by
  rcases hg with hg|hg|hg
  exact .inl (.inr hg);exact .inr (.inl (.inr hg));exact .inr (.inr (.inr hg))⟩
theorem zCW.zlt1(h:zCW w base wb RS CS R C Cu Cw AS AU AV AW AX bS bU bV bW bX z):∀b,(Zn AS bS b∨Zn AU bU b∨Zn AV bV b)->b<w.heap.size:=by
 rintro b (hb|hb|hb);exact h.mS.zlt hb;exact h.mU.zlt hb;exact h.mV.zlt hb
theorem zCW.after1(h:zCW w base wb R C R C Cu Cw AS AU AV AW AX bS bU bV bW bX z){x:Bst}(ho:qG (fun b=>Zn AS bS b∨Zn AU bU b∨Zn AV bV b) w w')(hz:zCA (fun b=>Zn AS bS b∨Zn AU bU b∨Zn AV bV b) w' AS AU AV R C Cu x):
  (∃bS' bU' bV',zCW w' base wb R C R C Cu Cw AS AU AV AW AX bS' bU' bV' bW bX ⟨x.s,x.t,x.i,z.w,z.x⟩)/\qG (fun b=>base<=b) w w':=by
 obtain⟨⟨bS',bU',bV',⟨h1,h2,h3,h4,h5,h6,h7,h8,h9⟩,hzz⟩,hown⟩:=hz;have zS:∀b,Zn AS bS' b->Zn AS bS b∨Zn AU bU b∨Zn AV bV b:=fun b hb=>hb.elim (fun hh=>hzz b (.inl hh)) (fun hh=>hown b (.inl hh))
 have zU:∀b,Zn AU bU' b->Zn AS bS b∨Zn AU bU b∨Zn AV bV b:=fun b hb=>hb.elim (fun hh=>hzz b (.inr (.inl hh))) (fun hh=>hown b (.inr (.inl hh)))
 have zV:∀b,Zn AV bV' b->Zn AS bS b∨Zn AU bU b∨Zn AV bV b:=fun b hb=>hb.elim (fun hh=>hzz b (.inr (.inr hh))) (fun hh=>hown b (.inr (.inr hh)))
 have nW:∀b,(Zn AS bS b∨Zn AU bU b∨Zn AV bV b)->¬ Zn AW bW b:=by
  rintro b (hb|hb|hb) hw;exact h.sw b hb hw;exact h.uw b hb hw;exact h.vw b hb hw
 have nX:∀b,(Zn AS bS b∨Zn AU bU b∨Zn AV bV b)->¬ Zn AX bX b:=by
  rintro b (hb|hb|hb) hw;exact h.sx b hb hw;exact h.ux b hb hw;exact h.vx b hb hw
 have hzb:∀b,(Zn AS bS b∨Zn AU bU b∨Zn AV bV b)->base<=b:=by
  rintro b (hb|hb|hb);exact h.zb b (.inl hb);exact h.zb b (.inr (.inl hb));exact h.zb b (.inr (.inr (.inl hb)))
 refine⟨⟨bS',bU',bV',⟨ho.blk h.blk ?_,h.wbb,h1,h2,h3,h.mW.keepZ ho (fun b hb hz=>nW b hz hb),h.mX.keepZ ho (fun b hb hz=>nX b hz hb),?_,Ap.of h1 h2 h4 h7,Ap.of h1 h3 h5 h8,fun b hb=>nW b (zS b hb),fun b hb=>nX b (zS b hb),Ap.of h2 h3 h6 h9,
  fun b hb=>nW b (zU b hb),fun b hb=>nX b (zU b hb),fun b hb=>nW b (zV b hb),fun b hb=>nX b (zV b hb),h.wx⟩⟩,ho.mono (fun b _ hb=>hzb b hb)⟩
 ·rintro(hh|hh|hh)
  ·exact h.mS.nwb h.blk hh
  exact h.mU.nwb h.blk hh;exact h.mV.nwb h.blk hh
 rintro b (hb|hb|hb|hb|hb);exact hzb b (zS b hb);exact hzb b (zU b hb);exact hzb b (zV b hb);exact h.zb b (.inr (.inr (.inr (.inl hb))));exact h.zb b (.inr (.inr (.inr (.inr hb))))
theorem zCW.band2(h:zCW w base wb C R R C Cu Cw AS AU AV AW AX bS bU bV bW bX z):zCA (fun b=>Zn AS bS b∨Zn AW bW b∨Zn AX bX b) w AS AW AX C R Cw ⟨z.s,z.w,z.x⟩:=
 ⟨⟨bS,bW,bX,⟨h.mS,h.mW,h.mX,h.sw.far,h.sx.far,h.wx.far,h.sw.own,h.sx.own,h.wx.own⟩,fun b hb=>by
  rcases hb with hb|hb|hb
  exact .inl (.inl hb);exact .inr (.inl (.inl hb));exact .inr (.inr (.inl hb))⟩,fun g hg=>by
  rcases hg with hg|hg|hg
  exact .inl (.inr hg);exact .inr (.inl (.inr hg));exact .inr (.inr (.inr hg))⟩
theorem zCW.zlt2(h:zCW w base wb RS CS R C Cu Cw AS AU AV AW AX bS bU bV bW bX z):∀b,(Zn AS bS b∨Zn AW bW b∨Zn AX bX b)->b<w.heap.size:=by
 rintro b (hb|hb|hb);exact h.mS.zlt hb;exact h.mW.zlt hb;exact h.mX.zlt hb
theorem zCW.after2(h:zCW w base wb C R R C Cu Cw AS AU AV AW AX bS bU bV bW bX z){x:Bst}(ho:qG (fun b=>Zn AS bS b∨Zn AW bW b∨Zn AX bX b) w w')(hz:zCA (fun b=>Zn AS bS b∨Zn AW bW b∨Zn AX bX b) w' AS AW AX C R Cw x):
  (∃bS' bW' bX',zCW w' base wb C R R C Cu Cw AS AU AV AW AX bS' bU bV bW' bX' ⟨x.s,z.u,z.v,x.t,x.i⟩)/\qG (fun b=>base<=b) w w':=by
 obtain⟨⟨bS',bU',bV',⟨h1,h2,h3,h4,h5,h6,h7,h8,h9⟩,hzz⟩,hown⟩:=hz;have zS:∀b,Zn AS bS' b->Zn AS bS b∨Zn AW bW b∨Zn AX bX b:=fun b hb=>hb.elim (fun hh=>hzz b (.inl hh)) (fun hh=>hown b (.inl hh))
 have zU:∀b,Zn AW bU' b->Zn AS bS b∨Zn AW bW b∨Zn AX bX b:=fun b hb=>hb.elim (fun hh=>hzz b (.inr (.inl hh))) (fun hh=>hown b (.inr (.inl hh)))
 have zV:∀b,Zn AX bV' b->Zn AS bS b∨Zn AW bW b∨Zn AX bX b:=fun b hb=>hb.elim (fun hh=>hzz b (.inr (.inr hh))) (fun hh=>hown b (.inr (.inr hh)))
 have nW:∀b,(Zn AS bS b∨Zn AW bW b∨Zn AX bX b)->¬ Zn AU bU b:=by
  rintro b (hb|hb|hb) hw;exact h.su b hb hw;exact h.uw b hw hb;exact h.ux b hw hb
 have nX:∀b,(Zn AS bS b∨Zn AW bW b∨Zn AX bX b)->¬ Zn AV bV b:=by
  rintro b (hb|hb|hb) hw;exact h.sv b hb hw;exact h.vw b hw hb;exact h.vx b hw hb
 have hzb:∀b,(Zn AS bS b∨Zn AW bW b∨Zn AX bX b)->base<=b:=by
  rintro b (hb|hb|hb);exact h.zb b (.inl hb);exact h.zb b (.inr (.inr (.inr (.inl hb))));exact h.zb b (.inr (.inr (.inr (.inr hb))))
 refine⟨⟨bS',bU',bV',⟨ho.blk h.blk ?_,h.wbb,h1,h.mU.keepZ ho (fun b hb hz=>nW b hz hb),h.mV.keepZ ho (fun b hb hz=>nX b hz hb),h2,h3,?_,fun b hb=>nW b (zS b hb),fun b hb=>nX b (zS b hb),Ap.of h1 h2 h4 h7,Ap.of h1 h3 h5 h8,h.uv,
  fun b hb hu=>nW b (zU b hu) hb,fun b hb hu=>nW b (zV b hu) hb,fun b hb hu=>nX b (zU b hu) hb,fun b hb hu=>nX b (zV b hu) hb,Ap.of h2 h3 h6 h9⟩⟩,ho.mono (fun b _ hb=>hzb b hb)⟩
 ·rintro(hh|hh|hh)
  ·exact h.mS.nwb h.blk hh
  exact h.mW.nwb h.blk hh;exact h.mX.nwb h.blk hh
 rintro b (hb|hb|hb|hb|hb);exact hzb b (zS b hb);exact h.zb b (.inr (.inl hb));exact h.zb b (.inr (.inr (.inl hb)));exact hzb b (zU b hb);exact hzb b (zV b hb)
theorem zCW.setS(h:zCW w base wb RS CS R C Cu Cw AS AU AV AW AX bS bU bV bW bX z){RS' CS':Nat}{AS':Value}{bS':List Nat}(hs:Wri w AS' RS' CS' bS' F)(hf:∀b,Zn AS' bS' b->n<=b)(hn:∀b,Zn AU bU b∨Zn AV bV b∨Zn AW bW b∨Zn AX bX b->b<n)(hbn:base<=n):
  zCW (((w.setCell ⟨wb,0,none⟩ (.int .i64 RS')).setCell ⟨wb,1,none⟩ (.int .i64 CS')).setCell ⟨wb,2,none⟩ AS') base wb RS' CS' R C Cu Cw AS' AU AV AW AX bS' bU bV bW bX ⟨F,z.u,z.v,z.w,z.x⟩∧
   qG (fun b=>base<=b) w (((w.setCell ⟨wb,0,none⟩ (.int .i64 RS')).setCell ⟨wb,1,none⟩ (.int .i64 CS')).setCell ⟨wb,2,none⟩ AS'):=by
 have hx:zBq w (((w.setCell ⟨wb,0,none⟩ (.int .i64 RS')).setCell ⟨wb,1,none⟩ (.int .i64 CS')).setCell ⟨wb,2,none⟩ AS'):=h.blk.lext3 dE _ _ _;have ho:qG (fun b=>b=wb) w (((w.setCell ⟨wb,0,none⟩ (.int .i64 RS')).setCell ⟨wb,1,none⟩ (.int .i64 CS')).setCell ⟨wb,2,none⟩ AS'):=
  ⟨yJ (yJ (yJ (zA _ _) (zE _) _ _) (zE _) _ _) (zE _) _ _,hx,fun b _ hb=>zAe _ _ _ _ _ _ hb⟩
 have hb3:=((h.blk.set_ 0 (.int .i64 RS')).set_ 1 (.int .i64 CS')).set_ 2 AS';have far:∀{A:Value} {bs:List Nat},(∀b,Zn A bs b->b<n)->Ap AS' bS' A bs:=fun hlt b h1 h2=>by
  have:=hf b h1;have:=hlt b h2;omega
 refine⟨⟨by simpa using hb3,h.wbb,hs.keepZ ho ?_,h.mU.keepZ ho ?_,h.mV.keepZ ho ?_,h.mW.keepZ ho ?_,h.mX.keepZ ho ?_,?_,far (fun b hb=>hn b (.inl hb)),far (fun b hb=>hn b (.inr (.inl hb))),far (fun b hb=>hn b (.inr (.inr (.inl hb)))),far (fun b hb=>hn b (.inr (.inr (.inr hb)))),h.uv,h.uw,h.ux,h.vw,h.vx,h.wx⟩,ho.mono ?_⟩;rintro b hb rfl;exact hs.nwb h.blk hb;rintro b hb rfl;exact h.mU.nwb h.blk hb;rintro b hb rfl;exact h.mV.nwb h.blk hb;rintro b hb rfl;exact h.mW.nwb h.blk hb;rintro b hb rfl;exact h.mX.nwb h.blk hb
 ·rintro b (hb|hb)
  ·exact zB hbn (hf b hb)
  exact h.zb b (.inr hb)
 rintro b-rfl;exact h.wbb
theorem zCW.zltR(h:zCW w base wb RS CS R C Cu Cw AS AU AV AW AX bS bU bV bW bX z):∀b,Zn AU bU b∨Zn AV bV b∨Zn AW bW b∨Zn AX bX b->b<w.heap.size:=by
 rintro b (hb|hb|hb|hb);exact h.mU.zlt hb;exact h.mV.zlt hb;exact h.mW.zlt hb;exact h.mX.zlt hb
end
theorem Wri.shape(h:Wri w A R C bs F):∃o c,A= .slice o R c:=by
 obtain⟨so,sn,sc,rfl,s1,-⟩:=id (qA.rows h);obtain rfl:R=sn:=by rw[<-s1];simp[genM]
 exact⟨_,_,rfl⟩
theorem zKK(hB:BSm B)(h:Wri w A R C bs F)(hok:okF B R C F)(hR:R<=1000000)(hC:C<=1000000):
  Calls Tryz.prog 151 #[.agg #[.int .i64 R,.int .i64 C,A]] w fun e w'=>∃o c bs',e= .returned (.agg #[.int .i64 C,.int .i64 R,.slice o C c])/\Wri w' (.slice o C c) C R bs' (trF F)/\(∀b,Zn (.slice o C c) bs' b->w.heap.size<=b)/\Below w.heap.size w w':=by
 refine(zGJ _ R C (genM R C F) w h.mat (jJ R C F) hR hC ?_).mono ?_
 ·intro r hr z hz
  unfold genM at hr;obtain⟨i,hi,rfl⟩:=List.mem_map.1 hr;obtain⟨j,hj,rfl⟩:=List.mem_map.1 hz;exact hB.sm _ (hok i (yI.1 hi) j (yI.1 hj))
 rintro e w' ⟨v,bs',rfl,⟨hl,A',rfl,ho⟩,hb⟩;have hq:genM C R (fun a b=>ent (genM R C F) b a)=genM C R (trF F):=zAM fun a ha b hb=>jM hb ha
 rw[hq]at ho;obtain⟨o,c,rfl⟩:=Wri.shape (h:=(ho.mono (zE _):Wri w' A' C R bs' (trF F)));exact⟨o,c,bs',rfl,ho.mono (zE _),fun b hb=>ho.fresh hb,hb⟩
theorem zEW.shape{v:Value}{zs:List Int}(h:zEW w base v zs):∃o c,v= .slice o zs.length c:=by
 obtain⟨cells,h1,-⟩:=h;rcases h1.2 with⟨rfl,h0⟩|⟨g,cap,cur,rfl,-⟩
 exact⟨none,0,by rw[h0]⟩;exact⟨_,_,rfl⟩
theorem zQv(m i:Nat)(F:Nat->Nat->Int):divI (m+1) i F=divI m (i+1) (divJ i m (i+1) F):=rfl
theorem zQw(i m j:Nat)(F:Nat->Nat->Int):divJ i (m+1) j F=divJ i m (j+1) (if F i i∣F j j then F else zH0 F i j):=rfl
theorem Exit.jump_normal{a:Act}{l:Nat}{J:Act->World->Prop}:Exit.jump l J Q .normal a w=Q .normal a w:=rfl
theorem zIW:∀(d i:Nat),i+d=R->(zEb i ((genM R C F).drop i)=true↔∀a,i<=a->a<R->∀b,b<C->a≠b->F a b=0):=by
 intro d;induction d with
 |zero=>
  intro i h;have h1:(genM R C F).drop i= []:=qJ (by simp[genM];omega);rw[h1];exact⟨fun _ a h1 h2=>by omega,fun _=>rfl⟩
 | succ d ih=>
  intro i h;have hi:i<R:=by omega
  rw[zDV (zC2 R C F hi)];unfold zEb;rw[zCN,decide_eq_true_eq,ih (i+1) oM];have hrow:zGU i ((List.range C).map (F i)).length ((List.range C).map (F i))↔∀b,b<C->i≠b->F i b=0:=by
   unfold zGU;rw[show((List.range C).map (F i)).length=C by simp];refine⟨fun hh b hb hn=>?_,fun hh k hk hn=>?_⟩
   ·have:=hh b hb (zP hn)
    rwa[show((List.range C).map (F i)).getD b 0=F i b by simp[xgb,hb]]at this
   rw[show((List.range C).map (F i)).getD k 0=F i k by simp[xgb,hk]];exact hh k hk (zP hn)
  rw[hrow];refine⟨fun hh a h1 h2 b hb hn=>?_,fun hh=>⟨fun b hb hn=>hh i (xgf _) hi b hb hn,fun a h1 h2 b hb hn=>hh a oM h2 b hb hn⟩⟩;by_cases e:a=i
  ·subst e;exact hh.1 b hb hn
  exact hh.2 a oM h2 b hb hn
theorem zMs(R C:Nat)(F:Nat->Nat->Int):zEb 0 (genM R C F)=decide (zF9 R C F):=by
 have h:=zIW (R:=R) (C:=C) (F:=F) R 0 oM;rw[xgk]at h;by_cases hd:zF9 R C F
 ·rw[decide_eq_true hd]
  exact h.2 (fun a _ ha=>hd a ha)
 rw[decide_eq_false hd];cases hb:zEb 0 (genM R C F)with
 |false=>rfl
 |true=>exact absurd (fun a ha=>h.1 hb a (zE _) ha) hd
theorem zUg(hB:BSd B){wb Cu Cw:Nat}{AS AU AV AW AX:Value}{bS bU bV bW bX:List Nat}{z:W5}(h:zCW w base wb R C R C Cu Cw AS AU AV AW AX bS bU bV bW bX z)(hbase:base<=w.heap.size)(hok:okW B R C Cu Cw z)
  (hR:R<=1000000) (hC:C<=1000000) (hCu:Cu<=1000000) (hCw:Cw<=1000000) {f rr:Nat} {y:W5} (hrun:zHZ B R C Cu Cw f rr z=some y)
  (hdiv:∀y',zMf (min R C) y y'->∀i j,i<j->j<min R C->¬ y'.s i i∣y'.s j j->zQR B C Cu Cw y' i j) (hel:∀y',zMf (min R C) y y'->∀i,i<min R C->(y'.s i i).natAbs<B):
  Calls Tryz.prog 115 #[.pointer (some ⟨wb,0,none⟩)] w fun e w'=>(∃u,e= .returned u)/\qG (fun b=>base<=b) w w'∧
   ∃AS' bS' bU' bV' bW' bX' y',zMf (min R C) y y'/\y'.s=divI (min R C) 0 y.s/\zCW w' base wb R C R C Cu Cw AS' AU AV AW AX bS' bU' bV' bW' bX' y':=by
 have hBm:=hB.bsm;obtain⟨uo,uc,rfl⟩:=h.mU.shape;obtain⟨vo,vc,rfl⟩:=h.mV.shape;obtain⟨wo,wc,rfl⟩:=h.mW.shape;obtain⟨xo,xc,rfl⟩:=h.mX.shape;have HDIV:=xgv hdiv;have HEL:=xgv hel;have HH:=xgv h;have HOK:=xgv hok;have HRUN:=xgv hrun;clear hdiv hel h hok hrun;go_enter Tryz.func115,Tryz.ntmps115;obtain⟨JF,hJF⟩:∃JF:Nat->Act->World->Prop,∀r a' wt,JF r a' wt↔∃(u5 u6 u7 u8 u9 u10 u11 u12 u13 u14 u15 u16 u17 u18 u19 u20 u21 u22 u23 u24 u25 u26 u27 u28 u29 u30 u31 u32 u33 u34 u35 u36 u37 u38 u39 u40 u41 u42 u43 u44 u45 u46 u47 u48 u49 u50 u51 u52 u53 u54 u55 u56 u57 u58 u59 u60 u61 u62 u63 u64 u65 u66 u67 u68 u69 u70 u71:Value),a'={tmps:=#[.pointer (some ⟨wb,0,none⟩),undef,undef,undef,undef,u5,u6,u7,u8,u9,u10,u11,u12,u13,u14,u15,u16,u17,u18,u19,u20,u21,u22,u23,u24,u25,u26,u27,u28,u29,u30,u31,u32,u33,u34,u35,u36,u37,u38,u39,u40,u41,u42,u43,u44,u45,u46,u47,u48,u49,u50,u51,u52,u53,u54,u55,u56,u57,u58,u59,u60,u61,u62,u63,u64,u65,u66,u67,u68,u69,u70,u71,undef,undef,undef,undef,undef,undef,undef,undef,undef,undef,undef,undef,undef,undef,undef,undef,undef,undef,undef,undef,undef,undef,undef,undef,undef,undef,undef,undef,undef,undef,undef,undef,undef,undef,undef,undef,undef,undef,undef,undef,undef,undef,undef,undef,undef,undef,undef,undef,undef],defers:=[]}∧
  qG (fun b=>base<=b) w wt/\zAN (∃AS' bS' bU' bV' bW' bX' z',zCW wt base wb R C R C Cu Cw AS' (.slice uo R uc) (.slice vo R vc) (.slice wo C wc) (.slice xo C xc) bS' bU' bV' bW' bX' z'/\okW B R C Cu Cw z'/\zHZ B R C Cu Cw f r z'=some y):=⟨_,fun _ _ _=>zAK⟩
 have HJF:=xgv hJF;clear hJF;refine zJB (fun a' wt=>∃r,JF r a' wt) (fun a' wt=>leastOf (fun r=>JF r a' wt)) ?_ ?_;exact⟨rr,(HJF.out _ _ _).2 ⟨_,_,_,_,_,_,_,_,_,_,_,_,_,_,_,_,_,_,_,_,_,_,_,_,_,_,_,_,_,_,_,_,_,_,_,_,_,_,_,_,_,_,_,_,_,_,_,_,_,_,_,_,_,_,_,_,_,_,_,_,_,_,_,_,_,_,_,rfl,qG.refl _ _,⟨⟨AS,bS,bU,bV,bW,bX,z,HH.out,HOK.out,HRUN.out⟩⟩⟩⟩;intro a' wr hJ;obtain⟨f1,hJ⟩:=hJ;replace hJ:=(zFe (P:=fun r=>JF r a' wr) hJ).1;generalize leastOf (fun r=>JF r a' wr)=f0 at hJ ⊢
 rw[HJF.out]at hJ;obtain⟨u5,u6,u7,u8,u9,u10,u11,u12,u13,u14,u15,u16,u17,u18,u19,u20,u21,u22,u23,u24,u25,u26,u27,u28,u29,u30,u31,u32,u33,u34,u35,u36,u37,u38,u39,u40,u41,u42,u43,u44,u45,u46,u47,u48,u49,u50,u51,u52,u53,u54,u55,u56,u57,u58,u59,u60,u61,u62,u63,u64,u65,u66,u67,u68,u69,u70,u71,rfl,hO,hox⟩:=hJ;obtain⟨AS0,bS0,bU0,bV0,bW0,bX0,z0,hw,hok,hrun⟩:=hox.out;obtain⟨ao,ac,rfl⟩:=hw.mS.shape;clear hox HOK HRUN HH;cases f0 with
 |zero=>cases hrun
 | succ r=>
  unfold zHZ at hrun;rw[jY]at hrun;obtain⟨y1,hround,hrest⟩:=hrun;unfold zOY at hround;rw[jY]at hround;obtain⟨e1,hech1,h2⟩:=hround;rw[jY]at h2;obtain⟨e2,hech2,h3⟩:=h2;injection h3 with h3
  have HY1:=xgv h3;have HREST:=xgv hrest;have HE1:=xgv hech1;have HE2:=xgv hech2;have HOK:=xgv hok;have HW:=xgv hw;clear hrest hech1 hech2 h3 hok;obtain⟨k0,k1,k2,k5,k8,k11,k14,-,-,-⟩:=hw.blk.fifteen;have lw0:=hw.blk.lt;clear hw;go_upto_region 0 with(fail)
  refine yX 19 [] ?_;refine sRd ?_;refine sRf ?_;intro w1 hbw1;have hO:=hO.trans (qG.of _ hbw1);have HW:=xgv (HW.out.below hbw1);clear k0 k1 k2 k5 k8 k11 k14 lw0;go_wp2_with fail
  refine(zIa hBm HW.out.zlt1 HW.out.band1 ⟨HOK.out.1,HOK.out.2.1,HOK.out.2.2.1⟩ hR hC hCu HE1.out).mono ?_;rintro e w2 ⟨⟨uu2,rfl⟩,hO2,hz2,hok2⟩;obtain⟨⟨bS1,bU1,bV1,hw2⟩,hO2'⟩:=HW.out.after1 hO2 hz2;have hO:=hO.trans hO2';have HW2:=xgv hw2;have HOK2:=xgv hok2;obtain⟨k0,k1,k2,k5,k8,k11,k14,k15,k16,k17⟩:=hw2.blk.fifteen;have lw0:=hw2.blk.lt;clear hw2 hok2 hz2 HW;go_wp2_with fail
  refine(zKK hBm HW2.out.mS HOK2.out.1 hR hC).mono ?_;rintro e w3 ⟨so,sc,bs3,rfl,hs3,hf3,hb3⟩;have k0:=jF k0 hb3;obtain⟨q0,q1,q2,q5,q8,q11,q14,q15,q16,q17⟩:=(HW2.out.below hb3).blk.fifteen;have hset:=(HW2.out.below hb3).setS hs3 hf3 HW2.out.zltR (by have:=HW2.out.wbb;omega);have HSET:=xgv hset;have hszb:=hb3.size;clear k0 k1 k2 k5 k8 k11 k14 k15 k16 k17 hset hs3 hf3;go_upto_region 2 with(fail)
  refine zD ?_;intro W4 hW4;rw[<-hW4.out]at HSET;obtain⟨hw4,hO4⟩:=HSET.out;have hO:=(hO.trans (qG.of _ hb3)).trans hO4;have HW:=xgv hw4;obtain⟨k0,k1,k2,k5,k8,k11,k14,-,-,-⟩:=hw4.blk.fifteen;have lw0:=hw4.blk.lt;clear hw4 hO4 HSET q0 q1 q2 q5 q8 q11 q14 q15 q16 q17 hW4 HW2;refine yX 19 [] ?_;refine sRd ?_;refine sRf ?_;intro w5 hbw5;have hO:=hO.trans (qG.of _ hbw5);have HW:=xgv (HW.out.below hbw5);clear k0 k1 k2 k5 k8 k11 k14 lw0;have hokt:okF B C R (trF e1.s):=fun a ha b hb=>HOK2.out.1 b hb a ha
  go_wp2_with fail
  refine(zIa hBm HW.out.zlt2 HW.out.band2 ⟨hokt,HOK.out.2.2.2.1,HOK.out.2.2.2.2⟩ hC hR hCw HE2.out).mono ?_;rintro e w6 ⟨⟨uu6,rfl⟩,hO6,hz6,hok6⟩;obtain⟨⟨bS3,bW3,bX3,hw6⟩,hO6'⟩:=HW.out.after2 hO6 hz6;have hO:=hO.trans hO6';have HW2:=xgv hw6;have HOK6:=xgv hok6;obtain⟨k0,k1,k2,k5,k8,k11,k14,k15,k16,k17⟩:=hw6.blk.fifteen;have lw0:=hw6.blk.lt;clear hw6 hok6 hz6 HW hokt;go_wp2_with fail
  refine(zKK hBm HW2.out.mS HOK6.out.1 hC hR).mono ?_;rintro e w7 ⟨so7,sc7,bs7,rfl,hs7,hf7,hb7⟩;obtain⟨q0,q1,q2,q5,q8,q11,q14,q15,q16,q17⟩:=(HW2.out.below hb7).blk.fifteen;have hset:=(HW2.out.below hb7).setS hs7 hf7 HW2.out.zltR (by have:=HW2.out.wbb;omega);have HSET:=xgv hset;clear k0 k1 k2 k5 k8 k11 k14 k15 k16 k17 hset hs7 hf7;go_upto_region 4 with(fail)
  refine zD ?_;intro W8 hW8;rw[<-hW8.out]at HSET;obtain⟨hw8,hO8⟩:=HSET.out;have hO:=(hO.trans (qG.of _ hb7)).trans hO8;have hy1:(⟨trF e2.s,e1.t,e1.i,e2.t,e2.i⟩:W5)=y1:=HY1.out;replace hw8:zCW W8 base wb R C R C Cu Cw _ _ _ _ _ _ _ _ _ _ y1:=hy1 ▸ hw8;have hok1:okW B R C Cu Cw y1:=hy1 ▸ ⟨fun a ha b hb=>HOK6.out.1 b hb a ha,HOK2.out.2.1,HOK2.out.2.2,HOK6.out.2.1,HOK6.out.2.2⟩;have HW:=xgv hw8;have HOKY:=xgv hok1;obtain⟨k0,k1,k2,k5,k8,k11,k14,-,-,-⟩:=hw8.blk.fifteen;have lw0:=hw8.blk.lt;clear hw8 hok1 hy1 HY1 hO8 HSET q0 q1 q2 q5 q8 q11 q14 q15 q16 q17 hW8 HW2 HOK HOK2 HOK6 HE1 HE2;go_wp2_with fail
  refine(zLf _ R C (genM R C y1.s) W8 HW.out.mS.mat).mono ?_;rintro e w9 ⟨rfl,hb9⟩;rw[zMs];have hO:=hO.trans (qG.of _ hb9);have HW:=xgv (HW.out.below hb9);clear k0 k1 k2 k5 k8 k11 k14 lw0;have hrest:=HREST.out;clear HREST;by_cases hd:zF9 R C y1.s
  ·rw [if_pos hd]at hrest
   injection hrest with hrest
   subst hrest;rw[decide_eq_true hd];clear hd;obtain⟨k0,k1,k2,k5,k8,k11,k14,-,-,-⟩:=HW.out.blk.fifteen;have lw0:=HW.out.blk.lt;go_wp2_with fail
   refine(zHl _ R C (genM R C y1.s) w9 HW.out.mS.mat (jJ _ _ _) hR hC).mono ?_;rintro e w10 ⟨u10,rfl,hvo,hb10⟩;obtain⟨eo,ec,rfl⟩:=hvo.shape;rw[zFa];have hO:=hO.trans (qG.of _ hb10);have HW:=xgv (HW.out.below hb10);clear k0 k1 k2 k5 k8 k11 k14 lw0 hvo;obtain⟨n,hn⟩:∃n,n=min R C:=⟨_,rfl⟩;rw[<-hn];have hnR:n<=R:=by omega
   have hnC:n<=C:=by omega
   rw[<-hn]at HDIV HEL;have HN:=xgv hn;clear hn;go_wp2;go_loopw [80] (fun iv wt=>∃(i:Nat) (bS' bU' bV' bW' bX':List Nat) (y':W5),iv= .int .i64 i/\i<=n/\qG (fun b=>base<=b) w wt/\zAN (zCW wt base wb R C R C Cu Cw (.slice so7 R sc7) (.slice uo R uc) (.slice vo R vc) (.slice wo C wc) (.slice xo C xc) bS' bU' bV' bW' bX' y'/\zMf n y1 y'/\divI (n-i) i y'.s=divI n 0 y1.s)) (fun iv _=>n-(intOf iv).toNat)
   case atStart=>exact⟨0,_,_,_,_,_,y1,rfl,zE _,hO,⟨⟨HW.out,zMf.refl _,by rw[Nat.sub_zero]⟩⟩⟩
   rename World=>wq
   obtain⟨i,bS',bU',bV',bW',bX',y',rfl,hi,hO,hH⟩:=hrel;by_cases hlt:i<n
   ·go_wp2
    go_loopw [4] (fun jv wt=>∃(j:Nat) (bS' bU' bV' bW' bX':List Nat) (y':W5),jv= .int .i64 j/\i+1<=j/\j<=n/\qG (fun b=>base<=b) w wt/\zAN (zCW wt base wb R C R C Cu Cw (.slice so7 R sc7) (.slice uo R uc) (.slice vo R vc) (.slice wo C wc) (.slice xo C xc) bS' bU' bV' bW' bX' y'/\zMf n y1 y'/\divI (n-(i+1)) (i+1) (divJ i (n-j) j y'.s)=divI n 0 y1.s)) (fun jv _=>n-(intOf jv).toNat)
    case atStart=>
     refine⟨i+1,_,_,_,_,_,y',by simp,by omega,by omega,hO,⟨⟨hH.out.1,hH.out.2.1,?_⟩⟩⟩;have h3:=hH.out.2.2;obtain⟨m,hm⟩:∃m,n-i=m+1:=⟨n-i-1,by omega⟩;rw[hm,zQv]at h3;rw[show n-(i+1)=m by omega];exact h3
    rename World=>wt
    obtain⟨j,bS',bU',bV',bW',bX',y',rfl,hij,hj,hO,hH⟩:=hrel;by_cases hjn:j<n
    ·have h3:=hH.out.2.2
     obtain⟨m,hm⟩:∃m,n-j=m+1:=⟨n-j-1,by omega⟩;have hm2:n-(j+1)=m:=by omega
     rw[hm,zQw]at h3;rw[<-hm2]at h3;have HT:=xgv h3;have HD:=xgv hH.out.2.1;have HW:=xgv hH.out.1;have S1:zAN (Smd (y'.s i i)):=⟨hB.smd _ (HEL.out y' HD.out i hlt)⟩;have S2:zAN (Smd (y'.s j j)):=⟨hB.smd _ (HEL.out y' HD.out j hjn)⟩;clear h3 hm hm2 hH;have hiR:i<R:=by omega
     have hjR:j<R:=by omega
     have hiC:i<C:=by omega
     have hjC:j<C:=by omega
     obtain⟨gs,bi,eg,hgs,hbi,hbi2,o1,-⟩:=qA.at_ HW.out.mS (i:=i) (by rw[HW.out.mS.len];exact hiR);subst eg;obtain⟨g2,bj,eg,hg2,hbj,hbj2,o2,-⟩:=qA.at_ HW.out.mS (i:=j) (by rw[HW.out.mS.len];exact hjR);obtain rfl:gs=g2:=by injection eg with eg;injection eg
     clear eg;obtain⟨xs,xa,xl,xc',p1,p2,-,-,hx⟩:=(HW.out.mS.rowAt hiR hbi).cell (yE hiC);obtain⟨ys,ya,yl,yc,r1,r2,-,-,hy⟩:=(HW.out.mS.rowAt hjR hbj).cell (yE hjC);obtain⟨k0,k1,k2,k5,k8,k11,k14,-,-,-⟩:=HW.out.blk.fifteen;have lw0:=HW.out.blk.lt;go_upto_region 12 with(fail)
     refine yX 24 [] ?_;refine sRd ?_;refine sRf ?_;intro wv hbwv;have hO:=hO.trans (qG.of _ hbwv);have HW:=xgv (HW.out.below hbwv);have hx:=hx.ext (lx hbwv);have hy:=hy.ext (lx hbwv);clear k0 k1 k2 k5 k8 k11 k14 lw0 o1 o2 p1 p2 r1 r2;go_wp2_with fail
     refine(zMw _ _ (y'.s i i) (y'.s j j) wv hx hy S1.out S2.out).mono ?_;rintro e w12 ⟨rfl,hb12⟩;have hO:=hO.trans (qG.of _ hb12);have HW:=xgv (HW.out.below hb12);have h3:=HT.out;clear hx hy HT;by_cases hdv:y'.s i i∣y'.s j j
     ·rw[if_pos hdv]at h3
      rw[decide_eq_true hdv];have HT:=xgv h3;clear h3 hdv;go_wp2;go_roundw
      case rel=>exact⟨j+1,_,_,_,_,_,y',by simp,by omega,by omega,hO,⟨⟨HW.out,HD.out,HT.out⟩⟩⟩
      case measure=>simp[intOf];omega
     rw[if_neg hdv]at h3;rw[decide_eq_false hdv];have HT:=xgv h3;have HDV:=xgv hdv;clear h3 hdv;go_wp2_with fail
     refine(zNu hB HW.out oM hjR hjC hR hC hCu hCw (HDIV.out y' HD.out i j oM hjn HDV.out)).mono ?_;rintro e w13 ⟨⟨uu13,rfl⟩,hO13,s,t,hbz,hw13⟩;have hO:=hO.trans hO13;have HW:=xgv hw13;have HD:=xgv (zMf.step y1 y' i j s t HD.out oM hjn HDV.out hbz);clear hw13 hbz HDV;go_wp2;go_roundw
     case rel=>exact⟨j+1,_,_,_,_,_,_,by simp,by omega,by omega,hO,⟨⟨HW.out,HD.out,HT.out⟩⟩⟩
     case measure=>simp[intOf];omega
    obtain rfl:j=n:=by omega
    have h3:=hH.out.2.2;rw[jP]at h3;have HT:=xgv (show divI (j-(i+1)) (i+1) y'.s=divI j 0 y1.s from h3);clear h3;go_wp2;go_roundw
    case rel=>exact⟨i+1,_,_,_,_,_,y',by simp,by omega,hO,⟨⟨hH.out.1,hH.out.2.1,HT.out⟩⟩⟩
    case measure=>simp[intOf];omega
   obtain rfl:i=n:=by omega
   have h3:=hH.out.2.2;rw[jP]at h3;have HT:=xgv (show y'.s=divI i 0 y1.s from h3);clear h3;go_wp2;rw[<-HN.out];rw[Exit.jump_normal];exact bodyPost_end (results_none rfl _ _ _) rfl ⟨⟨_,rfl⟩,hO,_,_,_,_,_,_,y',hH.out.2.1,HT.out,hH.out.1⟩
  rw[if_neg hd]at hrest;rw[decide_eq_false hd];have HREST:=xgv hrest;clear hd hrest;go_wp2;go_step3;refine⟨rfl,⟨r,(HJF.out _ _ _).2 ⟨_,_,_,_,_,_,_,_,_,_,_,_,_,_,_,_,_,_,_,_,_,_,_,_,_,_,_,_,_,_,_,_,_,_,_,_,_,_,_,_,_,_,_,_,_,_,_,_,_,_,_,_,_,_,_,_,_,_,_,_,_,_,_,_,_,_,_,rfl,hO,⟨⟨_,_,_,_,_,_,_,HW.out,HOKY.out,HREST.out⟩⟩⟩⟩,zHM ((HJF.out _ _ _).2 ⟨_,_,_,_,_,_,_,_,_,_,_,_,_,_,_,_,_,_,_,_,_,_,_,_,_,_,_,_,_,_,_,_,_,_,_,_,_,_,_,_,_,_,_,_,_,_,_,_,_,_,_,_,_,_,_,_,_,_,_,_,_,_,_,_,_,_,_,rfl,hO,⟨⟨_,_,_,_,_,_,_,HW.out,HOKY.out,HREST.out⟩⟩⟩) (zAk r)⟩
abbrev tBo:TypeId:=4
theorem Tryz.infoBo:(Tryz.prog.info? tBo).map (fun i=>(i.zero,i.size,i.bytes))=some (some (.bool false),1,1):=by kernel_rfl
def zH4(n:Nat)(g:Nat->Bool):Array Value:=((List.range n).map fun i=>Value.bool (g i)).toArray
theorem zN0{g:Nat->Bool}(h:i<n):(zH4 n g)[i]?=some (.bool (g i)):=by simp[zH4,h]
theorem zTC{g:Nat->Bool}{z:Bool}:(zH4 n g).setIfInBounds i (.bool z)=zH4 n (fun t=>if t=i then z else g t):=by
 apply zCI;simp[zH4];intro a h1 h2;by_cases e:a=i
 ·subst e;simp[zH4]
 have:i≠a:=fun h=>e h.symm
 simp[zH4,this,e]
theorem zHF{f g:Nat->Bool}(h:∀t,t<n->f t=g t):zH4 n f=zH4 n g:=by
 unfold zH4;rw[zAu fun t ht=>by rw[h t (yI.1 ht)]]
theorem zX2(n:Nat):madeCells (Value.bool false).cells (n*1)=zH4 n (fun _=>false):=by
 apply zCI;simp[madeCells,zH4];intro i h1 h2;simp[madeCells,zH4,Nat.mod_one,Value.cells]
theorem mkB(m:Int)(n:Nat)(hm:m=n)(h:n<=1099511627776)(W:World):
  (Instr.makeSlice 149 (.int .i64 m) (.int .i64 m)).run Tryz.prog W= .ok (.slice (some ⟨W.heap.size,0,none⟩) n n) (W.alloc (.cells (zH4 n (fun _=>false)) tBo)):=by
 subst hm;obtain⟨i0,hi,hz0,hz1,hz2⟩:=info_parts Tryz.infoBo;have:=zCR (P:=Tryz.prog) 149 tBo i0 _ Tryz.underlying149 hi hz0 .i64 .i64 n n (xgf _) (by rw[hz2];omega) oM W;rw[this,hz1,zX2]
theorem zRO(b n cap:Nat)(g:Nat->Bool)(w:World)(h:Blk w b tBo (zH4 n g))(hn:n<=1000000)(hc:n<=cap)(hc2:cap<=9223372036854775807):
  Calls Tryz.prog 174 #[.slice (some ⟨b,0,none⟩) n cap,.bool false] w fun e w'=>(∃r:Int,e= .returned (.int .i64 r)/\((r=-1/\∀i,i<n->g i=true)∨∃i:Nat,r=i/\i<n/\g i=false))/\Below w.heap.size w w':=by
 go_enter Tryz.func174,Tryz.ntmps174;go_wp2;go_loopw [8] (fun iv wr=>∃k:Nat,k<=n/\iv= .int .i64 k/\Below w.heap.size w wr/\zAN (∀i,i<k->g i=true)) (fun iv _=>n-(intOf iv).toNat)
 case atStart=>exact⟨0,by omega,rfl,zA _ _,⟨fun i hi=>by omega⟩⟩
 obtain⟨k,hk,rfl,hb,hall⟩:=hrel;have hB:=h.below hb;by_cases hlt:k<n
 ·have c1:=(hB.cell k).trans (zN0 hlt)
  by_cases hg:g k=false
  ·rw[hg]at c1
   have HG:=xgv hg;clear hg;go_wp2;go_ret;exact⟨⟨k,rfl,.inr ⟨k,rfl,hlt,HG.out⟩⟩,hb⟩
  have hg':g k=true:=by cases hh:g k with|true=>rfl|false=>exact absurd hh hg
  rw[hg']at c1;have HG:=xgv hg';clear hg hg';go_wp2;go_roundw
  case rel=>
   refine⟨k+1,by omega,by simp,hb,⟨fun i hi=>?_⟩⟩;by_cases e:i=k
   ·rw[e];exact HG.out
   exact hall.out i oM
  case measure=>simp[intOf];omega
 obtain rfl:k=n:=by omega
 go_wp2;go_ret;exact⟨⟨-1,rfl,.inl ⟨rfl,hall.out⟩⟩,hb⟩
theorem zLa(b n cap:Nat)(g:Nat->Bool)(w:World)(h:Blk w b tBo (zH4 n g))(hn:n<=1000000)(hc:n<=cap)(hc2:cap<=9223372036854775807):
  Calls Tryz.prog 128 #[.slice (some ⟨b,0,none⟩) n cap,.bool false] w fun e w'=>e= .returned (.bool (decide (¬ ∀i,i<n->g i=true)))/\Below w.heap.size w w':=by
 obtain⟨ans,hans⟩:∃ans:Bool,decide (¬ ∀i,i<n->g i=true)=ans:=⟨_,rfl⟩;rw[hans];have HA:=xgv hans;clear hans;go_enter Tryz.func128,Tryz.ntmps128;go_wp2_with fail
 refine(zRO b n cap g w h hn hc hc2).mono ?_;rintro e w1 ⟨⟨r,rfl,hr⟩,hb1⟩;rcases hr with⟨rfl,hall⟩|⟨i,rfl,hi,hg⟩
 ·have HL:=xgv hall
  clear hall;go_wp2;go_ret;refine⟨?_,hb1⟩;have h3:ans=false:=by rw[<-HA.out];exact decide_eq_false (fun hh=>hh HL.out)
  rw[h3];rfl
 have HG:=xgv hg;clear hg;go_wp2;go_ret;refine⟨?_,hb1⟩;have h3:ans=true:=by rw[<-HA.out];exact decide_eq_true (fun hh=>by have h3:=HG.out;rw[hh i hi]at h3;cases h3)
 rw[h3];rfl
theorem zQ4(v1 v2:Value)(z1 z2:Int)(w:World)(h1:jT w v1 z1)(h2:jT w v2 z2):
  Calls Tryz.prog 127 #[v1,v2] w fun e w'=>e= .returned (.bool (decide (z1=z2)))/\Below w.heap.size w w':=by
 obtain⟨neg1,ao1,n1,cap1,xs,rfl,i1⟩:=id h1;obtain⟨neg2,ao2,n2,cap2,ys,rfl,i2⟩:=id h2;clear i1 i2;have hd:decide (z1=z2)=decide (zAp z1 z2=0):=decide_eq_decide.2 ⟨fun h=>zCY h,fun h=>zH5.2.1 h⟩;rw[hd];clear hd;go_enter Tryz.func127,Tryz.ntmps127;go_upto_region 1 with(fail)
 refine zD ?_;intro W0 hW0;obtain⟨hB0,bx1,bx2,hs0⟩:=zAd hW0;obtain⟨c1,c2,c3,c4⟩:=bx1.two;obtain⟨d1,d2,d3,d4⟩:=bx2.two;go_wp2_with fail
 refine(zQk _ _ z1 z2 W0 (h1.ext (lx hB0)).weak (h2.ext (lx hB0)).weak).mono ?_;rintro e w1 ⟨rfl,hb1⟩;obtain⟨k0,hk0⟩:∃k0,zAp z1 z2=k0:=⟨_,rfl⟩;rw[hk0];go_wp2;go_ret;exact⟨by first|rfl|(rw[hk0];rfl)|(rw[hk0];simp),nx hB0 hb1⟩
theorem zWu(v1 v2:Value)(z1 z2:Int)(w:World)(h1:jT w v1 z1)(h2:jT w v2 z2):
  Calls Tryz.prog 127 #[v1,v2] w fun e w'=>∃v,e= .returned v/\v= .bool (decide (z1=z2))/\Below w.heap.size w w':=by
 refine(zQ4 v1 v2 z1 z2 w h1 h2).mono ?_;rintro e w' ⟨rfl,hb⟩;exact⟨_,rfl,rfl,hb⟩
def zMW(g:Nat->Bool)(j:Nat):Nat->Bool:=fun t=>if t<j then g t else false
theorem zQJ{g:Nat->Bool}{j:Nat}:zH4 n (fun t=>if t=j then g j else zMW g j t)=zH4 n (zMW g (j+1)):=
 zHF fun t _=>by
  unfold zMW;by_cases h:t=j
  ·subst h;rw[if_pos rfl,if_pos oM]
  rw[if_neg h];by_cases h2:t<j
  ·rw[if_pos h2,if_pos oM]
  rw[if_neg h2,if_neg oM]
theorem zQm(v1 v2:Value)(zs ys:List Int)(n:Nat)(w:World)(h1:zBm w v1 zs)(h2:zBm w v2 ys)(hl1:zs.length=n)(hl2:ys.length=n)(hn:n<=1000000):
  Calls Tryz.prog 129 #[v1,v2,.func (.func 127) #[] #[]] w fun e w'=>
   e= .returned (.slice (some ⟨w.heap.size,0,none⟩) n n)/\Blk w' w.heap.size tBo (zH4 n (fun j=>decide (zs.getD j 0=ys.getD j 0)))/\Below w.heap.size w w':=by
 obtain⟨ao,n1,cap,rfl,e1,e3,e4,-⟩:=id h1;obtain⟨bo,n2,bcap,rfl,f1,f3,f4,-⟩:=id h2;obtain rfl:n=n1:=by omega
 obtain rfl:n=n2:=by omega
 have hmk:=fun W=>mkB (n:Int) n rfl oM W
 have HL1:=xgv hl1;have HL2:=xgv hl2;obtain⟨G,hG⟩:∃G:Nat->Bool,(fun j=>decide (zs.getD j 0=ys.getD j 0))=G:=⟨_,rfl⟩;rw[hG];have HG:zAN (∀t,G t=decide (zs.getD t 0=ys.getD t 0)):=⟨fun t=>by rw[<-hG]⟩;clear hl1 hl2 e1 f1 hG;go_enter Tryz.func129,Tryz.ntmps129;go_upto_region 2 with(fail)
 refine zD ?_;intro W0 hW0;obtain⟨hB0,bA,hs0⟩:=qM hW0;have hst:zH4 n (fun _=>false)=zH4 n (zMW G 0):=zHF fun t _=>by unfold zMW;rw[if_neg oM]
 rw[hst]at bA;clear hW0 hmk hst;go_wp2;go_loopw [14] (fun jv wr=>∃j:Nat,j<=n/\jv= .int .i64 j/\Below w.heap.size w wr/\Blk wr w.heap.size tBo (zH4 n (zMW G j))) (fun jv _=>n-(intOf jv).toNat)
 case atStart=>exact⟨0,by omega,rfl,hB0,bA⟩
 obtain⟨j,hj,rfl,hb,bA⟩:=hrel;by_cases hlt:j<n
 ·obtain⟨b1,z1,s1,a1,l1,c1,rfl,hbl1,hz1,p1,p2,hv1⟩:=(h1.below hb).cell (k:=j) (by rw[HL1.out];exact hlt)
  obtain⟨b2,z2,s2,a2,l2,c2,rfl,hbl2,hz2,q1,q2,hv2⟩:=(h2.below hb).cell (k:=j) (by rw[HL2.out];exact hlt);have hgj:zAN (decide (z1=z2)=G j):=⟨by rw[HG.out,zBu hz1,zBu hz2]⟩;clear hz1 hz2;have lA:=bA.lt;go_upto_region 5 with(fail)
  refine yX 13 [pcD 11 [] (fun _ v=>v= .bool (decide (z1=z2)))] ?_;refine sRd ?_;refine sRc (fun wS hI Gk hG=>?_) (fun _ hv=>?_)
  ·go_simp
   refine(zWu _ _ z1 z2 _ (hv1.ext hI.lext) (hv2.ext hI.lext)).mono ?_;rintro e wa ⟨v,rfl,hv,hba⟩;exact⟨_,rfl,hG _ _ hv,hba⟩
  obtain⟨_,-,rfl⟩:=hv;refine sRd ?_;refine sRe ?_;intro w9 hbw9 _;rw[hgj.out];have bA:=bA.below hbw9;have k1:=(bA.cell j).trans (zN0 hlt);have k2:=bA.frozen j;have hset:=bA.set_ j (.bool (G j));rw[zTC,zQJ]at hset;clear p1 p2 q1 q2;go_wp2;go_roundw
  case rel=>exact⟨j+1,by omega,by simp,yJ (nx hb hbw9) (xgf _) _ _,hset⟩
  case measure=>simp[intOf];omega
 obtain rfl:j=n:=by omega
 have hq:zH4 j (zMW G j)=zH4 j G:=zHF fun t ht=>by unfold zMW;rw[if_pos ht]
 rw[hq]at bA;go_wp2;go_ret;exact⟨rfl,bA,hb⟩
theorem zPx(v1 v2:Value)(z k:Int)(kb:Nat)(x y:Value)(w:World)(h1:jT w v1 z)(h2:∃z2,jT w v2 z2)(hk:Blk w kb tI #[x,y])(hkv:jT w (.agg #[x,y]) k)(s1:Sm z)(s2:Sm k):
  Calls Tryz.prog 157 #[v1,v2,.pointer (some ⟨kb,0,none⟩)] w (zDu w (k*z)):=by
 obtain⟨neg1,ao1,n1,cap1,xs,rfl,i1⟩:=id h1;obtain⟨z2,h2⟩:=h2;obtain⟨neg2,ao2,n2,cap2,ys,rfl,i2⟩:=id h2;obtain⟨kn,ka,kl,kc,rfl,rfl⟩:=hkv.two;have HS1:=xgv s1;have HS2:=xgv s2;clear i1 i2 s1 s2 h2;go_enter Tryz.func157,Tryz.ntmps157;go_upto_region 1 with(fail)
 refine zD ?_;intro W0 hW0;obtain⟨hB0,bx1,bx2,br,hs0⟩:=zCH hW0;obtain⟨c1,c2,c3,c4⟩:=bx1.two;obtain⟨d1,d2,d3,d4⟩:=(hk.below hB0).two;go_wp2_with fail
 refine(zD4 _ _ k z W0 (hkv.ext (lx hB0)).weak (h1.ext (lx hB0)).weak HS2.out HS1.out).mono ?_;rintro e w1 ⟨v,rfl,hv,hb1⟩;obtain⟨pn,pa,pl,pc,px,rfl,hpx⟩:=id hv;have HPX:=xgw hpx;have br:=br.below hb1;obtain⟨e1,e2,e3,e4⟩:=br.two;clear hpx;go_wp2;exact jI rfl rfl rfl (br.put2 _ _) (hv.ext (br.lext2 dE _ _)) (yJ (yJ (nx hB0 hb1) oM 0 _) oM 1 _)
theorem zQn(v1 v2:Value)(zs ys:List Int)(k:Int)(kb n:Nat)(x y:Value)(w:World)(h1:zBm w v1 zs)(h2:zBm w v2 ys)(hl1:zs.length=n)(hl2:ys.length=n)(hn:n<=1000000)(hk:Blk w kb tI #[x,y])(hkv:jT w (.agg #[x,y]) k)
  (hS:∀z∈zs,Sm z) (s2:Sm k):
  Calls Tryz.prog 184 #[v1,v2,.func (.func 157) #[] #[.pointer (some ⟨kb,0,none⟩)]] w fun e w'=>
   e= .returned (.slice (some ⟨w.heap.size,0,none⟩) n n)/\jQ w' w.heap.size (yL n (fun j=>k*zs.getD j 0))/\Below w.heap.size w w':=by
 obtain⟨ao,n1,cap,rfl,e1,e3,e4,-⟩:=id h1;obtain⟨bo,n2,bcap,rfl,f1,f3,f4,-⟩:=id h2;obtain rfl:n=n1:=by omega
 obtain rfl:n=n2:=by omega
 have hmk:=fun W=>mkI (n:Int) n rfl oM W
 have HL1:=xgv hl1;have HL2:=xgv hl2;have HS:=xgv hS;have HK:=xgv s2;obtain⟨G,hG⟩:∃G:Nat->Int,(fun j=>k*zs.getD j 0)=G:=⟨_,rfl⟩;rw[hG];have HG:zAN (∀t,G t=k*zs.getD t 0):=⟨fun t=>by rw[<-hG]⟩;clear hl1 hl2 e1 f1 hG hS s2;go_enter Tryz.func184,Tryz.ntmps184;go_upto_region 2 with(fail)
 refine zD ?_;intro W0 hW0;obtain⟨hB0,bA,hs0⟩:=qM hW0;have hA:jQ W0 w.heap.size (yL n (yO G (fun _=>0) 0)):=by
  have h4:=zG4 w n;have h5:List.replicate n (0:Int)=yL n (yO G (fun _=>0) 0):=by
   apply qO;simp[yL];intro i h1 h2;simp[yL,yO]
  rw[h5]at h4;rw[hW0.out];exact h4
 clear hW0 hmk bA;go_wp2;go_loopw [14] (fun jv wr=>∃j:Nat,j<=n/\jv= .int .i64 j/\Below w.heap.size w wr/\jQ wr w.heap.size (yL n (yO G (fun _=>0) j))) (fun jv _=>n-(intOf jv).toNat)
 case atStart=>exact⟨0,by omega,rfl,hB0,hA⟩
 obtain⟨j,hj,rfl,hb,hA⟩:=hrel;by_cases hlt:j<n
 ·obtain⟨b1,z1,s1,a1,l1,c1,rfl,hbl1,hz1,p1,p2,hv1⟩:=(h1.below hb).cell (k:=j) (by rw[HL1.out];exact hlt)
  obtain⟨b2,z2,s2,a2,l2,c2,rfl,hbl2,hz2,q1,q2,hv2⟩:=(h2.below hb).cell (k:=j) (by rw[HL2.out];exact hlt);have hgj:zAN (k*z1=G j):=⟨by rw[HG.out,zBu hz1]⟩;have S1:zAN (Sm z1):=⟨HS.out _ (xgd hz1)⟩;have hkr:=hk.below hb;have hkvr:=hkv.ext (lx hb);have lkb:=hkr.lt;clear hz1 hz2;have lA:=hA.lt;go_upto_region 5 with(fail)
  refine yX 13 [pcI 11 (k*z1)] ?_;refine sRd ?_;refine sRc (fun wS hI Gk hG=>by go_simp;exact ck hG (zPx _ _ z1 k kb x y _ (hv1.ext hI.lext) ⟨z2,hv2.ext hI.lext⟩ ((hI.old kb oM sI).trans hkr) (hkvr.ext hI.lext) S1.out HK.out)) (fun va11 _=>?_);refine sRd ?_;refine sRe ?_;intro w9 hbw9 ha11;obtain⟨pn,pa,pl,pc,px,rfl,hpx⟩:=id ha11;have HPX:=xgw hpx;have hA:=hA.below hbw9;obtain⟨zs,za,zl,zc,z1,z2,z3,z4,-⟩:=hA.cell (yE hlt);have hset:=hA.set (k:=j) (by rw[qC];exact hlt) ha11;rw[zII hgj.out]at hset;clear hpx p1 p2 q1 q2;go_wp2;go_roundw
  case rel=>exact⟨j+1,by omega,by simp,yJ (yJ (nx hb hbw9) (xgf _) _ _) (xgf _) _ _,hset.1⟩
  case measure=>simp[intOf];omega
 obtain rfl:j=n:=by omega
 have hq:yL j (yO G (fun _=>0) j)=yL j G:=qX fun t ht=>by unfold yO;rw[if_pos ht]
 rw[hq]at hA;go_wp2;go_ret;exact⟨rfl,hA,hb⟩
abbrev tF:TypeId:=71
def zGm(n0 C:Nat)(zs:List Int):World->Value->Prop:=fun w v=>∃g,v= .slice (some ⟨g,0,none⟩) C C/\n0<=g/\jQ w g zs
theorem zJq(n0 C:Nat)(zs:List Int):zAQ (zGm n0 C zs):=fun _ _ _ e ⟨g,h1,h2,h3⟩=>⟨g,h1,h2,h3.below e⟩
theorem zQ0(v1 v2:Value)(zs ys:List Int)(k:Int)(fb kb n:Nat)(x y:Value)(w:World)(h1:zBm w v1 zs)(h2:zBm w v2 ys)(hl1:zs.length=n)(hl2:ys.length=n)(hn:n<=1000000)
  (hf:Blk w fb tF #[.func (.func 157) #[] #[.pointer (some ⟨kb,0,none⟩)]]) (hk:Blk w kb tI #[x,y]) (hkv:jT w (.agg #[x,y]) k) (hS:∀z∈zs,Sm z) (s2:Sm k):
  Calls Tryz.prog 183 #[v1,v2,.pointer (some ⟨fb,0,none⟩)] w fun e w'=>∃v,e= .returned v/\zGm w.heap.size n (yL n (fun j=>k*zs.getD j 0)) w' v/\Below w.heap.size w w':=by
 have c1:=hf.cell 0;have HS:=xgv hS;have HK:=xgv s2;obtain⟨G,hG⟩:∃G:Nat->Int,(fun j=>k*zs.getD j 0)=G:=⟨_,rfl⟩;rw[hG];have HG:=xgv hG;clear hG hS s2;obtain⟨ao,n1,cap,rfl,-⟩:=id h1;obtain⟨bo,n2,bcap,rfl,-⟩:=id h2;go_enter Tryz.func183,Tryz.ntmps183;go_wp2_with fail
 refine(zQn _ _ zs ys k kb n x y w h1 h2 hl1 hl2 hn hk hkv HS.out HK.out).mono ?_;rintro e w1 ⟨rfl,hr,hb1⟩;rw[HG.out]at hr;go_wp2;go_ret;exact⟨_,rfl,⟨_,rfl,xgf _,hr⟩,hb1⟩
theorem qA.ofPart(hb:Blk w g tR (zBA n C bs))(hl:bs.length=n)(hnd:bs.Nodup)(hr:∀(t b:Nat),bs[t]?=some b->base<=b/\∃r:List Int,M[t]?=some r/\r.length=C/\jQ w b r)
  (hM:M.length=n) (hg:base<=g) (hC:C<=1000000) (hn:n<=1000000):qA w base (.slice (some ⟨g,0,none⟩) n n) C bs M:=by
 have hpr:(zBA n C bs).toList=zBJ C bs:=by simp[zBA,hl]
 refine⟨⟨by simp[zBJ],.inr ⟨g,n,zBA n C bs,by rw[hl],hg,hb,by omega,by simp[maxLen];omega,by rw[zCl oM];omega,?_⟩⟩,by rw[hM,hl],?_,hnd,by omega⟩;rw[hpr,hl,zAn,jE (by simp[zBJ,hl])];intro t b r ht hr';obtain⟨h1,r2,h2,h3,h4⟩:=hr t b ht;rw[h2]at hr';injection hr' with hr'
 subst hr';exact⟨h1,h3,h4⟩
theorem zQo(A:Value)(M:List (List Int))(R C:Nat)(k:Int)(fb kb:Nat)(x y:Value)(w:World)(h:zGV w A M)(hF:zBc R C M)(hR:R<=1000000)(hC:C<=1000000)
  (hf:Blk w fb tF #[.func (.func 157) #[] #[.pointer (some ⟨kb,0,none⟩)]]) (hk:Blk w kb tI #[x,y]) (hkv:jT w (.agg #[x,y]) k) (hS:∀r∈M,∀z∈r,Sm z) (s2:Sm k):
  Calls Tryz.prog 182 #[A,A,.func (.func 183) #[] #[.pointer (some ⟨fb,0,none⟩)]] w fun e w'=>
   e= .returned (.slice (some ⟨w.heap.size,0,none⟩) R R)/\(∃bs,bs.length=R/\qA w' w.heap.size (.slice (some ⟨w.heap.size,0,none⟩) R R) C bs (genM R C (fun i j=>k*ent M i j)))/\Below w.heap.size w w':=by
 obtain⟨ao,n,cap,rfl,e1,e3,e4,-⟩:=id h;obtain rfl:R=n:=by rw[<-e1,hF.1]
 have hmk:=fun W=>mkR (R:Int) R rfl oM W
 have HF:=xgv hF;have HS:=xgv hS;have HK:=xgv s2;obtain⟨G,hG⟩:∃G:Nat->Nat->Int,(fun i j=>k*ent M i j)=G:=⟨_,rfl⟩;rw[hG];have HG:zAN (∀i j,G i j=k*ent M i j):=⟨fun i j=>by rw[<-hG]⟩;clear hF hS s2 hG e1;go_enter Tryz.func182,Tryz.ntmps182;go_upto_region 2 with(fail)
 refine zD ?_;intro W0 hW0;obtain⟨hB0,bA,hs0⟩:=qM hW0;rw[zEj R C]at bA;clear hW0 hmk;go_wp2;go_loopw [14] (fun iv wr=>∃(i:Nat) (bs:List Nat),i<=R/\iv= .int .i64 i/\bs.length=i/\Below w.heap.size w wr/\Blk wr w.heap.size tR (zBA R C bs)/\zAN (bs.Nodup/\∀t b,bs[t]?=some b->w.heap.size<b/\jQ wr b (yL C (G t)))) (fun iv _=>R-(intOf iv).toNat)
 case atStart=>exact⟨0,[],by omega,rfl,rfl,hB0,bA,⟨⟨by simp,fun t b ht=>by simp at ht⟩⟩⟩
 obtain⟨i,bs,hi,rfl,hbl,hb,bA,hH⟩:=hrel;by_cases hlt:i<R
 ·obtain⟨b1,o1,ra,rn,rc,zs,rfl,hbl1,hz,p1,hv⟩:=(h.below hb).row (k:=i) (by rw[HF.out.1];exact hlt)
  have hzl:=HF.out.2 zs (xgd hz);have hrow:zAN (yL C (fun j=>k*zs.getD j 0)=yL C (G i)):=⟨qX fun j hj=>by rw[HG.out];unfold ent;rw[zBu hz]⟩;have SZ:zAN (∀z∈zs,Sm z):=⟨HS.out _ (xgd hz)⟩;have HZL:=xgv hzl;have hkr:=hk.below hb;have hkvr:=hkv.ext (lx hb);have hfr:=hf.below hb;have lA:=bA.lt;have hlast:=zJq wr.heap.size C (yL C (G i));have hsz:=hb.size;clear hz hzl;go_upto_region 5 with(fail)
  refine yX 13 [pcD 11 [] (zGm wr.heap.size C (yL C (G i)))] ?_;refine sRd ?_;refine sRc (fun wS hI Gk hG=>?_) (fun va11 _=>?_)
  ·go_simp
   refine(zQ0 _ _ zs zs k fb kb C x y _ (hv.below hI.bel) (hv.below hI.bel) HZL.out HZL.out hC (hfr.below hI.bel) (hkr.below hI.bel) (hkvr.ext (lx hI.bel)) SZ.out HK.out).mono ?_
   (rintro e wa ⟨v,rfl,⟨g,e1,e2,e3⟩,hba⟩;rw[hrow.out]at e3;have hv:zGm wr.heap.size C (yL C (G i)) wa v:=⟨g,e1,zB hI.bel.size e2,e3⟩)
   exact⟨_,rfl,hG _ _ hv,hba⟩
  refine sRd ?_;refine sRe ?_;intro w9 hbw9 ha11;obtain⟨g,rfl,hg1,hg2⟩:zGm wr.heap.size C (yL C (G i)) w9 va11:=ha11;have bA:=bA.below hbw9;have f1:=bA.frozen i;obtain⟨u,f2⟩:∃u,w9.cell? ⟨w.heap.size,i,none⟩=some u:=by
   rw[bA.cell i];exact⟨_,Array.getElem?_eq_getElem (by rw[zCl oM];exact hlt)⟩
  have hset:=bA.set_ i (.slice (some ⟨g,0,none⟩) C C);rw[<-hbl,zFf oM,hbl]at hset;have hx1:=bA.lext dE i (.slice (some ⟨g,0,none⟩) C C);have HG2:=xgv hg2;have HH:=xgv hH.out;clear p1 hg2;go_wp2;go_roundw
  case rel=>
   refine⟨i+1,bs++ [g],by omega,by simp,by simp[hbl],yJ (nx hb hbw9) (xgf _) _ _,hset,⟨⟨?_,?_⟩⟩⟩
   ·rw[yF]
    refine⟨HH.out.1,by simp,fun x hx y hy=>?_⟩;simp at hy;subst hy;obtain⟨t,ht,e⟩:=qS hx;have:=(HH.out.2 t x (by rw[xga ht,e])).2.lt;omega
   intro t b ht;by_cases e:t=i
   ·subst e
    rw[List.getElem?_append_right oM,hbl]at ht;simp at ht;subst ht;exact⟨by omega,HG2.out.old (zW _ _ _ _ _ oM) hx1⟩
   have htl:t<bs.length:=by
    have h5:=(xge.1 ht).1;simp at h5;omega
   rw[List.getElem?_append_left htl]at ht;obtain⟨h6,h7⟩:=HH.out.2 t b ht;exact⟨h6,(h7.below hbw9).old (zW _ _ _ _ _ oM) hx1⟩
  case measure=>simp[intOf];omega
 obtain rfl:i=R:=by omega
 have HH:=xgv hH.out;go_wp2;go_ret;refine⟨rfl,⟨bs,hbl,?_⟩,hb⟩;exact qA.ofPart bA hbl HH.out.1 (fun t b ht=>by
  obtain⟨h6,h7⟩:=HH.out.2 t b ht;have hti:t<i:=by have:=(xge.1 ht).1;omega
  exact⟨by omega,_,zC2 i C G hti,by simp,h7⟩) (by simp[genM]) (xgf _) hC hR
abbrev tM:TypeId:=32
theorem Blk.six{t:TypeId}{c0 c1 c2 c3 c4 c5:Value}(h:Blk w g t #[c0,c1,c2,c3,c4,c5]):
  w.cell? ⟨g,0,none⟩=some c0/\w.cell? ⟨g,1,none⟩=some c1/\w.cell? ⟨g,2,none⟩=some c2/\w.cell? ⟨g,3,none⟩=some c3/\w.cell? ⟨g,4,none⟩=some c4/\w.cell? ⟨g,5,none⟩=some c5:=
 ⟨h.cell 0,h.cell 1,h.cell 2,h.cell 3,h.cell 4,h.cell 5⟩
theorem zHe(b:Nat)(c:Nat)(R1 C1 R2 C2:Int)(A1 A2:Value)(M1 M2:List (List Int))(w:World)(hb0:Blk w b tM #[.int .i64 R1,.int .i64 C1,A1,.int .i64 R2,.int .i64 C2,A2])(hc:2<=c)(hc2:c<=9223372036854775807)
  (h1:zH2 w (.agg #[.int .i64 R1,.int .i64 C1,A1]) R1 C1 M1) (h2:zH2 w (.agg #[.int .i64 R2,.int .i64 C2,A2]) R2 C2 M2):
  Calls Tryz.prog 97 #[.slice (some ⟨b,0,none⟩) 2 c] w fun e w'=>e= .returned (.bool (decide (zBL R1 C1 M1/\zBL R2 C2 M2)))/\Below w.heap.size w w':=by
 obtain⟨ans,hans⟩:∃ans:Bool,decide (zBL R1 C1 M1/\zBL R2 C2 M2)=ans:=⟨_,rfl⟩;rw[hans];have HA:=xgv hans;obtain⟨o1,n1,k1,rfl⟩:∃o n k,A1= .slice o n k:=by
  obtain⟨A,e,ao,n,cap,rfl,-⟩:=h1;injection e with e
  simp only[Array.mk.injEq,List.cons.injEq]at e;exact⟨_,_,_,e.2.2.1⟩
 obtain⟨o2,n2,k2,rfl⟩:∃o n k,A2= .slice o n k:=by
  obtain⟨A,e,ao,n,cap,rfl,-⟩:=h2;injection e with e
  simp only[Array.mk.injEq,List.cons.injEq]at e;exact⟨_,_,_,e.2.2.1⟩
 clear hans;go_enter Tryz.func97,Tryz.ntmps97;go_wp2;go_loopw [7] (fun iv wr=>∃k:Nat,k<=2/\iv= .int .i64 k/\Below w.heap.size w wr/\zAN ((0<k->zBL R1 C1 M1)/\(1<k->zBL R2 C2 M2))) (fun iv _=>2-(intOf iv).toNat)
 case atStart=>exact⟨0,by omega,rfl,zA _ _,⟨⟨fun h=>by omega,fun h=>by omega⟩⟩⟩
 obtain⟨k,hk,rfl,hb,hall⟩:=hrel;obtain⟨c1,c2,c3,c4,c5,c6⟩:=(hb0.below hb).six;by_cases hk0:k=0
 ·subst hk0
  go_upto_region 4 with(fail)
  refine zD ?_;intro W6 hW6;obtain⟨hB6,T7,hs6⟩:=qM hW6;obtain⟨d1,d2,d3,d4,d5,d6⟩:=T7.three;clear c1 c2 c3 c4 c5 c6 hW6;go_wp2_with fail
  refine(zF0 _ R1 C1 M1 W6 ((h1.below hb).below hB6)).mono ?_;rintro e w7 ⟨rfl,hb7⟩;by_cases hv:zBL R1 C1 M1
  ·rw[decide_eq_true hv]
   have HV:=xgv hv;clear hv d1 d2 d3 d4 d5 d6;go_wp2;go_roundw
   case rel=>exact⟨1,by omega,by simp,nx (nx hb hB6) hb7,⟨⟨fun _=>HV.out,fun h=>by omega⟩⟩⟩
   case measure=>simp[intOf]
  rw[decide_eq_false hv];have HV:=xgv hv;clear hv d1 d2 d3 d4 d5 d6;go_wp2;go_ret;refine⟨?_,nx (nx hb hB6) hb7⟩;have h3:ans=false:=by rw[<-HA.out];exact decide_eq_false (fun hh=>HV.out (by first|exact hh.1|exact hh.2))
  rw[h3];rfl
 by_cases hk1:k=1
 ·subst hk1
  go_upto_region 4 with(fail)
  refine zD ?_;intro W6 hW6;obtain⟨hB6,T7,hs6⟩:=qM hW6;obtain⟨d1,d2,d3,d4,d5,d6⟩:=T7.three;clear c1 c2 c3 c4 c5 c6 hW6;go_wp2_with fail
  refine(zF0 _ R2 C2 M2 W6 ((h2.below hb).below hB6)).mono ?_;rintro e w7 ⟨rfl,hb7⟩;by_cases hv:zBL R2 C2 M2
  ·rw[decide_eq_true hv]
   have HV:=xgv hv;clear hv d1 d2 d3 d4 d5 d6;go_wp2;go_roundw
   case rel=>exact⟨2,by omega,by simp,nx (nx hb hB6) hb7,⟨⟨fun _=>hall.out.1 oM,fun _=>HV.out⟩⟩⟩
   case measure=>simp[intOf]
  rw[decide_eq_false hv];have HV:=xgv hv;clear hv d1 d2 d3 d4 d5 d6;go_wp2;go_ret;refine⟨?_,nx (nx hb hB6) hb7⟩;have h3:ans=false:=by rw[<-HA.out];exact decide_eq_false (fun hh=>HV.out (by first|exact hh.1|exact hh.2))
  rw[h3];rfl
 obtain rfl:k=2:=by omega
 go_wp2;go_ret;refine⟨?_,hb⟩;have h3:ans=true:=by rw[<-HA.out];exact decide_eq_true ⟨hall.out.1 oM,hall.out.2 oM⟩
 rw[h3];rfl
abbrev tP:TypeId:=146
theorem Tryz.infoP:(Tryz.prog.info? tP).map (fun i=>(i.zero,i.size,i.bytes))=some (some (.agg #[.int .i64 0,.int .i64 0]),2,16):=by kernel_rfl
theorem zYn{w:World}{ops:Array Oper}{rest:List Oper}{a:Act}{Q:Exit->Act->World->Prop}(hgd:o.guard=none)(s x:Operand)
  (ho:o.op= .call {callee:=.builtin .append,args:=#[s,x],argTypes:=#[145,145]})
  (base:Nat) (v:Value) (n:Nat) (xs:List Value) (hs:a.eval s=v) (hown:w.ownsRow base tP 2 v n xs) (b c:Nat) (z1 z2:Int) (hx:a.eval x= .slice (some ⟨b,0,none⟩) 1 c)
  (hb:Blk w b tP #[.int .i64 z1,.int .i64 z2]) (hlen:n+1<=1099511627776) (hbase:base<=w.heap.size)
  (h:∀v' w',w'.ownsRow base tP 2 v' (n+1) (xs++ [.int .i64 z1,.int .i64 z2])->w.grownBy w' v.ownBlock->wpList Tryz.prog ops Q rest (a.put o.dst v') w'):wpList Tryz.prog ops Q (o::rest) a w:=by
 obtain⟨i0,hi,hz0,hz1,hz2⟩:=info_parts Tryz.infoP;obtain⟨c1,c2,-,-⟩:=hb.two;refine wpList_append_own w hgd s x 145 ho base tP i0 _ 2 16 Tryz.underlying145 hi hz0 hz1 hz2 rfl oM v n xs hs hown ⟨b,0,none⟩ 1 c [.int .i64 z1,.int .i64 z2] hx rfl ?_ ?_ (by simp[maxLen];omega) oM hbase ?_
 ·intro j u hj
  rw[zAJ];match j with
  |0=>simp at hj;subst hj;exact c1
  |1=>simp at hj;subst hj;exact c2
  |j+2=>simp at hj
 ·intro u hu
  simp at hu;rcases hu with rfl|rfl<;>rfl
 intro v' w' h1 h2 _;exact h v' w' h1 h2
def zEV(z1 z2:Int):World->Value->Prop:=fun w v=>∃g cap cs,v= .slice (some ⟨g,0,none⟩) 1 cap/\1<=cap/\cap<=9223372036854775807/\Blk w g tP cs/\cs[0]?=some (.int .i64 z1)/\cs[1]?=some (.int .i64 z2)
theorem zEd(z1 z2:Int):zAQ (zEV z1 z2):=fun _ _ _ e ⟨g,cap,cs,h1,h2,h3,h4,h5⟩=>⟨g,cap,cs,h1,h2,h3,h4.below e,h5⟩
theorem zEy(b c:Nat)(R C:Int)(A:Value)(w:World)(hb0:Blk w b tM #[.int .i64 R,.int .i64 C,A])(hA:∃o n k,A= .slice o n k)(hc:1<=c)(hc2:c<=9223372036854775807):
  Calls Tryz.prog 126 #[.slice (some ⟨b,0,none⟩) 1 c] w fun e w'=>∃v,e= .returned v/\zEV R C w' v/\Below w.heap.size w w':=by
 obtain⟨o1,n1,k1,rfl⟩:=hA;go_enter Tryz.func126,Tryz.ntmps126;go_wp2;go_loopw [3,8] (fun u iv wr=>∃k:Nat,k<=1/\iv= .int .i64 k/\Below w.heap.size w wr/\wr.ownsRow w.heap.size tP 2 u k (if k=0 then []else [.int .i64 R,.int .i64 C])) (fun _ iv _=>1-(intOf iv).toNat)
 case atStart=>exact⟨0,by omega,rfl,zA _ _,zB6 _ _ _ _⟩
 obtain⟨k,hk,rfl,hb,hown⟩:=hrel;by_cases hk0:k=0
 ·subst hk0
  rw[if_pos rfl]at hown;obtain⟨c1,c2,c3,c4,c5,c6⟩:=(hb0.below hb).three;go_upto_region 5 with(fail)
  refine zD ?_;intro W6 hW6;obtain⟨hB6,T7,hs6⟩:=qM hW6;obtain⟨d1,d2,d3,d4,d5,d6⟩:=T7.three;have hown6:=hown.kept (row:=none) ⟨hB6.os,hB6.tape,hB6.output,hB6.size,fun k hk _=>hB6.block k hk⟩ (by cases hv:u3.ownBlock<;>simp);have hbs:=(nx hb hB6).size;clear c1 c2 c3 c4 c5 c6 hW6;have hown7:=hown6.kept (row:=none) (w':=W6.alloc (.cells #[.int .i64 R,.int .i64 C] tP)) (by
   have hB7:Below W6.heap.size W6 (W6.alloc (.cells #[.int .i64 R,.int .i64 C] tP)):=(zA _ _).alloc (xgf _) _;exact⟨hB7.os,hB7.tape,hB7.output,hB7.size,fun k hk _=>hB7.block k hk⟩) (by cases hv:u3.ownBlock<;>simp)
  go_wp2_with (at_builtin;refine zYn rfl _ _ rfl w.heap.size u3 0 [] rfl hown7 W6.heap.size 1 R C rfl (qQ _ _ _) oM (by simp;omega) ?_;intro v' w' hown8 hgr)
  have hgr:World.grownBy (W6.alloc (.cells #[.int .i64 R,.int .i64 C] tP)) w' (Value.ownBlock u3):=hgr;have hB9:Below w.heap.size w w':=((nx hb hB6).alloc oM _).grown hgr (by simp;omega) (fun g hg=>by
   rcases hown.2 with⟨rfl,-⟩|⟨g',cap,cur,rfl,h1,-⟩
   cases hg;simp only[Value.ownBlock,Option.some.injEq]at hg;omega)
  go_roundw
  case rel=>exact⟨1,by omega,by simp,hB9,by rw[if_neg oM];simpa using hown8⟩
  case measure=>simp[intOf]
 obtain rfl:k=1:=by omega
 rw[if_neg oM]at hown;go_wp2;go_ret;refine⟨_,rfl,?_,hb⟩;rcases hown.2 with⟨-,h0⟩|⟨g,cap,cur,rfl,h1,h2,h3,h4,h5,h6⟩
 omega;refine⟨g,cap,cur,rfl,h3,h4,h2,?_,?_⟩
 ·have:(cur.toList.take 2)[0]?=some (.int .i64 R):=by rw[h6];rfl
  rw[List.getElem?_take_of_lt oM]at this;simpa using this
 have:(cur.toList.take 2)[1]?=some (.int .i64 C):=by rw[h6];rfl
 rw[List.getElem?_take_of_lt oM]at this;simpa using this
theorem zLU(mv:Value)(m0 m1 m2 m3:Int)(w:World)(hm:M4V w mv m0 m1 m2 m3):
  Calls Tryz.prog 179 #[.slice none 0 0,.slice none 0 0,mv] w fun e w'=>(∃u,e= .returned u)/\Below w.heap.size w w':=by
 obtain⟨n0,a0,l0,c0,n1,a1,l1,c1,n2,a2,l2,c2,n3,a3,l3,c3,rfl,-⟩:=id hm;go_enter Tryz.func179,Tryz.ntmps179;go_upto_region 1 with(fail)
 refine zD ?_;intro W0 hW0;obtain⟨hB0,bk,hs0⟩:=qM hW0;clear hW0;go_wp2;go_loopw [11] (fun iv wr=>iv= .int .i64 0/\wr=W0) (fun _ _=>0)
 case atStart=>exact⟨rfl,rfl⟩
 obtain⟨rfl,rfl⟩:=hrel;go_wp2;exact bodyPost_end (results_none rfl _ _ _) rfl ⟨⟨_,rfl⟩,hB0⟩
theorem zSs(bw:Nat)(Ah Au Av:Value)(n Cs i j:Nat)(bss:List Nat)(S:Nat->Nat->Int)(kv:Value)(k:Int)(w:World)(hbw:Blk w bw tHW #[Ah,Au,Av])(hs:Wri w Ah n Cs bss S)(hu:zE2 w Au n)(hv:zE2 w Av n)(hi:i<n)(hj:j<n)(hij:i≠j)(hk:jT w kv k)
  (hn:n<=1000000) (hCs:Cs<=1000000) (hS:zLI Cs S i j k) (hks:Sm k):
  Calls Tryz.prog 144 #[.pointer (some ⟨bw,0,none⟩),.int .i64 i,.int .i64 j,kv] w fun e w'=>(∃u,e= .returned u)/\qG (fun b=>b∈bss) w w'/\Blk w' bw tHW #[Ah,Au,Av]∧
   Wri w' Ah n Cs bss (zCe S i j k)/\zE2 w' Au n/\zE2 w' Av n:=by
 obtain⟨so,sn,sc,rfl,s1,s2,s3,-⟩:=id (qA.rows hs);obtain⟨kn,ka,kl,kc,kx,rfl,hkx⟩:=id hk;have HKX:=xgw hkx;have HS:=xgv hS;have HK:=xgv hks;clear hkx hS hks;have e1:n=sn:=by rw[<-s1];simp[genM]
 subst e1;clear s1;obtain⟨gs,_,rfl,-⟩:=qA.at_ hs (i:=i) (by rw[hs.len];exact hi);obtain⟨gt,tc,-,rfl,-⟩:=id hu;obtain⟨gi,ic,-,rfl,-⟩:=id hv;have hlt:∀b,b∈bss->b<w.heap.size:=fun b hb=>(hs.blk hb).elim fun r hr=>hr.lt
 go_enter Tryz.func144,Tryz.ntmps144;go_upto_region 1 with(fail)
 refine zD ?_;intro W0 hW0;obtain⟨hB0,bk,hs0⟩:=qM hW0;have bx:=hbw.below hB0;have hs:=hs.below hB0;have hu:=hu.below hB0;have hv:=hv.below hB0;have hk:=hk.ext (lx hB0);have hO:=qG.of (fun b=>b∈bss) hB0;clear hW0 hbw;obtain⟨g1,bi,eg1,hg1,hbi1,hb1,o1,-⟩:=qA.at_ hs (i:=i) (by rw[hs.len];exact hi);obtain⟨g2,bj,eg2,hg2,hbj1,hb2,o2,-⟩:=qA.at_ hs (i:=j) (by rw[hs.len];exact hj);obtain rfl:gs=g1:=by injection eg1 with eg1;injection eg1
 obtain rfl:gs=g2:=by injection eg2 with eg2;injection eg2
 clear eg1 eg2 hb1 hb2;have hm1:=xgd hbi1;obtain⟨ri,hri⟩:=hs.blk hm1;obtain⟨x1,x2,x3,x4,x5,x6⟩:=bx.three;obtain⟨d1,d2,d3,d4⟩:=bk.two;have lbx:=bx.lt;have lk:=bk.lt;refine yX 15 [] ?_;refine sRd ?_;refine sRf ?_;intro w8 hbw8;have hH8:=hs.below hbw8;have hri8:=hri.below hbw8;clear o1 o2 x1 x2 x3 x4 x5 x6 d1 d2 d3 d4;go_wp2_with fail
 refine(zH8 hH8 hi hj hij hbi1 hbj1 _ (k) (hk.ext (lx0 hbw8)) hCs HS.out HK.out).mono ?_;rintro e w9 ⟨⟨u,rfl⟩,ho,hH9⟩;have hkne:w.heap.size≠bi:=by have:=hlt bi (by simp[hm1]);omega
 have bx:=(bx.below hbw8).row ho hri8 dE;have bk:Blk w9 w.heap.size 43 #[.bool kn,.slice ka kl kc]:=(ho.old _ (bk.below hbw8).lt (by simpa using hkne)).trans (bk.below hbw8);have hk:=(hk.ext (lx0 hbw8)).ext ho.lext;have hO:=(hO.trans (qG.of _ hbw8)).trans (⟨ho.bel,ho.lext,fun k hk hn=>ho.old k hk (by simp;rintro rfl;exact hn (by simp[hm1]))⟩:qG _ w8 w9);have hu:=(hu.below hbw8).row ho hri8;have hv:=(hv.below hbw8).row ho hri8;have hs:Wri w9 (.slice (some ⟨gs,0,none⟩) n sc) n Cs bss (zCe S i j k):=hH9;clear ho hri8 hri hH8 hH9 hm1 hkne hbi1 hbj1;go_upto_region 2 with(fail)
 obtain⟨g1,k1,eg1,o1⟩:=hu.at_ hi;obtain⟨g2,k2',eg2,o2⟩:=hu.at_ hj;obtain⟨rfl,rfl⟩:gt=g1/\tc=k1:=by simpa using eg1
 obtain⟨rfl,rfl⟩:gt=g2/\tc=k2':=by simpa using eg2
 have hg1:=jA _ _ o1;clear eg1 eg2;obtain⟨x1,x2,x3,x4,x5,x6⟩:=bx.three;obtain⟨d1,d2,d3,d4⟩:=bk.two;have lbx:=bx.lt;have lk:=bk.lt;refine yX 15 [] ?_;refine sRd ?_;refine sRf ?_;intro w10 hbw10;go_wp2_with fail
 refine(zLO _ k _ (hk.ext (lx0 hbw10))).mono ?_;rintro e w11 ⟨⟨u,rfl⟩,hbq⟩;have hbz:=nx hbw10 hbq;have bx:=bx.below hbz;have bk:=bk.below hbz;have hO:=hO.trans (qG.of _ hbz);have hs:=hs.below hbz;have hu:=hu.below hbz;have hv:=hv.below hbz;have hk:=hk.ext (lx hbz);clear o1 o2 x1 x2 x3 x4 x5 x6 d1 d2 d3 d4 hbz hbq hg1;go_upto_region 3 with(fail)
 obtain⟨g1,k1,eg1,o1⟩:=hv.at_ hj;obtain⟨g2,k2',eg2,o2⟩:=hv.at_ hi;obtain⟨rfl,rfl⟩:gi=g1/\ic=k1:=by simpa using eg1
 obtain⟨rfl,rfl⟩:gi=g2/\ic=k2':=by simpa using eg2
 have hg1:=jA _ _ o1;clear eg1 eg2;obtain⟨x1,x2,x3,x4,x5,x6⟩:=bx.three;obtain⟨d1,d2,d3,d4⟩:=bk.two;have lbx:=bx.lt;have lk:=bk.lt;refine yX 16 [pcI 15 (-k)] ?_;refine sRd ?_;refine sRc (fun wS hI Gk hG=>by go_simp;exact ck hG (zBS _ k _ (hk.ext hI.lext).weak HK.out)) (fun vc15 _=>?_);refine sRe ?_;intro w12 hbw12 hc15;obtain⟨pn,pa,pl,pc,px,rfl,-⟩:=id hc15;go_wp2_with fail
 refine(zLO _ (-k) _ hc15).mono ?_;rintro e w13 ⟨⟨u,rfl⟩,hbq⟩;have hbz:=nx hbw12 hbq;have bx:=bx.below hbz;have bk:=bk.below hbz;have hO:=hO.trans (qG.of _ hbz);have hs:=hs.below hbz;have hu:=hu.below hbz;have hv:=hv.below hbz;go_wp2;exact bodyPost_end (results_none rfl _ _ _) rfl ⟨⟨_,rfl⟩,hO,bx,hs,hu,hv⟩
theorem zSt(bw:Nat)(Ah Au Av mv:Value)(n Cs i j:Nat)(bss:List Nat)(S:Nat->Nat->Int)(m0 m1 m2 m3:Int)(w:World)(hbw:Blk w bw tHW #[Ah,Au,Av])(hs:Wri w Ah n Cs bss S)(hu:zE2 w Au n)(hv:zE2 w Av n)(hi:i<n)(hj:j<n)(hij:i≠j)(hm:M4V w mv m0 m1 m2 m3)
  (hn:n<=1000000) (hCs:Cs<=1000000) (hS:zQQ Cs (S i) (S j) m0 m1 m2 m3) (hms:Sm m0/\Sm m1/\Sm m2/\Sm m3):
  Calls Tryz.prog 145 #[.pointer (some ⟨bw,0,none⟩),.int .i64 i,.int .i64 j,mv] w fun e w'=>(∃u,e= .returned u)/\qG (fun b=>b∈bss) w w'/\Blk w' bw tHW #[Ah,Au,Av]∧
   Wri w' Ah n Cs bss (yZ S i j m0 m1 m2 m3)/\zE2 w' Au n/\zE2 w' Av n:=by
 obtain⟨so,sn,sc,rfl,s1,s2,s3,-⟩:=id (qA.rows hs);have HS:=xgv hS;have HK:=xgv hms;obtain⟨n0,a0,l0,c0,n1,a1,l1,c1,n2,a2,l2,c2,n3,a3,l3,c3,rfl,j0,j1,j2,j3⟩:=id hm;have HM0:=xgv (And.intro j0 (And.intro j1 (And.intro j2 j3)));clear hS hms hm j0 j1 j2 j3;have e1:n=sn:=by rw[<-s1];simp[genM]
 subst e1;clear s1;obtain⟨gs,_,rfl,-⟩:=qA.at_ hs (i:=i) (by rw[hs.len];exact hi);obtain⟨gt,tc,-,rfl,-⟩:=id hu;obtain⟨gi,ic,-,rfl,-⟩:=id hv;have hlt:∀b,b∈bss->b<w.heap.size:=fun b hb=>(hs.blk hb).elim fun r hr=>hr.lt
 go_enter Tryz.func145,Tryz.ntmps145;go_upto_region 1 with(fail)
 refine zD ?_;intro W0 hW0;obtain⟨hB0,bm,hs0⟩:=qM hW0;have bx:=hbw.below hB0;have hs:=hs.below hB0;have hu:=hu.below hB0;have hv:=hv.below hB0;have hO:=qG.of (fun b=>b∈bss) hB0;have hl2:=zDt m3 (-m2);have hl3:=zDt (-m1) m0;have hl4:=zFv m3 (-m2) (-m1) m0;clear hW0 hbw;obtain⟨g1,bi,eg1,hg1,hbi1,hb1,o1,-⟩:=qA.at_ hs (i:=i) (by rw[hs.len];exact hi);obtain⟨g2,bj,eg2,hg2,hbj1,hb2,o2,-⟩:=qA.at_ hs (i:=j) (by rw[hs.len];exact hj);obtain rfl:gs=g1:=by injection eg1 with eg1;injection eg1
 obtain rfl:gs=g2:=by injection eg2 with eg2;injection eg2
 clear eg1 eg2 hb1 hb2;have hm1:=xgd hbi1;have hm2:=xgd hbj1;obtain⟨ri,hri⟩:=hs.blk hm1;obtain⟨rj,hrj⟩:=hs.blk hm2;obtain⟨x1,x2,x3,x4,x5,x6⟩:=bx.three;obtain⟨k0,k1,k2,k3,k4,k5,k6,k7⟩:=bm.eight;have lbx:=bx.lt;have lm:=bm.lt;have j0:=HM0.out.1.ext hO.lext;have j1:=HM0.out.2.1.ext hO.lext;have j2:=HM0.out.2.2.1.ext hO.lext;have j3:=HM0.out.2.2.2.ext hO.lext;refine yX 15 [] ?_;refine sRd ?_;refine sRf ?_;intro w8 hbw8;have hH8:=hs.below hbw8;have hri8:=hri.below hbw8;have hrj8:=hrj.below hbw8;clear o1 o2 x1 x2 x3 x4 x5 x6 k0 k1 k2 k3 k4 k5 k6 k7;go_wp2_with fail
 refine(zFs hH8 hi hj hij hbi1 hbj1 ⟨_,_,_,_,_,_,_,_,_,_,_,_,_,_,_,_,rfl,j0.ext (lx0 hbw8),j1.ext (lx0 hbw8),j2.ext (lx0 hbw8),j3.ext (lx0 hbw8)⟩ hCs HS.out HK.out).mono ?_;rintro e w9 ⟨⟨u,rfl⟩,ho,hH9⟩;have hk1:w.heap.size≠bi:=by have:=hlt bi (by simp[hm1]);omega
 have hk2:w.heap.size≠bj:=by have:=hlt bj (by simp[hm2]);omega
 have bx:=(bx.below hbw8).row2 ho hri8 hrj8 dE;have bm:Blk w9 w.heap.size 191 #[.bool n0,.slice a0 l0 c0,.bool n1,.slice a1 l1 c1,.bool n2,.slice a2 l2 c2,.bool n3,.slice a3 l3 c3]:=(bm.below hbw8).row2 ho hri8 hrj8 dE;have hO:=(hO.trans (qG.of _ hbw8)).trans (⟨ho.bel,ho.lext,fun k hk hn=>ho.old k hk (by simp;exact⟨fun e=>hn (by rw[e];simp[hm1]),fun e=>hn (by rw[e];simp[hm2])⟩)⟩:qG _ w8 w9);have hu:=(hu.below hbw8).row2 ho hri8 hrj8;have hv:=(hv.below hbw8).row2 ho hri8 hrj8;have hs:=hH9;clear ho hri8 hri hrj8 hrj hH8 hH9 hm1 hm2 hk1 hk2 hbi1 hbj1;go_upto_region 2 with(fail)
 obtain⟨g1,kq1,eg1,o1⟩:=hu.at_ hi;obtain⟨g2,kq2,eg2,o2⟩:=hu.at_ hj;obtain⟨rfl,rfl⟩:gt=g1/\tc=kq1:=by simpa using eg1
 obtain⟨rfl,rfl⟩:gt=g2/\tc=kq2:=by simpa using eg2
 have hg1:=jA _ _ o1;clear eg1 eg2;obtain⟨x1,x2,x3,x4,x5,x6⟩:=bx.three;obtain⟨k0,k1,k2,k3,k4,k5,k6,k7⟩:=bm.eight;have bk:=bm;have j0:=HM0.out.1.ext hO.lext;have j1:=HM0.out.2.1.ext hO.lext;have j2:=HM0.out.2.2.1.ext hO.lext;have j3:=HM0.out.2.2.2.ext hO.lext;have lbx:=bx.lt;have lk:=bk.lt;refine yX 15 [] ?_;refine sRd ?_;refine sRf ?_;intro w10 hbw10;go_wp2_with fail
 refine(zLU _ m0 m1 m2 m3 _ ⟨_,_,_,_,_,_,_,_,_,_,_,_,_,_,_,_,rfl,j0.ext (lx0 hbw10),j1.ext (lx0 hbw10),j2.ext (lx0 hbw10),j3.ext (lx0 hbw10)⟩).mono ?_;rintro e w11 ⟨⟨u,rfl⟩,hbq⟩;have hbz:=nx hbw10 hbq;have bx:=bx.below hbz;have bm:=bm.below hbz;have hO:=hO.trans (qG.of _ hbz);have hs:=hs.below hbz;have hu:=hu.below hbz;have hv:=hv.below hbz;clear o1 o2 x1 x2 x3 x4 x5 x6 k0 k1 k2 k3 k4 k5 k6 k7 hbz hbq hg1 bk j0 j1 j2 j3;go_upto_region 3 with(fail)
 obtain⟨g1,kq1,eg1,o1⟩:=hv.at_ hi;obtain⟨g2,kq2,eg2,o2⟩:=hv.at_ hj;obtain⟨rfl,rfl⟩:gi=g1/\ic=kq1:=by simpa using eg1
 obtain⟨rfl,rfl⟩:gi=g2/\ic=kq2:=by simpa using eg2
 have hg1:=jA _ _ o1;clear eg1 eg2;obtain⟨x1,x2,x3,x4,x5,x6⟩:=bx.three;obtain⟨k0,k1,k2,k3,k4,k5,k6,k7⟩:=bm.eight;have bk:=bm;have j0:=HM0.out.1.ext hO.lext;have j1:=HM0.out.2.1.ext hO.lext;have j2:=HM0.out.2.2.1.ext hO.lext;have j3:=HM0.out.2.2.2.ext hO.lext;have lbx:=bx.lt;have lk:=bk.lt;refine yX 31 [pcI 20 (-m2),pcD 21 [20] (M2V m3 (-m2)),pcI 25 (-m1),pcD 29 [25] (M2V (-m1) m0),pcD 30 [21,29] (fun w v=>M4V w v m3 (-m2) (-m1) m0)] ?_;refine sRd ?_;refine sRc (fun wS hI Gk hG=>by go_simp;exact ck hG (zBS _ m2 _ (j2.ext hI.lext).weak HK.out.2.2.1)) (fun vc20 _=>?_);refine sRc (fun wS hI hc20 Gk hG=>?_) (fun vc21 _=>?_)
 ·obtain⟨a16,b16,d16,e16,x16,rfl,y16⟩:=id hc20
  go_simp;exact⟨hG _ _ ⟨_,_,_,_,_,_,_,_,rfl,j3.ext hI.lext,hc20⟩,zA _ _⟩
 refine sRd ?_;refine sRc (fun wS hI Gk hG=>by go_simp;exact ck hG (zBS _ m1 _ (j1.ext hI.lext).weak HK.out.2.1)) (fun vc25 _=>?_);refine sRd ?_;refine sRc (fun wS hI hc25 Gk hG=>?_) (fun vc29 _=>?_)
 ·obtain⟨a21,b21,d21,e21,x21,rfl,y21⟩:=id hc25
  go_simp;exact⟨hG _ _ ⟨_,_,_,_,_,_,_,_,rfl,hc25,j0.ext hI.lext⟩,zA _ _⟩
 refine sRc (fun wS hI hc21 hc29 Gk hG=>?_) (fun vc30 _=>?_)
 ·obtain⟨p0,p1,p2,p3,p4,p5,p6,p7,rfl,p8,p9⟩:=hc21
  obtain⟨q0,q1,q2,q3,q4,q5,q6,q7,rfl,q8,q9⟩:=hc29;go_simp;exact⟨hG _ _ ⟨_,_,_,_,_,_,_,_,_,_,_,_,_,_,_,_,rfl,p8,p9,q8,q9⟩,zA _ _⟩
 refine sRe ?_;intro w12 hbw12 hc20 hc21 hc25 hc29 hc30;have hm4:M4V w12 vc30 m3 (-m2) (-m1) m0:=hc30;obtain⟨p0,p1,p2,p3,p4,p5,p6,p7,p8,p9,p10,p11,p12,p13,p14,p15,rfl,-⟩:=id hm4;go_wp2_with fail
 refine(zLU _ m3 (-m2) (-m1) m0 _ hm4).mono ?_;rintro e w13 ⟨⟨u,rfl⟩,hbq⟩;have hbz:=nx hbw12 hbq;have bx:=bx.below hbz;have bm:=bm.below hbz;have hO:=hO.trans (qG.of _ hbz);have hs:=hs.below hbz;have hu:=hu.below hbz;have hv:=hv.below hbz;go_wp2;exact bodyPost_end (results_none rfl _ _ _) rfl ⟨⟨_,rfl⟩,hO,bx,hs,hu,hv⟩
theorem zSu(bw:Nat)(Ah Au Av:Value)(n Cs i:Nat)(bss:List Nat)(FS:Nat->Nat->Int)(w:World)(hbw:Blk w bw tHW #[Ah,Au,Av])(hs:Wri w Ah n Cs bss FS)(hu:zE2 w Au n)(hv:zE2 w Av n)(hi:i<n)
  (hn:n<=1000000) (hCs:Cs<=1000000) (hS:∀a,a<n->∀b,b<Cs->Sm (FS a b)):
  Calls Tryz.prog 146 #[.pointer (some ⟨bw,0,none⟩),.int .i64 i] w fun e w'=>(∃u,e= .returned u)/\qG (fun b=>b∈bss) w w'/\Blk w' bw tHW #[Ah,Au,Av]∧
   Wri w' Ah n Cs bss (zDM FS i)/\zE2 w' Au n/\zE2 w' Av n:=by
 obtain⟨so,sn,sc,rfl,s1,s2,s3,-⟩:=id (qA.rows hs);have HS:=xgv hS;have e1:n=sn:=by rw[<-s1];simp[genM]
 subst e1;clear s1 hS;obtain⟨gs,bi,rfl,hgs,hbi,-,o1,-⟩:=qA.at_ hs (i:=i) (by rw[hs.len];exact hi);obtain⟨gt,tc,rfl,o2⟩:=hu.at_ hi;obtain⟨gi,ic,rfl,o3⟩:=hv.at_ hi;have hOz:=qG.refl (fun b=>b∈bss) w;obtain⟨x1,x2,x3,x4,x5,x6⟩:=hbw.three;have lbw:=hbw.lt;have hgt:=jA _ _ o2;have hgi:=jA _ _ o3;go_enter Tryz.func146,Tryz.ntmps146;go_upto_region 0 with(fail)
 refine zCn [] ?_;refine sRd ?_;refine sRf ?_;intro w0 hbw0;have hOz:=hOz.trans (qG.of _ hbw0);have bx:=hbw.below hbw0;have hs:=hs.below hbw0;have hu:=hu.below hbw0;have hv:=hv.below hbw0;clear o1 o2 o3 x1 x2 x3 x4 x5 x6 hbw hgs hgt hgi;go_wp2;go_loopw [30] (fun mv wr=>∃m:Nat,m<=3/\mv= .int .i64 m/\qG (fun b=>b∈bss) w wr/\Blk wr bw tHW #[.slice (some ⟨gs,0,none⟩) n sc,.slice (some ⟨gt,0,none⟩) n tc,.slice (some ⟨gi,0,none⟩) n ic]∧
  Wri wr (.slice (some ⟨gs,0,none⟩) n sc) n Cs bss (if 0<m then zDM FS i else FS)/\zE2 wr (.slice (some ⟨gt,0,none⟩) n tc) n/\zE2 wr (.slice (some ⟨gi,0,none⟩) n ic) n) (fun mv _=>3-(intOf mv).toNat)
 case atStart=>exact⟨0,by omega,rfl,hOz,bx,hs,hu,hv⟩
 clear hOz bx hs hu hv;obtain⟨m,hm,rfl,hOz,bx,hs,hu,hv⟩:=hrel;by_cases hm0:m=0
 ·subst hm0
  rw[if_neg oM]at hs;have hmi:=xgd hbi;have hri:=hs.rowAt hi hbi;have hix:=fun W=>zDl 193 3 #[.slice (some ⟨bi,0,none⟩) Cs Cs,.slice none 0 0,.slice none 0 0] 0 0 _ W zA6 rfl oM rfl
  have hst:∀F:Nat->Int,yL Cs F=yL Cs (yO (fun t=>-F t) F 0):=fun F=>qX fun t _=>by unfold yO;rw[if_neg oM]
  rw[hst]at hri;clear hst;go_wp2;go_loopw [35] (fun jv wt=>∃j:Nat,j<=Cs/\jv= .int .i64 j/\zBr [bi] wr wt/\(∃G,G=(fun t=>-FS i t)/\jQ wt bi (yL Cs (yO G (FS i) j)))) (fun jv _=>Cs-(intOf jv).toNat)
  case atStart=>exact⟨0,by omega,rfl,zBr.refl _ _,_,rfl,hri⟩
  rename World=>wt
  obtain⟨j,hj,rfl,hO,G,hG,hv'⟩:=hrel;have HG:=xgv (congrFun hG);clear hG;have hOs:=hO.bel.size;by_cases hlt:j<Cs
  ·obtain⟨xs,xa,xl,xc,v1,v2,-,-,hx⟩:=hv'.cell (yE hlt)
   have hyf:yO G (FS i) j j=FS i j:=by unfold yO;rw[if_neg oM]
   rw[hyf]at hx;have hlv:=hv'.lt;go_upto_region 6 with(fail)
   refine zD ?_;intro W6 hW6;obtain⟨hB6,T7,hs6⟩:=qM hW6;obtain⟨d1,d2,d3,d4⟩:=T7.two;have hO:=hO.trans (zBr.of [bi] hB6);have hv':=hv'.below hB6;have hx:=hx.ext (lx hB6);have l7:=T7.lt;clear v1 v2 hW6;have HSJ:=xgv (HS.out i hi j hlt);go_wp2_with fail
   refine(zBS _ (FS i j) W6 hx.weak HSJ.out).mono ?_;rintro e w9 ⟨u,rfl,hu,hbw9⟩;obtain⟨pn,pa,pl,pc,px,rfl,hpx⟩:=id hu;have HPX:=xgw hpx;clear hpx;have hv9:=hv'.below hbw9;obtain⟨zs,za,zl,zc,z1,z2,z3,z4,-⟩:=hv9.cell (yE hlt);have hset:=hv9.set (k:=j) (by rw[qC];exact hlt) hu;have hO:=hO.trans (zBr.of [bi] hbw9);go_wp2;go_roundw
   case rel=>
    have hq:(yL Cs (yO G (FS i) j)).set j (-(FS i j))=yL Cs (yO G (FS i) (j+1)):=by
     rw[zDs];exact qX fun t _=>by
      unfold yO;by_cases h2:t=j
      ·subst h2
       rw[if_pos rfl,if_pos oM,HG.out]
      rw[if_neg h2];by_cases h1:t<j
      ·rw[if_pos h1,if_pos oM]
      rw[if_neg h1,if_neg oM]
    rw[hq]at hset;refine⟨_,_,_,_,_,_,_,_,_,_,_,_,_,?_,rfl⟩;exact⟨j+1,by omega,by simp,hO.trans ⟨yJ (yJ (zA _ _) (zE _) _ _) (zE _) _ _,hset.2,fun i _ hi=>yS _ _ _ _ _ _ _ (by simpa using hi)⟩,_,funext HG.out,hset.1⟩
   case measure=>simp[intOf];omega
  obtain rfl:j=Cs:=by omega
  have hq:yL j (yO G (FS i) j)=yL j (fun t=>-FS i t):=qX fun t ht=>by unfold yO;rw[if_pos ht];exact HG.out t
  rw[hq]at hv';go_wp2;go_roundw
  case measure=>simp[intOf]
  have hri0:=hs.rowAt hi hbi;exact⟨1,by omega,by simp,hOz.trans ⟨hO.bel,hO.lext,fun k hk hn=>hO.old k hk (by simp;rintro rfl;exact hn (id hmi))⟩,bx.row hO hri0 dE,by simpa using hs.negRow hi hbi hO hv',hu.row hO hri0,hv.row hO hri0⟩
 by_cases hm1:m=1
 ·subst hm1
  rw[if_pos oM]at hs;have hix:=fun W=>zDl 193 3 #[.slice (some ⟨bi,0,none⟩) Cs Cs,.slice none 0 0,.slice none 0 0] 1 1 _ W zA6 rfl oM rfl
  go_wp2;go_loopw [35] (fun jv wt=>jv= .int .i64 0/\wt=wr) (fun _ _=>0)
  case atStart=>exact⟨rfl,rfl⟩
  rename World=>wt
  obtain⟨rfl,hwt⟩:=hrel;have hwt:=hwt.symm;subst hwt;go_wp2;go_roundw
  case measure=>simp[intOf]
  exact⟨2,by omega,by simp,hOz,bx,by simpa using hs,hu,hv⟩
 by_cases hm2:m=2
 ·subst hm2
  rw[if_pos oM]at hs;have hix:=fun W=>zDl 193 3 #[.slice (some ⟨bi,0,none⟩) Cs Cs,.slice none 0 0,.slice none 0 0] 2 2 _ W zA6 rfl oM rfl
  go_wp2;go_loopw [35] (fun jv wt=>jv= .int .i64 0/\wt=wr) (fun _ _=>0)
  case atStart=>exact⟨rfl,rfl⟩
  rename World=>wt
  obtain⟨rfl,hwt⟩:=hrel;have hwt:=hwt.symm;subst hwt;go_wp2;go_roundw
  case measure=>simp[intOf]
  exact⟨3,by omega,by simp,hOz,bx,by simpa using hs,hu,hv⟩
 obtain rfl:m=3:=by omega
 rw[if_pos oM]at hs;go_wp2;exact bodyPost_end (results_none rfl _ _ _) rfl ⟨⟨_,rfl⟩,hOz,bx,hs,hu,hv⟩
theorem Tryz.infoNt:(Tryz.prog.info? 3).map (fun i=>(i.zero,i.size,i.bytes))=some (some (.int .i64 0),1,8):=by kernel_rfl
theorem Tryz.cellsN:Tryz.prog.cellsOf 3=1:=by kernel_rfl
theorem zNm(W:World)(a b c d:Int):(Op.equalIn 10000 tP (.agg #[.int .i64 a,.int .i64 b]) (.agg #[.int .i64 c,.int .i64 d])).run Tryz.prog W= .ok (decide (a=c/\b=d)) W:=by
 obtain⟨i0,hi,-,hz1,-⟩:=info_parts Tryz.infoNt;have hp:∀(xs:Array Value) (i:Nat) (v:Value),xs[i]?=some v->(part 3 xs i).run Tryz.prog W= .ok v W:=by
  intro xs i v h;simp[part,isAgg,run_underlying Tryz.underlying3,h,go_sem]
 rw[run_equalIn_array W 9999 _ _ Tryz.underlying146 hi,Tryz.cellsN];have he:∀x y:Int,(Op.equalIn 9999 3 (.int .i64 x) (.int .i64 y)).run Tryz.prog W= .ok (x==y) W:=fun x y=>run_equalIn_int W 9998 3 .i64 .i64 x y zC8
 have p0:=hp #[.int .i64 a,.int .i64 b] 0 _ rfl;have p1:=hp #[.int .i64 a,.int .i64 b] 1 _ rfl;have q0:=hp #[.int .i64 c,.int .i64 d] 0 _ rfl;have q1:=hp #[.int .i64 c,.int .i64 d] 1 _ rfl;have hr:List.range 2= [0,1]:=rfl;rw[hr];simp only[Op.eqItems,Sem.run_bind,Nat.zero_mul,Nat.one_mul,p0,p1,q0,q1,Result.andThen_ok,he];by_cases h1:a=c
 ·by_cases h2:b=d
  ·simp[h1,h2,go_sem]
  simp[h1,h2,go_sem]
 simp[h1,go_sem]
theorem zHt(v1 v2:Value)(R1 C1 R2 C2:Int)(w:World)(h1:zEV R1 C1 w v1)(h2:zEV R2 C2 w v2):
  Calls Tryz.prog 125 #[v1,v2] w fun e w'=>e= .returned (.bool (decide (R1=R2/\C1=C2)))/\Below w.heap.size w w':=by
 obtain⟨ans,hans⟩:∃ans:Bool,decide (R1=R2/\C1=C2)=ans:=⟨_,rfl⟩;rw[hans];have HA:=xgv hans;obtain⟨g1,cap1,cs1,rfl,k1,k2,b1,e1,e2⟩:=h1;obtain⟨g2,cap2,cs2,rfl,l1,l2,b2,f1,f2⟩:=h2;have heq:=fun W=>zNm W R1 C1 R2 C2
 rw[hans]at heq;clear hans;go_enter Tryz.func125,Tryz.ntmps125;go_wp2;go_loopw [13] (fun iv wr=>∃k:Nat,k<=1/\iv= .int .i64 k/\Below w.heap.size w wr/\zAN (0<k->R1=R2/\C1=C2)) (fun iv _=>1-(intOf iv).toNat)
 case atStart=>exact⟨0,by omega,rfl,zA _ _,⟨fun h=>by omega⟩⟩
 obtain⟨k,hk,rfl,hb,hall⟩:=hrel;by_cases hk0:k=0
 ·subst hk0
  have p1:=((b1.below hb).cell 0).trans e1;have p2:=((b1.below hb).cell 1).trans e2;have q1:=((b2.below hb).cell 0).trans f1;have q2:=((b2.below hb).cell 1).trans f2;go_upto_region 6 with(fail)
  refine zCx rfl (RV wr _ [VSl 0 16 g1 1 cap1,VN 1 17 0,VP 2 18 g1 0,E 3 19 (.agg #[.int .i64 R1,.int .i64 C1]),VSl 4 20 g2 1 cap2,VN 5 21 0,VP 6 22 g2 0,E 7 23 (.agg #[.int .i64 R2,.int .i64 C2]),E 8 24 (.bool (!ans))]) kR zE4 (zIQ kR ?fin1) ?steps1
  case steps1=>
   (repeat' constructor)<;>(intro L T wS hL hd hcl hI K hK;try refine zK rfl ?_)
   ·exact xgs (hI.k 0 rfl kR)
   exact xgs (hI.k 5 rfl kR);exact xgt (hI.e mm0 (hd 0)) (hI.e mm1 (hd 1));exact xgx (hI.e mm2 (hd 2)) (hI.cell p1) (hI.cell p2);exact xgs (hI.k 1 rfl kR);exact xgs (hI.k 5 rfl kR);exact xgt (hI.e mm4 (hd 4)) (hI.e mm5 (hd 5));exact xgx (hI.e mm6 (hd 6)) (hI.cell q1) (hI.cell q2);exact xgt (hI.e mm3 (hd 3)) (hI.e mm7 (hd 7))
  intro w9 hbw9 T hT;simp only[Fin,E,EI,VP,VSl,VN,xgg,xgh,xgi,xgj]at hT;subst hT;cases ans with
  |true=>
   clear heq;go_wp2;go_roundw
   case rel=>exact⟨1,by omega,by simp,nx hb hbw9,⟨fun _=>of_decide_eq_true HA.out⟩⟩
   case measure=>simp[intOf]
  |false=>
   clear heq;go_wp2;go_ret;exact⟨rfl,nx hb hbw9⟩
 obtain rfl:k=1:=by omega
 go_wp2;go_ret;refine⟨?_,hb⟩;have h3:ans=true:=by rw[<-HA.out];exact decide_eq_true (hall.out oM)
 rw[h3];rfl
end Go.Proofs.YtkidaebmhlijlaaGreat
