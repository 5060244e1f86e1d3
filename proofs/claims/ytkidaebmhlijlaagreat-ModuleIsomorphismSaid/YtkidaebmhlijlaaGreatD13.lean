/- Joined. -/
import Derived.Test.YtkidaebmhlijlaaGreatD11
set_option linter.unusedVariables false
set_option linter.unusedSimpArgs false
set_option linter.unusedSectionVars false
set_option maxHeartbeats 16000000
set_option maxRecDepth 100000
variable{cs:Array Go.Value}{m0 m1 m2 m3:Int}{q r:List Int}{bS bU bV bW bX bs bs':List Nat}{B C C' CS Cu Cw R R' RS b base c g i j k n o wb:Nat}{F F' G:Nat->Nat->Int}{Z:Nat->Prop}{t:Go.TypeId}{A A' AS AU AV AW AX:Go.Value}{W w w':Go.World}
namespace Go.Proofs.YtkidaebmhlijlaaGreat
open Go.RowKit
def Zn(A:Value)(bs:List Nat)(b:Nat):Prop:=b∈bs∨A.ownBlock=some b
def Ap(A:Value)(bs:List Nat)(A':Value)(bs':List Nat):Prop:=∀b,Zn A bs b->¬ Zn A' bs' b
theorem Ap.far(h:Ap A bs A' bs'):Far bs bs':=fun b h1 h2=>h b (.inl h1) (.inl h2)
theorem Ap.own(h:Ap A bs A' bs'):∀g,A.ownBlock=some g->A'.ownBlock≠some g:=fun g h1 h2=>h g (.inr h1) (.inr h2)
theorem Wri.zlt(h:Wri w A R C bs F)(hb:Zn A bs b):b<w.heap.size:=by
 rcases hb with hb|hb
 exact(h.blk hb).elim fun r hr=>hr.lt
 rcases(qC.own h).2 with⟨rfl,-⟩|⟨g,cap,cur,rfl,-,hh,-⟩
 cases hb;simp only[Value.ownBlock,Option.some.injEq]at hb;subst hb;exact(Array.getElem?_eq_some_iff.1 hh).1
theorem Wri.keepZ(h:Wri w A R C bs F)(ho:qJ Z w w')(hz:∀b,Zn A bs b->¬ Z b):Wri w' A R C bs F:=
 qC.same h (fun b hb=>ho.old b (h.zlt (.inl hb)) (hz b (.inl hb))) (fun g hg=>ho.old g (h.zlt (.inr hg)) (hz g (.inr hg))) ho.lext
theorem Wri.rown(h:Wri w A R C bs F)(h':Wri w A' R' C' bs' F')(hb:b∈bs):A'.ownBlock≠some b:=by
 intro e;obtain⟨r,hr⟩:=h.blk hb;exact zG2 (qC.own h') hr e.symm
theorem Ap.of(h:Wri w A R C bs F)(h':Wri w A' R' C' bs' F')(hf:Far bs bs')(ho:∀g,A.ownBlock=some g->A'.ownBlock≠some g):Ap A bs A' bs':=by
 intro b h1 h2;rcases h1 with h1|h1
 ·rcases h2 with h2|h2
  ·exact hf b h1 h2
  exact h.rown h' h1 h2
 rcases h2 with h2|h2
 exact h'.rown h h2 h1;exact ho b h1 h2
theorem Wri.mat(h:Wri w A R C bs F):zAC w (.agg #[niq R,niq C,A]) R C (genM R C F):=⟨A,rfl,qC.rows h⟩
abbrev tW:TypeId:=136
structure zCd(w:World)(base wb RS CS R C Cu Cw:Nat)(AS AU AV AW AX:Value)(bS bU bV bW bX:List Nat)(z:W5):Prop where
 blk:Blk w wb tW #[niq RS,niq CS,AS,niq R,niq Cu,AU,niq R,niq Cu,AV,niq C,niq Cw,AW,niq C,niq Cw,AX]
 wbb:base<=wb
 mS:Wri w AS RS CS bS z.s
 mU:Wri w AU R Cu bU z.u
 mV:Wri w AV R Cu bV z.v
 mW:Wri w AW C Cw bW z.w
 mX:Wri w AX C Cw bX z.x
 zb:∀b,Zn AS bS b∨Zn AU bU b∨Zn AV bV b∨Zn AW bW b∨Zn AX bX b->base<=b
 su:Ap AS bS AU bU
 sv:Ap AS bS AV bV
 sw:Ap AS bS AW bW
 sx:Ap AS bS AX bX
 uv:Ap AU bU AV bV
 uw:Ap AU bU AW bW
 ux:Ap AU bU AX bX
 vw:Ap AV bV AW bW
 vx:Ap AV bV AX bX
 wx:Ap AW bW AX bX
theorem zCd.below{z:W5}(h:zCd w base wb RS CS R C Cu Cw AS AU AV AW AX bS bU bV bW bX z)(hb:BWq w w'):zCd w' base wb RS CS R C Cu Cw AS AU AV AW AX bS bU bV bW bX z:=
 ⟨h.blk.below hb,h.wbb,h.mS.below hb,h.mU.below hb,h.mV.below hb,h.mW.below hb,h.mX.below hb,h.zb,h.su,h.sv,h.sw,h.sx,h.uv,h.uw,h.ux,h.vw,h.vx,h.wx⟩
theorem Wri.nwb(h:Wri w A R C bs F)(hw:Blk w wb tW cs):¬ Zn A bs wb:=by
 intro hh;have hw':w.heap[wb]?=some (.cells cs tW (0,0)):=hw;rcases hh with hb|hb
 ·obtain⟨r,cs',q1,-⟩:=h.blk hb
  rw[hw']at q1;injection q1 with q1
  injection q1 with _ ht
  exact absurd ht dE
 rcases(qC.own h).2 with⟨rfl,-⟩|⟨g,cap,cur,rfl,-,hh,-⟩
 cases hb;simp only[Value.ownBlock,Option.some.injEq]at hb;subst hb;rw[hw']at hh;injection hh with hh
 injection hh with _ ht
 exact absurd ht dE
theorem Blk.fifteen{c0 c1 c2 c3 c4 c5 c6 c7 c8 c9 c10 c11 c12 c13 c14:Value}(h:Blk w g t #[c0,c1,c2,c3,c4,c5,c6,c7,c8,c9,c10,c11,c12,c13,c14]):
  w.cell? ⟨g,0,none⟩=some c0/\w.cell? ⟨g,1,none⟩=some c1/\w.cell? ⟨g,2,none⟩=some c2/\w.cell? ⟨g,5,none⟩=some c5/\w.cell? ⟨g,8,none⟩=some c8/\w.cell? ⟨g,11,none⟩=some c11/\w.cell? ⟨g,14,none⟩=some c14∧
   w.frozen? ⟨g,0,none⟩=false/\w.frozen? ⟨g,1,none⟩=false/\w.frozen? ⟨g,2,none⟩=false:=
 ⟨h.cell 0,h.cell 1,h.cell 2,h.cell 5,h.cell 8,h.cell 11,h.cell 14,h.frozen 0,h.frozen 1,h.frozen 2⟩
structure BSd(B:Nat):Prop where
 smd:∀z:Int,z.natAbs<B->Smd z
theorem BSd.bsm(h:BSd B):BSm B:=⟨fun z hz=>(h.smd z hz).sm⟩
def zVJ(B C:Nat)(F:Nat->Nat->Int)(i j:Nat)(m0 m1 m2 m3:Int):Prop:=
 m0.natAbs<B/\m1.natAbs<B/\m2.natAbs<B/\m3.natAbs<B/\∀t,t<C->(F i t).natAbs<B/\(F j t).natAbs<B/\(m0*F i t).natAbs<B/\(m1*F j t).natAbs<B/\(m2*F i t).natAbs<B/\(m3*F j t).natAbs<B
theorem zVJ.bl(hB:BSm B)(h:zVJ B C F i j m0 m1 m2 m3):zRa C (F i) (F j) m0 m1 m2 m3:=fun t ht=>by
 obtain⟨-,-,-,-,h5⟩:=h;obtain⟨q1,q2,q3,q4,q5,q6⟩:=h5 t ht;exact⟨hB.sm _ q1,hB.sm _ q2,hB.sm _ q3,hB.sm _ q4,hB.sm _ q5,hB.sm _ q6⟩
theorem zVJ.ms(hB:BSm B)(h:zVJ B C F i j m0 m1 m2 m3):Sm m0/\Sm m1/\Sm m2/\Sm m3:=⟨hB.sm _ h.1,hB.sm _ h.2.1,hB.sm _ h.2.2.1,hB.sm _ h.2.2.2.1⟩
structure zRb(B C Cu Cw:Nat)(z:W5)(i j:Nat):Prop where
 sz:(z.s i i).natAbs<B/\(z.s j j).natAbs<B
 g0:Int.gcd (z.s i i) (z.s j j)≠0
 all:∀g u v s t:Int,g=((Int.gcd (z.s i i) (z.s j j):Nat):Int)->u=z.s i i/g->v=z.s j j/g->Bez (z.s i i) (z.s j j) s t->
  (z.s i i*v).natAbs<B/\(t*v).natAbs<B/\zVJ B Cu z.u i j s t (-v) u/\zVJ B Cu z.v i j u v (-t) s/\zVJ B Cw z.w i j 1 1 (-(t*v)) (1-t*v)/\zVJ B Cw z.x i j (1-t*v) (t*v) (-1) 1
section
variable {P:Program} {ops:Array Oper} {Q:Exit->Act->World->Prop}
def zIt(ops:Array Oper):Nat->Nat->Nat->Bool
 |0,j,k=>j==k
 |f+1,j,k=>j==k||((ops[j]?).map (fun o=>o.after.any fun e=>Region.binds .any e && zIt ops f e.on k)).getD false
theorem zDv{L:Array Bool}(hcl:zCl ops L):∀{f j k:Nat},zIt ops f j k=true->L[j]?=some true->L[k]?=some true:=by
 intro f;induction f with
 |zero=>
  intro j k h hj;unfold zIt at h;rw[<-(beq_iff_eq.1 h)];exact hj
 | succ f ih=>
  intro j k h hj;unfold zIt at h;rw[Bool.or_eq_true]at h;rcases h with h|h
  ·rw[<-(beq_iff_eq.1 h)]
   exact hj
  cases ho:ops[j]? with
  |none=>rw[ho]at h;simp at h
  |some o=>
   rw[ho]at h;simp only[Option.map_some,Option.getD_some]at h;rw[<-zA7,zAo]at h;obtain⟨e,he,h2⟩:=h;rw[zCR]at h2;refine ih h2.2 (hcl j o ho hj e.on ?_);unfold zDo;rw[<-zA7,zAo];exact⟨e,he,by simp[h2.1]⟩
variable {W:World} {n0:Nat} {T0:Array Value} {tB:TypeId} {vs:List VS} {bs:List BS} {es:List ES} {L:Array Bool} {T:Array Value} {w w':World}
theorem RI.skip(h:RI W n0 T0 tB vs bs es L T w)(h1:∀s∈vs,s.op≠k)(h2:∀s∈bs,s.al≠k/\s.st≠k)(h3:∀s∈es,s.st≠k):RI W n0 T0 tB vs bs es (L.setIfInBounds k true) T w:=
 ⟨h.wf,h.tb,h.lv,h.lb,h.le,h.eb,h.ed,h.size,h.keep,h.bel0,h.old,h.lext,h.ge,
  fun s hs hl=>zB7 (h.sto s hs (jT hl (qD (h2 s hs).2))),
  fun s hs hl=>h.val s hs (jT hl (qD (h1 s hs))),
  fun s hs hl=>by
   obtain⟨b,x,y,e1,e2,e3,e4⟩:=h.box s hs (jT hl (qD (h2 s hs).1));exact⟨b,x,y,e1,e2,e3,fun hh=>e4 (jT hh (qD (h2 s hs).2))⟩,
  fun s hs t ht hne l1 l2 b c e1 e2=>h.far s hs t ht hne (jT l1 (qD (h2 s hs).1)) (jT l2 (qD (h2 t ht).1)) b c e1 e2,
  fun s hs=>by
   obtain⟨⟨x,y,e1,e2⟩,e3⟩:=h.ex s hs;exact⟨⟨x,y,e1,fun hh=>e2 (jT hh (qD (h3 s hs)))⟩,fun hh=>e3 (zPk hh)⟩⟩
theorem zFU(h:w.heap[b]?=W.heap[b]?):w.frozen? ⟨b,o,none⟩=W.frozen? ⟨b,o,none⟩:=by
 simp only[World.frozen?,h]
theorem zHV(h:w.heap[b]?=W.heap[b]?):w.cell? ⟨b,o,none⟩=W.cell? ⟨b,o,none⟩:=by
 simp only[World.cell?,h]
def zMP(T:Array Value)(sl k:Nat):Value:=match T[sl]? with
 |some (.agg cs)=>cs.getD k undef
 |_=>undef
def zWT(sl b o:Nat):Array Value->World->World:=fun T w=>(w.setCell ⟨b,o,none⟩ (zMP T sl 0)).setCell ⟨b,o+1,none⟩ (zMP T sl 1)
theorem zP6{T:Array Value}{sl:Nat}{x y:Value}(h:T[sl]?=some (.agg #[x,y])):zMP T sl 0=x/\zMP T sl 1=y:=by
 unfold zMP;rw[h];exact⟨rfl,rfl⟩
structure RIS(W:World)(n0:Nat)(T0:Array Value)(tB:TypeId)(vs:List VS)(bs:List BS)(es:List ES)(k1 k2:Nat)(p1:World->World)(p2:Array Value->World->World)(L:Array Bool)(T:Array Value)(w:World):Prop where
 ex:∃w0,RI W n0 T0 tB vs bs es L T w0/\(L[k1]?≠some true->w=w0)/\(L[k1]?=some true->L[k2]?≠some true->w=p1 w0)/\(L[k2]?=some true->w=p2 T (p1 w0))
variable {n k1 k2:Nat} {p1:World->World} {p2:Array Value->World->World}
theorem RIS.start(h:RI W n0 T0 tB vs bs es (Array.replicate n false) T w):RIS W n0 T0 tB vs bs es k1 k2 p1 p2 (Array.replicate n false) T w:=by
 have hf:∀k:Nat,(Array.replicate n false)[k]?≠some true:=by
  intro k h;rw[Array.getElem?_replicate]at h;split at h<;>simp at h
 exact⟨w,h,fun _=>rfl,fun h1=>absurd h1 (hf _),fun h1=>absurd h1 (hf _)⟩
theorem zAF.lift{ds:List Deferred}{o:Oper}(hr1:zIt ops 9 k1 k=true)(hr2:zIt ops 9 k2 k1=true)(hk:k≠k1/\k≠k2)(h:zAF P ops Q ds (RI W n0 T0 tB vs bs es) k o):zAF P ops Q ds (RIS W n0 T0 tB vs bs es k1 k2 p1 p2) k o:=by
 intro L T w hL hd hcl hI K hK;obtain⟨w0,hri,h1,h2,h3⟩:=hI.ex;have hn:L[k1]?≠some true:=fun hh=>by
  have:=zDv hcl hr1 hh;rw[hL]at this;cases this
 have hn2:L[k2]?≠some true:=fun hh=>hn (zDv hcl hr2 hh)
 obtain rfl:=h1 hn;exact h L T w hL @hd hcl hri K (fun T' w' hI'=>hK T' w' ⟨w',hI',fun _=>rfl,fun hh=>absurd (jT hh hk.1) hn,fun hh=>absurd (jT hh hk.2) hn2⟩)
theorem RIS.value{v:Value}(h:RIS W n0 T0 tB vs bs es k1 k2 p1 p2 L T w)(hcl:zCl ops L)(hr2:zIt ops 9 k2 k=true)(hL:L[k]?=some false)(hk:k≠k1/\k≠k2)(s:VS)(hs:s∈vs)(hsk:s.op=k)(hP:∀w,s.P w v):
  RIS W n0 T0 tB vs bs es k1 k2 p1 p2 (L.setIfInBounds k true) (T.setIfInBounds s.slot v) w:=by
 obtain⟨w0,hri,h1,h2,h3⟩:=h.ex;have hn2:L[k2]?≠some true:=fun hh=>by
  have:=zDv hcl hr2 hh;rw[hL]at this;cases this
 exact⟨w0,hri.value s hs hsk (hP w0),fun hh=>h1 (zPk hh),fun hh hh2=>h2 (jT hh hk.1) (zPk hh2),fun hh=>absurd (jT hh hk.2) hn2⟩
theorem RIS.val{s:VS}(h:RIS W n0 T0 tB vs bs es k1 k2 p1 p2 L T w)(hs:s∈vs)(hl:L[s.op]?=some true)(hP:∀w w' v,s.P w v->s.P w' v):∃v,T[s.slot]?=some v/\∀w,s.P w v:=by
 obtain⟨w0,hri,-⟩:=h.ex;obtain⟨v,e1,e2⟩:=hri.val s hs hl;exact⟨v,e1,fun w=>hP _ _ _ e2⟩
theorem RIS.keep(h:RIS W n0 T0 tB vs bs es k1 k2 p1 p2 L T w)(h1:∀s∈vs,s.slot≠j)(h2:∀s∈bs,s.slot≠j):T[j]?=T0[j]?:=by
 obtain⟨w0,hri,-⟩:=h.ex;exact hri.keep j h1 h2
theorem RIS.first(h:RIS W n0 T0 tB vs bs es k1 k2 p1 p2 L T w)(hcl:zCl ops L)(hr2:zIt ops 9 k2 k1=true)(hL:L[k1]?=some false)(hne:k1≠k2)(h1:∀s∈vs,s.op≠k1)(h2:∀s∈bs,s.al≠k1/\s.st≠k1)(h3:∀s∈es,s.st≠k1):
  RI W n0 T0 tB vs bs es L T w/\RIS W n0 T0 tB vs bs es k1 k2 p1 p2 (L.setIfInBounds k1 true) T (p1 w):=by
 obtain⟨w0,hri,g1,g2,g3⟩:=h.ex;have hn:L[k1]?≠some true:=by rw[hL];simp
 have hn2:L[k2]?≠some true:=fun hh=>hn (zDv hcl hr2 hh)
 have hw:w=w0:=g1 hn;subst hw;refine⟨hri,⟨w,hri.skip h1 h2 h3,fun hh=>absurd (Array.getElem?_setIfInBounds_self_of_lt (Array.getElem?_eq_some_iff.1 hL).1) hh,fun _ _=>rfl,fun hh=>absurd (jT hh hne) hn2⟩⟩
theorem RIS.second(h:RIS W n0 T0 tB vs bs es k1 k2 p1 p2 L T w)(hl1:L[k1]?=some true)(hL:L[k2]?=some false)(h1:∀s∈vs,s.op≠k2)(h2:∀s∈bs,s.al≠k2/\s.st≠k2)(h3:∀s∈es,s.st≠k2):
  ∃w0,w=p1 w0/\RI W n0 T0 tB vs bs es L T w0/\RIS W n0 T0 tB vs bs es k1 k2 p1 p2 (L.setIfInBounds k2 true) T (p2 T (p1 w0)):=by
 obtain⟨w0,hri,g1,g2,g3⟩:=h.ex;have hn2:L[k2]?≠some true:=by rw[hL];simp
 refine⟨w0,g2 hl1 hn2,hri,⟨w0,hri.skip h1 h2 h3,fun hh=>absurd (zB7 hl1) hh,fun _ hh=>absurd (Array.getElem?_setIfInBounds_self_of_lt (Array.getElem?_eq_some_iff.1 hL).1) hh,fun _=>rfl⟩⟩
theorem RIS.fin(h:RIS W n0 T0 tB vs bs es k1 k2 p1 p2 (Array.replicate n true) T w)(hk:k2<n):∃w0,RI W n0 T0 tB vs bs es (Array.replicate n true) T w0/\w=p2 T (p1 w0):=by
 obtain⟨w0,hri,g1,g2,g3⟩:=h.ex;exact⟨w0,hri,g3 (by simp[hk])⟩
end
theorem zTn{g p:Int}(hi:i<R)(hj:j<R)(hic:i<C)(hjc:j<C)(hg:g=((Int.gcd (F i i) (F j j):Nat):Int))(hp:p=F i i*(F j j/((Int.gcd (F i i) (F j j):Nat):Int))):
  zPj (zPj (genM R C F) i i g) j j p=genM R C (zIr F i j):=by
 rw[zD8 _ hi hic,zD8 _ hj hjc,hg,hp];rfl
theorem zWu{z:W5}{s t G u v:Int}(hG:G=((Int.gcd (z.s i i) (z.s j j):Nat):Int))(hu:u=z.s i i/G)(hv:v=z.s j j/G):
  zZC z i j s t=⟨zIr z.s i j,jE z.u i j s t (-v) u,jE z.v i j u (-(-v)) (-t) s,jE z.w i j 1 1 (-(t*v)) (1-t*v),jE z.x i j (1-t*v) (-(-(t*v))) (-1) 1⟩:=by
 rw[zBp,zBp];subst hu;subst hv;subst hG;rfl
theorem zCd.twUV{z:W5}(h:zCd w base wb RS CS R C Cu Cw AS AU AV AW AX bS bU bV bW bX z)(ho:qJ (fun b=>b∈bU∨b∈bV) w w')(hu:Wri w' AU R Cu bU F)(hv:Wri w' AV R Cu bV G):
  zCd w' base wb RS CS R C Cu Cw AS AU AV AW AX bS bU bV bW bX ⟨z.s,F,G,z.w,z.x⟩/\qJ (fun b=>base<=b) w w':=by
 refine⟨⟨ho.blk h.blk ?_,h.wbb,h.mS.keepZ ho ?_,hu,hv,h.mW.keepZ ho ?_,h.mX.keepZ ho ?_,h.zb,h.su,h.sv,h.sw,h.sx,h.uv,h.uw,h.ux,h.vw,h.vx,h.wx⟩,ho.mono ?_⟩
 ·rintro(hh|hh)
  ·exact h.mU.nwb h.blk (.inl hh)
  exact h.mV.nwb h.blk (.inl hh)
 ·rintro b hb (hh|hh)
  ·exact h.su b hb (.inl hh)
  exact h.sv b hb (.inl hh)
 ·rintro b hb (hh|hh)
  ·exact h.uw b (.inl hh) hb
  exact h.vw b (.inl hh) hb
 ·rintro b hb (hh|hh)
  ·exact h.ux b (.inl hh) hb
  exact h.vx b (.inl hh) hb
 rintro b-(hh|hh);exact h.zb b (.inr (.inl (.inl hh)));exact h.zb b (.inr (.inr (.inl (.inl hh))))
theorem zCd.twWX{z:W5}(h:zCd w base wb RS CS R C Cu Cw AS AU AV AW AX bS bU bV bW bX z)(ho:qJ (fun b=>b∈bW∨b∈bX) w w')(hu:Wri w' AW C Cw bW F)(hv:Wri w' AX C Cw bX G):
  zCd w' base wb RS CS R C Cu Cw AS AU AV AW AX bS bU bV bW bX ⟨z.s,z.u,z.v,F,G⟩/\qJ (fun b=>base<=b) w w':=by
 refine⟨⟨ho.blk h.blk ?_,h.wbb,h.mS.keepZ ho ?_,h.mU.keepZ ho ?_,h.mV.keepZ ho ?_,hu,hv,h.zb,h.su,h.sv,h.sw,h.sx,h.uv,h.uw,h.ux,h.vw,h.vx,h.wx⟩,ho.mono ?_⟩
 ·rintro(hh|hh)
  ·exact h.mW.nwb h.blk (.inl hh)
  exact h.mX.nwb h.blk (.inl hh)
 ·rintro b hb (hh|hh)
  ·exact h.sw b hb (.inl hh)
  exact h.sx b hb (.inl hh)
 ·rintro b hb (hh|hh)
  ·exact h.uw b hb (.inl hh)
  exact h.ux b hb (.inl hh)
 ·rintro b hb (hh|hh)
  ·exact h.vw b hb (.inl hh)
  exact h.vx b hb (.inl hh)
 rintro b-(hh|hh);exact h.zb b (.inr (.inr (.inr (.inl (.inl hh)))));exact h.zb b (.inr (.inr (.inr (.inr (.inl hh)))))
theorem zCQ.blw{z:Int}(h:zCQ w b z)(ho:qJ Z w w')(hz:¬ Z b):zCQ w' b z:=h.old (ho.old b h.lt hz) ho.lext
theorem zOv(hB:BSd B){z:W5}(h:zCd w base wb R C R C Cu Cw AS AU AV AW AX bS bU bV bW bX z){i j:Nat}
  (hij:i<j) (hjR:j<R) (hjC:j<C) (hR:R<=1000000) (hC:C<=1000000) (hCu:Cu<=1000000) (hCw:Cw<=1000000) (hok:zRb B C Cu Cw z i j):
  CPq 161 #[.pointer (some ⟨wb,0,none⟩),.int .i64 i,.int .i64 j] w fun e w'=>(∃u,e= .returned u)/\qJ (fun b=>base<=b) w w'∧
   ∃s t,Bez (z.s i i) (z.s j j) s t/\zCd w' base wb R C R C Cu Cw AS AU AV AW AX bS bU bV bW bX (zZC z i j s t):=by
 have hBm:=hB.bsm;obtain⟨so,sn,sc,rfl,s1,s2,s3,-⟩:=id (qC.rows h.mS);obtain⟨uo,un,uc,rfl,u1,u2,u3,-⟩:=id (qC.rows h.mU);obtain⟨vo,vn,vc,rfl,v1,v2,v3,-⟩:=id (qC.rows h.mV);obtain⟨wo,wn,wc,rfl,w1,w2,w3,-⟩:=id (qC.rows h.mW);obtain⟨xo,xn,xc,rfl,x1,x2,x3,-⟩:=id (qC.rows h.mX);obtain rfl:R=sn:=by rw[<-s1];simp[genM]
 obtain rfl:R=un:=by rw[<-u1];simp[genM]
 obtain rfl:R=vn:=by rw[<-v1];simp[genM]
 obtain rfl:C=wn:=by rw[<-w1];simp[genM]
 obtain rfl:C=xn:=by rw[<-x1];simp[genM]
 clear s1 u1 v1 w1 x1 s2 s3 u2 u3 v2 v3 w2 w3 x2 x3;have hiR:i<R:=oM;have hiC:i<C:=oM;have hne:i≠j:=oM;obtain⟨gs,bi,rfl,hgs,hbi,hbi2,o1,-⟩:=qC.at_ h.mS (i:=i) (by rw[h.mS.len];exact hiR);obtain⟨g2,bj,eg,hg2,hbj,hbj2,o2,-⟩:=qC.at_ h.mS (i:=j) (by rw[h.mS.len];exact hjR);obtain rfl:gs=g2:=by injection eg with eg;injection eg
 clear eg;have H0:=xgv h;obtain⟨G,hG⟩:∃G:Int,G=((Int.gcd (z.s i i) (z.s j j):Nat):Int):=⟨_,rfl⟩;obtain⟨uq,hu⟩:∃u:Int,u=z.s i i/G:=⟨_,rfl⟩;obtain⟨vq,hv⟩:∃v:Int,v=z.s j j/G:=⟨_,rfl⟩;have HU:=xgv hu;have HV:=xgv hv;have HG:=xgv hG;have hG0:G≠0:=by rw[hG];have:=hok.g0;omega
 have HG0:=xgv hG0;have hGle:G.natAbs<=max (z.s i i).natAbs (z.s j j).natAbs:=by
  rw[hG,zAn];by_cases hx0:z.s i i=0
  ·rw[hx0,Int.gcd_zero_left];omega
  have h3:Int.gcd (z.s i i) (z.s j j)<=(z.s i i).natAbs:=zDE oM (Nat.gcd_dvd_left _ _);omega
 have SX:jZ (Smd (z.s i i)):=⟨hB.smd _ hok.sz.1⟩;have SY:jZ (Smd (z.s j j)):=⟨hB.smd _ hok.sz.2⟩;have SG:jZ (Sm G):=⟨(hB.smd _ (by have:=hok.sz;omega)).sm⟩;have HOK:=xgv hok;clear hu hv hG hG0 hGle hok;obtain⟨xs,xa,xl,xc',p1,p2,-,-,hx⟩:=(h.mS.rowAt hiR hbi).cell (yE hiC);obtain⟨ys,ya,yl,yc,r1,r2,-,-,hy⟩:=(h.mS.rowAt hjR hbj).cell (yE hjC);obtain⟨k0,k1,k2,k5,k8,k11,k14,-,-,-⟩:=h.blk.fifteen;have lw0:=h.blk.lt;have hZL:∀b,(b∈bU∨b∈bV)∨(b∈bW∨b∈bX)∨b∈bS->b<w.heap.size:=by
  rintro b ((hb|hb)|(hb|hb)|hb);exact h.mU.zlt (.inl hb);exact h.mV.zlt (.inl hb);exact h.mW.zlt (.inl hb);exact h.mX.zlt (.inl hb);exact h.mS.zlt (.inl hb)
 have HZL:=xgv hZL;clear h hZL;go_enter Tryz.func161,Tryz.ntmps161;go_upto_region 0 with(fail)
 refine zBl [pcI 11 (z.s i i),pcI 23 (z.s j j),pbA 24 43 2,pbA 25 43 2,pbS 26 24 43 2,pbS 27 25 43 2] ?_;refine sRd ?_;refine sRc (fun wS hI Gk hG=>?_) (fun va11 hv=>?_)
 ·have cc0:=hI.cell p1
  have cc1:=hI.cell p2;go_simp;exact⟨hG _ _ (hx.ext hI.lext),zA _ _⟩
 obtain⟨xa24,ya24,rfl,qa24⟩:=zL7 hv;clear hv;refine sRd ?_;refine sRc (fun wS hI Gk hG=>?_) (fun va23 hv=>?_)
 ·have cc0:=hI.cell r1
  have cc1:=hI.cell r2;go_simp;exact⟨hG _ _ (hy.ext hI.lext),zA _ _⟩
 obtain⟨xa25,ya25,rfl,qa25⟩:=zL7 hv;clear hv;refine sRa (cs:=#[.bool false,.slice none 0 0]) fun ca24 ga24=>?_
 refine sRa (cs:=#[.bool false,.slice none 0 0]) fun ca25 ga25=>?_
 refine sRs ca24 (.agg #[xa24,ya24]) ?_ qa24;refine sRs ca25 (.agg #[xa25,ya25]) ?_ qa25;refine sRb ?_;simp only[FA,FC,FN,ptr,List.nil_append,List.cons_append,Act.put,xgh,xgi,xgj];intro w1 hbw1 ha11 ha23 ka24 ka25 na24 na25;replace ka24:Blk w1 ca24 43 #[xa24,ya24]:=ka24 _ rfl;have ia24:=ha11;replace ka25:Blk w1 ca25 43 #[xa25,ya25]:=ka25 _ rfl;have ia25:=ha23;have na24_25:ca24≠ca25:=na24 (25,ca25) sI;clear na24 na25;have hO:=qJ.of (fun b=>base<=b) hbw1;have hk:=H0.out.below hbw1;have H1:=xgv hk;have z6:=zCQ.mk ka24 ia24;have z7:=zCQ.mk ka25 ia25;have hszw:=hbw1.size;clear k0 k1 k2 k5 k8 k11 k14 o1 o2 p1 p2 r1 r2 hx hy ka24 ka25 ia24 ia25 ha11 ha23 hk H0;obtain⟨ns6,na6,nl6,nc6,kk6,ii6⟩:=id z6;obtain⟨ns7,na7,nl7,nc7,kk7,ii7⟩:=id z7;obtain⟨c1,c2,c3,c4⟩:=kk6.two;obtain⟨d1,d2,d3,d4⟩:=kk7.two;have l6:=kk6.lt;have l7:=kk7.lt;go_wp2_with fail
 refine(zSK _ _ (z.s i i) (z.s j j) w1 ii6 ii7 SX.out SY.out).mono ?_;rintro e w2 ⟨v1,v2,v3,s,t,rfl,hg,hs,ht,hbez,hsb,htb,hb2⟩;have HBZ:jZ (Bez (z.s i i) (z.s j j) s t):=⟨⟨hbez,hsb,htb⟩⟩;rw[<-HG.out]at hg;have hall:=HOK.out.all G uq vq s t HG.out HU.out HV.out HBZ.out;have HALL:=xgv hall;obtain⟨gn,ga,gl,gc,gx,rfl,hg'⟩:=id hg;obtain⟨sn,sa,sl,sc',sx,rfl,hs'⟩:=id hs;obtain⟨tn,ta,tl,tc,tx,rfl,ht'⟩:=id ht;have HG':=xgw hg';have HS':=xgw hs';have HT':=xgw ht';clear hg' hs' ht' hbez hsb htb hall c1 c2 c3 c4 d1 d2 d3 d4;go_upto_region 2 with(fail)
 refine zD ?_;intro W3 hW3;obtain⟨hB3,T8,T9,T10,hs3⟩:=zBk hW3;have hb23:=nx hb2 hB3;have hO:=hO.trans (qJ.of _ hb23);have H1:=xgv (H1.out.below hb23);have z6:=z6.below hb23;have z7:=z7.below hb23;have z8:=zCQ.mk T8 (hg.ext (lx hB3));have z9:=zCQ.mk T9 (hs.ext (lx hB3));have z10:=zCQ.mk T10 (ht.ext (lx hB3));have hszw2:=hb23.size;have hszw3:=hb2.size;clear hW3 T8 T9 T10 hg hs ht kk6 kk7 ii6 ii7 l6 l7;obtain⟨ns6,na6,nl6,nc6,kk6,ii6⟩:=id z6;obtain⟨ns7,na7,nl7,nc7,kk7,ii7⟩:=id z7;obtain⟨ns8,na8,nl8,nc8,kk8,ii8⟩:=id z8;obtain⟨c1,c2,c3,c4⟩:=kk6.two;obtain⟨d1,d2,d3,d4⟩:=kk7.two;obtain⟨e1,e2,e3,e4⟩:=kk8.two;have l6:=kk6.lt;have l7:=kk7.lt;have l8:=kk8.lt;refine zBl [pcI 2 (uq),pcI 5 (vq),pbA 6 43 2,pbA 7 43 2,pbS 8 6 43 2,pbS 9 7 43 2] ?_;refine sRd ?_;refine sRc (fun wS hI Gk hG=>?_) (fun vb2 hv=>?_)
 ·go_simp
  refine(zIh _ _ (z.s i i) G _ (ii6.ext hI.lext) (ii8.ext hI.lext) SX.out.sm SG.out HG0.out).mono ?_;rintro e wa ⟨v,rfl,hv,hba⟩;rw[<-HU.out]at hv;exact⟨_,rfl,hG _ _ hv,hba⟩
 obtain⟨xb6,yb6,rfl,qb6⟩:=zL7 hv;clear hv;refine sRd ?_;refine sRc (fun wS hI Gk hG=>?_) (fun vb5 hv=>?_)
 ·go_simp
  refine(zIh _ _ (z.s j j) G _ (ii7.ext hI.lext) (ii8.ext hI.lext) SY.out.sm SG.out HG0.out).mono ?_;rintro e wa ⟨v,rfl,hv,hba⟩;rw[<-HV.out]at hv;exact⟨_,rfl,hG _ _ hv,hba⟩
 obtain⟨xb7,yb7,rfl,qb7⟩:=zL7 hv;clear hv;refine sRa (cs:=#[.bool false,.slice none 0 0]) fun cb6 gb6=>?_
 refine sRa (cs:=#[.bool false,.slice none 0 0]) fun cb7 gb7=>?_
 refine sRs cb6 (.agg #[xb6,yb6]) ?_ qb6;refine sRs cb7 (.agg #[xb7,yb7]) ?_ qb7;refine sRb ?_;simp only[FA,FC,FN,ptr,List.nil_append,List.cons_append,Act.put,xgh,xgi,xgj];intro w4 hbw4 hb2 hb5 kb6 kb7 nb6 nb7;replace kb6:Blk w4 cb6 43 #[xb6,yb6]:=kb6 _ rfl;have ib6:=hb2;replace kb7:Blk w4 cb7 43 #[xb7,yb7]:=kb7 _ rfl;have ib7:=hb5;have nb6_7:cb6≠cb7:=nb6 (7,cb7) sI;clear nb6 nb7;have hO:=hO.trans (qJ.of _ hbw4);have H1:=xgv (H1.out.below hbw4);have z6:=z6.below hbw4;have z7:=z7.below hbw4;have z8:=z8.below hbw4;have z9:=z9.below hbw4;have z10:=z10.below hbw4;have z11:=zCQ.mk kb6 ib6;have z12:=zCQ.mk kb7 ib7;have hszw4:=hbw4.size;clear c1 c2 c3 c4 d1 d2 d3 d4 e1 e2 e3 e4 kk6 kk7 kk8 ii6 ii7 ii8 l6 l7 l8 kb6 kb7 ib6 ib7 hb2 hb5;obtain⟨a1,a2,a3,a4,a5,a6⟩:=HALL.out;have A1:=xgv a1;have A2:=xgv a2;have A3:=xgv a3;have A4:=xgv a4;have A5:=xgv a5;have A6:=xgv a6;clear a1 a2 a3 a4 a5 a6 HALL;obtain⟨k0,k1,k2,k5,k8,k11,k14,-,-,-⟩:=H1.out.blk.fifteen;have lw0:=H1.out.blk.lt;obtain⟨ns9,na9,nl9,nc9,kk9,ii9⟩:=id z9;obtain⟨ns10,na10,nl10,nc10,kk10,ii10⟩:=id z10;obtain⟨ns11,na11,nl11,nc11,kk11,ii11⟩:=id z11;obtain⟨ns12,na12,nl12,nc12,kk12,ii12⟩:=id z12;obtain⟨c1,c2,c3,c4⟩:=kk9.two;obtain⟨d1,d2,d3,d4⟩:=kk10.two;obtain⟨e1,e2,e3,e4⟩:=kk11.two;obtain⟨f1,f2,f3,f4⟩:=kk12.two;have l9:=kk9.lt;have l10:=kk10.lt;have l11:=kk11.lt;have l12:=kk12.lt;have hl2:=zD2 (-vq) uq;have hl4:=zGX s t (-vq) uq;go_upto_region 3 with(fail)
 refine yP 23 [pcI 19 (-vq),pcD 21 [19] (M2V (-vq) uq),pcD 22 [21] (fun w v=>M4V w v s t (-vq) uq)] ?_;refine sRd ?_;refine sRc (fun wS hI Gk hG=>by go_simp;exact ck hG (zBY _ vq _ (ii12.ext hI.lext).weak (A4.out.ms hBm).2.1)) (fun vc19 _=>?_);refine sRd ?_;refine sRc (fun wS hI hc19 Gk hG=>?_) (fun vc21 _=>?_)
 ·obtain⟨a19,b19,d19,e19,x19,rfl,y19⟩:=id hc19
  go_simp;exact⟨hG _ _ ⟨_,_,_,_,_,_,_,_,rfl,hc19,ii11.ext hI.lext⟩,zA _ _⟩
 refine sRc (fun wS hI hc21 Gk hG=>?_) (fun vc22 _=>?_)
 ·obtain⟨p0,p1,p2,p3,p4,p5,p6,p7,rfl,p8,p9⟩:=hc21
  go_simp;exact⟨hG _ _ ⟨_,_,_,_,_,_,_,_,_,_,_,_,_,_,_,_,rfl,ii9.ext hI.lext,ii10.ext hI.lext,p8,p9⟩,zA _ _⟩
 refine sRe ?_;intro w5 hbw5 hc19 hc21 hc22;have hO:=hO.trans (qJ.of _ hbw5);have H1:=xgv (H1.out.below hbw5);have z6:=z6.below hbw5;have z7:=z7.below hbw5;have z8:=z8.below hbw5;have z10:=z10.below hbw5;have z12:=z12.below hbw5;have hszw5:=hbw5.size;have hm:M4V w5 vc22 s t (-vq) uq:=hc22;clear k0 k1 k2 k5 k8 k11 k14 c1 c2 c3 c4 d1 d2 d3 d4 e1 e2 e3 e4 f1 f2 f3 f4 kk9 kk10 kk11 kk12 ii9 ii10 ii11 ii12 l9 l10 l11 l12 hl2 hl4 hc19 hc21 hc22 lw0 z9 z11;obtain⟨p0,p1,p2,p3,p4,p5,p6,p7,p8,p9,p10,p11,p12,p13,p14,p15,rfl,-⟩:=id hm;have HM:=xgv hm;clear hm;go_wp2_with fail
 refine(zNP none 0 0 _ _ _ R Cu i j bU bV z.u z.v s t (-vq) uq w5 H1.out.mU H1.out.mV H1.out.uv.far HM.out hiR hjR hne hR hCu (A3.out.bl hBm) (by rw[zBp];exact A4.out.bl hBm) (A3.out.ms hBm)).mono ?_;rintro e w6 ⟨⟨uu6,rfl⟩,hO6,hU6,hV6⟩;obtain⟨hk2,hO6'⟩:=H1.out.twUV hO6 hU6 hV6;have hO:=hO.trans hO6';have H2:=xgv hk2;have z6:=z6.blw hO6 (fun hh=>by have:=HZL.out _ (.inl hh);omega);have z7:=z7.blw hO6 (fun hh=>by have:=HZL.out _ (.inl hh);omega);have z8:=z8.blw hO6 (fun hh=>by have:=HZL.out _ (.inl hh);omega);have z10:=z10.blw hO6 (fun hh=>by have:=HZL.out _ (.inl hh);omega);have z12:=z12.blw hO6 (fun hh=>by have:=HZL.out _ (.inl hh);omega);have hszw6:=hO6.bel.size;clear HM H1 hk2 hU6 hV6;obtain⟨ns10,na10,nl10,nc10,kk10,ii10⟩:=id z10;obtain⟨ns12,na12,nl12,nc12,kk12,ii12⟩:=id z12;obtain⟨d1,d2,d3,d4⟩:=kk10.two;obtain⟨f1,f2,f3,f4⟩:=kk12.two;have l10:=kk10.lt;have l12:=kk12.lt;have STV:jZ (Sm t/\Sm vq):=⟨⟨(A3.out.ms hBm).2.1,(A4.out.ms hBm).2.1⟩⟩;go_upto_region 4 with(fail)
 refine zBl [pcI 0 (1),pcI 3 (t*vq),pbA 4 43 2,pbA 5 43 2,pbS 6 4 43 2,pbS 7 5 43 2] ?_;refine sRc (fun wS hI Gk hG=>?_) (fun vd0 hv=>?_)
 ·go_simp
  exact ck hG (zGz 1 _ oM oM)
 obtain⟨xd4,yd4,rfl,qd4⟩:=zL7 hv;clear hv;refine sRd ?_;refine sRc (fun wS hI Gk hG=>?_) (fun vd3 hv=>?_)
 ·go_simp
  exact ck hG (zEE _ _ t vq _ (ii10.ext hI.lext).weak (ii12.ext hI.lext).weak STV.out.1 STV.out.2)
 obtain⟨xd5,yd5,rfl,qd5⟩:=zL7 hv;clear hv;refine sRa (cs:=#[.bool false,.slice none 0 0]) fun cd4 gd4=>?_
 refine sRa (cs:=#[.bool false,.slice none 0 0]) fun cd5 gd5=>?_
 refine sRs cd4 (.agg #[xd4,yd4]) ?_ qd4;refine sRs cd5 (.agg #[xd5,yd5]) ?_ qd5;refine sRb ?_;simp only[FA,FC,FN,ptr,List.nil_append,List.cons_append,Act.put,xgh,xgi,xgj];intro w7 hbw7 hd0 hd3 kd4 kd5 nd4 nd5;replace kd4:Blk w7 cd4 43 #[xd4,yd4]:=kd4 _ rfl;have id4:=hd0;replace kd5:Blk w7 cd5 43 #[xd5,yd5]:=kd5 _ rfl;have id5:=hd3;have nd4_5:cd4≠cd5:=nd4 (5,cd5) sI;clear nd4 nd5;have hO:=hO.trans (qJ.of _ hbw7);have H2:=xgv (H2.out.below hbw7);have z6:=z6.below hbw7;have z7:=z7.below hbw7;have z8:=z8.below hbw7;have z12:=z12.below hbw7;have z13:=zCQ.mk kd4 id4;have z14:=zCQ.mk kd5 id5;have hszw7:=hbw7.size;clear d1 d2 d3 d4 f1 f2 f3 f4 kk10 kk12 ii10 ii12 l10 l12 kd4 kd5 id4 id5 hd0 hd3 z10 STV;obtain⟨k0,k1,k2,k5,k8,k11,k14,-,-,-⟩:=H2.out.blk.fifteen;have lw0:=H2.out.blk.lt;obtain⟨ns13,na13,nl13,nc13,kk13,ii13⟩:=id z13;obtain⟨ns14,na14,nl14,nc14,kk14,ii14⟩:=id z14;obtain⟨c1,c2,c3,c4⟩:=kk13.two;obtain⟨d1,d2,d3,d4⟩:=kk14.two;have l13:=kk13.lt;have l14:=kk14.lt;have hl2:=zD2 (-(t*vq)) (1-t*vq);have hl4:=zGX 1 1 (-(t*vq)) (1-t*vq);go_upto_region 5 with(fail)
 refine yP 25 [pcI 19 (-(t*vq)),pcI 22 (1-t*vq),pcD 23 [19,22] (M2V (-(t*vq)) (1-t*vq)),pcD 24 [23] (fun w v=>M4V w v 1 1 (-(t*vq)) (1-t*vq))] ?_;refine sRd ?_;refine sRc (fun wS hI Gk hG=>by go_simp;exact ck hG (zBY _ (t*vq) _ (ii14.ext hI.lext).weak (hBm.sm _ A2.out))) (fun vf19 _=>?_);refine sRd ?_;refine sRc (fun wS hI Gk hG=>by go_simp;exact ck hG (zOo _ _ 1 (t*vq) _ (ii13.ext hI.lext).weak (ii14.ext hI.lext).weak (A5.out.ms hBm).1 (hBm.sm _ A2.out))) (fun vf22 _=>?_);refine sRc (fun wS hI hf19 hf22 Gk hG=>?_) (fun vf23 _=>?_)
 ·obtain⟨a19,b19,d19,e19,x19,rfl,y19⟩:=id hf19
  obtain⟨a22,b22,d22,e22,x22,rfl,y22⟩:=id hf22;go_simp;exact⟨hG _ _ ⟨_,_,_,_,_,_,_,_,rfl,hf19,hf22⟩,zA _ _⟩
 refine sRc (fun wS hI hf23 Gk hG=>?_) (fun vf24 _=>?_)
 ·obtain⟨p0,p1,p2,p3,p4,p5,p6,p7,rfl,p8,p9⟩:=hf23
  go_simp;exact⟨hG _ _ ⟨_,_,_,_,_,_,_,_,_,_,_,_,_,_,_,_,rfl,ii13.ext hI.lext,ii13.ext hI.lext,p8,p9⟩,zA _ _⟩
 refine sRe ?_;intro w8 hbw8 hf19 hf22 hf23 hf24;have hO:=hO.trans (qJ.of _ hbw8);have H2:=xgv (H2.out.below hbw8);have z6:=z6.below hbw8;have z8:=z8.below hbw8;have z12:=z12.below hbw8;have hszw8:=hbw8.size;have hm:M4V w8 vf24 1 1 (-(t*vq)) (1-t*vq):=hf24;clear k0 k1 k2 k5 k8 k11 k14 c1 c2 c3 c4 d1 d2 d3 d4 kk13 kk14 ii13 ii14 l13 l14 hl2 hl4 hf19 hf22 hf23 hf24 lw0 z13 z14 z7;obtain⟨p0,p1,p2,p3,p4,p5,p6,p7,p8,p9,p10,p11,p12,p13,p14,p15,rfl,-⟩:=id hm;have HM:=xgv hm;clear hm;go_wp2_with fail
 refine(zNP none 0 0 _ _ _ C Cw i j bW bX z.w z.x 1 1 (-(t*vq)) (1-t*vq) w8 H2.out.mW H2.out.mX H2.out.wx.far HM.out hiC hjC hne hC hCw (A5.out.bl hBm) (by rw[zBp];exact A6.out.bl hBm) (A5.out.ms hBm)).mono ?_;rintro e w9 ⟨⟨uu9,rfl⟩,hO9,hW9,hX9⟩;obtain⟨hk2,hO9'⟩:=H2.out.twWX hO9 hW9 hX9;have hO:=hO.trans hO9';have H3:=xgv hk2;have z6:=z6.blw hO9 (fun hh=>by have:=HZL.out _ (.inr (.inl hh));omega);have z8:=z8.blw hO9 (fun hh=>by have:=HZL.out _ (.inr (.inl hh));omega);have z12:=z12.blw hO9 (fun hh=>by have:=HZL.out _ (.inr (.inl hh));omega);have hszw9:=hO9.bel.size;clear HM H2 hk2 hW9 hX9;obtain⟨k0,k1,k2,k5,k8,k11,k14,-,-,-⟩:=H3.out.blk.fifteen;have lw0:=H3.out.blk.lt;obtain⟨ns6,na6,nl6,nc6,kk6,ii6⟩:=id z6;obtain⟨ns8,na8,nl8,nc8,kk8,ii8⟩:=id z8;obtain⟨ns12,na12,nl12,nc12,kk12,ii12⟩:=id z12;obtain⟨c1,c2,c3,c4⟩:=kk6.two;obtain⟨d1,d2,d3,d4⟩:=kk8.two;obtain⟨f1,f2,f3,f4⟩:=kk12.two;have l6:=kk6.lt;have l8:=kk8.lt;have l12:=kk12.lt;obtain⟨g1,b1,eg1,hg1,hb1,hb12,o1,-⟩:=qC.at_ H3.out.mS (i:=i) (by rw[H3.out.mS.len];exact hiR);obtain⟨g2,b2,eg2,hg2',hb2',hb22,o2,-⟩:=qC.at_ H3.out.mS (i:=j) (by rw[H3.out.mS.len];exact hjR);obtain rfl:gs=g1:=by injection eg1 with eg1;injection eg1
 obtain rfl:gs=g2:=by injection eg2 with eg2;injection eg2
 obtain rfl:bi=b1:=zW (hbi.symm.trans hb1);obtain rfl:bj=b2:=zW (hbj.symm.trans hb2');clear eg1 eg2 hb1 hb2';have hbne:bi≠bj:=by
  intro hh;subst hh;obtain⟨f1,f2⟩:=xge.1 hbi;obtain⟨g1,g2⟩:=xge.1 hbj;exact hne ((yZ (qC.nodup H3.out.mS)).1 (f2.trans g2.symm))
 obtain⟨sn1,sa1,sl1,sc1,q1,q2,q3,q4,-⟩:=qC.cellAt H3.out.mS hbi hiC;obtain⟨sn2,sa2,sl2,sc2,m1,m2,m3,m4,-⟩:=qC.cellAt H3.out.mS hbj hjC;go_upto_region 6 with(fail)
 refine zD3 rfl (RIS w9 (w9.heap.size) _ 43
   [⟨0,106,fun _ v=>v= .pointer (some ⟨wb,0,none⟩)⟩,⟨1,107,fun _ v=>v= .pointer (some ⟨wb,0,none⟩)⟩,⟨2,108,fun _ v=>v= .pointer (some ⟨wb,0,none⟩)⟩,⟨3,109,fun _ v=>v= .pointer (some ⟨wb,0,none⟩)⟩,⟨4,110,fun _ v=>v= .pointer (some ⟨wb,2,none⟩)⟩,⟨5,111,fun _ v=>v= .slice (some ⟨gs,0,none⟩) R sc⟩,⟨6,112,fun _ v=>v= .int .i64 i⟩,⟨7,113,fun _ v=>v= .pointer (some ⟨gs,i,none⟩)⟩,⟨8,114,fun _ v=>v= .slice (some ⟨bi,0,none⟩) C C⟩,⟨9,115,fun _ v=>v= .int .i64 i⟩,⟨10,116,fun _ v=>v= .pointer (some ⟨wb,0,none⟩)⟩,⟨11,117,fun _ v=>v= .pointer (some ⟨wb,0,none⟩)⟩,⟨12,118,fun _ v=>v= .pointer (some ⟨wb,0,none⟩)⟩,⟨13,119,fun _ v=>v= .pointer (some ⟨wb,0,none⟩)⟩,⟨14,120,fun _ v=>v= .pointer (some ⟨wb,2,none⟩)⟩,⟨15,121,fun _ v=>v= .slice (some ⟨gs,0,none⟩) R sc⟩,⟨16,122,fun _ v=>v= .int .i64 j⟩,⟨17,123,fun _ v=>v= .pointer (some ⟨gs,j,none⟩)⟩,⟨18,124,fun _ v=>v= .slice (some ⟨bj,0,none⟩) C C⟩,⟨19,125,fun _ v=>v= .int .i64 j⟩,⟨20,126,fun _ v=>v= .agg #[.bool ns8,.slice na8 nl8 nc8]⟩,⟨21,127,fun _ v=>v= .agg #[.bool ns6,.slice na6 nl6 nc6]⟩,⟨22,128,fun _ v=>v= .agg #[.bool ns12,.slice na12 nl12 nc12]⟩,⟨23,129,fun w v=>jY w v (z.s i i*vq)⟩,⟨24,130,fun _ v=>v= .pointer (some ⟨bi,i*2,none⟩)⟩,⟨26,131,fun _ v=>v= .pointer (some ⟨bj,j*2,none⟩)⟩]
   [] [] 25 27 (fun w=>(w.setCell ⟨bi,i*2,none⟩ (.bool ns8)).setCell ⟨bi,i*2+1,none⟩ (.slice na8 nl8 nc8)) (zWT 129 bj (j*2))) kR (RIS.start RI.start) ?fin6 ?steps6
 case steps6=>
  refine⟨?_,?_,?_,?_,?_,?_,?_,?_,?_,?_,?_,?_,?_,?_,?_,?_,?_,?_,?_,?_,?_,?_,?_,?_,?_,?_,?_,?_,trivial⟩
  ·refine zAF.lift kR kR dE ?_
   intro L T wS hL hd hcl hI K hK;try refine qB rfl ?_
   have zt:T[0]?=some (.pointer (some ⟨wb,0,none⟩)):=hI.keep 0 sI sI;go_simp;exact hK _ _ (hI.y mm0 rfl)
  ·refine zAF.lift kR kR dE ?_
   intro L T wS hL hd hcl hI K hK;try refine qB rfl ?_
   obtain⟨v0,zt0,rfl⟩:=hI.v mm0 (hd 0);go_simp;exact hK _ _ (hI.y mm1 rfl)
  ·refine zAF.lift kR kR dE ?_
   intro L T wS hL hd hcl hI K hK;try refine qB rfl ?_
   obtain⟨v1,zt1,rfl⟩:=hI.v mm1 (hd 1);go_simp;exact hK _ _ (hI.y mm2 rfl)
  ·refine zAF.lift kR kR dE ?_
   intro L T wS hL hd hcl hI K hK;try refine qB rfl ?_
   obtain⟨v2,zt2,rfl⟩:=hI.v mm2 (hd 2);go_simp;exact hK _ _ (hI.y mm3 rfl)
  ·refine zAF.lift kR kR dE ?_
   intro L T wS hL hd hcl hI K hK;try refine qB rfl ?_
   obtain⟨v3,zt3,rfl⟩:=hI.v mm3 (hd 3);go_simp;exact hK _ _ (hI.y mm4 rfl)
  ·refine zAF.lift kR kR dE ?_
   intro L T wS hL hd hcl hI K hK;try refine qB rfl ?_
   obtain⟨v4,zt4,rfl⟩:=hI.v mm4 (hd 4);have cc0:=hI.cell k2 oM aU;go_simp;exact hK _ _ (hI.y mm5 rfl)
  ·refine zAF.lift kR kR dE ?_
   intro L T wS hL hd hcl hI K hK;try refine qB rfl ?_
   have zt:T[1]?=some (.int .i64 i):=hI.keep 1 sI sI;go_simp;exact hK _ _ (hI.y mm6 rfl)
  ·refine zAF.lift kR kR dE ?_
   intro L T wS hL hd hcl hI K hK;try refine qB rfl ?_
   obtain⟨v5,zt5,rfl⟩:=hI.v mm5 (hd 5);obtain⟨v6,zt6,rfl⟩:=hI.v mm6 (hd 6);go_simp;exact hK _ _ (hI.y mm7 rfl)
  ·refine zAF.lift kR kR dE ?_
   intro L T wS hL hd hcl hI K hK;try refine qB rfl ?_
   obtain⟨v7,zt7,rfl⟩:=hI.v mm7 (hd 7);have cc0:=hI.cell o1 oM aU;go_simp;exact hK _ _ (hI.y mm8 rfl)
  ·refine zAF.lift kR kR dE ?_
   intro L T wS hL hd hcl hI K hK;try refine qB rfl ?_
   have zt:T[1]?=some (.int .i64 i):=hI.keep 1 sI sI;go_simp;exact hK _ _ (hI.y mm9 rfl)
  ·refine zAF.lift kR kR dE ?_
   intro L T wS hL hd hcl hI K hK;try refine qB rfl ?_
   have zt:T[0]?=some (.pointer (some ⟨wb,0,none⟩)):=hI.keep 0 sI sI;go_simp;exact hK _ _ (hI.y zLl rfl)
  ·refine zAF.lift kR kR dE ?_
   intro L T wS hL hd hcl hI K hK;try refine qB rfl ?_
   obtain⟨v10,zt10,rfl⟩:=hI.v zLl (hd 10);go_simp;exact hK _ _ (hI.y zKu rfl)
  ·refine zAF.lift kR kR dE ?_
   intro L T wS hL hd hcl hI K hK;try refine qB rfl ?_
   obtain⟨v11,zt11,rfl⟩:=hI.v zKu (hd 11);go_simp;exact hK _ _ (hI.y zL8 rfl)
  ·refine zAF.lift kR kR dE ?_
   intro L T wS hL hd hcl hI K hK;try refine qB rfl ?_
   obtain⟨v12,zt12,rfl⟩:=hI.v zL8 (hd 12);go_simp;exact hK _ _ (hI.y zOL rfl)
  ·refine zAF.lift kR kR dE ?_
   intro L T wS hL hd hcl hI K hK;try refine qB rfl ?_
   obtain⟨v13,zt13,rfl⟩:=hI.v zOL (hd 13);go_simp;exact hK _ _ (hI.y zOM rfl)
  ·refine zAF.lift kR kR dE ?_
   intro L T wS hL hd hcl hI K hK;try refine qB rfl ?_
   obtain⟨v14,zt14,rfl⟩:=hI.v zOM (hd 14);have cc0:=hI.cell k2 oM aU;go_simp;exact hK _ _ (hI.y zNZ rfl)
  ·refine zAF.lift kR kR dE ?_
   intro L T wS hL hd hcl hI K hK;try refine qB rfl ?_
   have zt:T[2]?=some (.int .i64 j):=hI.keep 2 sI sI;go_simp;exact hK _ _ (hI.y zQg rfl)
  ·refine zAF.lift kR kR dE ?_
   intro L T wS hL hd hcl hI K hK;try refine qB rfl ?_
   obtain⟨v15,zt15,rfl⟩:=hI.v zNZ (hd 15);obtain⟨v16,zt16,rfl⟩:=hI.v zQg (hd 16);go_simp;exact hK _ _ (hI.y zQh rfl)
  ·refine zAF.lift kR kR dE ?_
   intro L T wS hL hd hcl hI K hK;try refine qB rfl ?_
   obtain⟨v17,zt17,rfl⟩:=hI.v zQh (hd 17);have cc0:=hI.cell o2 oM aU;go_simp;exact hK _ _ (hI.y zQi rfl)
  ·intro L T wS hL hd hcl hI K hK
   try refine qB rfl ?_
   have zt:T[2]?=some (.int .i64 j):=hI.keep sI sI;go_simp;exact hK _ _ (hI.value hcl kR hL dE ⟨19,125,_⟩ zQj rfl (fun _=>rfl))
  ·refine zAF.lift kR kR dE ?_
   intro L T wS hL hd hcl hI K hK;try refine qB rfl ?_
   have zt:T[8]?=some (.pointer (some ⟨w2.heap.size,0,none⟩)):=hI.keep 8 sI sI;have cc0:=hI.cell d1 oM aU;have cc1:=hI.cell d2 oM aU;go_simp;exact hK _ _ (hI.y zQk rfl)
  ·refine zAF.lift kR kR dE ?_
   intro L T wS hL hd hcl hI K hK;try refine qB rfl ?_
   have zt:T[6]?=some (.pointer (some ⟨ca24,0,none⟩)):=hI.keep 6 sI sI;have cc0:=hI.cell c1 oM aU;have cc1:=hI.cell c2 oM aU;go_simp;exact hK _ _ (hI.y zQl rfl)
  ·refine zAF.lift kR kR dE ?_
   intro L T wS hL hd hcl hI K hK;try refine qB rfl ?_
   have zt:T[12]?=some (.pointer (some ⟨cb7,0,none⟩)):=hI.keep 12 sI sI;have cc0:=hI.cell f1 oM aU;have cc1:=hI.cell f2 oM aU;go_simp;exact hK _ _ (hI.y zQm rfl)
  ·refine zAF.lift kR kR dE ?_
   intro L T wS hL hd hcl hI K hK;try refine qB rfl ?_
   obtain⟨v21,zt21,rfl⟩:=hI.v zQl (hd 21);obtain⟨v22,zt22,rfl⟩:=hI.v zQm (hd 22);go_simp;refine(zEE _ _ (z.s i i) vq _ (ii6.ext hI.lext).weak (ii12.ext hI.lext).weak SX.out.sm (A4.out.ms hBm).2.1).mono ?_;rintro e wa ⟨v,rfl,hv,hba⟩;exact hK _ _ ((hI.world hba).y zQn hv)
  ·refine zAF.lift kR kR dE ?_
   intro L T wS hL hd hcl hI K hK;try refine qB rfl ?_
   obtain⟨v8,zt8,rfl⟩:=hI.v mm8 (hd 8);obtain⟨v9,zt9,rfl⟩:=hI.v mm9 (hd 9);go_simp;exact hK _ _ (hI.y zQo rfl)
  ·intro L T wS hL hd hcl hI K hK
   try refine qB rfl ?_
   obtain⟨hI0,hIS⟩:=hI.first hcl kR hL dE sI sI sI
   obtain⟨_,zt24,rfl⟩:=hI0.v zQo (hd 24);obtain⟨_,zt20,rfl⟩:=hI0.v zQk (hd 20);have hh:=hI0.old bi oM sI;have cc1:=(zHV hh).trans q1;have cc2:=(zHV hh).trans q2;have cc3:=(zFU hh).trans q3;have cc4:=(zFU hh).trans q4;clear hh;go_simp;exact hK _ _ hIS
  ·intro L T wS hL hd hcl hI K hK
   try refine qB rfl ?_
   obtain⟨v18,zt18,hz18⟩:=hI.val zQi (hd 18) (fun _ _ _ h=>h);replace hz18:v18= .slice (some ⟨bj,0,none⟩) C C:=hz18 wS;subst hz18;obtain⟨v19,zt19,hz19⟩:=hI.val zQj (hd 19) (fun _ _ _ h=>h);replace hz19:v19= .int .i64 j:=hz19 wS;subst hz19;go_simp;exact hK _ _ (hI.value hcl kR hL dE ⟨26,131,_⟩ zRX rfl (fun _=>rfl))
  intro L T wS hL hd hcl hI K hK;try refine qB rfl ?_
  obtain⟨w0,rfl,hI0,hIS⟩:=hI.second (hd 25) hL sI sI sI;obtain⟨_,zt26,rfl⟩:=hI0.v zRX (hd 26);obtain⟨v23,zt23,h23⟩:=hI0.v zQn (hd 23);obtain⟨vneg,vao,vlen,vcap,vls,rfl,hv'⟩:=id h23;have hh:((w0.setCell ⟨bi,i*2,none⟩ (.bool ns8)).setCell ⟨bi,i*2+1,none⟩ (.slice na8 nl8 nc8)).heap[bj]?=w9.heap[bj]?:=(yO _ _ _ _ _ _ _ (qD hbne)).trans (hI0.old bj oM sI);have cc1:=(zHV hh).trans m1;have cc2:=(zHV hh).trans m2;have cc3:=(zFU hh).trans m3;have cc4:=(zFU hh).trans m4;clear hh;obtain⟨e1,e2⟩:=zP6 zt23;simp only[zWT,e1,e2]at hIS;go_simp;exact hK _ _ hIS
 intro T wf6 hIS;obtain⟨w10,hI,hwfg⟩:=hIS.fin dE;obtain⟨vg0,q0,rfl⟩:=hI.v mm0 rfl;obtain⟨vg1,q1,rfl⟩:=hI.v mm1 rfl;obtain⟨vg2,q2,rfl⟩:=hI.v mm2 rfl;obtain⟨vg3,q3,rfl⟩:=hI.v mm3 rfl;obtain⟨vg4,q4,rfl⟩:=hI.v mm4 rfl;obtain⟨vg5,q5,rfl⟩:=hI.v mm5 rfl;obtain⟨vg6,q6,rfl⟩:=hI.v mm6 rfl;obtain⟨vg7,q7,rfl⟩:=hI.v mm7 rfl;obtain⟨vg8,q8,rfl⟩:=hI.v mm8 rfl;obtain⟨vg9,q9,rfl⟩:=hI.v mm9 rfl;obtain⟨vg10,q10,rfl⟩:=hI.v zLl rfl;obtain⟨vg11,q11,rfl⟩:=hI.v zKu rfl;obtain⟨vg12,q12,rfl⟩:=hI.v zL8 rfl;obtain⟨vg13,q13,rfl⟩:=hI.v zOL rfl;obtain⟨vg14,q14,rfl⟩:=hI.v zOM rfl;obtain⟨vg15,q15,rfl⟩:=hI.v zNZ rfl;obtain⟨vg16,q16,rfl⟩:=hI.v zQg rfl;obtain⟨vg17,q17,rfl⟩:=hI.v zQh rfl;obtain⟨vg18,q18,rfl⟩:=hI.v zQi rfl;obtain⟨vg19,q19,rfl⟩:=hI.v zQj rfl;obtain⟨vg20,q20,rfl⟩:=hI.v zQk rfl;obtain⟨vg21,q21,rfl⟩:=hI.v zQl rfl;obtain⟨vg22,q22,rfl⟩:=hI.v zQm rfl;obtain⟨vg23,q23,hg23⟩:=hI.v zQn rfl;replace hg23:jY w10 vg23 (z.s i i*vq):=hg23;obtain⟨vg24,q24,rfl⟩:=hI.v zQo rfl;obtain⟨vg26,q26,rfl⟩:=hI.v zRX rfl;have hT:=zGh [(106,.pointer (some ⟨wb,0,none⟩)),(107,.pointer (some ⟨wb,0,none⟩)),(108,.pointer (some ⟨wb,0,none⟩)),(109,.pointer (some ⟨wb,0,none⟩)),(110,.pointer (some ⟨wb,2,none⟩)),(111,.slice (some ⟨gs,0,none⟩) R sc),(112,.int .i64 i),(113,.pointer (some ⟨gs,i,none⟩)),(114,.slice (some ⟨bi,0,none⟩) C C),(115,.int .i64 i),(116,.pointer (some ⟨wb,0,none⟩)),(117,.pointer (some ⟨wb,0,none⟩)),(118,.pointer (some ⟨wb,0,none⟩)),(119,.pointer (some ⟨wb,0,none⟩)),(120,.pointer (some ⟨wb,2,none⟩)),(121,.slice (some ⟨gs,0,none⟩) R sc),(122,.int .i64 j),(123,.pointer (some ⟨gs,j,none⟩)),(124,.slice (some ⟨bj,0,none⟩) C C),(125,.int .i64 j),(126,.agg #[.bool ns8,.slice na8 nl8 nc8]),(127,.agg #[.bool ns6,.slice na6 nl6 nc6]),(128,.agg #[.bool ns12,.slice na12 nl12 nc12]),(129,vg23),(130,.pointer (some ⟨bi,i*2,none⟩)),(131,.pointer (some ⟨bj,j*2,none⟩))]
  (fun j hj=>hI.keep j (by simp only[xgm]at hj ⊢;simp[hj]) (by simp only[xgm]at hj ⊢;simp[hj]))
  (by simp only[xgm];simp[q0,q1,q2,q3,q4,q5,q6,q7,q8,q9,q10,q11,q12,q13,q14,q15,q16,q17,q18,q19,q20,q21,q22,q23,q24,q26]) hI.size
 have hlw10:=hI.lext;have hbw10:=hI.bel (w9.heap.size) oM aU;have holdw10:=hI.old;clear hI;simp only[List.foldl_cons,List.foldl_nil,xgh,xgi,xgj,ptr]at hT;subst hT;clear q0 q1 q2 q3 q4 q5 q6 q7 q8 q9 q10 q11 q12 q13 q14 q15 q16 q17 q18 q19 q20 q21 q22 q23 q24 q26;have hO:=hO.trans (qJ.of _ hbw10);have H3:=xgv (H3.out.below hbw10);have iG:=ii8.ext (lx hbw10);clear k0 k1 k2 k5 k8 k11 k14 c1 c2 c3 c4 d1 d2 d3 d4 f1 f2 f3 f4 o1 o2 kk6 kk8 kk12 ii6 ii8 ii12 l6 l8 l12 z6 z8 z12;clear q1 q2 q3 q4 m1 m2 m3 m4;obtain⟨qn,qa,ql,qc,qx,rfl,hqx⟩:=id hg23;have hwf:wf6=(((w10.setCell ⟨bi,i*2,none⟩ (.bool ns8)).setCell ⟨bi,i*2+1,none⟩ (.slice na8 nl8 nc8)).setCell ⟨bj,j*2,none⟩ (.bool qn)).setCell ⟨bj,j*2+1,none⟩ (.slice qa ql qc):=hwfg;subst hwf;clear hwfg;have HQX:=xgw hqx;clear hqx;have hset1:=qC.set H3.out.mS hbi hiC iG;have hset2:=hset1.1.set hbj hjC (hg23.ext hset1.2.1);have HSET:=xgv hset2;have HX1:=xgv hset1.2.1;clear hset1 hset2;go_wp2;have hS:=HSET.out.1;rw[zTn hiR hjR hiC hjC HG.out (by rw[<-HG.out,<-HV.out])]at hS;have hxx:=HX1.out.trans HSET.out.2.1;have hn1:∀b,b≠bi->b≠bj->((((w10.setCell ⟨bi,i*2,none⟩ (.bool ns8)).setCell ⟨bi,i*2+1,none⟩ (.slice na8 nl8 nc8)).setCell ⟨bj,j*2,none⟩ (.bool qn)).setCell ⟨bj,j*2+1,none⟩ (.slice qa ql qc)).heap[b]?=w10.heap[b]?:=fun b h1 h2=>(yO _ _ _ _ _ _ _ h2).trans (yO _ _ _ _ _ _ _ h1)
 have hmi:=xgd hbi;have hmj:=xgd hbj;have hO10:qJ (fun b=>b=bi∨b=bj) w10 _:=⟨yJ (yJ (yJ (yJ (zA _ _) (zE _) _ _) (zE _) _ _) (zE _) _ _) (zE _) _ _,hxx,fun b _ hb=>hn1 b (fun h=>hb (.inl h)) (fun h=>hb (.inr h))⟩;have h3:=H3.out;refine bodyPost_end (results_none rfl _ _ _) rfl ⟨⟨_,rfl⟩,hO.trans (hO10.mono ?_),s,t,HBZ.out,?_⟩
 ·rintro b-(rfl|rfl)
  ·exact h3.zb _ (.inl (.inl hmi))
  exact h3.zb _ (.inl (.inl hmj))
 rw[zWu HG.out HU.out HV.out];refine⟨hO10.blk h3.blk ?_,h3.wbb,hS,h3.mU.keepZ hO10 ?_,h3.mV.keepZ hO10 ?_,h3.mW.keepZ hO10 ?_,h3.mX.keepZ hO10 ?_,h3.zb,h3.su,h3.sv,h3.sw,h3.sx,h3.uv,h3.uw,h3.ux,h3.vw,h3.vx,h3.wx⟩
 ·rintro(rfl|rfl)
  ·exact h3.mS.nwb h3.blk (.inl hmi)
  exact h3.mS.nwb h3.blk (.inl hmj)
 ·rintro b hb (rfl|rfl)
  ·exact h3.su _ (.inl hmi) hb
  exact h3.su _ (.inl hmj) hb
 ·rintro b hb (rfl|rfl)
  ·exact h3.sv _ (.inl hmi) hb
  exact h3.sv _ (.inl hmj) hb
 ·rintro b hb (rfl|rfl)
  ·exact h3.sw _ (.inl hmi) hb
  exact h3.sw _ (.inl hmj) hb
 rintro b hb (rfl|rfl);exact h3.sx _ (.inl hmi) hb;exact h3.sx _ (.inl hmj) hb
def okW(B R C Cu Cw:Nat)(z:W5):Prop:=okF B R C z.s/\okF B R Cu z.u/\okF B R Cu z.v/\okF B C Cw z.w/\okF B C Cw z.x
theorem qC.fresh{M:List (List Int)}(h:qC w base A C bs M)(hb:Zn A bs b):base<=b:=by
 rcases hb with hb|hb
 ·obtain⟨k,hk,e⟩:=qW hb
  exact(h.row k b (M[k]'(by rw[h.len];exact hk)) (by rw[xga hk,e]) (xga _)).1
 rcases h.own.2 with⟨rfl,-⟩|⟨g,cap,cur,rfl,h2,-⟩
 cases hb;simp only[Value.ownBlock,Option.some.injEq]at hb;omega
section
variable {w w':World} {base wb RS CS R C Cu Cw:Nat} {AS AU AV AW AX:Value} {bS bU bV bW bX:List Nat} {z:W5}
theorem zCd.band1(h:zCd w base wb R C R C Cu Cw AS AU AV AW AX bS bU bV bW bX z):zCF (fun b=>Zn AS bS b∨Zn AU bU b∨Zn AV bV b) w AS AU AV R C Cu ⟨z.s,z.u,z.v⟩:=
 ⟨⟨bS,bU,bV,⟨h.mS,h.mU,h.mV,h.su.far,h.sv.far,h.uv.far,h.su.own,h.sv.own,h.uv.own⟩,fun b hb=>by
  rcases hb with hb|hb|hb
  exact .inl (.inl hb);exact .inr (.inl (.inl hb));exact .inr (.inr (.inl hb))⟩,fun g hg=>by
  rcases hg with hg|hg|hg
  exact .inl (.inr hg);exact .inr (.inl (.inr hg));exact .inr (.inr (.inr hg))⟩
theorem zCd.zlt1(h:zCd w base wb RS CS R C Cu Cw AS AU AV AW AX bS bU bV bW bX z):∀b,(Zn AS bS b∨Zn AU bU b∨Zn AV bV b)->b<w.heap.size:=by
 rintro b (hb|hb|hb);exact h.mS.zlt hb;exact h.mU.zlt hb;exact h.mV.zlt hb
theorem zCd.after1(h:zCd w base wb R C R C Cu Cw AS AU AV AW AX bS bU bV bW bX z){x:Bst}(ho:qJ (fun b=>Zn AS bS b∨Zn AU bU b∨Zn AV bV b) w w')(hz:zCF (fun b=>Zn AS bS b∨Zn AU bU b∨Zn AV bV b) w' AS AU AV R C Cu x):
  (∃bS' bU' bV',zCd w' base wb R C R C Cu Cw AS AU AV AW AX bS' bU' bV' bW bX ⟨x.s,x.t,x.i,z.w,z.x⟩)/\qJ (fun b=>base<=b) w w':=by
 obtain⟨⟨bS',bU',bV',⟨h1,h2,h3,h4,h5,h6,h7,h8,h9⟩,hzz⟩,hown⟩:=hz;have zS:∀b,Zn AS bS' b->Zn AS bS b∨Zn AU bU b∨Zn AV bV b:=fun b hb=>hb.elim (fun hh=>hzz b (.inl hh)) (fun hh=>hown b (.inl hh))
 have zU:∀b,Zn AU bU' b->Zn AS bS b∨Zn AU bU b∨Zn AV bV b:=fun b hb=>hb.elim (fun hh=>hzz b (.inr (.inl hh))) (fun hh=>hown b (.inr (.inl hh)))
 have zV:∀b,Zn AV bV' b->Zn AS bS b∨Zn AU bU b∨Zn AV bV b:=fun b hb=>hb.elim (fun hh=>hzz b (.inr (.inr hh))) (fun hh=>hown b (.inr (.inr hh)))
 have nW:∀b,(Zn AS bS b∨Zn AU bU b∨Zn AV bV b)->¬ Zn AW bW b:=by
  rintro b (hb|hb|hb) hw;exact h.sw b hb hw;exact h.uw b hb hw;exact h.vw b hb hw
 have nX:∀b,(Zn AS bS b∨Zn AU bU b∨Zn AV bV b)->¬ Zn AX bX b:=by
  rintro b (hb|hb|hb) hw;exact h.sx b hb hw;exact h.ux b hb hw;exact h.vx b hb hw
 have hzb:∀b,(Zn AS bS b∨Zn AU bU b∨Zn AV bV b)->base<=b:=by
  rintro b (hb|hb|hb);exact h.zb b (.inl hb);exact h.zb b (.inr (.inl hb));exact h.zb b (.inr (.inr (.inl hb)))
 refine⟨⟨bS',bU',bV',⟨ho.blk h.blk ?_,h.wbb,h1,h2,h3,h.mW.keepZ ho (fun b hb hz=>nW b hz hb),h.mX.keepZ ho (fun b hb hz=>nX b hz hb),?_,Ap.of h1 h2 h4 h7,Ap.of h1 h3 h5 h8,fun b hb=>nW b (zS b hb),fun b hb=>nX b (zS b hb),Ap.of h2 h3 h6 h9,
  fun b hb=>nW b (zU b hb),fun b hb=>nX b (zU b hb),fun b hb=>nW b (zV b hb),fun b hb=>nX b (zV b hb),h.wx⟩⟩,ho.mono (fun b _ hb=>hzb b hb)⟩
 ·rintro(hh|hh|hh)
  ·exact h.mS.nwb h.blk hh
  exact h.mU.nwb h.blk hh;exact h.mV.nwb h.blk hh
 rintro b (hb|hb|hb|hb|hb);exact hzb b (zS b hb);exact hzb b (zU b hb);exact hzb b (zV b hb);exact h.zb b (.inr (.inr (.inr (.inl hb))));exact h.zb b (.inr (.inr (.inr (.inr hb))))
theorem zCd.band2(h:zCd w base wb C R R C Cu Cw AS AU AV AW AX bS bU bV bW bX z):zCF (fun b=>Zn AS bS b∨Zn AW bW b∨Zn AX bX b) w AS AW AX C R Cw ⟨z.s,z.w,z.x⟩:=
 ⟨⟨bS,bW,bX,⟨h.mS,h.mW,h.mX,h.sw.far,h.sx.far,h.wx.far,h.sw.own,h.sx.own,h.wx.own⟩,fun b hb=>by
  rcases hb with hb|hb|hb
  exact .inl (.inl hb);exact .inr (.inl (.inl hb));exact .inr (.inr (.inl hb))⟩,fun g hg=>by
  rcases hg with hg|hg|hg
  exact .inl (.inr hg);exact .inr (.inl (.inr hg));exact .inr (.inr (.inr hg))⟩
theorem zCd.zlt2(h:zCd w base wb RS CS R C Cu Cw AS AU AV AW AX bS bU bV bW bX z):∀b,(Zn AS bS b∨Zn AW bW b∨Zn AX bX b)->b<w.heap.size:=by
 rintro b (hb|hb|hb);exact h.mS.zlt hb;exact h.mW.zlt hb;exact h.mX.zlt hb
theorem zCd.after2(h:zCd w base wb C R R C Cu Cw AS AU AV AW AX bS bU bV bW bX z){x:Bst}(ho:qJ (fun b=>Zn AS bS b∨Zn AW bW b∨Zn AX bX b) w w')(hz:zCF (fun b=>Zn AS bS b∨Zn AW bW b∨Zn AX bX b) w' AS AW AX C R Cw x):
  (∃bS' bW' bX',zCd w' base wb C R R C Cu Cw AS AU AV AW AX bS' bU bV bW' bX' ⟨x.s,z.u,z.v,x.t,x.i⟩)/\qJ (fun b=>base<=b) w w':=by
 obtain⟨⟨bS',bU',bV',⟨h1,h2,h3,h4,h5,h6,h7,h8,h9⟩,hzz⟩,hown⟩:=hz;have zS:∀b,Zn AS bS' b->Zn AS bS b∨Zn AW bW b∨Zn AX bX b:=fun b hb=>hb.elim (fun hh=>hzz b (.inl hh)) (fun hh=>hown b (.inl hh))
 have zU:∀b,Zn AW bU' b->Zn AS bS b∨Zn AW bW b∨Zn AX bX b:=fun b hb=>hb.elim (fun hh=>hzz b (.inr (.inl hh))) (fun hh=>hown b (.inr (.inl hh)))
 have zV:∀b,Zn AX bV' b->Zn AS bS b∨Zn AW bW b∨Zn AX bX b:=fun b hb=>hb.elim (fun hh=>hzz b (.inr (.inr hh))) (fun hh=>hown b (.inr (.inr hh)))
 have nW:∀b,(Zn AS bS b∨Zn AW bW b∨Zn AX bX b)->¬ Zn AU bU b:=by
  rintro b (hb|hb|hb) hw;exact h.su b hb hw;exact h.uw b hw hb;exact h.ux b hw hb
 have nX:∀b,(Zn AS bS b∨Zn AW bW b∨Zn AX bX b)->¬ Zn AV bV b:=by
  rintro b (hb|hb|hb) hw;exact h.sv b hb hw;exact h.vw b hw hb;exact h.vx b hw hb
 have hzb:∀b,(Zn AS bS b∨Zn AW bW b∨Zn AX bX b)->base<=b:=by
  rintro b (hb|hb|hb);exact h.zb b (.inl hb);exact h.zb b (.inr (.inr (.inr (.inl hb))));exact h.zb b (.inr (.inr (.inr (.inr hb))))
 refine⟨⟨bS',bU',bV',⟨ho.blk h.blk ?_,h.wbb,h1,h.mU.keepZ ho (fun b hb hz=>nW b hz hb),h.mV.keepZ ho (fun b hb hz=>nX b hz hb),h2,h3,?_,fun b hb=>nW b (zS b hb),fun b hb=>nX b (zS b hb),Ap.of h1 h2 h4 h7,Ap.of h1 h3 h5 h8,h.uv,
  fun b hb hu=>nW b (zU b hu) hb,fun b hb hu=>nW b (zV b hu) hb,fun b hb hu=>nX b (zU b hu) hb,fun b hb hu=>nX b (zV b hu) hb,Ap.of h2 h3 h6 h9⟩⟩,ho.mono (fun b _ hb=>hzb b hb)⟩
 ·rintro(hh|hh|hh)
  ·exact h.mS.nwb h.blk hh
  exact h.mW.nwb h.blk hh;exact h.mX.nwb h.blk hh
 rintro b (hb|hb|hb|hb|hb);exact hzb b (zS b hb);exact h.zb b (.inr (.inl hb));exact h.zb b (.inr (.inr (.inl hb)));exact hzb b (zU b hb);exact hzb b (zV b hb)
theorem zCd.setS(h:zCd w base wb RS CS R C Cu Cw AS AU AV AW AX bS bU bV bW bX z){RS' CS':Nat}{AS':Value}{bS':List Nat}(hs:Wri w AS' RS' CS' bS' F)(hf:∀b,Zn AS' bS' b->n<=b)(hn:∀b,Zn AU bU b∨Zn AV bV b∨Zn AW bW b∨Zn AX bX b->b<n)(hbn:base<=n):
  zCd (((w.setCell ⟨wb,0,none⟩ (.int .i64 RS')).setCell ⟨wb,1,none⟩ (.int .i64 CS')).setCell ⟨wb,2,none⟩ AS') base wb RS' CS' R C Cu Cw AS' AU AV AW AX bS' bU bV bW bX ⟨F,z.u,z.v,z.w,z.x⟩∧
   qJ (fun b=>base<=b) w (((w.setCell ⟨wb,0,none⟩ (.int .i64 RS')).setCell ⟨wb,1,none⟩ (.int .i64 CS')).setCell ⟨wb,2,none⟩ AS'):=by
 have hx:zBw w (((w.setCell ⟨wb,0,none⟩ (.int .i64 RS')).setCell ⟨wb,1,none⟩ (.int .i64 CS')).setCell ⟨wb,2,none⟩ AS'):=h.blk.lext3 dE _ _ _;have ho:qJ (fun b=>b=wb) w (((w.setCell ⟨wb,0,none⟩ (.int .i64 RS')).setCell ⟨wb,1,none⟩ (.int .i64 CS')).setCell ⟨wb,2,none⟩ AS'):=
  ⟨yJ (yJ (yJ (zA _ _) (zE _) _ _) (zE _) _ _) (zE _) _ _,hx,fun b _ hb=>zAf _ _ _ _ _ _ hb⟩
 have hb3:=((h.blk.set_ 0 (.int .i64 RS')).set_ 1 (.int .i64 CS')).set_ 2 AS';have far:∀{A:Value} {bs:List Nat},(∀b,Zn A bs b->b<n)->Ap AS' bS' A bs:=fun hlt b h1 h2=>by
  have:=hf b h1;have:=hlt b h2;omega
 refine⟨⟨by simpa using hb3,h.wbb,hs.keepZ ho ?_,h.mU.keepZ ho ?_,h.mV.keepZ ho ?_,h.mW.keepZ ho ?_,h.mX.keepZ ho ?_,?_,far (fun b hb=>hn b (.inl hb)),far (fun b hb=>hn b (.inr (.inl hb))),far (fun b hb=>hn b (.inr (.inr (.inl hb)))),far (fun b hb=>hn b (.inr (.inr (.inr hb)))),h.uv,h.uw,h.ux,h.vw,h.vx,h.wx⟩,ho.mono ?_⟩;rintro b hb rfl;exact hs.nwb h.blk hb;rintro b hb rfl;exact h.mU.nwb h.blk hb;rintro b hb rfl;exact h.mV.nwb h.blk hb;rintro b hb rfl;exact h.mW.nwb h.blk hb;rintro b hb rfl;exact h.mX.nwb h.blk hb
 ·rintro b (hb|hb)
  ·exact zB hbn (hf b hb)
  exact h.zb b (.inr hb)
 rintro b-rfl;exact h.wbb
theorem zCd.zltR(h:zCd w base wb RS CS R C Cu Cw AS AU AV AW AX bS bU bV bW bX z):∀b,Zn AU bU b∨Zn AV bV b∨Zn AW bW b∨Zn AX bX b->b<w.heap.size:=by
 rintro b (hb|hb|hb|hb);exact h.mU.zlt hb;exact h.mV.zlt hb;exact h.mW.zlt hb;exact h.mX.zlt hb
end
theorem Wri.shape(h:Wri w A R C bs F):∃o c,A= .slice o R c:=by
 obtain⟨so,sn,sc,rfl,s1,-⟩:=id (qC.rows h);obtain rfl:R=sn:=by rw[<-s1];simp[genM]
 exact⟨_,_,rfl⟩
theorem zLE(hB:BSm B)(h:Wri w A R C bs F)(hok:okF B R C F)(hR:R<=1000000)(hC:C<=1000000):
  CPq 151 #[.agg #[niq R,niq C,A]] w fun e w'=>∃o c bs',e= .returned (.agg #[niq C,niq R,.slice o C c])/\Wri w' (.slice o C c) C R bs' (trF F)/\(∀b,Zn (.slice o C c) bs' b->w.heap.size<=b)/\BWq w w':=by
 refine(zGy _ R C (genM R C F) w h.mat (yW R C F) hR hC ?_).mono ?_
 ·intro r hr z hz
  unfold genM at hr;obtain⟨i,hi,rfl⟩:=List.mem_map.1 hr;obtain⟨j,hj,rfl⟩:=List.mem_map.1 hz;exact hB.sm _ (hok i (yL.1 hi) j (yL.1 hj))
 rintro e w' ⟨v,bs',rfl,⟨hl,A',rfl,ho⟩,hb⟩;have hq:genM C R (fun a b=>ent (genM R C F) b a)=genM C R (trF F):=zAG fun a ha b hb=>yR hb ha
 rw[hq]at ho;obtain⟨o,c,rfl⟩:=Wri.shape (h:=(ho.mono (zE _):Wri w' A' C R bs' (trF F)));exact⟨o,c,bs',rfl,ho.mono (zE _),fun b hb=>ho.fresh hb,hb⟩
abbrev tHW:TypeId:=125
def zFN(w:World)(A:Value)(n:Nat):Prop:=∃g cap cs,A=slq g n cap/\n<=cap/\cap<=9223372036854775807/\Blk w g tR cs/\∀i,i<n->cs[i]?=some (.slice none 0 0)
theorem zFN.below(h:zFN w A n)(hb:BWq w w'):zFN w' A n:=by
 obtain⟨g,cap,cs,h1,h2,h3,h4,h5⟩:=h;exact⟨g,cap,cs,h1,h2,h3,h4.below hb,h5⟩
theorem zMO(hb:Blk w g t cs)(hr:jJ w b r)(ht:¬ t=tI):g≠b:=by
 rintro rfl;obtain⟨cs',h1,-⟩:=hr;exact ht (congrArg (fun o:Option Obj=>match o with|some (Obj.cells _ t _)=>t|_=>0) (hb.symm.trans h1))
theorem Blk.row(hb:Blk w g t cs)(ho:zB0 [b] w w')(hr:jJ w b r)(ht:¬ t=tI):Blk w' g t cs:=
 (ho.old g hb.lt (by simpa using zMO hb hr ht)).trans hb
theorem Blk.row2(hb:Blk w g t cs)(ho:zB0 [b,c] w w')(hr:jJ w b r)(hq:jJ w c q)(ht:¬ t=tI):Blk w' g t cs:=
 (ho.old g hb.lt (by simp;exact⟨zMO hb hr ht,zMO hb hq ht⟩)).trans hb
theorem zFN.row(h:zFN w A n)(ho:zB0 [b] w w')(hr:jJ w b r):zFN w' A n:=by
 obtain⟨g,cap,cs,h1,h2,h3,h4,h5⟩:=h;exact⟨g,cap,cs,h1,h2,h3,h4.row ho hr dE,h5⟩
theorem zFN.row2(h:zFN w A n)(ho:zB0 [b,c] w w')(hr:jJ w b r)(hq:jJ w c q):zFN w' A n:=by
 obtain⟨g,cap,cs,h1,h2,h3,h4,h5⟩:=h;exact⟨g,cap,cs,h1,h2,h3,h4.row2 ho hr hq dE,h5⟩
theorem zFN.at_(h:zFN w A n)(hi:i<n):∃g cap,A=slq g n cap/\w.cell? ⟨g,i,none⟩=some (.slice none 0 0):=by
 obtain⟨g,cap,cs,h1,h2,h3,h4,h5⟩:=h;exact⟨g,cap,h1,(cell_of_row w g i cs tR _ h4).trans (h5 i hi)⟩
theorem zMH(kv:Value)(k:Int)(w:World)(hk:jY w kv k):
  CPq 163 #[.slice none 0 0,.slice none 0 0,kv] w fun e w'=>(∃u,e= .returned u)/\BWq w w':=by
 obtain⟨kn,ka,kl,kc,kx,rfl,-⟩:=id hk;go_enter Tryz.func163,Tryz.ntmps163;go_upto_region 1 with(fail)
 refine zD ?_;intro W0 hW0;obtain⟨hB0,bk,hs0⟩:=qL hW0;clear hW0;go_wp2;go_loopw [10] (fun iv wr=>iv=niq 0/\wr=W0) (fun _ _=>0)
 case atStart=>exact⟨rfl,rfl⟩
 obtain⟨rfl,rfl⟩:=hrel;go_wp2;exact bodyPost_end (results_none rfl _ _ _) rfl ⟨⟨_,rfl⟩,hB0⟩
theorem zEt(v:Value)(zs:List Int)(w:World)(h:zAv w v zs):
  CPq 149 #[v] w fun e w'=>e= .returned (niq (zCL 0 zs))/\BWq w w':=by
 obtain⟨ao,n,cap,rfl,h2,h3,h4,h5⟩:=id h;have HL:=xgw h2;clear h2 h5;go_enter Tryz.func149,Tryz.ntmps149;go_wp2;refine zG7 (fun a' wt=>a'={tmps:=#[.slice ao n cap,undef,niq 0,niq (-1),undef,undef,undef,undef,undef,undef,undef,undef,undef,undef,undef,undef,undef,undef,undef,undef],defers:=[]}/\wt=w) (fun _ _=>0) rfl ?_ ?_
 ·go_wp2
 rintro a' wr ⟨rfl,hwr⟩;have hwr:=hwr.symm;subst hwr;go_wp2;go_loopw [3,8] (fun u i wr=>∃k:Nat,k<=n/\u=niq (-1)/\i=niq k/\BWq w wr/\Hid (zCL 0 zs=zCL k (zs.drop k))) (fun _ i _=>n-(intOf i).toNat)
 case atStart=>exact⟨0,oM,rfl,rfl,zA _ _,by rw[xgk];exact xgw rfl⟩
 obtain⟨k,hk,rfl,rfl,hb,hgo⟩:=hrel;by_cases hlt:k<n
 ·obtain⟨b,z,s,a,l,c,rfl,hbl,hz,c1,c2,hv⟩:=(h.below hb).cell (k:=k) (by rw[HL.out];exact hlt)
  have HZ:=xgw hz;clear hz;go_upto_region 5 with(fail)
  refine zD ?_;intro W6 hW6;obtain⟨hB6,T6,hs6⟩:=qL hW6;have d1:=T6.two;clear c1 c2 hW6;go_wp2_with fail
  refine(zAi _ z W6 (hv.ext (lx hB6)).weak).mono ?_;rintro e w7 ⟨rfl,hb7⟩;have hb9:=nx (nx hb hB6) hb7;by_cases hz0:z=0
  ·rw[zBd hz0]
   go_wp2;go_roundw
   case rel=>
    refine⟨k+1,oM,rfl,by simp,hb9,xgw ?_⟩;rw[hgo.out,zDe HZ.out];conv=>lhs;unfold zCL
    rw[if_neg (by simp[hz0])]
   case measure=>exact meq
  have hc:=zCr hz0;obtain⟨k0,hk0⟩:∃k0,zAt z 0=k0:=⟨_,rfl⟩;rw[hk0]at hc ⊢
  have hc2:(k0==0)=false:=by simpa using hc
  go_wp2;rw[Exit.jump_ret];go_ret;refine⟨?_,hb9⟩;rw[hgo.out,zDe HZ.out];conv=>rhs;unfold zCL
  rw[if_pos hz0];rfl
 obtain rfl:k=n:=oM;go_wp2;rw[Exit.jump_ret];go_ret;refine⟨?_,hb⟩;rw[hgo.out,qP (zA3 HL.out)];rfl
theorem lx0(h:BWq w W):zBw w W:=lx h
theorem zVz(bw:Nat)(Ah Au Av:Value)(n Cs Ct i j:Nat)(bss bst bsi:List Nat)(S T I:Nat->Nat->Int)(kv:Value)(k:Int)(w:World)(hbw:Blk w bw tHW #[Ah,Au,Av])(h:zFo w Ah Au Av n Cs Ct bss bst bsi S T I)(hi:i<n)(hj:j<n)(hij:i≠j)(hk:jY w kv k)
  (hn:n<=1000000) (hCs:Cs<=1000000) (hCt:Ct<=1000000) (hS:zMC Cs S i j k) (hT:zMC Ct T i j k) (hI:zMC Ct I j i (-k)) (hks:Sm k):
  CPq 144 #[ptq bw 0,niq i,niq j,kv] w fun e w'=>(∃u,e= .returned u)/\qJ (fun b=>b∈bss∨b∈bst∨b∈bsi) w w'/\Blk w' bw tHW #[Ah,Au,Av]∧
   zFo w' Ah Au Av n Cs Ct bss bst bsi (zCm S i j k) (zCm T i j k) (zCm I j i (-k)):=by
 obtain⟨so,sn,sc,rfl,s1,s2,s3,-⟩:=id (qC.rows h.s);obtain⟨uo,tn,tc,rfl,t1,t2,t3,-⟩:=id (qC.rows h.t);obtain⟨io,in_,ic,rfl,i1,i2,i3,-⟩:=id (qC.rows h.i);obtain⟨kn,ka,kl,kc,kx,rfl,hkx⟩:=id hk;have HKX:=xgw hkx;have HS:=xgv hS;have HT:=xgv hT;have HI:=xgv hI;have HK:=xgv hks;have HKn:jZ (Sm (-k)):=⟨HK.out.mono (by rw[zR];exact xgf _)⟩;clear hkx hS hT hI hks;obtain⟨hs,ht,hi_,fst_,fsi,fti,gst,gsi,gti⟩:=h;have GST:=xgv gst;have GSI:=xgv gsi;have GTI:=xgv gti;clear gst gsi gti;have e1:n=sn:=by rw[<-s1];simp[genM]
 have e2:n=tn:=by rw[<-t1];simp[genM]
 have e3:n=in_:=by rw[<-i1];simp[genM]
 subst e1;subst e2;subst e3;clear s1 t1 i1;obtain⟨gs,_,rfl,-⟩:=qC.at_ hs (i:=i) (by rw[hs.len];exact hi);obtain⟨gt,_,rfl,-⟩:=qC.at_ ht (i:=i) (by rw[ht.len];exact hi);obtain⟨gi,_,rfl,-⟩:=qC.at_ hi_ (i:=i) (by rw[hi_.len];exact hi);have hlt:∀b,b∈bss∨b∈bst∨b∈bsi->b<w.heap.size:=fun b hb=>by
  rcases hb with hb|hb|hb
  exact(hs.blk hb).elim fun r hr=>hr.lt
  exact(ht.blk hb).elim fun r hr=>hr.lt
  exact(hi_.blk hb).elim fun r hr=>hr.lt
 go_enter Tryz.func144,Tryz.ntmps144;go_upto_region 1 with(fail)
 refine zD ?_;intro W0 hW0;obtain⟨hB0,bk,hs0⟩:=qL hW0;have bx:=hbw.below hB0;have hs:=hs.below hB0;have ht:=ht.below hB0;have hi_:=hi_.below hB0;have hk:=hk.ext (lx hB0);have hO:=qJ.of (fun b=>b∈bss∨b∈bst∨b∈bsi) hB0;clear hW0 hbw;obtain⟨g1,bi,eg1,hg1,hbi1,hb1,o1,-⟩:=qC.at_ hs (i:=i) (by rw[hs.len];exact hi);obtain⟨g2,bj,eg2,hg2,hbj1,hb2,o2,-⟩:=qC.at_ hs (i:=j) (by rw[hs.len];exact hj);obtain rfl:gs=g1:=by injection eg1 with eg1;injection eg1
 obtain rfl:gs=g2:=by injection eg2 with eg2;injection eg2
 clear eg1 eg2 hb1 hb2;have hm1:=xgd hbi1;obtain⟨ri,hri⟩:=hs.blk hm1;have x1:=bx.three;have d1:=bk.two;have lbx:=bx.lt;have lk:=bk.lt;refine yP 15 [] ?_;refine sRd ?_;refine sRf ?_;intro w8 hbw8;have hH8:=hs.below hbw8;have hri8:=hri.below hbw8;clear o1 o2 x1 d1;go_wp2_with fail
 refine(zI1 hH8 hi hj hij hbi1 hbj1 _ (k) (hk.ext (lx0 hbw8)) hCs HS.out HK.out).mono ?_;rintro e w9 ⟨⟨u,rfl⟩,ho,hH9⟩;have hkne:w.heap.size≠bi:=by have:=hlt bi (by simp[hm1]);omega
 have bx:=(bx.below hbw8).row ho hri8 dE;have bk:Blk w9 w.heap.size 43 #[.bool kn,.slice ka kl kc]:=(ho.old _ (bk.below hbw8).lt (by simpa using hkne)).trans (bk.below hbw8);have hk:=(hk.ext (lx0 hbw8)).ext ho.lext;have hO:=(hO.trans (qJ.of _ hbw8)).trans (⟨ho.bel,ho.lext,fun k hk hn=>ho.old k hk (by simp;rintro rfl;exact hn (by simp[hm1]))⟩:qJ _ w8 w9);have ht:=(ht.below hbw8).only ho (fun hh=>fst_ _ hm1 hh) hri8;have hi_:=(hi_.below hbw8).only ho (fun hh=>fsi _ hm1 hh) hri8;have hs:Wri w9 (slq gs n sc) n Cs bss (zCm S i j k):=hH9;clear ho hri8 hri hH8 hH9 hm1 hkne hbi1 hbj1;go_upto_region 2 with(fail)
 obtain⟨g1,ci,eg1,hg1,hbi1,hb1,o1,-⟩:=qC.at_ ht (i:=i) (by rw[ht.len];exact hi);obtain⟨g2,cj,eg2,hg2,hbj1,hb2,o2,-⟩:=qC.at_ ht (i:=j) (by rw[ht.len];exact hj);obtain rfl:gt=g1:=by injection eg1 with eg1;injection eg1
 obtain rfl:gt=g2:=by injection eg2 with eg2;injection eg2
 clear eg1 eg2 hb1 hb2;have hm1:=xgd hbi1;obtain⟨ri,hri⟩:=ht.blk hm1;have x1:=bx.three;have d1:=bk.two;have lbx:=bx.lt;have lk:=bk.lt;refine yP 15 [] ?_;refine sRd ?_;refine sRf ?_;intro w10 hbw10;have hH8:=ht.below hbw10;have hri8:=hri.below hbw10;clear o1 o2 x1 d1;go_wp2_with fail
 refine(zI1 hH8 hi hj hij hbi1 hbj1 _ (k) (hk.ext (lx0 hbw10)) hCt HT.out HK.out).mono ?_;rintro e w11 ⟨⟨u,rfl⟩,ho,hH9⟩;have hkne:w.heap.size≠ci:=by have:=hlt ci (by simp[hm1]);omega
 have bx:=(bx.below hbw10).row ho hri8 dE;have bk:Blk w11 w.heap.size 43 #[.bool kn,.slice ka kl kc]:=(ho.old _ (bk.below hbw10).lt (by simpa using hkne)).trans (bk.below hbw10);have hk:=(hk.ext (lx0 hbw10)).ext ho.lext;have hO:=(hO.trans (qJ.of _ hbw10)).trans (⟨ho.bel,ho.lext,fun k hk hn=>ho.old k hk (by simp;rintro rfl;exact hn (by simp[hm1]))⟩:qJ _ w10 w11);have hs:=(hs.below hbw10).only ho (fun hh=>fst_ _ hh hm1) hri8;have hi_:=(hi_.below hbw10).only ho (fun hh=>fti _ hm1 hh) hri8;have ht:Wri w11 (slq gt n tc) n Ct bst (zCm T i j k):=hH9;clear ho hri8 hri hH8 hH9 hm1 hkne hbi1 hbj1;go_upto_region 3 with(fail)
 obtain⟨g1,di,eg1,hg1,hbi1,hb1,o1,-⟩:=qC.at_ hi_ (i:=j) (by rw[hi_.len];exact hj);obtain⟨g2,dj,eg2,hg2,hbj1,hb2,o2,-⟩:=qC.at_ hi_ (i:=i) (by rw[hi_.len];exact hi);obtain rfl:gi=g1:=by injection eg1 with eg1;injection eg1
 obtain rfl:gi=g2:=by injection eg2 with eg2;injection eg2
 clear eg1 eg2 hb1 hb2;have hm1:=xgd hbi1;obtain⟨ri,hri⟩:=hi_.blk hm1;have x1:=bx.three;have d1:=bk.two;have lbx:=bx.lt;have lk:=bk.lt;refine yP 16 [pcI 15 (-k)] ?_;refine sRd ?_;refine sRc (fun wS hI Gk hG=>by go_simp;exact ck hG (zBY _ k _ (hk.ext hI.lext).weak HK.out)) (fun vc15 _=>?_);refine sRe ?_;intro w12 hbw12 hc15;have hH8:=hi_.below hbw12;have hri8:=hri.below hbw12;clear o1 o2 x1 d1;go_wp2_with fail
 refine(zI1 hH8 hj hi (qD hij) hbi1 hbj1 _ (-k) hc15 hCt HI.out HKn.out).mono ?_;rintro e w13 ⟨⟨u,rfl⟩,ho,hH9⟩;have hkne:w.heap.size≠di:=by have:=hlt di (by simp[hm1]);omega
 have bx:=(bx.below hbw12).row ho hri8 dE;have bk:Blk w13 w.heap.size 43 #[.bool kn,.slice ka kl kc]:=(ho.old _ (bk.below hbw12).lt (by simpa using hkne)).trans (bk.below hbw12);have hk:=(hk.ext (lx0 hbw12)).ext ho.lext;have hO:=(hO.trans (qJ.of _ hbw12)).trans (⟨ho.bel,ho.lext,fun k hk hn=>ho.old k hk (by simp;rintro rfl;exact hn (by simp[hm1]))⟩:qJ _ w12 w13);have hs:=(hs.below hbw12).only ho (fun hh=>fsi _ hh hm1) hri8;have ht:=(ht.below hbw12).only ho (fun hh=>fti _ hh hm1) hri8;go_wp2;exact bodyPost_end (results_none rfl _ _ _) rfl ⟨⟨_,rfl⟩,hO,bx,hs,ht,hH9,fst_,fsi,fti,GST.out,GSI.out,GTI.out⟩
theorem zV0(bw:Nat)(Ah Au Av mv:Value)(n Cs Ct i j:Nat)(bss bst bsi:List Nat)(S T I:Nat->Nat->Int)(m0 m1 m2 m3:Int)(w:World)(hbw:Blk w bw tHW #[Ah,Au,Av])(h:zFo w Ah Au Av n Cs Ct bss bst bsi S T I)(hi:i<n)(hj:j<n)(hij:i≠j)(hm:M4V w mv m0 m1 m2 m3)
  (hn:n<=1000000) (hCs:Cs<=1000000) (hCt:Ct<=1000000) (hS:zRa Cs (S i) (S j) m0 m1 m2 m3) (hT:zRa Ct (T i) (T j) m0 m1 m2 m3) (hI:zRa Ct (I i) (I j) m3 (-m2) (-m1) m0) (hms:Sm m0/\Sm m1/\Sm m2/\Sm m3):
  CPq 145 #[ptq bw 0,niq i,niq j,mv] w fun e w'=>(∃u,e= .returned u)/\qJ (fun b=>b∈bss∨b∈bst∨b∈bsi) w w'/\Blk w' bw tHW #[Ah,Au,Av]∧
   zFo w' Ah Au Av n Cs Ct bss bst bsi (jE S i j m0 m1 m2 m3) (jE T i j m0 m1 m2 m3) (jE I i j m3 (-m2) (-m1) m0):=by
 obtain⟨so,sn,sc,rfl,s1,s2,s3,-⟩:=id (qC.rows h.s);obtain⟨uo,tn,tc,rfl,t1,t2,t3,-⟩:=id (qC.rows h.t);obtain⟨io,in_,ic,rfl,i1,i2,i3,-⟩:=id (qC.rows h.i);have HS:=xgv hS;have HT:=xgv hT;have HI:=xgv hI;have HK:=xgv hms;have hms':Sm m3/\Sm (-m2)/\Sm (-m1)/\Sm m0:=⟨hms.2.2.2,hms.2.2.1.mono (by rw[zR];exact xgf _),hms.2.1.mono (by rw[zR];exact xgf _),hms.1⟩;have HK2:=xgv hms';obtain⟨n0,a0,l0,c0,n1,a1,l1,c1,n2,a2,l2,c2,n3,a3,l3,c3,rfl,j0,j1,j2,j3⟩:=id hm;have HM0:=xgv (And.intro j0 (And.intro j1 (And.intro j2 j3)));clear hS hT hI hms hm hms' j0 j1 j2 j3;obtain⟨hs,ht,hi_,fst_,fsi,fti,gst,gsi,gti⟩:=h;have GST:=xgv gst;have GSI:=xgv gsi;have GTI:=xgv gti;clear gst gsi gti;have e1:n=sn:=by rw[<-s1];simp[genM]
 have e2:n=tn:=by rw[<-t1];simp[genM]
 have e3:n=in_:=by rw[<-i1];simp[genM]
 subst e1;subst e2;subst e3;clear s1 t1 i1;obtain⟨gs,_,rfl,-⟩:=qC.at_ hs (i:=i) (by rw[hs.len];exact hi);obtain⟨gt,_,rfl,-⟩:=qC.at_ ht (i:=i) (by rw[ht.len];exact hi);obtain⟨gi,_,rfl,-⟩:=qC.at_ hi_ (i:=i) (by rw[hi_.len];exact hi);have hlt:∀b,b∈bss∨b∈bst∨b∈bsi->b<w.heap.size:=fun b hb=>by
  rcases hb with hb|hb|hb
  exact(hs.blk hb).elim fun r hr=>hr.lt
  exact(ht.blk hb).elim fun r hr=>hr.lt
  exact(hi_.blk hb).elim fun r hr=>hr.lt
 go_enter Tryz.func145,Tryz.ntmps145;go_upto_region 1 with(fail)
 refine zD ?_;intro W0 hW0;obtain⟨hB0,bm,hs0⟩:=qL hW0;have bx:=hbw.below hB0;have hs:=hs.below hB0;have ht:=ht.below hB0;have hi_:=hi_.below hB0;have hO:=qJ.of (fun b=>b∈bss∨b∈bst∨b∈bsi) hB0;have hl2:=zD2 m3 (-m2);have hl3:=zD2 (-m1) m0;have hl4:=zGX m3 (-m2) (-m1) m0;clear hW0 hbw;obtain⟨g1,bi,eg1,hg1,hbi1,hb1,o1,-⟩:=qC.at_ hs (i:=i) (by rw[hs.len];exact hi);obtain⟨g2,bj,eg2,hg2,hbj1,hb2,o2,-⟩:=qC.at_ hs (i:=j) (by rw[hs.len];exact hj);obtain rfl:gs=g1:=by injection eg1 with eg1;injection eg1
 obtain rfl:gs=g2:=by injection eg2 with eg2;injection eg2
 clear eg1 eg2 hb1 hb2;have hm1:=xgd hbi1;have hm2:=xgd hbj1;obtain⟨ri,hri⟩:=hs.blk hm1;obtain⟨rj,hrj⟩:=hs.blk hm2;have x1:=bx.three;obtain⟨k0,k1,k2,k3,k4,k5,k6,k7⟩:=bm.eight;have lbx:=bx.lt;have lm:=bm.lt;have j0:=HM0.out.1.ext hO.lext;have j1:=HM0.out.2.1.ext hO.lext;have j2:=HM0.out.2.2.1.ext hO.lext;have j3:=HM0.out.2.2.2.ext hO.lext;refine yP 15 [] ?_;refine sRd ?_;refine sRf ?_;intro w8 hbw8;have hH8:=hs.below hbw8;have hri8:=hri.below hbw8;have hrj8:=hrj.below hbw8;clear o1 o2 x1 k0 k1 k2 k3 k4 k5 k6 k7;go_wp2_with fail
 refine(zGT hH8 hi hj hij hbi1 hbj1 ⟨_,_,_,_,_,_,_,_,_,_,_,_,_,_,_,_,rfl,j0.ext (lx0 hbw8),j1.ext (lx0 hbw8),j2.ext (lx0 hbw8),j3.ext (lx0 hbw8)⟩ hCs HS.out HK.out).mono ?_;rintro e w9 ⟨⟨u,rfl⟩,ho,hH9⟩;have hk1:w.heap.size≠bi:=by have:=hlt bi (by simp[hm1]);omega
 have hk2:w.heap.size≠bj:=by have:=hlt bj (by simp[hm2]);omega
 have bx:=(bx.below hbw8).row2 ho hri8 hrj8 dE;have bm:Blk w9 w.heap.size 191 #[.bool n0,.slice a0 l0 c0,.bool n1,.slice a1 l1 c1,.bool n2,.slice a2 l2 c2,.bool n3,.slice a3 l3 c3]:=(bm.below hbw8).row2 ho hri8 hrj8 dE;have hO:=(hO.trans (qJ.of _ hbw8)).trans (⟨ho.bel,ho.lext,fun k hk hn=>ho.old k hk (by simp;exact⟨fun e=>hn (by rw[e];simp[hm1]),fun e=>hn (by rw[e];simp[hm2])⟩)⟩:qJ _ w8 w9);have ht:=(ht.below hbw8).only2 ho (fun hh=>fst_ _ hm1 hh) (fun hh=>fst_ _ hm2 hh) hri8 hrj8;have hi_:=(hi_.below hbw8).only2 ho (fun hh=>fsi _ hm1 hh) (fun hh=>fsi _ hm2 hh) hri8 hrj8;have hs:=hH9;clear ho hri8 hri hrj8 hrj hH8 hH9 hm1 hm2 hk1 hk2 hbi1 hbj1;go_upto_region 2 with(fail)
 obtain⟨g1,ci,eg1,hg1,hbi1,hb1,o1,-⟩:=qC.at_ ht (i:=i) (by rw[ht.len];exact hi);obtain⟨g2,cj,eg2,hg2,hbj1,hb2,o2,-⟩:=qC.at_ ht (i:=j) (by rw[ht.len];exact hj);obtain rfl:gt=g1:=by injection eg1 with eg1;injection eg1
 obtain rfl:gt=g2:=by injection eg2 with eg2;injection eg2
 clear eg1 eg2 hb1 hb2;have hm1:=xgd hbi1;have hm2:=xgd hbj1;obtain⟨ri,hri⟩:=ht.blk hm1;obtain⟨rj,hrj⟩:=ht.blk hm2;have x1:=bx.three;obtain⟨k0,k1,k2,k3,k4,k5,k6,k7⟩:=bm.eight;have lbx:=bx.lt;have lm:=bm.lt;have j0:=HM0.out.1.ext hO.lext;have j1:=HM0.out.2.1.ext hO.lext;have j2:=HM0.out.2.2.1.ext hO.lext;have j3:=HM0.out.2.2.2.ext hO.lext;refine yP 15 [] ?_;refine sRd ?_;refine sRf ?_;intro w10 hbw10;have hH8:=ht.below hbw10;have hri8:=hri.below hbw10;have hrj8:=hrj.below hbw10;clear o1 o2 x1 k0 k1 k2 k3 k4 k5 k6 k7;go_wp2_with fail
 refine(zGT hH8 hi hj hij hbi1 hbj1 ⟨_,_,_,_,_,_,_,_,_,_,_,_,_,_,_,_,rfl,j0.ext (lx0 hbw10),j1.ext (lx0 hbw10),j2.ext (lx0 hbw10),j3.ext (lx0 hbw10)⟩ hCt HT.out HK.out).mono ?_;rintro e w11 ⟨⟨u,rfl⟩,ho,hH9⟩;have hk1:w.heap.size≠ci:=by have:=hlt ci (by simp[hm1]);omega
 have hk2:w.heap.size≠cj:=by have:=hlt cj (by simp[hm2]);omega
 have bx:=(bx.below hbw10).row2 ho hri8 hrj8 dE;have bm:Blk w11 w.heap.size 191 #[.bool n0,.slice a0 l0 c0,.bool n1,.slice a1 l1 c1,.bool n2,.slice a2 l2 c2,.bool n3,.slice a3 l3 c3]:=(bm.below hbw10).row2 ho hri8 hrj8 dE;have hO:=(hO.trans (qJ.of _ hbw10)).trans (⟨ho.bel,ho.lext,fun k hk hn=>ho.old k hk (by simp;exact⟨fun e=>hn (by rw[e];simp[hm1]),fun e=>hn (by rw[e];simp[hm2])⟩)⟩:qJ _ w10 w11);have hs:=(hs.below hbw10).only2 ho (fun hh=>fst_ _ hh hm1) (fun hh=>fst_ _ hh hm2) hri8 hrj8;have hi_:=(hi_.below hbw10).only2 ho (fun hh=>fti _ hm1 hh) (fun hh=>fti _ hm2 hh) hri8 hrj8;have ht:=hH9;clear ho hri8 hri hrj8 hrj hH8 hH9 hm1 hm2 hk1 hk2 hbi1 hbj1;go_upto_region 3 with(fail)
 obtain⟨g1,di,eg1,hg1,hbi1,hb1,o1,-⟩:=qC.at_ hi_ (i:=i) (by rw[hi_.len];exact hi);obtain⟨g2,dj,eg2,hg2,hbj1,hb2,o2,-⟩:=qC.at_ hi_ (i:=j) (by rw[hi_.len];exact hj);obtain rfl:gi=g1:=by injection eg1 with eg1;injection eg1
 obtain rfl:gi=g2:=by injection eg2 with eg2;injection eg2
 clear eg1 eg2 hb1 hb2;have hm1:=xgd hbi1;have hm2:=xgd hbj1;obtain⟨ri,hri⟩:=hi_.blk hm1;obtain⟨rj,hrj⟩:=hi_.blk hm2;have x1:=bx.three;obtain⟨k0,k1,k2,k3,k4,k5,k6,k7⟩:=bm.eight;have lbx:=bx.lt;have lm:=bm.lt;have j0:=HM0.out.1.ext hO.lext;have j1:=HM0.out.2.1.ext hO.lext;have j2:=HM0.out.2.2.1.ext hO.lext;have j3:=HM0.out.2.2.2.ext hO.lext;refine yP 31 [pcI 20 (-m2),pcD 21 [20] (M2V m3 (-m2)),pcI 25 (-m1),pcD 29 [25] (M2V (-m1) m0),pcD 30 [21,29] (fun w v=>M4V w v m3 (-m2) (-m1) m0)] ?_;refine sRd ?_;refine sRc (fun wS hI Gk hG=>by go_simp;exact ck hG (zBY _ m2 _ (j2.ext hI.lext).weak HK.out.2.2.1)) (fun vc20 _=>?_);refine sRc (fun wS hI hc20 Gk hG=>?_) (fun vc21 _=>?_)
 ·obtain⟨a16,b16,d16,e16,x16,rfl,y16⟩:=id hc20
  go_simp;exact⟨hG _ _ ⟨_,_,_,_,_,_,_,_,rfl,j3.ext hI.lext,hc20⟩,zA _ _⟩
 refine sRd ?_;refine sRc (fun wS hI Gk hG=>by go_simp;exact ck hG (zBY _ m1 _ (j1.ext hI.lext).weak HK.out.2.1)) (fun vc25 _=>?_);refine sRd ?_;refine sRc (fun wS hI hc25 Gk hG=>?_) (fun vc29 _=>?_)
 ·obtain⟨a21,b21,d21,e21,x21,rfl,y21⟩:=id hc25
  go_simp;exact⟨hG _ _ ⟨_,_,_,_,_,_,_,_,rfl,hc25,j0.ext hI.lext⟩,zA _ _⟩
 refine sRc (fun wS hI hc21 hc29 Gk hG=>?_) (fun vc30 _=>?_)
 ·obtain⟨p0,p1,p2,p3,p4,p5,p6,p7,rfl,p8,p9⟩:=hc21
  obtain⟨q0,q1,q2,q3,q4,q5,q6,q7,rfl,q8,q9⟩:=hc29;go_simp;exact⟨hG _ _ ⟨_,_,_,_,_,_,_,_,_,_,_,_,_,_,_,_,rfl,p8,p9,q8,q9⟩,zA _ _⟩
 refine sRe ?_;intro w12 hbw12 hc20 hc21 hc25 hc29 hc30;have hH8:=hi_.below hbw12;have hri8:=hri.below hbw12;have hrj8:=hrj.below hbw12;have hm4:M4V w12 vc30 m3 (-m2) (-m1) m0:=hc30;obtain⟨p0,p1,p2,p3,p4,p5,p6,p7,p8,p9,p10,p11,p12,p13,p14,p15,rfl,-⟩:=id hm4;clear o1 o2 x1 k0 k1 k2 k3 k4 k5 k6 k7 j0 j1 j2 j3;go_wp2_with fail
 refine(zGT hH8 hi hj hij hbi1 hbj1 hm4 hCt HI.out HK2.out).mono ?_;rintro e w13 ⟨⟨u,rfl⟩,ho,hH9⟩;have hk1:w.heap.size≠di:=by have:=hlt di (by simp[hm1]);omega
 have hk2:w.heap.size≠dj:=by have:=hlt dj (by simp[hm2]);omega
 have bx:=(bx.below hbw12).row2 ho hri8 hrj8 dE;have bm:Blk w13 w.heap.size 191 #[.bool n0,.slice a0 l0 c0,.bool n1,.slice a1 l1 c1,.bool n2,.slice a2 l2 c2,.bool n3,.slice a3 l3 c3]:=(bm.below hbw12).row2 ho hri8 hrj8 dE;have hO:=(hO.trans (qJ.of _ hbw12)).trans (⟨ho.bel,ho.lext,fun k hk hn=>ho.old k hk (by simp;exact⟨fun e=>hn (by rw[e];simp[hm1]),fun e=>hn (by rw[e];simp[hm2])⟩)⟩:qJ _ w12 w13);have hs:=(hs.below hbw12).only2 ho (fun hh=>fsi _ hh hm1) (fun hh=>fsi _ hh hm2) hri8 hrj8;have ht:=(ht.below hbw12).only2 ho (fun hh=>fti _ hh hm1) (fun hh=>fti _ hh hm2) hri8 hrj8;go_wp2;exact bodyPost_end (results_none rfl _ _ _) rfl ⟨⟨_,rfl⟩,hO,bx,hs,ht,hH9,fst_,fsi,fti,GST.out,GSI.out,GTI.out⟩
theorem zDw(t:TypeId)(n:Nat)(cs:Array Value)(k:Int)(j:Nat)(v:Value)(W:World)(h:Tryz.prog.underlying t=some (.array n tR))(hk:k=(j:Int))(hj:j<n)(hv:cs[j]?=some v):
  (Instr.index t (.agg cs) (niq k)).run Tryz.prog W= .ok v W:=by
 subst hk;obtain⟨i0,hi,hz0,hz1,hz2⟩:=info_parts zDc;have hc:(0:Int)<=(j:Int)/\(j:Int)<(n:Int):=oM;have hu:=zCB;simp[Instr.index,run_underlying h,asIntOf,hc,part,isAgg,run_underlying hu,sizeOf,typeInfo,hi,hz1,hv,go_sem];intro h0;omega
theorem zV1(bw:Nat)(Ah Au Av:Value)(n Cs Ct i:Nat)(bss bst bsi:List Nat)(FS FT FI:Nat->Nat->Int)(w:World)(hbw:Blk w bw tHW #[Ah,Au,Av])(h:zFo w Ah Au Av n Cs Ct bss bst bsi FS FT FI)(hi:i<n)
  (hn:n<=1000000) (hCs:Cs<=1000000) (hCt:Ct<=1000000) (hS:∀a,a<n->∀b,b<Cs->Sm (FS a b)) (hT:∀a,a<n->∀b,b<Ct->Sm (FT a b)) (hI:∀a,a<n->∀b,b<Ct->Sm (FI a b)):
  CPq 146 #[ptq bw 0,niq i] w fun e w'=>(∃u,e= .returned u)/\qJ (fun b=>b∈bss∨b∈bst∨b∈bsi) w w'/\Blk w' bw tHW #[Ah,Au,Av]∧
   zFo w' Ah Au Av n Cs Ct bss bst bsi (zDV FS i) (zDV FT i) (zDV FI i):=by
 obtain⟨so,sn,sc,rfl,s1,s2,s3,-⟩:=id (qC.rows h.s);obtain⟨uo,tn,tc,rfl,t1,t2,t3,-⟩:=id (qC.rows h.t);obtain⟨io,in_,ic,rfl,i1,i2,i3,-⟩:=id (qC.rows h.i);have HS:=xgv hS;have HT:=xgv hT;have HI:=xgv hI;clear hS hT hI;obtain⟨hs,ht,hi_,fst_,fsi,fti,gst,gsi,gti⟩:=h;have GST:=xgv gst;have GSI:=xgv gsi;have GTI:=xgv gti;clear gst gsi gti;have e1:n=sn:=by rw[<-s1];simp[genM]
 have e2:n=tn:=by rw[<-t1];simp[genM]
 have e3:n=in_:=by rw[<-i1];simp[genM]
 subst e1;subst e2;subst e3;clear s1 t1 i1;obtain⟨gs,bi,rfl,hgs,hbi,-,o1,-⟩:=qC.at_ hs (i:=i) (by rw[hs.len];exact hi);obtain⟨gt,ci,rfl,hgt,hci,-,o2,-⟩:=qC.at_ ht (i:=i) (by rw[ht.len];exact hi);obtain⟨gi,di,rfl,hgi,hdi,-,o3,-⟩:=qC.at_ hi_ (i:=i) (by rw[hi_.len];exact hi);have hOz:=qJ.refl (fun b=>b∈bss∨b∈bst∨b∈bsi) w;have x1:=hbw.three;have lbw:=hbw.lt;go_enter Tryz.func146,Tryz.ntmps146;go_upto_region 0 with(fail)
 refine zBl [] ?_;refine sRd ?_;refine sRf ?_;intro w0 hbw0;have hOz:=hOz.trans (qJ.of _ hbw0);have bx:=hbw.below hbw0;have hs:=hs.below hbw0;have ht:=ht.below hbw0;have hi_:=hi_.below hbw0;clear o1 o2 o3 x1 hbw hgs hgt hgi;go_wp2;go_loopw [30] (fun mv wr=>∃m:Nat,m<=3/\mv=niq m/\qJ (fun b=>b∈bss∨b∈bst∨b∈bsi) w wr/\Blk wr bw tHW #[slq gs n sc,slq gt n tc,slq gi n ic]∧
  Wri wr (slq gs n sc) n Cs bss (if 0<m then zDV FS i else FS)/\Wri wr (slq gt n tc) n Ct bst (if 1<m then zDV FT i else FT)/\Wri wr (slq gi n ic) n Ct bsi (if 2<m then zDV FI i else FI)) (fun mv _=>3-(intOf mv).toNat)
 case atStart=>exact⟨0,oM,rfl,hOz,bx,hs,ht,hi_⟩
 clear hOz bx hs ht hi_;obtain⟨m,hm,rfl,hOz,bx,hs,ht,hi_⟩:=hrel;by_cases hm0:m=0
 ·subst hm0
  rw[if_neg oM]at hs ht hi_;have hmi:=xgd hbi;have hri:=hs.rowAt hi hbi;have hix:=fun W=>zDw 193 3 #[slq bi Cs Cs,slq ci Ct Ct,slq di Ct Ct] 0 0 _ W zBE rfl oM rfl
  have hst:∀F:Nat->Int,qZ Cs F=qZ Cs (yQ (fun t=>-F t) F 0):=fun F=>qY fun t _=>by unfold yQ;rw[if_neg oM]
  rw[hst]at hri;clear hst;go_wp2;go_loopw [35] (fun jv wt=>∃j:Nat,j<=Cs/\jv=niq j/\zB0 [bi] wr wt/\(∃G,G=(fun t=>-FS i t)/\jJ wt bi (qZ Cs (yQ G (FS i) j)))) (fun jv _=>Cs-(intOf jv).toNat)
  case atStart=>exact⟨0,oM,rfl,zB0.refl _ _,_,rfl,hri⟩
  rename World=>wt
  obtain⟨j,hj,rfl,hO,G,hG,hv⟩:=hrel;have HG:=xgv (congrFun hG);clear hG;have hOs:=hO.bel.size;by_cases hlt:j<Cs
  ·obtain⟨xs,xa,xl,xc,v1,v2,-,-,hx⟩:=hv.cell (yE hlt)
   have hyf:yQ G (FS i) j j=FS i j:=by unfold yQ;rw[if_neg oM]
   rw[hyf]at hx;have hlv:=hv.lt;go_upto_region 6 with(fail)
   refine zD ?_;intro W6 hW6;obtain⟨hB6,T7,hs6⟩:=qL hW6;have d1:=T7.two;have hO:=hO.trans (zB0.of [bi] hB6);have hv:=hv.below hB6;have hx:=hx.ext (lx hB6);have l7:=T7.lt;clear v1 v2 hW6;have HSJ:=xgv (HS.out i hi j hlt);go_wp2_with fail
   refine(zBY _ (FS i j) W6 hx.weak HSJ.out).mono ?_;rintro e w9 ⟨u,rfl,hu,hbw9⟩;obtain⟨pn,pa,pl,pc,px,rfl,hpx⟩:=id hu;have HPX:=xgw hpx;clear hpx;have hv9:=hv.below hbw9;obtain⟨zs,za,zl,zc,z1,z2,z3,z4,-⟩:=hv9.cell (yE hlt);have hset:=hv9.set (k:=j) (by rw[qA];exact hlt) hu;have hO:=hO.trans (zB0.of [bi] hbw9);go_wp2;go_roundw
   case rel=>
    have hq:(qZ Cs (yQ G (FS i) j)).set j (-(FS i j))=qZ Cs (yQ G (FS i) (j+1)):=by
     rw[zD1];exact qY fun t _=>by
      unfold yQ;by_cases h2:t=j
      ·subst h2
       rw[if_pos rfl,if_pos oM,HG.out]
      rw[if_neg h2];by_cases h1:t<j
      ·rw[if_pos h1,if_pos oM]
      rw[if_neg h1,if_neg oM]
    rw[hq]at hset;refine⟨_,_,_,_,_,_,_,_,_,_,_,_,_,?_,rfl⟩;exact⟨j+1,oM,by simp,hO.trans ⟨yJ (yJ (zA _ _) (zE _) _ _) (zE _) _ _,hset.2,fun i _ hi=>yO _ _ _ _ _ _ _ (by simpa using hi)⟩,_,funext HG.out,hset.1⟩
   case measure=>exact meq
  obtain rfl:j=Cs:=oM;have hq:qZ j (yQ G (FS i) j)=qZ j (fun t=>-FS i t):=qY fun t ht=>by unfold yQ;rw[if_pos ht];exact HG.out t
  rw[hq]at hv;go_wp2;go_roundw
  case measure=>simp[intOf]
  have hri0:=hs.rowAt hi hbi;exact⟨1,oM,by simp,hOz.trans ⟨hO.bel,hO.lext,fun k hk hn=>hO.old k hk (by simp;rintro rfl;exact hn (.inl hmi))⟩,bx.row hO hri0 dE,by simpa using hs.negRow hi hbi hO hv,by simpa using ht.only hO (fun hh=>fst_ _ hmi hh) hri0,by simpa using hi_.only hO (fun hh=>fsi _ hmi hh) hri0⟩
 by_cases hm1:m=1
 ·subst hm1
  rw[if_pos oM]at hs;rw[if_neg oM]at ht hi_;have hmi:=xgd hci;have hri:=ht.rowAt hi hci;have hix:=fun W=>zDw 193 3 #[slq bi Cs Cs,slq ci Ct Ct,slq di Ct Ct] 1 1 _ W zBE rfl oM rfl
  have hst:∀F:Nat->Int,qZ Ct F=qZ Ct (yQ (fun t=>-F t) F 0):=fun F=>qY fun t _=>by unfold yQ;rw[if_neg oM]
  rw[hst]at hri;clear hst;go_wp2;go_loopw [35] (fun jv wt=>∃j:Nat,j<=Ct/\jv=niq j/\zB0 [ci] wr wt/\(∃G,G=(fun t=>-FT i t)/\jJ wt ci (qZ Ct (yQ G (FT i) j)))) (fun jv _=>Ct-(intOf jv).toNat)
  case atStart=>exact⟨0,oM,rfl,zB0.refl _ _,_,rfl,hri⟩
  rename World=>wt
  obtain⟨j,hj,rfl,hO,G,hG,hv⟩:=hrel;have HG:=xgv (congrFun hG);clear hG;have hOs:=hO.bel.size;by_cases hlt:j<Ct
  ·obtain⟨xs,xa,xl,xc,v1,v2,-,-,hx⟩:=hv.cell (yE hlt)
   have hyf:yQ G (FT i) j j=FT i j:=by unfold yQ;rw[if_neg oM]
   rw[hyf]at hx;have hlv:=hv.lt;go_upto_region 6 with(fail)
   refine zD ?_;intro W6 hW6;obtain⟨hB6,T7,hs6⟩:=qL hW6;have d1:=T7.two;have hO:=hO.trans (zB0.of [ci] hB6);have hv:=hv.below hB6;have hx:=hx.ext (lx hB6);have l7:=T7.lt;clear v1 v2 hW6;have HSJ:=xgv (HT.out i hi j hlt);go_wp2_with fail
   refine(zBY _ (FT i j) W6 hx.weak HSJ.out).mono ?_;rintro e w9 ⟨u,rfl,hu,hbw9⟩;obtain⟨pn,pa,pl,pc,px,rfl,hpx⟩:=id hu;have HPX:=xgw hpx;clear hpx;have hv9:=hv.below hbw9;obtain⟨zs,za,zl,zc,z1,z2,z3,z4,-⟩:=hv9.cell (yE hlt);have hset:=hv9.set (k:=j) (by rw[qA];exact hlt) hu;have hO:=hO.trans (zB0.of [ci] hbw9);go_wp2;go_roundw
   case rel=>
    have hq:(qZ Ct (yQ G (FT i) j)).set j (-(FT i j))=qZ Ct (yQ G (FT i) (j+1)):=by
     rw[zD1];exact qY fun t _=>by
      unfold yQ;by_cases h2:t=j
      ·subst h2
       rw[if_pos rfl,if_pos oM,HG.out]
      rw[if_neg h2];by_cases h1:t<j
      ·rw[if_pos h1,if_pos oM]
      rw[if_neg h1,if_neg oM]
    rw[hq]at hset;refine⟨_,_,_,_,_,_,_,_,_,_,_,_,_,?_,rfl⟩;exact⟨j+1,oM,by simp,hO.trans ⟨yJ (yJ (zA _ _) (zE _) _ _) (zE _) _ _,hset.2,fun i _ hi=>yO _ _ _ _ _ _ _ (by simpa using hi)⟩,_,funext HG.out,hset.1⟩
   case measure=>exact meq
  obtain rfl:j=Ct:=oM;have hq:qZ j (yQ G (FT i) j)=qZ j (fun t=>-FT i t):=qY fun t ht=>by unfold yQ;rw[if_pos ht];exact HG.out t
  rw[hq]at hv;go_wp2;go_roundw
  case measure=>simp[intOf]
  have hri0:=ht.rowAt hi hci;exact⟨2,oM,by simp,hOz.trans ⟨hO.bel,hO.lext,fun k hk hn=>hO.old k hk (by simp;rintro rfl;exact hn ((fun h=>.inr (.inl h)) hmi))⟩,bx.row hO hri0 dE,by simpa using hs.only hO (fun hh=>fst_ _ hh hmi) hri0,by simpa using ht.negRow hi hci hO hv,by simpa using hi_.only hO (fun hh=>fti _ hmi hh) hri0⟩
 by_cases hm2:m=2
 ·subst hm2
  rw[if_pos oM]at hs ht;rw[if_neg oM]at hi_;have hmi:=xgd hdi;have hri:=hi_.rowAt hi hdi;have hix:=fun W=>zDw 193 3 #[slq bi Cs Cs,slq ci Ct Ct,slq di Ct Ct] 2 2 _ W zBE rfl oM rfl
  have hst:∀F:Nat->Int,qZ Ct F=qZ Ct (yQ (fun t=>-F t) F 0):=fun F=>qY fun t _=>by unfold yQ;rw[if_neg oM]
  rw[hst]at hri;clear hst;go_wp2;go_loopw [35] (fun jv wt=>∃j:Nat,j<=Ct/\jv=niq j/\zB0 [di] wr wt/\(∃G,G=(fun t=>-FI i t)/\jJ wt di (qZ Ct (yQ G (FI i) j)))) (fun jv _=>Ct-(intOf jv).toNat)
  case atStart=>exact⟨0,oM,rfl,zB0.refl _ _,_,rfl,hri⟩
  rename World=>wt
  obtain⟨j,hj,rfl,hO,G,hG,hv⟩:=hrel;have HG:=xgv (congrFun hG);clear hG;have hOs:=hO.bel.size;by_cases hlt:j<Ct
  ·obtain⟨xs,xa,xl,xc,v1,v2,-,-,hx⟩:=hv.cell (yE hlt)
   have hyf:yQ G (FI i) j j=FI i j:=by unfold yQ;rw[if_neg oM]
   rw[hyf]at hx;have hlv:=hv.lt;go_upto_region 6 with(fail)
   refine zD ?_;intro W6 hW6;obtain⟨hB6,T7,hs6⟩:=qL hW6;have d1:=T7.two;have hO:=hO.trans (zB0.of [di] hB6);have hv:=hv.below hB6;have hx:=hx.ext (lx hB6);have l7:=T7.lt;clear v1 v2 hW6;have HSJ:=xgv (HI.out i hi j hlt);go_wp2_with fail
   refine(zBY _ (FI i j) W6 hx.weak HSJ.out).mono ?_;rintro e w9 ⟨u,rfl,hu,hbw9⟩;obtain⟨pn,pa,pl,pc,px,rfl,hpx⟩:=id hu;have HPX:=xgw hpx;clear hpx;have hv9:=hv.below hbw9;obtain⟨zs,za,zl,zc,z1,z2,z3,z4,-⟩:=hv9.cell (yE hlt);have hset:=hv9.set (k:=j) (by rw[qA];exact hlt) hu;have hO:=hO.trans (zB0.of [di] hbw9);go_wp2;go_roundw
   case rel=>
    have hq:(qZ Ct (yQ G (FI i) j)).set j (-(FI i j))=qZ Ct (yQ G (FI i) (j+1)):=by
     rw[zD1];exact qY fun t _=>by
      unfold yQ;by_cases h2:t=j
      ·subst h2
       rw[if_pos rfl,if_pos oM,HG.out]
      rw[if_neg h2];by_cases h1:t<j
      ·rw[if_pos h1,if_pos oM]
      rw[if_neg h1,if_neg oM]
    rw[hq]at hset;refine⟨_,_,_,_,_,_,_,_,_,_,_,_,_,?_,rfl⟩;exact⟨j+1,oM,by simp,hO.trans ⟨yJ (yJ (zA _ _) (zE _) _ _) (zE _) _ _,hset.2,fun i _ hi=>yO _ _ _ _ _ _ _ (by simpa using hi)⟩,_,funext HG.out,hset.1⟩
   case measure=>exact meq
  obtain rfl:j=Ct:=oM;have hq:qZ j (yQ G (FI i) j)=qZ j (fun t=>-FI i t):=qY fun t ht=>by unfold yQ;rw[if_pos ht];exact HG.out t
  rw[hq]at hv;go_wp2;go_roundw
  case measure=>simp[intOf]
  have hri0:=hi_.rowAt hi hdi;exact⟨3,oM,by simp,hOz.trans ⟨hO.bel,hO.lext,fun k hk hn=>hO.old k hk (by simp;rintro rfl;exact hn ((fun h=>.inr (.inr h)) hmi))⟩,bx.row hO hri0 dE,by simpa using hs.only hO (fun hh=>fsi _ hh hmi) hri0,by simpa using ht.only hO (fun hh=>fti _ hh hmi) hri0,by simpa using hi_.negRow hi hdi hO hv⟩
 obtain rfl:m=3:=oM;rw[if_pos oM]at hs ht hi_;go_wp2;exact bodyPost_end (results_none rfl _ _ _) rfl ⟨⟨_,rfl⟩,hOz,bx,hs,ht,hi_,fst_,fsi,fti,GST.out,GSI.out,GTI.out⟩
end Go.Proofs.YtkidaebmhlijlaaGreat
