/- The law for regions that draw, with matrices that lie apart, and slots that hold a matrix's rows. smith.Form. torsionref13.Check where everything holds. smith.Form. smith's echelon form (the mirror) ends, within bounds, in a Hermite normal form. Plain Lean. smith's take, reduce and echelon (the mirror) end within bounds. Plain Lean. -/
import Derived.Test.YtgnmdddaiefooaaGreatR16
import Derived.Test.YtgnmdddaiefooaaGreatR22
import Derived.Test.YtgnmdddaiefooaaGreatR25
import Derived.Test.YtgnmdddaiefooaaGreatR26
import Derived.Test.YtgnmdddaiefooaaGreatR30
set_option linter.unusedVariables false
set_option linter.unusedSimpArgs false
set_option linter.unusedSectionVars false
set_option maxHeartbeats 16000000
set_option maxRecDepth 100000
namespace Go.Proofs.YtgnmdddaiefooaaGreat
open Go.RowKit
structure AS where
 op:Nat
 slot:Nat
 m:MS
structure RX(W:World)(T0:Array Value)(vs:List VS)(ms:List MS)(al_:List AS)(L:Array Bool)(T:Array Value)(w:World):Prop where
 g:RG W T0 vs ms L T w
 wf:∀a∈al_,a.m∈ms/\∃s∈vs,s.op=a.op/\s.slot=a.slot
 al:∀a∈al_,L[a.op]?=some true->L[a.m.op]?=some true/\∃o c,T[a.m.slot]?=some (.agg #[.int .i64 a.m.R,.int .i64 a.m.C,.slice o a.m.R c])/\T[a.slot]?=some (.slice o a.m.R c)
section
variable {W:World} {T0:Array Value} {vs:List VS} {ms:List MS} {al_:List AS} {L:Array Bool} {T:Array Value} {w w':World}
theorem RX.start(hwf:zIo T0.size vs ms=true)(hv:∀s∈vs,qQ s.P)(ha:∀a∈al_,a.m∈ms/\∃s∈vs,s.op=a.op/\s.slot=a.slot){n:Nat}:RX W T0 vs ms al_ (Array.replicate n false) T0 W.drew:=
 ⟨RG.start hwf hv,ha,fun a _ h=>by
  rw[Array.getElem?_replicate]at h;split at h<;>simp at h⟩
theorem RX.world(h:RX W T0 vs ms al_ L T w)(hb:Below w.heap.size w w'):RX W T0 vs ms al_ L T w':=⟨h.g.world hb,h.wf,h.al⟩
theorem RX.value{k:Nat}{v:Value}(h:RX W T0 vs ms al_ L T w)(s:VS)(hs:s∈vs)(hk:s.op=k)(hP:s.P w v)(hn:∀a∈al_,a.op≠k):RX W T0 vs ms al_ (L.setIfInBounds k true) (T.setIfInBounds s.slot v) w:=by
 obtain⟨p1,p2,p3,p4,p5,p6,p7⟩:=h.g.parts;refine⟨h.g.value s hs hk hP,h.wf,fun a ha hl=>?_⟩;subst hk;obtain⟨e1,t,ht,e2,e3⟩:=h.wf a ha;have hl':L[a.op]?=some true:=zK hl (fun e=>hn a ha e.symm);obtain⟨q1,o,c,q2,q3⟩:=h.al a ha hl';have n1:s.slot≠a.m.slot:=(p5 s hs _ e1).1;have n2:s.slot≠a.slot:=by
  rw[<-e3];intro e;have:=zL p1 hs ht e;subst this;exact hn a ha e2.symm
 refine⟨?_,o,c,by rw[xgc n1];exact q2,by rw[xgc n2];exact q3⟩;rw[xgc (p5 s hs _ e1).2];exact q1
theorem RX.y{k:Nat}{v:Value}(h:RX W T0 vs ms al_ L T w){s:VS}(hs:s∈vs)(hP:s.P w v)(hn:∀a∈al_,a.op≠k)(hk:s.op=k:=by rfl):RX W T0 vs ms al_ (L.setIfInBounds k true) (T.setIfInBounds s.slot v) w:=h.value s hs hk hP hn
theorem RX.alias{v:Value}(h:RX W T0 vs ms al_ L T w)(a:AS)(ha:a∈al_)(s:VS)(hs:s∈vs)(hso:s.op=a.op)(hss:s.slot=a.slot)(hP:s.P w v)(hm:L[a.m.op]?=some true)(hdup:∀b∈al_,b.op=a.op->b=a)
  {o:Option Addr} {c:Nat} (h1:T[a.m.slot]?=some (.agg #[.int .i64 a.m.R,.int .i64 a.m.C,.slice o a.m.R c])) (h2:v= .slice o a.m.R c):RX W T0 vs ms al_ (L.setIfInBounds a.op true) (T.setIfInBounds s.slot v) w:=by
 obtain⟨p1,p2,p3,p4,p5,p6,p7⟩:=h.g.parts;refine⟨h.g.value s hs hso hP,h.wf,fun b hb hl=>?_⟩;obtain⟨e1,t,ht,e2,e3⟩:=h.wf b hb;have nm:s.slot≠b.m.slot:=(p5 s hs _ e1).1;have no:s.op≠b.m.op:=(p5 s hs _ e1).2;by_cases hba:b=a
 ·subst hba
  refine⟨by rw[xgc (by rw[<-hso];exact no)];exact hm,o,c,by rw[xgc nm];exact h1,?_⟩;rw[<-hss,Array.getElem?_setIfInBounds_self_of_lt (by rw[h.g.size];exact p6 _ hs),h2]
 ·have hne:b.op≠a.op:=fun e=>hba (hdup b hb e)
  obtain⟨q1,o',c',q2,q3⟩:=h.al b hb (zK hl (Ne.symm hne));have n2:s.slot≠b.slot:=by
   rw[<-e3];intro e;have:=zL p1 hs ht e;subst this;exact hne (e2.symm.trans hso)
  exact⟨by rw[xgc (by rw[<-hso];exact no)];exact q1,o',c',by rw[xgc nm];exact q2,by rw[xgc n2];exact q3⟩
theorem RX.mat{ops:Array Oper}{k:Nat}{v:Value}(h:RX W T0 vs ms al_ L T w)(hcl:zAG ops L)(hL:L[k]?=some false)(m:MS)(hm:m∈ms)(hk:m.op=k)(hb:Below w.heap.size w w')(hw:zCP m.R m.C m.F w.heap.size w'.heap.size w' v)
  (hlt:(ms.all fun m'=>!decide (k<m'.op)||zE8 ops 9 m'.op k)=true):RX W T0 vs ms al_ (L.setIfInBounds k true) (T.setIfInBounds m.slot v) w':=by
 obtain⟨p1,p2,p3,p4,p5,p6,p7⟩:=h.g.parts;refine⟨h.g.mat hcl hL m hm hk hb hw hlt,h.wf,fun a ha hl=>?_⟩;subst hk;obtain⟨e1,t,ht,e2,e3⟩:=h.wf a ha;have no:m.op≠a.op:=by rw[<-e2];exact fun e=>(p5 t ht m hm).2 e.symm
 have ns:m.slot≠a.slot:=by rw[<-e3];exact fun e=>(p5 t ht m hm).1 e.symm
 obtain⟨q1,o,c,q2,q3⟩:=h.al a ha (zK hl no);have hne:m≠a.m:=fun e=>by
  rw[<-e,hL]at q1;cases q1
 have n1:m.slot≠a.m.slot:=fun e=>hne (zL p3 hm e1 e)
 have n2:m.op≠a.m.op:=fun e=>hne (zL p4 hm e1 e)
 exact⟨by rw[xgc n2];exact q1,o,c,by rw[xgc n1];exact q2,by rw[xgc ns];exact q3⟩
end
def RXS(W:World)(T0:Array Value)(vs:List VS)(ms:List MS)(al_:List AS)(q:Nat)(st:Array Value->World->World)(L:Array Bool)(T:Array Value)(w:World):Prop:=
 ∃w0,RX W T0 vs ms al_ L T w0/\(L[q]?≠some true->w=w0)/\(L[q]?=some true->w=st T w0)
section
variable {W:World} {T0:Array Value} {vs:List VS} {ms:List MS} {al_:List AS} {L:Array Bool} {T:Array Value} {w w':World} {q:Nat} {st:Array Value->World->World}
theorem RXS.start{n:Nat}(h:RX W T0 vs ms al_ (Array.replicate n false) T0 W.drew):RXS W T0 vs ms al_ q st (Array.replicate n false) T0 W.drew:=
 ⟨_,h,fun _=>rfl,fun hh=>by
  rw[Array.getElem?_replicate]at hh;split at hh<;>simp at hh⟩
theorem RX.mark(h:RX W T0 vs ms al_ L T w)(hq:∀s∈vs,s.op≠q)(hm:∀m∈ms,m.op≠q):RX W T0 vs ms al_ (L.setIfInBounds q true) T w:=by
 obtain⟨bot,top,g1,g2⟩:=h.g.gh;have um:∀m∈ms,(L.setIfInBounds q true)[m.op]?=some true->L[m.op]?=some true:=fun m hm' hl=>zK hl (Ne.symm (hm m hm'))
 refine⟨⟨h.g.wf,h.g.lv,h.g.size,h.g.keep,h.g.bel,fun s hs hl=>h.g.val s hs (zK hl (Ne.symm (hq s hs))),bot,top,fun m hm' hl=>g1 m hm' (um m hm' hl),fun m hm' m' hm2 hlt l1 l2=>g2 m hm' m' hm2 hlt (um m hm' l1) (um m' hm2 l2)⟩,h.wf,fun a ha hl=>?_⟩;obtain⟨e1,t,ht,e2,e3⟩:=h.wf a ha;obtain⟨q1,q2⟩:=h.al a ha (zK hl (by rw[<-e2];exact Ne.symm (hq t ht)));exact⟨by rw[xgc (Ne.symm (hm _ e1))];exact q1,q2⟩
theorem yU.liftX{P:Program}{ops:Array Oper}{Q:Exit->Act->World->Prop}{ds:List Deferred}{i:Nat}{o:Oper}(hq:zE8 ops 5 q i=true)(hne:i≠q)
  (h:yU P ops Q ds (RX W T0 vs ms al_) i o):yU P ops Q ds (RXS W T0 vs ms al_ q st) i o:=by
 intro L T w hL hd hcl hI K hK;obtain⟨w0,h0,h1,h2⟩:=hI;have hLq:L[q]?≠some true:=fun hh=>by
  have:=zBT hcl hq hh;rw[hL]at this;cases this
 obtain rfl:=h1 hLq;exact h L T w hL @hd hcl h0 K (fun T' w' h'=>hK T' w' ⟨w',h',fun _=>rfl,fun hh=>absurd (zK hh hne) hLq⟩)
theorem RXS.step{k:Nat}{T':Array Value}(h:RXS W T0 vs ms al_ q st L T w)(hx:∀w0,RX W T0 vs ms al_ L T w0->RX W T0 vs ms al_ (L.setIfInBounds k true) T' w0)(hne:k≠q)(hst:∀w,st T' w=st T w):RXS W T0 vs ms al_ q st (L.setIfInBounds k true) T' w:=by
 obtain⟨w0,h0,h1,h2⟩:=h;exact⟨w0,hx w0 h0,fun hn=>h1 fun hh=>hn (yJ hh),fun hh=>(h2 (zK hh hne)).trans (hst w0).symm⟩
theorem RXS.store(h:RX W T0 vs ms al_ L T w)(hL:L[q]?=some false)(hq:∀s∈vs,s.op≠q)(hm:∀m∈ms,m.op≠q)(hw:w'=st T w):RXS W T0 vs ms al_ q st (L.setIfInBounds q true) T w':=
 ⟨w,h.mark hq hm,fun hn=>absurd (Array.getElem?_setIfInBounds_self_of_lt (Array.getElem?_eq_some_iff.1 hL).1) hn,fun _=>hw⟩
theorem RXS.here(h:RXS W T0 vs ms al_ q st L T w)(hL:L[q]?=some false):RX W T0 vs ms al_ L T w:=by
 obtain⟨w0,h0,h1,-⟩:=h;obtain rfl:=h1 (by rw[hL];simp);exact h0
end
theorem RG.five{W:World}{T0:Array Value}{vs:List VS}{L:Array Bool}{T:Array Value}{w:World}{k1 k2 k3 k4 k5 s1 s2 s3 s4 s5 R C Cu Cw:Nat}{F1 F2 F3 F4 F5:Nat->Nat->Int}
  (h:RG W T0 vs [⟨k1,s1,R,C,F1⟩,⟨k2,s2,R,Cu,F2⟩,⟨k3,s3,R,Cu,F3⟩,⟨k4,s4,C,Cw,F4⟩,⟨k5,s5,C,Cw,F5⟩] L T w) (o1:k1<k2) (o2:k2<k3) (o3:k3<k4) (o4:k4<k5)
  (l1:L[k1]?=some true) (l2:L[k2]?=some true) (l3:L[k3]?=some true) (l4:L[k4]?=some true) (l5:L[k5]?=some true):
  ∃so sc uo uc vo vc wo wc xo xc,T[s1]?=some (.agg #[.int .i64 R,.int .i64 C,.slice so R sc])/\T[s2]?=some (.agg #[.int .i64 R,.int .i64 Cu,.slice uo R uc])/\T[s3]?=some (.agg #[.int .i64 R,.int .i64 Cu,.slice vo R vc])∧
   T[s4]?=some (.agg #[.int .i64 C,.int .i64 Cw,.slice wo C wc])/\T[s5]?=some (.agg #[.int .i64 C,.int .i64 Cw,.slice xo C xc])∧
   zPN W.heap.size R C Cu Cw ⟨F1,F2,F3,F4,F5⟩ w (.agg #[.int .i64 R,.int .i64 C,.slice so R sc,.int .i64 R,.int .i64 Cu,.slice uo R uc,.int .i64 R,.int .i64 Cu,.slice vo R vc,.int .i64 C,.int .i64 Cw,.slice wo C wc,.int .i64 C,.int .i64 Cw,.slice xo C xc]):=by
 obtain⟨bot,top,g1,g2⟩:=h.gh;have M1:(⟨k1,s1,R,C,F1⟩:MS)∈ [(⟨k1,s1,R,C,F1⟩:MS),⟨k2,s2,R,Cu,F2⟩,⟨k3,s3,R,Cu,F3⟩,⟨k4,s4,C,Cw,F4⟩,⟨k5,s5,C,Cw,F5⟩]:=by simp
 have M2:(⟨k2,s2,R,Cu,F2⟩:MS)∈ [(⟨k1,s1,R,C,F1⟩:MS),⟨k2,s2,R,Cu,F2⟩,⟨k3,s3,R,Cu,F3⟩,⟨k4,s4,C,Cw,F4⟩,⟨k5,s5,C,Cw,F5⟩]:=by simp
 have M3:(⟨k3,s3,R,Cu,F3⟩:MS)∈ [(⟨k1,s1,R,C,F1⟩:MS),⟨k2,s2,R,Cu,F2⟩,⟨k3,s3,R,Cu,F3⟩,⟨k4,s4,C,Cw,F4⟩,⟨k5,s5,C,Cw,F5⟩]:=by simp
 have M4:(⟨k4,s4,C,Cw,F4⟩:MS)∈ [(⟨k1,s1,R,C,F1⟩:MS),⟨k2,s2,R,Cu,F2⟩,⟨k3,s3,R,Cu,F3⟩,⟨k4,s4,C,Cw,F4⟩,⟨k5,s5,C,Cw,F5⟩]:=by simp
 have M5:(⟨k5,s5,C,Cw,F5⟩:MS)∈ [(⟨k1,s1,R,C,F1⟩:MS),⟨k2,s2,R,Cu,F2⟩,⟨k3,s3,R,Cu,F3⟩,⟨k4,s4,C,Cw,F4⟩,⟨k5,s5,C,Cw,F5⟩]:=by simp
 obtain⟨a1,a2,_,a3,so,sc,bS,rfl,a5,a6⟩:=g1 _ M1 l1;obtain⟨b1,b2,_,b3,uo,uc,bU,rfl,b5,b6⟩:=g1 _ M2 l2;obtain⟨c1,c2,_,c3,vo,vc,bV,rfl,c5,c6⟩:=g1 _ M3 l3;obtain⟨d1,d2,_,d3,wo,wc,bW,rfl,d5,d6⟩:=g1 _ M4 l4;obtain⟨e1,e2,_,e3,xo,xc,bX,rfl,e5,e6⟩:=g1 _ M5 l5;have r12:=g2 _ M1 _ M2 o1 l1 l2;have r13:=g2 _ M1 _ M3 (by dsimp only;omega) l1 l3;have r14:=g2 _ M1 _ M4 (by dsimp only;omega) l1 l4;have r15:=g2 _ M1 _ M5 (by dsimp only;omega) l1 l5;have r23:=g2 _ M2 _ M3 (by dsimp only;omega) l2 l3;have r24:=g2 _ M2 _ M4 (by dsimp only;omega) l2 l4;have r25:=g2 _ M2 _ M5 (by dsimp only;omega) l2 l5;have r34:=g2 _ M3 _ M4 (by dsimp only;omega) l3 l4;have r35:=g2 _ M3 _ M5 (by dsimp only;omega) l3 l5;have r45:=g2 _ M4 _ M5 (by dsimp only;omega) l4 l5;refine⟨so,sc,uo,uc,vo,vc,wo,wc,xo,xc,a3,b3,c3,d3,e3,⟨so,sc,uo,uc,vo,vc,wo,wc,xo,xc,bS,bU,bV,bW,bX,rfl,a5,b5,c5,d5,e5,?_,yR a6 b6 r12,yR a6 c6 r13,yR a6 d6 r14,yR a6 e6 r15,yR b6 c6 r23,yR b6 d6 r24,yR b6 e6 r25,yR c6 d6 r34,yR c6 e6 r35,yR d6 e6 r45⟩⟩;rintro b (hb|hb|hb|hb|hb)
 ·exact Nat.le_trans a1 (a6 b hb).1
 ·exact Nat.le_trans b1 (b6 b hb).1
 ·exact Nat.le_trans c1 (c6 b hb).1
 ·exact Nat.le_trans d1 (d6 b hb).1
 ·exact Nat.le_trans e1 (e6 b hb).1
def zP7:Array Value:=#[.int .i64 0,.int .i64 0,.slice none 0 0,.int .i64 0,.int .i64 0,.slice none 0 0,.int .i64 0,.int .i64 0,.slice none 0 0,.int .i64 0,.int .i64 0,.slice none 0 0,.int .i64 0,.int .i64 0,.slice none 0 0]
structure zJt(w:World)(f:Value)(R C:Nat)(S U V W X:List (List Int)):Prop where
 ex:∃s u v x y,f= .agg #[.int .i64 R,.int .i64 C,s,.int .i64 R,.int .i64 R,u,.int .i64 R,.int .i64 R,v,.int .i64 C,.int .i64 C,x,.int .i64 C,.int .i64 C,y]/\qX w s S/\qX w u U/\qX w v V/\qX w x W/\qX w y X
theorem zFR(n:Nat)(w:World)(hn:n<=1000000):Calls Tryz.prog 84 #[.int .i64 n] w fun e w'=>∃v,e= .returned v/\zCP n n idf w.heap.size w'.heap.size w' v/\Below w.heap.size w w':=
 (zFu n w hn).mono fun _ _ hr=>hr.within
def zQo(R C:Nat)(F:Nat->Nat->Int):World->Value->Prop:=fun w v=>∃o c,v= .agg #[.int .i64 R,.int .i64 C,.slice o R c]/\qX w (.slice o R c) (genM R C F)
theorem jH{B base:Nat}{w a b:World}(h:Below B w a)(ho:zM (fun k=>base<=k) a b)(hB:B<=base)(hsz:B<=a.heap.size):Below B w b:=
 ⟨ho.bel.os.trans h.os,ho.bel.tape.trans h.tape,ho.bel.output.trans h.output,Nat.le_trans h.size ho.bel.size,fun k hk=>(ho.old k oM oM).trans (h.block k hk)⟩
theorem qX.off{w w':World}{v:Value}{M:List (List Int)}{g:Nat}{T:TypeId}{cs:Array Value}(h:qX w v M)(hg:Blk w g T cs)(h1:T≠tR)(h2:T≠tI)(ho:∀b,b≠g->w'.heap[b]?=w.heap[b]?)(hx:yI w w'):qX w' v M:=by
 obtain⟨ao,n,cap,e1,e2,e3,e4,e5⟩:=h;refine⟨ao,n,cap,e1,e2,e3,e4,fun hn=>?_⟩;obtain⟨b,cs',q1,q2,q3⟩:=e5 hn;have hne:∀{c:Nat} {U:TypeId} {ds:Array Value},w.heap[c]?=some (.cells ds U (0,0))->T≠U->c≠g:=by
  intro c U ds hc hT hh;subst hh;have hg':w.heap[c]?=some (.cells cs T (0,0)):=hg;rw[hg']at hc;injection hc with hc
  injection hc with _ ht
  exact hT ht
 refine⟨b,cs',q1,(ho b (hne q2 h1)).trans q2,fun k zs hk=>?_⟩;obtain⟨rv,r1,ao',n',cap',r2,r3,r4,r5,r6⟩:=q3 k zs hk;refine⟨rv,r1,ao',n',cap',r2,r3,r4,r5,fun hz=>?_⟩;obtain⟨b',s1,cs2,s2,s3⟩:=r6 hz;exact⟨b',s1,cs2,(ho b' (hne s2 h2)).trans s2,fun k z hk=>by
  obtain⟨a1,a2,a3,a4,a5,a6,a7⟩:=s3 k z hk;exact⟨a1,a2,a3,a4,a5,a6,a7.ext hx⟩⟩
theorem zNv{C:Nat}{F:Nat->Nat->Int}{i c:Nat}(hc:c<C)(h:F i c≠0)(hz:∀t,t<c->F i t=0):lead C F i=(c:Int):=by
 rcases zAO C F i with⟨-,h2⟩|⟨j,h1,h2,h3,h4⟩
 ·exact absurd (h2 c hc) h
 ·rcases Nat.lt_trichotomy j c with h5|h5|h5
  ·exact absurd (hz j h5) h3
  ·rw[h1,h5]
  ·exact absurd (h4 c h5) h
theorem zCE{C:Nat}{F:Nat->Nat->Int}{i:Nat}(hz:∀t,t<C->F i t=0):lead C F i=-1:=by
 rcases zAO C F i with⟨h1,-⟩|⟨j,h1,h2,h3,h4⟩
 ·exact h1
 ·exact absurd (hz j h2) h3
theorem zD4{C:Nat}{F:Nat->Nat->Int}{i:Nat}(h:lead C F i<0):∀t,t<C->F i t=0:=by
 rcases zAO C F i with⟨-,h1⟩|⟨j,h1,-⟩
 ·exact h1
 ·omega
theorem zJB{C:Nat}{F G:Nat->Nat->Int}{i j:Nat}(h:∀t,t<C->F i t=G j t):lead C F i=lead C G j:=by
 unfold lead;rw[qA h]
structure Ech(C r:Nat)(c:Nat->Nat)(F:Nat->Nat->Int):Prop where
 lt:∀k,k<r->c k<C
 pos:∀k,k<r->0<F k (c k)
 zero:∀k,k<r->∀t,t<c k->F k t=0
 inc:∀k l,k<l->l<r->c k<c l
theorem Ech.lead{C r:Nat}{c:Nat->Nat}{F:Nat->Nat->Int}(h:Ech C r c F){k:Nat}(hk:k<r):lead C F k=(c k:Int):=zNv (h.lt k hk) (by have:=h.pos k hk;omega) (h.zero k hk)
def zO0(k:Nat):Nat->List Op
 |0=>[]
 |m+1=>.swap (k+m+1) (k+m)::zO0 k m
def zQ0(k m a:Nat):Nat:=if a=k then k+m else if k<a/\a<=k+m then a-1 else a
theorem zDU{Z a b:Nat}(hZ:1<=Z)(h:a<=b):Z^a<=Z^b:=Nat.pow_le_pow_right hZ h
def zQN(Cs m rank:Nat)(F G:Nat->Nat->Int)(b:Bool)(c':Nat->Nat):Prop:=
 Ech Cs (if b then rank+1 else rank) c' G/\(∀a,(if b then rank+1 else rank)<=a->a<=m->∀t,t<Cs->G a t=0)/\∀a,m<a->∀t,G a t=F a t
def zGL(P:Nat->Nat->Prop)(r:Nat)(c:Nat->Nat)(F:Nat->Nat->Int):Prop:=∀i j,i<j->j<r->P i j->0<=F i (c j)/\F i (c j)<F j (c j)
def zM8(rank:Nat):Nat->Nat
 |0=>0
 |i+1=>(rank-(i+1))+zM8 rank i
structure Hnf(C n r:Nat)(c:Nat->Nat)(F:Nat->Nat->Int):Prop where
 le:r<=n
 ech:Ech C r c F
 red:zGL (fun _ _=>True) r c F
 zero:∀a,r<=a->a<n->∀t,t<C->F a t=0
def ecE:Nat->Nat->Nat
 |0,_=>1
 |l+1,m=>4^m*2^(m*(m+1)/2)*ecE l (m+1)
def KE:Nat:=4194304
end Go.Proofs.YtgnmdddaiefooaaGreat
