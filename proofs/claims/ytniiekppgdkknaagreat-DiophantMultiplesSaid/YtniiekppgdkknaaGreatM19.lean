/- Joined. -/
import Derived.Test.YtniiekppgdkknaaGreatM13
import Derived.Test.YtniiekppgdkknaaGreatM14
import Derived.Test.YtniiekppgdkknaaGreatM18
set_option linter.unusedVariables false
set_option linter.unusedSimpArgs false
set_option linter.unusedSectionVars false
set_option maxHeartbeats 16000000
set_option maxRecDepth 100000
variable{ops:Array Go.Oper}{k n:Nat}{v:Go.Value}{w:Go.World}
namespace Go.Proofs.YtniiekppgdkknaaGreat
open Go.RowKit
structure AS where
 op:Nat
 slot:Nat
 m:MS
structure RX(W:World)(T0:Array Value)(vs:List VS)(ms:List MS)(al_:List AS)(L:Array Bool)(T:Array Value)(w:World):Prop where
 g:RG W T0 vs ms L T w
 wf:∀a∈al_,a.m∈ms/\∃s∈vs,s.op=a.op/\s.slot=a.slot
 al:∀a∈al_,L[a.op]?=some true->L[a.m.op]?=some true/\∃o c,T[a.m.slot]?=some (.agg #[niq a.m.R,niq a.m.C,.slice o a.m.R c])/\T[a.slot]?=some (.slice o a.m.R c)
section
variable {W:World} {T0:Array Value} {vs:List VS} {ms:List MS} {al_:List AS} {L:Array Bool} {T:Array Value} {w w':World}
theorem RX.start(c:zNl T0.size vs ms=true)(hv:∀s∈vs,zAA s.P)(b:∀a∈al_,a.m∈ms/\∃s∈vs,s.op=a.op/\s.slot=a.slot):RX W T0 vs ms al_ (Array.replicate n false) T0 W.drew:=
 ⟨RG.start c hv,b,fun a _ h=>by
  rw[Array.getElem?_replicate]at h;split at h<;>simp at h⟩
theorem RX.world(h:RX W T0 vs ms al_ L T w)(a:BWq w w'):RX W T0 vs ms al_ L T w':=⟨h.g.world a,h.wf,h.al⟩
theorem RX.value(h:RX W T0 vs ms al_ L T w)(s:VS)(d:s∈vs)(g:s.op=k)(n:s.P w v)(i:∀a∈al_,a.op≠k):RX W T0 vs ms al_ (L.setIfInBounds k true) (T.setIfInBounds s.slot v) w:=by
 obtain⟨y,C,D,E,j,F,G⟩:=h.g.parts;refine⟨h.g.value s d g n,h.wf,fun a b p=>?_⟩;subst g;obtain⟨f,t,r,l,m⟩:=h.wf a b;have q:L[a.op]?=some true:=qR p (fun e=>i a b e.symm);obtain⟨z,o,c,A,B⟩:=h.al a b q;have u:s.slot≠a.m.slot:=(j s d _ f).1;have x:s.slot≠a.slot:=by
  rw[<-m];intro e;have:=qV y d r e;subst this;exact i a b l.symm
 refine⟨?_,o,c,by rw[xgc u];exact A,by rw[xgc x];exact B⟩;rw[xgc (j s d _ f).2];exact z
theorem RX.y(h:RX W T0 vs ms al_ L T w){s:VS}(e:s∈vs)(b:s.P w v)(d:∀a∈al_,a.op≠k)(c:s.op=k:=by rfl):RX W T0 vs ms al_ (L.setIfInBounds k true) (T.setIfInBounds s.slot v) w:=h.value s e c b d
theorem RX.alias(h:RX W T0 vs ms al_ L T w)(a:AS)(M:a∈al_)(s:VS)(d:s∈vs)(f:s.op=a.op)(C:s.slot=a.slot)(y:s.P w v)(B:L[a.m.op]?=some true)(z:∀b∈al_,b.op=a.op->b=a)
  {o:Option Addr} {c:Nat} (u:T[a.m.slot]?=some (.agg #[niq a.m.R,niq a.m.C,.slice o a.m.R c])) (x:v= .slice o a.m.R c):RX W T0 vs ms al_ (L.setIfInBounds a.op true) (T.setIfInBounds s.slot v) w:=by
 obtain⟨G,N,O,P,n,H,Q⟩:=h.g.parts;refine⟨h.g.value s d f y,h.wf,fun b g A=>?_⟩;obtain⟨i,t,D,q,r⟩:=h.wf b g;have l:s.slot≠b.m.slot:=(n s d _ i).1;have m:s.op≠b.m.op:=(n s d _ i).2;by_cases j:b=a
 .subst j
  refine⟨by rw[xgc (by rw[<-f];exact m)];exact B,o,c,by rw[xgc l];exact u,?_⟩;rw[<-C,Array.getElem?_setIfInBounds_self_of_lt (by rw[h.g.size];exact H _ d),x]
 have k:b.op≠a.op:=fun e=>j (z b g e)
 obtain⟨I,F,p,J,K⟩:=h.al b g (qR A (zL k));have E:s.slot≠b.slot:=by
  rw[<-r];intro e;have:=qV G d D e;subst this;exact k (q.symm.trans f)
 exact⟨by rw[xgc (by rw[<-f];exact m)];exact I,F,p,by rw[xgc l];exact J,by rw[xgc E];exact K⟩
theorem RX.mat(h:RX W T0 vs ms al_ L T w)(u:zCH ops L)(g:L[k]?=some false)(m:MS)(b:m∈ms)(j:m.op=k)(s:BWq w w')(z:zHC m.R m.C m.F w.heap.size w'.heap.size w' v)
  (y:(ms.all fun m'=>!decide (k<m'.op)||zHU ops 9 m'.op k)=true):RX W T0 vs ms al_ (L.setIfInBounds k true) (T.setIfInBounds m.slot v) w':=by
 obtain⟨I,J,E,F,p,K,M⟩:=h.g.parts;refine⟨h.g.mat u g m b j s z y,h.wf,fun a i x=>?_⟩;subst j;obtain⟨f,t,n,q,r⟩:=h.wf a i;have C:m.op≠a.op:=by rw[<-q];exact fun e=>(p t n m b).2 e.symm
 have D:m.slot≠a.slot:=by rw[<-r];exact fun e=>(p t n m b).1 e.symm
 obtain⟨d,o,c,G,H⟩:=h.al a i (qR x C);have l:m≠a.m:=fun e=>by
  rw[<-e,g]at d;cases d
 have A:m.slot≠a.m.slot:=fun e=>l (qV E b f e)
 have B:m.op≠a.m.op:=fun e=>l (qV F b f e)
 exact⟨by rw[xgc B];exact d,o,c,by rw[xgc A];exact G,by rw[xgc D];exact H⟩
end
def RXS(W:World)(T0:Array Value)(vs:List VS)(ms:List MS)(al_:List AS)(q:Nat)(st:Array Value->World->World)(L:Array Bool)(T:Array Value)(w:World):Prop:=
 ∃w0,RX W T0 vs ms al_ L T w0/\(L[q]?≠some true->w=w0)/\(L[q]?=some true->w=st T w0)
section
variable {W:World} {T0:Array Value} {vs:List VS} {ms:List MS} {al_:List AS} {L:Array Bool} {T:Array Value} {w w':World} {q:Nat} {st:Array Value->World->World}
theorem RXS.start(h:RX W T0 vs ms al_ (Array.replicate n false) T0 W.drew):RXS W T0 vs ms al_ q st (Array.replicate n false) T0 W.drew:=
 ⟨_,h,fun _=>rfl,fun a=>by
  rw[Array.getElem?_replicate]at a;split at a<;>simp at a⟩
theorem RX.mark(h:RX W T0 vs ms al_ L T w)(i:∀s∈vs,s.op≠q)(f:∀m∈ms,m.op≠q):RX W T0 vs ms al_ (L.setIfInBounds q true) T w:=by
 obtain⟨l,B,p,r⟩:=h.g.gh;have d:∀m∈ms,(L.setIfInBounds q true)[m.op]?=some true->L[m.op]?=some true:=fun m c b=>qR b (zL (f m c))
 refine⟨⟨h.g.wf,h.g.lv,h.g.size,h.g.keep,h.g.bel,fun s j b=>h.g.val s j (qR b (zL (i s j))),l,B,fun m c b=>p m c (d m c b),fun m c k g u x y=>r m c k g u (d m c x) (d k g y)⟩,h.wf,fun a e b=>?_⟩;obtain⟨n,t,v,o,C⟩:=h.wf a e;obtain⟨z,A⟩:=h.al a e (qR b (by rw[<-o];exact zL (i t v)));exact⟨by rw[xgc (zL (f _ n))];exact z,A⟩
theorem zV.liftX{P:Program}{Q:Exit->Act->World->Prop}{b:List Deferred}{i:Nat}{o:Oper}(m:zHU ops 5 q i=true)(l:i≠q)
  (h:zV P ops Q b (RX W T0 vs ms al_) i o):zV P ops Q b (RXS W T0 vs ms al_ q st) i o:=by
 intro L T w c hd e hI K hK;obtain⟨p,j,k,n⟩:=hI;have d:L[q]?≠some true:=fun a=>by
  have:=zDC e m a;rw[c]at this;cases this
 obtain rfl:=k d;exact h L T w c @hd e j K (fun f w' g=>hK f w' ⟨w',g,fun _=>rfl,fun a=>absurd (qR a l) d⟩)
theorem RXS.step{b:Array Value}(h:RXS W T0 vs ms al_ q st L T w)(l:∀a,RX W T0 vs ms al_ L T a->RX W T0 vs ms al_ (L.setIfInBounds k true) b a)(i:k≠q)(j:∀w,st b w=st T w):RXS W T0 vs ms al_ q st (L.setIfInBounds k true) b w:=by
 obtain⟨a,d,e,f⟩:=h;exact⟨a,l a d,fun g=>e fun c=>g (zAv c),fun c=>(f (qR c i)).trans (j a).symm⟩
theorem RXS.store(h:RX W T0 vs ms al_ L T w)(a:L[q]?=some false)(d:∀s∈vs,s.op≠q)(b:∀m∈ms,m.op≠q)(e:w'=st T w):RXS W T0 vs ms al_ q st (L.setIfInBounds q true) T w':=
 ⟨w,h.mark d b,fun c=>absurd (Array.getElem?_setIfInBounds_self_of_lt (Array.getElem?_eq_some_iff.1 a).1) c,fun _=>e⟩
theorem RXS.here(h:RXS W T0 vs ms al_ q st L T w)(c:L[q]?=some false):RX W T0 vs ms al_ L T w:=by
 obtain⟨d,a,b,-⟩:=h;obtain rfl:=b (by rw[c];simp);exact a
end
def zWu:Array Value:=#[niq 0,niq 0,.slice none 0 0,niq 0,niq 0,.slice none 0 0,niq 0,niq 0,.slice none 0 0,niq 0,niq 0,.slice none 0 0,niq 0,niq 0,.slice none 0 0]
theorem zJC(n:Nat)(w:World)(a:n<=1000000):CPq 67 #[niq n] w fun e w'=>∃v,e= .returned v/\zHC n n idf w.heap.size w'.heap.size w' v/\BWq w w':=
 (zJ2 n w a).mono fun _ _ b=>b.within
def zXh(R C:Nat)(F:Nat->Nat->Int):World->Value->Prop:=fun w v=>∃o c,v= .agg #[niq R,niq C,.slice o R c]/\zBl w (.slice o R c) (yV R C F)
theorem zIq{B base:Nat}{a b:World}(h:Below B w a)(c:jB (fun k=>base<=k) a b)(e:B<=base)(f:B<=a.heap.size):Below B w b:=
 ⟨c.bel.os.trans h.os,c.bel.tape.trans h.tape,c.bel.output.trans h.output,zF h.size c.bel.size,fun k d=>(c.old k oM oM).trans (h.block k d)⟩
theorem zBl.off{w':World}{M:List (List Int)}{g:Nat}{T:TypeId}{cs:Array Value}(h:zBl w v M)(L:Blk w g T cs)(I:T≠tR)(J:T≠tI)(j:∀b,b≠g->w'.heap[b]?=w.heap[b]?)(R:zBC w w'):zBl w' v M:=by
 obtain⟨x,n,z,D,E,F,G,H⟩:=h;refine⟨x,n,z,D,E,F,G,fun P=>?_⟩;obtain⟨b,B,W,l,X⟩:=H P;have i:∀{c:Nat} {U:TypeId} {f:Array Value},w.heap[c]?=some (.cells f U (0,0))->T≠U->c≠g:=by
  intro c U f a K O;subst O;have N:w.heap[c]?=some (.cells cs T (0,0)):=L;rw[N]at a;injection a with a
  injection a with _ Q
  exact K Q
 refine⟨b,B,W,(j b (i l I)).trans l,fun k zs d=>?_⟩;obtain⟨rv,Y,y,V,A,Z,r3,r4,r5,r6⟩:=X k zs d;refine⟨rv,Y,y,V,A,Z,r3,r4,r5,fun S=>?_⟩;obtain⟨e,s1,C,m,s3⟩:=r6 S;exact⟨e,s1,C,(j e (i m J)).trans m,fun k a0 d=>by
  obtain⟨o,p,q,r,s,t,u⟩:=s3 k a0 d;exact⟨o,p,q,r,s,t,u.ext R⟩⟩
def zf:Nat->Nat->Int:=fun _ _=>0
def nzL(l:List Int):List Int:=l.filter (fun z=>decide (z≠0))


theorem zMz(w:World):CallsD Tryz.prog 83 #[] .returning w fun e b w'=>e= .returned (.tuple #[])/\b= .returning/\w'=w:=by
 refine callsD_of_wpS Tryz.func83 rfl fun a c d=>?_
 apply wpS_region;cases a;simp_all [wpOpsS,go_sem,recoverD,Tryz.ntmps83,bodyPostS,results,Tryz.results83]
theorem zJB(v D:Value)(zs:List Int)(M:List (List Int))(m C:Nat)(w:World)(h:zAR w v zs)(a:zAo w D m C M)(B:zs.length=m)(hF:zBe m C M)(Q:m<=1000000)(N:C<=1000000)(x:zGi zs M m C):
  Calls Tryz.prog 40 #[v,D] w fun e w'=>∃v,e= .returned (.tuple #[v,.int .i64 0])/\zG9 w.heap.size C (qQ C (zFm zs M m)) w' v/\Below w.heap.size w w':=by
 have P:decide (zAq m C M)=true:=zT hF.valid;have i:=xgv a;obtain⟨A,rfl,a⟩:=a;obtain⟨U,n,c,rfl,s,V,W,-⟩:=id a;obtain rfl:m=n:=by rw[<-s,hF.1]
 have I:=xgv h;obtain⟨vo,R,a2,rfl,K,X,Y,-⟩:=id h;obtain rfl:m=R:=by omega
 have F:=xgv B;have E:=xgv hF;have H:=xgv x;clear B hF x s K a h;have a0:∀(t:Fn) (first c:Array Value) (w:World),(Instr.makeFunc t first c).run Tryz.prog w= .ok (.func t first c) w:=fun _ _ _ _=>rfl
 go_enter_defers Tryz.func40,Tryz.ntmps40;go_upto_region 1 with(fail)
 refine zE ?_;intro J y;obtain⟨u,bx,a1⟩:=qL y;obtain⟨j,k,l,o,p,r⟩:=bx.three;clear y;go_wp2_with fail
 refine(zBM _ m C M J (i.out.I u)).mono ?_;rintro e T ⟨rfl,z⟩;rw[P];have bx:=bx.I z;have b:=nx u z;clear j k l o p r;obtain⟨j,k,l,o,p,r⟩:=bx.three;go_wp2_with fail
 refine(zOH _ _ zs M m C T (I.out.I b) (i.out.I b) F.out E.out Q N H.out).mono ?_;rintro e w2 ⟨v2,rfl,d,O⟩;have L:=nx b O;have q:=b.size;go_wp2;refine leaves_cons (f:=83) (args:=#[]) sI (by simp[go_sem]) ?_;refine(zMz _).mono ?_;rintro e u' S ⟨rfl,rfl,rfl⟩;obtain⟨g,rfl,Z,d⟩:=d;have G:=xgv (show zG9 w.heap.size C (qQ C (zFm zs M m)) S (.slice (some ⟨g,0,none⟩) C C) from⟨g,rfl,by omega,d⟩);simp only[Leaves,settle];simp[results,Tryz.results40,go_sem];exact⟨G.out,L⟩
def zTf(t:TypeId)(n0:Nat)(cs:Array Value)(w:World)(v:Value):Prop:=∃b,v=ptq b 0/\n0<=b/\Blk w b t cs
theorem zED(t:TypeId)(n0:Nat)(cs:Array Value):zAA (zTf t n0 cs):=fun _ _ _ e ⟨b,a,c,d⟩=>⟨b,a,c,d.I e⟩
def zTh(R C:Int)(M:List (List Int))(w:World)(v:Value):Prop:=∃u,v= .tuple #[u,niq 0]/\zAo w u R C M
end Go.Proofs.YtniiekppgdkknaaGreat
