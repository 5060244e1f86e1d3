/- Joined. -/
import Derived.Test.YtkidaebmhlijlaaGreatE20
set_option linter.unusedVariables false
set_option linter.unusedSimpArgs false
set_option linter.unusedSectionVars false
set_option maxHeartbeats 16000000
set_option maxRecDepth 100000
variable{cs:Array Go.Value}{e0:Bool}{d x:Int}{zs:List Int}{bs:List Nat}{B C Cs Ct M R a b bw c e g i j k m n r:Nat}{κ ρ:Nat->Nat}{F:Nat->Nat->Int}{P Z:Nat->Prop}{A Ah:Go.Value}{w w':Go.World}
namespace Go.Proofs.YtkidaebmhlijlaaGreat
open Go.RowKit
structure LOk(n Cs m:Nat)(x:Bst)(L:List (Nat × Nat)):Prop where
 mem:∀k,k<L.length->(L.getD k (0,0)).1<m/\(L.getD k (0,0)).1<n/\(L.getD k (0,0)).2<Cs/\x.s (L.getD k (0,0)).1 (L.getD k (0,0)).2≠0
 inc:∀i j,i<j->j<L.length->(L.getD i (0,0)).2<(L.getD j (0,0)).2
 inj:∀i j,i<j->j<L.length->(L.getD i (0,0)).1≠(L.getD j (0,0)).1
 len:L.length<=n
structure zXB(B n Cs Ct:Nat)(J J':Nat->Bst->List (Nat × Nat)->Prop):Prop where
 ok:∀m x L,J m x L->okB B n Cs Ct x/\LOk n Cs m x L
 ok':∀m x L,m<n->J' m x L->okB B n Cs Ct x/\LOk n Cs (m+1) x L
 zero:∀m x L,m<n->J m x L->lead Cs x.s m<0->J' m x L
 join:∀(m:Nat) (x:Bst) (L:List (Nat × Nat)) (k c:Nat),m<n->J m x L->lead Cs x.s m=(c:Int)->k<L.length->(L.getD k (0,0)).2=c->
  (x.s m c%x.s (L.getD k (0,0)).1 c=0->zEn B n Cs Ct x m (L.getD k (0,0)).1 (-(x.s m c/x.s (L.getD k (0,0)).1 c)))∧
  (∀s t,Bez (x.s (L.getD k (0,0)).1 c) (x.s m c) s t->zT3 B n Cs Ct x (L.getD k (0,0)).1 m s t (-(x.s m c/((Int.gcd (x.s (L.getD k (0,0)).1 c) (x.s m c):Nat):Int))) (x.s (L.getD k (0,0)).1 c/((Int.gcd (x.s (L.getD k (0,0)).1 c) (x.s m c):Nat):Int)))∧
  ∀y,zQx x (L.getD k (0,0)).1 m c y->J m y L/\(lead Cs y.s m<0∨(c:Int)<lead Cs y.s m)
 ins:∀(m:Nat) (x:Bst) (L:List (Nat × Nat)) (k c:Nat),m<n->J m x L->lead Cs x.s m=(c:Int)->k<=L.length->(∀i,i<k->(L.getD i (0,0)).2<c)->(∀i,k<=i->i<L.length->c<(L.getD i (0,0)).2)->
  J' m (if x.s m c<0 then x.neg m else x) (L.take k++(m,c)::L.drop k)
 red:∀m x L,m<n->J' m x L->∃y,zKt B n Cs Ct (fun k=>(L.getD k (0,0)).1) (fun k=>(L.getD k (0,0)).2) L.length L.length x=some y/\J (m+1) y L
theorem zEV.rowB{e:Bool}{d:Nat}{x:Bst}(h:zEV e Z w' bw (slq g a d) n Cs Ct x)(j:i<n)(hc:w.cell? ⟨g,i,none⟩=some (slq b Cs Cs))(k:w'.heap[g]?=w.heap[g]?):jY w' b (yV Cs (x.s i)):=by
 obtain⟨m,c,l,-⟩:=h.row j;have f:w'.cell? ⟨g,i,none⟩=w.cell? ⟨g,i,none⟩:=by unfold World.cell?;rw[k]
 rw[f,hc]at c;injection c with c
 injection c with c
 injection c with c
 injection c with c
 subst c;exact l
theorem zDu(h:lead C F i=(c:Int)):c<C/\F i c≠0:=by
 rcases zCp C F i with⟨a,-⟩|⟨j,a,b,d,-⟩
 omega;obtain rfl:j=c:=oM;exact⟨b,d⟩
theorem zMO:zCL 0 (yV C (F i))=lead C F i:=rfl
theorem qAD(h:Wri w A R C bs F)(c:Blk w b zEc cs):¬ Zn A bs b:=by
 rintro(a|a)
 .obtain⟨r,f⟩:=h.blk a
  exact zM9 c f dE rfl
 rcases(qH.own h).2 with⟨rfl,-⟩|⟨g,i,j,rfl,-,d,-⟩
 cases a;simp only[Value.ownBlock,Option.some.injEq]at a;subst a;have e:zEc=tR:=congrArg (fun o:Option Obj=>match o with|some (Obj.cells _ t _)=>t|_=>0) (c.symm.trans d);exact absurd e dE
theorem zJf{t:TypeId}(h:Blk w g t cs)(f:¬ t=zEc)(e:qK P w w')(c:∀b,P b->∃cs,Blk w b zEc cs):Blk w' g t cs:=
 e.blk h fun d=>by
  obtain⟨i,a⟩:=c g d;exact f (congrArg (fun o:Option Obj=>match o with|some (Obj.cells _ t _)=>t|_=>0) (h.symm.trans a))
theorem zEV.pivs{e:Bool}{x:Bst}(h:zEV e Z w bw Ah n Cs Ct x)(j:qK P w w')(f:∀b,P b->∃cs,Blk w b zEc cs):zEV e Z w' bw Ah n Cs Ct x:=by
 have i:∀{A:Value} {R C:Nat} {bs:List Nat} {F:Nat->Nat->Int},Wri w A R C bs F->Wri w' A R C bs F:=fun {A R C bs F} k=>k.keepZ j fun b z B=>by
  obtain⟨cs,c⟩:=f b B;exact qAD k c z
 have s:∀{A:Value} {n:Nat},zFZ w A n->zFZ w' A n:=fun {A n} k=>by
  obtain⟨g,v,cs,c,a,d,p,q⟩:=k;exact⟨g,v,cs,c,a,d,zJf p dE j f,q⟩
 unfold zEV at h ⊢
 split at h
 .rename_i r
  rw[zB r];obtain⟨l,m,o,t,u,c,a,d⟩:=h;exact⟨l,m,o,t,u,zJf c dE j f,⟨i a.s,i a.t,i a.i,a.st,a.si,a.ti,a.ast,a.asi,a.ati⟩,d⟩
 rename_i r;rw[zA r];obtain⟨y,l,m,o,c,a,d,p,q⟩:=h;exact⟨y,l,m,o,zJf c dE j f,i a,s d,s p,q⟩
theorem zIj.blk{base:Nat}{v:Value}{L:List (Nat × Nat)}(h:zIj w base v L):∀g,v.ownBlock=some g->∃cs,Blk w g zEc cs:=by
 intro g a;rcases h.2 with⟨rfl,f⟩|⟨e,d,b,rfl,i,c,j,k,l,m⟩
 cases a;simp only[Value.ownBlock,Option.some.injEq]at a;subst a;exact⟨b,c⟩
theorem zB0.z{S:List Nat}(h:zB0 S w w'):qK (fun b=>b∈S) w w':=⟨h.bel,h.lext,fun k a c=>h.old k a c⟩
theorem zMC(hB:BSd B){x:Bst}{a7 J':Nat->Bst->List (Nat × Nat)->Prop}(hE:zXB B n Cs Ct a7 J')(h:zEV e0 Z w bw Ah n Cs Ct x)(h0:a7 0 x [])
  (N:n<=1000000) (a3:Cs<=1000000) (a4:Ct<=1000000) (b9:0<n) (A:∀b,Z b->b<w.heap.size) (c6:∀g,Ah.ownBlock=some g->¬ Z g):
  CPq 143 #[Ah,.agg (zE3 bw)] w fun e w'=>∃v y d,e= .returned v/\qK Z w w'/\zEV e0 Z w' bw Ah n Cs Ct y/\a7 n y d/\zIj w' w.heap.size v d:=by
 have F:=xgv hE;obtain⟨f3,c2,-⟩:=h.wri;obtain⟨so,sn,e4,rfl,s1,s2,s3,-⟩:=id (qH.rows c2);have e2:n=sn:=by rw[<-s1];simp[genM]
 subst e2;obtain⟨g,_,rfl,-⟩:=qH.at_ c2 (i:=0) (by rw[c2.len];exact b9);have c6:=c6 g rfl;have d5:=xgv h0;clear s1 c2 f3 h0 hE;go_enter Tryz.func143,Tryz.ntmps143;go_upto_region 1 with(fail)
 refine zF ?_;intro W0 d8;obtain⟨d6,l,g5⟩:=qJ d8;have l:Blk W0 w.heap.size 167 (zE3 bw):=l;have f:=qK.of Z d6;have j:=h.I d6;have a:=xgv (zIj.nil W0 w.heap.size);clear d8 h;go_wp2;go_loopw [5,12] (fun pv mv wr=>∃(m:Nat) (x:Bst) (d:List (Nat × Nat)),mv= .int .i64 m/\m<=n/\qK Z w wr/\Blk wr w.heap.size 167 (zE3 bw)/\zEV e0 Z wr bw (.slice (some ⟨g,0,none⟩) n e4) n Cs Ct x/\jI (a7 m x d)/\jI (zIj wr w.heap.size pv d)) (fun _ mv _=>n-(intOf mv).toNat)
 case atStart=>exact⟨0,x,[],rfl,oM,f,l,j,d5,a⟩
 clear f l j a d5;obtain⟨m,x,d,rfl,hm,f,l,j,t,a⟩:=hrel;by_cases D:m<n
 .obtain⟨bm,o1,Y,lg⟩:=j.row D
  obtain⟨wc,d2⟩:∃wc,wc=wr:=⟨_,rfl⟩;have oc:=o1;rw[<-d2]at oc;have I:wr.heap[g]?=wc.heap[g]?:=by rw[d2]
  have a9:=Y.vec (qN _ _) (xgf _) oM;go_wp2_with fail
  refine(zEz _ _ _ a9).mono ?_;rintro e w1 ⟨rfl,b0⟩;rw[zMO];have j:=j.I b0;have l:=l.I b0;have f:=f.trans (qK.of Z b0);have a:=xgv (a.out.I b0);have I:=(b0.block g oM).trans I;clear o1 Y a9 d2;obtain⟨c0,b3⟩:∃c0,lead Cs x.s m=c0:=⟨_,rfl⟩;have d4:=xgw b3;rw[b3];clear b3;obtain⟨g7,f7⟩:∃g2,g2=u5:=⟨_,rfl⟩;subst f7;obtain⟨ao,e3,rfl,g4,g3,c5⟩:=id a.out.piv;have c5:=xgv c5;go_wp2;go_loopw [5,8,9] (fun pv kv cv wt=>∃(x:Bst) (k:Nat) (c:Int),pv= .slice ao d.length e3/\kv= .int .i64 k/\cv= .int .i64 c/\k<=d.length/\Hid (lead Cs x.s m=c)/\jI (∀i,i<k->((d.getD i (0,0)).2:Int)<c∨c<0)/\qK Z w wt/\Blk wt w.heap.size 167 (zE3 bw)/\zEV e0 Z wt bw (.slice (some ⟨g,0,none⟩) n e4) n Cs Ct x/\jI (a7 m x d)/\jI (zIj wt w.heap.size (.slice ao d.length e3) d)/\wt.heap[g]?=wc.heap[g]?) (fun _ _ cv _=>if intOf cv<0 then 0 else Cs-(intOf cv).toNat)
  case atStart=>exact⟨x,0,c0,rfl,rfl,rfl,zH _,d4,⟨fun i hi=>oM⟩,f,l,j,t,a,I⟩
  clear f l j a t d4 I;rename World=>wt
  obtain⟨x,k,c,rfl,rfl,rfl,J,HC,HI,f,l,j,t,a,I⟩:=hrel;by_cases b3:c<0
  .have f5:¬ (0<=c):=oM
   have s:=xgv (F.out.zero m x d D t.out (by rw[HC.out];exact b3));have P:=l.three;go_wp2_with fail
   obtain⟨z,u⟩:=F.out.ok' m x d D s.out;obtain⟨y,hy,Q⟩:=F.out.red m x d D s.out;have o:=a.out.own;refine(zHD hB j z a.out.piv (fun b q E=>by have:=(o b q).1;have:=A b E;omega) (fun k J=>(u.mem k J).2.1) u.inj (fun k J=>(u.mem k J).2.2.1) N a3 a4 u.len (fun b q=>zM (A b q) f.bel.size) b9 hy).mono ?_;rintro e wz ⟨⟨uz,rfl⟩,R,j,-⟩;have l:=R.blk l (fun T=>by have:=A _ T;omega);have a:=xgv (a.out.old (fun g C=>R.old g (o g C).2 (fun E=>by have:=(o g C).1;have:=A g E;omega)));have f:=f.trans R;have t:=xgv Q;clear z u hy Q o P;go_wp2;go_roundw
   case rel=>exact⟨m+1,y,_,by simp,oM,f,l,j,t,a⟩
   case measure=>exact meq
  obtain⟨p,rfl⟩:∃p:Nat,c=(p:Int):=⟨c.toNat,oM⟩;have f5:(0:Int)<=p:=oM;go_wp2;go_loopw [8] (fun kv wv=>∃k:Nat,kv= .int .i64 k/\k<=d.length/\jI (∀i,i<k->(d.getD i (0,0)).2<p)/\wv=wt) (fun kv _=>d.length-(intOf kv).toNat)
  case atStart=>exact⟨k,rfl,J,⟨fun i hi=>by rcases HI.out i hi with h|h<;>omega⟩,rfl⟩
  obtain⟨G,rfl,f6,b6,d3⟩:=hrel;have d3:=d3.symm;subst d3;by_cases d0:G<d.length
  .obtain⟨bp,_,rfl,-,-⟩:=c5.out oM
   obtain⟨-,g6,p1,p2⟩:=a.out.piv.cell d0;obtain⟨a0,hq⟩:∃a0,(d.getD G (0,0)).2=a0:=⟨_,rfl⟩;rw[hq]at p2;have HQ:=xgv hq;clear hq;by_cases f9:a0<p
   .go_wp2
    go_roundw
    case rel=>
     refine⟨G+1,by simp,oM,⟨?_⟩,trivial⟩;intro i hi;rcases Nat.lt_succ_iff_lt_or_eq.1 hi with h|rfl
     exact b6.out i h;rw[HQ.out];exact f9
    case measure=>exact meq
   by_cases g1:a0=p
   .subst g1
    have O:=zDu HC.out;have z:=F.out.ok m x d t.out;obtain⟨c7,c8,c9⟩:=F.out.join m x d G a0 D t.out HC.out d0 HQ.out;obtain⟨m1,m2,m3,m4⟩:=z.2.mem G d0;rw[HQ.out]at m3 m4;have P:=l.three;obtain⟨g8,e1⟩:∃r,(d.getD G (0,0)).1=r:=⟨_,rfl⟩;rw[e1]at p1 c7 c8 c9 m1 m2 m4;have l3:=l.lt;obtain⟨-,-,-,lg⟩:=j.row D;have a6:=xgv z.1;have e6:=xgv c7;have e7:=xgv c8;have e8:=xgv c9;have f0:=xgv m4;have f8:=O.1;clear O z c7 c8 c9 m4 e1;go_upto_region 12 with(fail)
    refine yA 7 [] ?_;refine sRd ?_;refine sRf ?_;intro w5 a5;have j:=j.I a5;have l:=l.I a5;have f:=f.trans (qK.of Z a5);have a:=xgv (a.out.I a5);have I:=(a5.block g lg).trans I;have lg:=zM lg a5.size;clear p1 p2 P;go_wp2_with fail
    refine(zV4 hB j a6.out m2 D oM f8 f0.out N a3 a4 (fun b q=>zM (A b q) f.bel.size) e6.out e7.out).mono ?_;rintro e wj ⟨⟨uj,rfl⟩,b7,y,d7,j⟩;obtain⟨Q,d9⟩:=e8.out y d7;have l:=b7.blk l (fun T=>by have:=A _ T;omega);have o:=a.out.own;have a:=xgv (a.out.old (fun g C=>b7.old g (o g C).2 (fun E=>by have:=(o g C).1;have:=A g E;omega)));have f:=f.trans b7;have I:=(b7.old g lg c6).trans I;have e9:=xgv Q;have c3:=xgv d9;clear d7 Q d9 o;have a9:=(j.rowB D oc I).vec (qN _ _) (xgf _) oM;go_wp2_with fail
    refine(zEz _ _ _ a9).mono ?_;rintro e wl ⟨rfl,b2⟩;rw[zMO];obtain⟨-,-,-,lg⟩:=j.row D;have j:=j.I b2;have l:=l.I b2;have f:=f.trans (qK.of Z b2);have a:=xgv (a.out.I b2);have I:=(b2.block g lg).trans I;clear a9;obtain⟨cy,b8⟩:∃cy,lead Cs y.s m=cy:=⟨_,rfl⟩;have e5:=xgw b8;rw[b8];rw[b8]at c3;clear b8;go_wp2;go_roundw
    case rel=>
     refine⟨y,G,cy,rfl,rfl,rfl,f6,e5,⟨fun i hi=>?_⟩,f,l,j,e9,a,I⟩;have:=b6.out i hi;rcases c3.out with h|h
     exact .inr h;left;omega
    have:=c3.out;have C:(if cy<0 then 0 else Cs-cy.toNat)<(if(a0:Int)<0 then 0 else Cs-((a0:Int)).toNat):=by
     rw[zA (show ¬ ((a0:Int)<0) by omega)];split<;>omega
    exact C
   have u:=(F.out.ok m x d t.out).2.inc;have HG:∀i,G<=i->i<d.length->p<(d.getD i (0,0)).2:=by
    intro i h1 h2;rcases Nat.lt_or_eq_of_le h1 with h|rfl
    .have:=u G i h h2
     have:=HQ.out;omega
    have:=HQ.out;omega
   clear u;have O:=zDu HC.out;have Y:=j.rowB D oc I;obtain⟨xs,xa,xl,xc,v1,v2,f1,f2,hx⟩:=Y.cell (yO O.1);have f4:=O.1;go_wp2_with fail
   refine(zAw _ (x.s m p) wt hx.J).mono ?_;rintro e ws ⟨rfl,W⟩;have j:=j.I W;have l:=l.I W;have f:=f.trans (qK.of Z W);have a:=xgv (a.out.I W);have b4:=O.2;have s:=F.out.ins m x d G p D t.out HC.out oM b6.out HG;have z:=(F.out.ok m x d t.out).1;have d1:d.length<=1000000:=zD (F.out.ok m x d t.out).2.len N;clear O Y v1 v2 f1 f2 hx HG;by_cases L:x.s m p<0;case' pos=>
    rw[zB L]at s;have s:=xgv s;rw[show zAv (x.s m p) 0=-1 by unfold zAv;rw[zB L]];have a6:=xgv z;clear L b4 z;have P:=l.three;go_wp2_with fail
    refine(qBB hB.bsm j a6.out D N a3 a4).mono ?_;rintro e U ⟨⟨un,rfl⟩,a1,j⟩;have l:=a1.blk l (fun T=>by have:=A _ T;omega);have o:=a.out.own;have a:=xgv (a.out.old (fun g C=>a1.old g (o g C).2 (fun E=>by have:=(o g C).1;have:=A g E;omega)));have f:=f.trans a1;clear o P;obtain⟨H,S⟩:∃H,x.neg m=H:=⟨_,rfl⟩;rw[S]at j s;clear S
   case' neg=>
    rw[zA L]at s;have s:=xgv s;rw[show zAv (x.s m p) 0=1 by unfold zAv;rw[zA L,zB oM]];clear L b4 z;obtain⟨H,S⟩:∃H,x=H:=⟨_,rfl⟩;rw[S]at j s;clear S;obtain⟨U,hE⟩:∃c4,c4=ws:=⟨_,rfl⟩;subst hE
   all_goals
    go_wp2_with fail
    obtain⟨M,X⟩:∃M,M=U.alloc (Obj.cells #[Value.int IntKind.i64 m,Value.int IntKind.i64 p] 169):=⟨_,rfl⟩;rw[<-X];have V:BWq U M:=by rw[X];exact(zC _ _).alloc (xgf _) _
    have a8:Blk M U.heap.size zEc #[Value.int IntKind.i64 m,Value.int IntKind.i64 p]:=by rw[X];exact yG _ _ _
    have o:=a.out.own;have j:=j.I V;have l:=l.I V;have f:=f.trans (qK.of Z V);have a:=a.out.I V;clear X;refine(zLH w.heap.size _ d G m p U.heap.size M a oM a8 (fun b q=>Nat.ne_of_lt (o b q).2) f.bel.size d1).mono ?_;rintro e wk ⟨v',rfl,b5,K⟩;have a2:∀b,b∈(Value.ownBlock _).toList->∃cs,Blk M b zEc cs:=fun b q=>a.blk b (by simpa using q)
    have j:=j.pivs K.z a2;have l:=zJf l dE K.z a2;have f:qK Z w wk:=⟨f.bel.trans K.bel,f.lext.trans K.lext,fun b q N=>(K.old b (zM q f.bel.size) (fun hm=>by
     have:=(a.own b (by simpa using hm)).1;omega)).trans (f.old b q N)⟩
    have a:=xgv b5;clear o b5 K a2 a8;have P:=l.three;go_wp2_with fail
    obtain⟨z,u⟩:=F.out.ok' m H (d.take G++(m,p)::d.drop G) D s.out;obtain⟨y,hy,Q⟩:=F.out.red m H (d.take G++(m,p)::d.drop G) D s.out;have o:=a.out.own;refine(zHD hB j z a.out.piv (fun b q E=>by have:=(o b q).1;have:=A b E;omega) (fun k J=>(u.mem k J).2.1) u.inj (fun k J=>(u.mem k J).2.2.1) N a3 a4 u.len (fun b q=>zM (A b q) f.bel.size) b9 hy).mono ?_;rintro e wz ⟨⟨uz,rfl⟩,R,j,-⟩;have l:=R.blk l (fun T=>by have:=A _ T;omega);have a:=xgv (a.out.old (fun g C=>R.old g (o g C).2 (fun E=>by have:=(o g C).1;have:=A g E;omega)));have f:=f.trans R;have t:=xgv Q;clear z u hy Q o P;go_wp2;go_roundw
    case rel=>exact⟨m+1,y,_,by simp,oM,f,l,j,t,a⟩
    case measure=>exact meq
  obtain rfl:G=d.length:=oM;have HG:∀i,d.length<=i->i<d.length->p<(d.getD i (0,0)).2:=fun i h1 h2=>oM
  have O:=zDu HC.out;have Y:=j.rowB D oc I;obtain⟨xs,xa,xl,xc,v1,v2,f1,f2,hx⟩:=Y.cell (yO O.1);have f4:=O.1;go_wp2_with fail
  refine(zAw _ (x.s m p) wt hx.J).mono ?_;rintro e ws ⟨rfl,W⟩;have j:=j.I W;have l:=l.I W;have f:=f.trans (qK.of Z W);have a:=xgv (a.out.I W);have b4:=O.2;have s:=F.out.ins m x d d.length p D t.out HC.out oM b6.out HG;have z:=(F.out.ok m x d t.out).1;have d1:d.length<=1000000:=zD (F.out.ok m x d t.out).2.len N;clear O Y v1 v2 f1 f2 hx HG;by_cases L:x.s m p<0;case' pos=>
   rw[zB L]at s;have s:=xgv s;rw[show zAv (x.s m p) 0=-1 by unfold zAv;rw[zB L]];have a6:=xgv z;clear L b4 z;have P:=l.three;go_wp2_with fail
   refine(qBB hB.bsm j a6.out D N a3 a4).mono ?_;rintro e U ⟨⟨un,rfl⟩,a1,j⟩;have l:=a1.blk l (fun T=>by have:=A _ T;omega);have o:=a.out.own;have a:=xgv (a.out.old (fun g C=>a1.old g (o g C).2 (fun E=>by have:=(o g C).1;have:=A g E;omega)));have f:=f.trans a1;clear o P;obtain⟨H,S⟩:∃H,x.neg m=H:=⟨_,rfl⟩;rw[S]at j s;clear S
  case' neg=>
   rw[zA L]at s;have s:=xgv s;rw[show zAv (x.s m p) 0=1 by unfold zAv;rw[zA L,zB oM]];clear L b4 z;obtain⟨H,S⟩:∃H,x=H:=⟨_,rfl⟩;rw[S]at j s;clear S;obtain⟨U,hE⟩:∃c4,c4=ws:=⟨_,rfl⟩;subst hE
  all_goals
   go_wp2_with fail
   obtain⟨M,X⟩:∃M,M=U.alloc (Obj.cells #[Value.int IntKind.i64 m,Value.int IntKind.i64 p] 169):=⟨_,rfl⟩;rw[<-X];have V:BWq U M:=by rw[X];exact(zC _ _).alloc (xgf _) _
   have a8:Blk M U.heap.size zEc #[Value.int IntKind.i64 m,Value.int IntKind.i64 p]:=by rw[X];exact yG _ _ _
   have o:=a.out.own;have j:=j.I V;have l:=l.I V;have f:=f.trans (qK.of Z V);have a:=a.out.I V;clear X;refine(zLH w.heap.size _ d d.length m p U.heap.size M a oM a8 (fun b q=>Nat.ne_of_lt (o b q).2) f.bel.size d1).mono ?_;rintro e wk ⟨v',rfl,b5,K⟩;have a2:∀b,b∈(Value.ownBlock _).toList->∃cs,Blk M b zEc cs:=fun b q=>a.blk b (by simpa using q)
   have j:=j.pivs K.z a2;have l:=zJf l dE K.z a2;have f:qK Z w wk:=⟨f.bel.trans K.bel,f.lext.trans K.lext,fun b q N=>(K.old b (zM q f.bel.size) (fun hm=>by
    have:=(a.own b (by simpa using hm)).1;omega)).trans (f.old b q N)⟩
   have a:=xgv b5;clear o b5 K a2 a8;have P:=l.three;go_wp2_with fail
   obtain⟨z,u⟩:=F.out.ok' m H (d.take d.length++(m,p)::d.drop d.length) D s.out;obtain⟨y,hy,Q⟩:=F.out.red m H (d.take d.length++(m,p)::d.drop d.length) D s.out;have o:=a.out.own;refine(zHD hB j z a.out.piv (fun b q E=>by have:=(o b q).1;have:=A b E;omega) (fun k J=>(u.mem k J).2.1) u.inj (fun k J=>(u.mem k J).2.2.1) N a3 a4 u.len (fun b q=>zM (A b q) f.bel.size) b9 hy).mono ?_;rintro e wz ⟨⟨uz,rfl⟩,R,j,-⟩;have l:=R.blk l (fun T=>by have:=A _ T;omega);have a:=xgv (a.out.old (fun g C=>R.old g (o g C).2 (fun E=>by have:=(o g C).1;have:=A g E;omega)));have f:=f.trans R;have t:=xgv Q;clear z u hy Q o P;go_wp2;go_roundw
   case rel=>exact⟨m+1,y,_,by simp,oM,f,l,j,t,a⟩
   case measure=>exact meq
 obtain rfl:m=n:=oM;go_wp2;go_ret;exact⟨_,x,d,rfl,f,j,t.out,a.out⟩
theorem zKm{x:Bst}(h:zEV e0 Z w bw Ah 0 Cs Ct x):
  CPq 143 #[Ah,.agg (zE3 bw)] w fun e w'=>e= .returned (.slice none 0 0)/\BWq w w':=by
 obtain⟨f,b,-⟩:=h.wri;obtain⟨q,l,p,rfl,d,-⟩:=id (qH.rows b);have g:0=l:=by rw[<-d];simp[genM]
 subst g;clear d b f h;go_enter Tryz.func143,Tryz.ntmps143;go_upto_region 1 with(fail)
 refine zF ?_;intro n a;obtain⟨i,m,o⟩:=qJ a;clear a;go_wp2;go_loopw [5,12] (fun k c wr=>k= .slice none 0 0/\c=niq 0/\BWq w wr) (fun _ c _=>0)
 case atStart=>exact⟨rfl,rfl,i⟩
 obtain⟨rfl,rfl,j⟩:=hrel;go_wp2;go_ret;exact⟨rfl,j⟩
theorem zMB(f:BSd B){x:Bst}{J d:Nat->Bst->List (Nat × Nat)->Prop}(k:zXB B n Cs Ct J d)(h:zEV e0 Z w bw Ah n Cs Ct x)(a:J 0 x [])
  (o:n<=1000000) (i:Cs<=1000000) (j:Ct<=1000000) (l:∀b,Z b->b<w.heap.size) (m:∀g,Ah.ownBlock=some g->¬ Z g):
  CPq 143 #[Ah,.agg (zE3 bw)] w fun e w'=>∃v y L,e= .returned v/\qK Z w w'/\zEV e0 Z w' bw Ah n Cs Ct y/\J n y L/\zIj w' w.heap.size v L:=by
 by_cases p:0<n
 .exact zMC f k h a o i j p l m
 obtain rfl:n=0:=oM;refine(zKm h).mono ?_;rintro e w' ⟨rfl,c⟩;exact⟨_,x,[],rfl,qK.of Z c,h.I c,a,zIj.nil _ _⟩
theorem zFz.J{v:Value}{xs:List Nat}(h:zFz w b v xs)(k:a<=b):zFz w a v xs:=by
 obtain⟨f,i,c⟩:=h;refine⟨f,i,?_⟩;rcases c with c|⟨g,d,e,rfl,l,j⟩
 exact .inl c;exact .inr ⟨g,d,e,rfl,oM,j⟩
theorem zFz.nil(w:World)(base:Nat):zFz w base (.slice none 0 0) []:=⟨by simp,rfl,.inl ⟨rfl,rfl⟩⟩
theorem zQF(hB:BSd B){x:Bst}{J J':Nat->Bst->List (Nat × Nat)->Prop}(H:zXB B n Cs Ct J J')(h:zEV e0 Z w bw Ah n Cs Ct x)(F:J 0 x [])
  (P:n<=1000000) (a1:Cs<=1000000) (a2:Ct<=1000000) (hZ:∀b,Z b->b<w.heap.size) (a3:∀g,Ah.ownBlock=some g->¬ Z g):
  CPq 100 #[ptq bw 0] w fun e w'=>∃v y L,e= .returned v/\qK Z w w'/\zEV e0 Z w' bw Ah n Cs Ct y/\J n y L/\zFz w' w.heap.size v (L.map (·.1)):=by
 obtain⟨Au,Av,M⟩:=h.blk;have c1:=M.three;have m:=xgv H;have E:=xgv F;have D:=xgv h;clear h H F;go_enter Tryz.func100,Tryz.ntmps100;go_wp2_with fail
 refine(zMB hB m.out D.out E.out P a1 a2 hZ a3).mono ?_;rintro e l ⟨pv,y,a,rfl,I,S,p,t⟩;obtain⟨a5,s⟩:=m.out.ok n y a p;have W:=xgv s;have b5:a.length<=1000000:=zD s.len P;have V:=xgv p;have X:=xgv t;have HZ:=xgv S;obtain⟨ao,b9,rfl,b4,b3,u⟩:=t.piv;have u:=xgv u;have a7:=I.bel.size;clear p t s a5 S m D E c1 M;go_wp2;go_loopw [3,19] (fun b0 C wr=>∃k:Nat,C=niq k/\k<=a.length/\zFz wr l.heap.size b0 ((a.take k).map (·.1))/\BWq l wr) (fun _ C _=>a.length-(intOf C).toNat)
 case atStart=>exact⟨0,rfl,oM,zFz.nil _ _,zC _ _⟩
 obtain⟨k,rfl,i,j,d⟩:=hrel;by_cases O:k<a.length
 .obtain⟨bp,_,rfl,-,-⟩:=u.out oM
  obtain⟨-,b8,T,U⟩:=(X.out.I d).piv.cell O;obtain⟨r,c⟩:∃r,(a.getD k (0,0)).1=r:=⟨_,rfl⟩;obtain⟨q,Q⟩:∃q,(a.getD k (0,0)).2=q:=⟨_,rfl⟩;have b6:r<=1000000:=by have:=(W.out.mem k O).1;omega
  rw[c]at T;rw[Q]at U;have R:(a.take (k+1)).map (·.1)=(a.take k).map (·.1)++ [r]:=by
   rw[jH,zBl];congr 1;rw[xgb]at c;cases N:a[k]? with
   |none=>rw[List.getElem?_eq_none_iff]at N;omega
   |some c0=>rw[N]at c;simp at c;simp[c]
  have Y:=xgv R;have a8:((a.take k).map (·.1)).length=k:=by simp;omega
  clear c Q R;go_upto_region 5 with(fail)
  refine zF ?_;intro f K;obtain⟨G,o,b7⟩:=qJ K;have o:Blk f wr.heap.size zEc #[niq r,niq q]:=o;have a4:=j.I G;have z:=d.trans (G.mono d.size);have t1:=o.two;have a9:∀w':World,zIi (w'.alloc (.cells #[niq r] tNn)) (some ⟨w'.heap.size,0,none⟩) [r]:=fun w'=>⟨by simp;omega,fun _=>⟨_,0,_,rfl,heap_alloc_new w' _,fun k x i=>by
   match k with
   |0=>simp at i;subst i;rfl
   |k+1=>simp at i⟩⟩
  have b2:=z.size;clear K T U;go_wp2_with (at_builtin;refine qA8 rfl _ _ rfl l.heap.size u3 ((a.take k).map (·.1)) rfl (a4.alloc _) (some ⟨f.heap.size,0,none⟩) 1 1 [r] rfl (a9 f) rfl (by rw[a8];omega) (by simp;omega) ?_;intro v' w' a6 A)
  have A:World.grownBy (f.alloc (.cells #[niq r] tNn)) w' (Value.ownBlock u3):=A;have a0:BWq l w':=(z.alloc z.size _).grown A (by simp;omega) (fun g hg=>(j.own g hg).1);go_roundw
  case rel=>exact⟨k+1,by simp,oM,by rw[Y.out];exact a6,a0⟩
  case measure=>exact meq
 obtain rfl:k=a.length:=oM;go_wp2;go_ret;exact⟨_,y,a,rfl,I.trans (qK.of Z d),HZ.out.I d,V.out,(by rw[jO]at j;exact j.J a7)⟩
theorem zTy(w:World):
  CallsD Tryz.prog 110 #[] .returning w fun e c w'=>e= .returned (.tuple #[])/\c= .returning/\w'=w:=by
 refine callsD_of_wpS Tryz.func110 rfl fun a cs b=>?_
 apply wpS_region;simp[wpOpsS,go_sem,recoverD,b,Tryz.ntmps110,bodyPostS,results,Tryz.results110];cases a;simp_all
def zL1(R C:Nat):World->Value->Prop:=fun w v=>∃g,v=slq g R R/\Blk w g tR (zBO R C [])
def zSh:World->Value->Prop:=fun w v=>∃g,v=ptq g 0/\Blk w g tM #[niq 0,niq 0,.slice none 0 0]
def zG1(n:Nat)(P:World->Value->Prop):World->Value->Prop:=fun w v=>P w v/\∀b o,(v=ptq b o∨∃l c,v= .slice (some ⟨b,o,none⟩) l c)->n<=b
theorem zGq(n R C:Nat):zAj (zG1 n (zL1 R C)):=fun _ _ _ x ⟨⟨g,a,b⟩,c⟩=>⟨⟨g,a,b.I x⟩,c⟩
theorem zMK(n:Nat):zAj (zG1 n zSh):=fun _ _ _ x ⟨⟨g,a,b⟩,c⟩=>⟨⟨g,a,b.I x⟩,c⟩
def zOT(n R C:Nat):World->Value->Prop:=fun w v=>∃s,v= .agg #[niq R,niq C,s]/\zG1 n (zL1 R C) w s
theorem zKq(n R C:Nat):zAj (zOT n R C):=fun w w' _ x ⟨s,a,b⟩=>⟨s,a,zGq n R C w w' s x b⟩
theorem zGh.times{A B:List (List Int)}(h:zGh A B R m C)(c:i<R)(f:A[i]?=some zs):zSj zs B m C:=by
 intro j d t e;have a:=h i c j d t e;have b:∀s,ent A i s=zs.getD s 0:=fun s=>by unfold ent;rw[zB8 f]
 unfold zHU at a;simp only[b]at a;exact a
theorem zWE(v1 v2:Value)(R m C:Nat)(B u:List (List Int))(w:World)(h1:zAQ w v1 R m B)(h2:zAQ w v2 m C u)(W:zBW R m B)(X:zBW m C u)(hR:R<=1000000)(hm:m<=1000000)(hC:C<=1000000)(hS:zGh B u R m C):
  CPq 65 #[v1,v2] w (zZR w R C (genM R C (zHU B u m))):=by
 have g1:∀(fn:Fn) (first T:Array Value) (w:World),(Instr.makeFunc fn first T).run Tryz.prog w= .ok (.func fn first T) w:=fun _ _ _ _=>rfl
 have H1:=xgv h1;have H2:=xgv h2;obtain⟨A1,rfl,h1⟩:=h1;obtain⟨A2,rfl,h2⟩:=h2;obtain⟨ao,n,T,rfl,U,e3,e4,-⟩:=id h1;obtain⟨bo,d9,a5,rfl,g2,g3,g4,-⟩:=id h2;obtain rfl:R=n:=by rw[<-U,W.1]
 obtain rfl:m=d9:=by rw[<-g2,X.1]
 have b2:decide (zBX R m B/\zBX m C u)=true:=zQ ⟨W.valid,X.valid⟩;have HS:=xgv hS;have a4:=xgv W;have c0:=xgv X;obtain⟨G,q⟩:∃G:Nat->Nat->Int,zHU B u m=G:=⟨_,rfl⟩;rw[q];have HG:=xgv q;have b4:=fun c5=>mkR (R:Int) R rfl oM c5
 clear W X hS U g2 q;have DV:=xgv b2;clear b2;go_enter_defers Tryz.func65,Tryz.ntmps65;go_upto_region 2 with(fail)
 refine zF ?_;intro W0 a9;obtain⟨a1,o,h,d,g9⟩:=zBc a9;have J:=o.three;have K:=h.three;clear a9;go_wp2_with fail
 refine(zId _ 2 R m m C _ _ B u _ (yG _ _ _) (xgf _) oM ((H1.out.I a1).I ((zC _ _).alloc (xgf _) _)).off ((H2.out.I a1).I ((zC _ _).alloc (xgf _) _)).off).mono ?_;rintro e s ⟨rfl,b0⟩;rw[DV.out];have O:BWq W0 s:=nx ((zC _ _).alloc (xgf _) _) b0;have V:=nx a1 O;have o:=o.I O;have h:=h.I O;have d:=d.I O;have h0:=O.size;clear J K;have J:=o.three;have K:=h.three;have f6:=zGq s.heap.size R C;have f7:=zMK s.heap.size;have f8:=zKq s.heap.size R C;go_upto_region 4 with(fail)
 refine yA 9 [pcD 6 [] (zG1 s.heap.size (zL1 R C)),pcD 7 [6] (zOT s.heap.size R C),pcD 8 [] (zG1 s.heap.size zSh)] ?_;refine sRd ?_;refine sRc (fun S hI Gk q=>?_) (fun e5 _=>?_)
 .have g5:=b4 S
  go_simp;exact⟨q _ _ ⟨⟨_,rfl,by rw[<-zE7];exact yG _ _ _⟩,fun b d8 r=>by have:=hI.bel.size;rcases r with r|⟨d7,c,r⟩;cases r;cases r;exact this⟩,(zC _ _).alloc (xgf _) _⟩
 refine sRc (fun S hI a2 Gk q=>?_) (fun e6 _=>?_)
 .have a8:zG1 s.heap.size (zL1 R C) S e5:=a2
  obtain⟨⟨g6,rfl,e9⟩,f0⟩:=id a8;go_simp;exact⟨q _ _ ⟨_,rfl,a8⟩,zC _ _⟩
 refine sRc (fun S hI Gk q=>?_) (fun e7 _=>?_)
 .go_simp
  exact⟨q _ _ ⟨⟨_,rfl,yG _ _ _⟩,fun b d8 r=>by have:=hI.bel.size;rcases r with r|⟨d7,c,r⟩;cases r;exact this;cases r⟩,(zC _ _).alloc (xgf _) _⟩
 refine sRe ?_;intro I Y a2 c7 c8;obtain⟨sv,rfl,⟨p,rfl,a0⟩,a6⟩:zOT s.heap.size R C I e6:=c7;obtain⟨⟨L,rfl,M⟩,a7⟩:zG1 s.heap.size zSh I e7:=c8;have a6:=a6 p 0 (.inr ⟨_,_,rfl⟩);have a7:=a7 L 0 (.inl rfl);have V:=nx V Y;have o:=o.I Y;have h:=h.I Y;have d:=d.I Y;have d3:p≠L:=by
  rintro rfl;have F:I.heap[p]?=some (.cells _ tR (0,0)):=a0;have H:I.heap[p]?=some (.cells _ tM (0,0)):=M;rw[F]at H;injection H with H
  injection H with _ a
  exact absurd a dE
 have f1:=M.three;clear J K a2 b4;go_upto_region 5 with(fail)
 refine zF ?_;intro y N;have d6:zBq I y:=by rw[N.out];exact M.lext3 dE _ _ _
 have v:Blk y L tM #[.int .i64 R,.int .i64 C,.slice (some ⟨p,0,none⟩) R R]:=by rw[N.out];exact M.put3 _ _ _
 have P:∀b,b≠L->y.heap[b]?=I.heap[b]?:=fun b z=>by rw[N.out];exact zAm _ _ _ _ _ _ z
 have o:=(P _ oM).trans o;have h:=(P _ oM).trans h;have d:=(P _ oM).trans d;have l:=(P _ d3).trans a0;have c6:BWq w y:=by rw[N.out];exact yB (yB (yB V oM 0 _) oM 1 _) oM 2 _
 replace o:Blk y w.heap.size tM #[.int .i64 R,.int .i64 m,.slice ao R T]:=o;replace h:Blk y (w.heap.size+1) tM #[.int .i64 m,.int .i64 C,.slice bo m a5]:=h;replace d:Blk y (w.heap.size+1+1) tM #[.int .i64 0,.int .i64 0,.slice none 0 0]:=d;replace l:Blk y p tR (zBO R C []):=l;have J:=o.three;clear N P d6 f1 a0 M V;go_wp2;clear J;go_loopw [33] (fun iv wr=>∃(i:Nat) (bs:List Nat),i<=R/\iv= .int .i64 i/\bs.length=i/\BWq w wr/\Blk wr (w.heap.size+1) tM #[.int .i64 m,.int .i64 C,.slice bo m a5]/\Blk wr (w.heap.size+1+1) tM #[.int .i64 0,.int .i64 0,.slice none 0 0]/\Blk wr L tM #[.int .i64 R,.int .i64 C,.slice (some ⟨p,0,none⟩) R R]/\Blk wr p tR (zBO R C bs)∧
  jI (bs.Nodup/\∀t b,bs[t]?=some b->s.heap.size<=b/\jY wr b (yV C (G t)))) (fun iv _=>R-(intOf iv).toNat)
 case atStart=>exact⟨0,[],oM,rfl,rfl,c6,h,d,v,l,⟨⟨by simp,fun t b a=>by simp at a⟩⟩⟩
 obtain⟨i,bs,hi,rfl,E,z,h,d,v,l,hH⟩:=hrel;have K:=h.three;have f1:=v.three;by_cases a3:i<R
 .obtain⟨b1,ra,rn,rc,zs,rfl,f3,Z,p1,Q⟩:=h1.row (k:=i) (by rw[a4.out.1];exact a3)
  have b8:=a4.out.2 zs (xgd Z);have p1:=jP p1 z;have Q:=Q.I z;have TS:=xgv (HS.out.times a3 Z);have d2:jI (yV C (zIU zs u m)=yV C (G i)):=⟨yH fun j _=>by rw[<-HG.out];unfold zIU zHU ent;rw[zB8 Z]⟩;have c4:=xgv b8;have l2:=h.lt;have l6:=v.lt;have lR:=l.lt;have h3:=z.size;have f2:=b0.size;have f9:=zLK wr.heap.size C (yV C (G i));clear Z b8;go_upto_region 8 with(fail)
  refine yA 7 [pcD 5 [] (zHV wr.heap.size C (yV C (G i)))] ?_;refine sRd ?_;refine sRc (fun S hI Gk q=>?_) (fun e8 _=>?_)
  .go_simp
   refine(zRn _ _ zs u m C _ (Q.I hI.bel) ((H2.out.I z).I hI.bel) c4.out c0.out hm hC TS.out).mono ?_
   (rintro e wa ⟨e0,rfl,⟨g,e1,U,e3⟩,d0⟩;rw[d2.out]at e3;have Q:zHV wr.heap.size C (yV C (G i)) wa e0:=⟨g,e1,zD hI.bel.size U,e3⟩)
   exact⟨_,rfl,q _ _ Q,d0⟩
  refine sRd ?_;refine sRe ?_;intro w9 D c9;obtain⟨g,rfl,f5,b3⟩:zHV wr.heap.size C (yV C (G i)) w9 e8:=c9;have l:=l.I D;have h:=h.I D;have d:=d.I D;have v:=v.I D;have z1:=l.frozen i;obtain⟨b9,z2⟩:∃b9,w9.cell? ⟨p,i,none⟩=some b9:=by
   rw[l.cell i];exact⟨_,Array.getElem?_eq_getElem (by rw[zDB oM];exact a3)⟩
  have b6:=l.set_ i (.slice (some ⟨g,0,none⟩) C C);rw[<-E,zGE oM,E]at b6;have b7:=l.lext dE i (.slice (some ⟨g,0,none⟩) C C);have c2:=xgv b3;have A:=xgv hH.out;have f4:=d.lt;have b5:∀(t b:Nat),bs[t]?=some b->b≠p:=fun t b a=>by
   rintro rfl;obtain⟨cs,F,-⟩:=((A.out.2 t b a).2.I D);have H:w9.heap[b]?=some (.cells _ tR (0,0)):=l;rw[H]at F;injection F with F
   injection F with _ a
   exact absurd a dE
  have c3:=xgv b5;clear b3 p1 K f1 b5;go_wp2;go_roundw
  case rel=>
   refine⟨i+1,bs++ [g],oM,by simp,by simp[E],yB (nx z D) oM _ _,(qC _ _ _ _ _ oM).trans h,(qC _ _ _ _ _ oM).trans d,(qC _ _ _ _ _ oM).trans v,b6,⟨⟨?_,?_⟩⟩⟩
   .rw[jG]
    refine⟨A.out.1,by simp,fun x hx h8 hy=>?_⟩;simp at hy;subst hy;obtain⟨t,a,e⟩:=qZ hx;have:=(A.out.2 t x (by rw[xga a,e])).2.lt;omega
   intro t b a;by_cases e:t=i
   .subst e
    rw[List.getElem?_append_right oM,E]at a;simp at a;subst a;exact⟨oM,c2.out.old (qC _ _ _ _ _ oM) b7⟩
   have d5:t<bs.length:=by
    have h5:=(xge.1 a).1;simp at h5;omega
   rw[List.getElem?_append_left d5]at a;obtain⟨h6,h7⟩:=A.out.2 t b a;exact⟨h6,(h7.I D).old (qC _ _ _ _ _ (c3.out t b a)) b7⟩
  case measure=>exact meq
 obtain rfl:i=R:=oM;have A:=xgv hH.out;have r1:=d.three;have lr:=d.lt;have l6:=v.lt;go_wp2;refine leaves_cons (f:=110) (args:=#[]) sI (by simp[go_sem]) ?_;refine(zTy _).mono ?_;rintro e u' h4 ⟨rfl,rfl,rfl⟩;have hx:=d.lext3 dE (.int .i64 i) (.int .i64 C) (.slice (some ⟨p,0,none⟩) i i);refine⟨_,zDh rfl _ rfl (d.put3 _ _ _) rfl,_,bs,rfl,⟨E,_,rfl,?_⟩,yB (yB (yB z oM 0 _) oM 1 _) oM 2 _⟩;refine qH.ofPart ((zAm _ _ _ _ _ _ oM).trans l) E A.out.1 (fun t b a=>?_) (by simp[genM]) oM hC hR;obtain⟨h6,h7⟩:=A.out.2 t b a;have d4:t<i:=by have:=(xge.1 a).1;omega
 exact⟨oM,_,zDS i C G d4,by simp,h7.old (zAm _ _ _ _ _ _ oM) hx⟩
theorem zUc{ys:List Int}(h1:zs.length=C)(h2:ys.length=C):(∀j,j<C->decide (zs.getD j 0=ys.getD j 0)=true)↔zs=ys:=by
 refine⟨fun h=>?_,fun h j _=>by rw[h];simp⟩;apply qX;omega;intro j a b;have:=yW (h j oM);simpa[xgb,a,b]using this
theorem zRZ(v1 v2:Value)(R C:Nat)(h l:List (List Int))(w:World)(h1:zAQ w v1 R C h)(h2:zAQ w v2 R C l)(A:zBW R C h)(B:zBW R C l)(hC:C<=1000000):
  CPq 80 #[v1,v2] w fun e w'=>e= .returned (.bool (decide (h=l)))/\BWq w w':=by
 have H1:=xgv h1;have H2:=xgv h2;obtain⟨A1,rfl,h1⟩:=h1;obtain⟨A2,rfl,h2⟩:=h2;obtain⟨t,n,x,rfl,e2,e3,e4,-⟩:=id h1;obtain⟨q,b7,p,rfl,z,g3,g4,-⟩:=id h2;obtain rfl:R=n:=by rw[<-e2,A.1]
 obtain rfl:R=b7:=by rw[<-z,B.1]
 obtain⟨s,T⟩:∃s:Bool,decide (h=l)=s:=⟨_,rfl⟩;rw[T];have HA:=xgv T;have G:=xgv A;have H:=xgv B;have a7:=xgv A.valid;have a8:=xgv B.valid;clear T A B e2 z;have c0:=zHE (niq R) (niq C) (.slice t R x) (niq R) (niq C) (.slice q R p);have c2:=zEl (niq R) (niq C) (.slice t R x);have c4:=zEl (niq R) (niq C) (.slice q R p);have c3:=zE0 R C;go_enter Tryz.func80,Tryz.ntmps80;go_upto_region 1 with(fail)
 refine zF ?_;intro W0 a0;obtain⟨M,u,c,c5⟩:=zAU a0;have K:=u.three;have y:=c.three;clear a0;refine zBP [pcD 2 [] (qAJ (niq R) (niq C) (.slice t R x) (niq R) (niq C) (.slice q R p)),pcD 3 [2] (fun _ v=>v= .bool true),pcD 7 [] (zXt (niq R) (niq C) (.slice t R x)),pcD 8 [7] (zEs R C),pcD 10 [] (zXt (niq R) (niq C) (.slice q R p)),pcD 11 [10] (zEs R C),pcD 12 [8,11] (fun _ v=>v= .bool true)] ?_;refine sRd ?_;refine sRc (fun o hI g a=>?_) (fun c8 _=>?_)
 .go_simp
  exact⟨a _ _ ⟨_,rfl,yG _ _ _⟩,(zC _ _).alloc (xgf _) _⟩
 refine sRc (fun o hI P g a=>?_) (fun _ b=>?_)
 .obtain⟨z,rfl,b3⟩:=P
  go_simp;refine(zPp z 2 R C R C _ _ h l _ b3 (xgf _) oM ((H1.out.I M).I hI.bel).off ((H2.out.I M).I hI.bel).off a7.out a8.out).mono ?_;rintro e Z ⟨v,rfl,b,f⟩;exact⟨_,rfl,a _ _ b,f⟩
 obtain⟨_,-,rfl⟩:=b;refine sRd ?_;refine sRc (fun o hI g a=>?_) (fun c9 _=>?_)
 .go_simp
  exact⟨a _ _ ⟨_,rfl,yG _ _ _⟩,(zC _ _).alloc (xgf _) _⟩
 refine sRc (fun o hI Q g a=>?_) (fun d0 _=>?_)
 .obtain⟨g7,rfl,b4⟩:=Q
  go_simp;refine(zFT g7 1 R C _ _ b4 ⟨_,_,_,rfl⟩ (xgf _) oM).mono ?_;rintro e Z ⟨v,rfl,b,f⟩;exact⟨_,rfl,a _ _ b,f⟩
 refine sRd ?_;refine sRc (fun o hI g a=>?_) (fun c6 _=>?_)
 .go_simp
  exact⟨a _ _ ⟨_,rfl,yG _ _ _⟩,(zC _ _).alloc (xgf _) _⟩
 refine sRc (fun o hI N g a=>?_) (fun c7 _=>?_)
 .obtain⟨a9,rfl,b0⟩:=N
  go_simp;refine(zFT a9 1 R C _ _ b0 ⟨_,_,_,rfl⟩ (xgf _) oM).mono ?_;rintro e Z ⟨v,rfl,b,f⟩;exact⟨_,rfl,a _ _ b,f⟩
 refine sRc (fun o hI S O g a=>?_) (fun _ b=>?_)
 .go_simp
  refine(zLo _ _ R C _ S O).mono ?_;rintro e Z ⟨v,rfl,b,f⟩;exact⟨_,rfl,a _ _ b,f⟩
 obtain⟨_,-,rfl⟩:=b;refine sRd ?_;refine sRe ?_;intro w1 U P _ Q S N O _;have b5:=nx M U;have u:=u.I U;have c:=c.I U;clear K y P Q S N O;have K:=u.three;go_wp2;clear K;go_loopw [26] (fun Y wr=>∃i:Nat,i<=R/\Y=niq i/\BWq w wr/\Blk wr (w.heap.size+1) tM #[niq R,niq C,.slice q R p]/\jI (h.take i=l.take i)) (fun Y _=>R-(intOf Y).toNat)
 case atStart=>exact⟨0,oM,rfl,b5,c,⟨by rw[jW,jW]⟩⟩
 obtain⟨i,hi,rfl,d,c,a4⟩:=hrel;have y:=c.three;by_cases a3:i<R
 .obtain⟨b1,ra,rn,rc,zs,rfl,b8,X,D,b⟩:=h1.row (k:=i) (by rw[G.out.1];exact a3)
  obtain⟨b2,sa,sn,sc,r,rfl,b9,W,E,hu⟩:=h2.row (k:=i) (by rw[H.out.1];exact a3);have a6:=G.out.2 zs (xgd X);have a5:=H.out.2 r (xgd W);have HZ:=xgv X;have HY:=xgv W;have J:=xgv a6;have I:=xgv a5;have D:=jP D d;have E:=jP E d;clear X W a6 a5;go_wp2_with fail
  refine(zSz _ _ zs r C wr (b.I d) (hu.I d) J.out I.out hC).mono ?_;rintro e w5 ⟨rfl,b6,a1⟩;go_wp2_with fail
  refine(zNF wr.heap.size C C _ w5 b6 hC (xgf _) oM).mono ?_;rintro e w6 ⟨rfl,a2⟩;have d:=nx (nx d a1) a2;have c:=(c.I a1).I a2;by_cases m:zs=r
  .have hd:decide (¬ ∀j,j<C->decide (zs.getD j 0=r.getD j 0)=true)=false:=zT (fun V=>V ((zUc J.out I.out).2 m))
   have F:=xgv m;rw[hd];clear hd m D E y;go_wp2;go_roundw
   case rel=>exact⟨i+1,oM,by simp,d,c,⟨zKc a4.out HZ.out HY.out F.out⟩⟩
   case measure=>exact meq
  have hd:decide (¬ ∀j,j<C->decide (zs.getD j 0=r.getD j 0)=true)=true:=zQ (fun V=>m ((zUc J.out I.out).1 V));have F:=xgv m;rw[hd];clear hd m D E y;go_wp2;go_ret;refine⟨?_,d⟩;have L:s=false:=by rw[<-HA.out];exact zT (zHQ HZ.out HY.out F.out)
  rw[L];rfl
 obtain rfl:i=R:=oM;go_wp2;go_ret;refine⟨?_,d⟩;have h4:=a4.out;rw[jM (by rw[G.out.1];omega),jM (by rw[H.out.1];omega)]at h4;have L:s=true:=by rw[<-HA.out];exact zQ h4
 rw[L];rfl
def zFu(R C:Nat)(F:Nat->Nat->Int)(lo hi:Nat):World->Value->Prop:=fun w v=>∃o c bs,v= .agg #[niq R,niq C,.slice o R c]/\Wri w (.slice o R c) R C bs F/\∀b,Zn (.slice o R c) bs b->lo<=b/\b<hi
theorem zFu.I{b a:Nat}{v:Value}(h:zFu R C F b a w v)(g:BWq w w'):zFu R C F b a w' v:=by
 obtain⟨o,c,bs,d,e,f⟩:=h;exact⟨o,c,bs,d,e.I g,f⟩
theorem zDl.within{e:Ending}(h:zDl w R C (genM R C F) e w'):∃v,e= .returned v/\zFu R C F w.heap.size w'.heap.size w' v/\BWq w w':=by
 obtain⟨v,bs,rfl,⟨j,g,rfl,d⟩,i⟩:=h;have a:Wri w' g R C bs F:=d.mono (zH _);obtain⟨o,c,rfl⟩:=a.shape;exact⟨_,rfl,⟨o,c,bs,rfl,a,fun b f=>⟨d.fresh f,a.zlt f⟩⟩,i⟩
structure MS where
 op:Nat
 slot:Nat
 R:Nat
 C:Nat
 F:Nat->Nat->Int
def zQt(N:Nat)(vs:List VS)(ms:List MS):Bool:=decide ((vs.map (·.slot))++(ms.map (·.slot))).Nodup && decide ((vs.map (·.op))++(ms.map (·.op))).Nodup && ((vs.map (·.slot))++(ms.map (·.slot))).all (fun s=>decide (s<N))
theorem zIr{c:Type}{xs ys:List c}(h:(xs++ys).Nodup){a b:c}(d:a∈xs)(e:b∈ys):a≠b:=(jG.1 h).2.2 a d b e
structure RG(W:World)(T0:Array Value)(vs:List VS)(ms:List MS)(L:Array Bool)(T:Array Value)(w:World):Prop where
 wf:zQt T0.size vs ms=true
 lv:∀s∈vs,zAj s.P
 size:T.size=T0.size
 keep:∀j,(∀s∈vs,s.slot≠j)->(∀m∈ms,m.slot≠j)->T[j]?=T0[j]?
 bel:BWq W w
 val:∀s∈vs,L[s.op]?=some true->∃v,T[s.slot]?=some v/\s.P w v
 gh:∃bot top:Nat->Nat,(∀m∈ms,L[m.op]?=some true->W.heap.size<=bot m.op/\top m.op<=w.heap.size/\∃v,T[m.slot]?=some v/\zFu m.R m.C m.F (bot m.op) (top m.op) w v)∧
  ∀m∈ms,∀m'∈ms,m.op<m'.op->L[m.op]?=some true->L[m'.op]?=some true->top m.op<=bot m'.op
section
variable {W:World} {T0:Array Value} {vs:List VS} {ms:List MS} {L:Array Bool} {T:Array Value} {w w':World}
theorem RG.parts(h:RG W T0 vs ms L T w):(vs.map (·.slot)).Nodup/\(vs.map (·.op)).Nodup/\(ms.map (·.slot)).Nodup/\(ms.map (·.op)).Nodup/\(∀s∈vs,∀m∈ms,s.slot≠m.slot/\s.op≠m.op)/\(∀s∈vs,s.slot<T0.size)/\(∀m∈ms,m.slot<T0.size):=by
 have c:=h.wf;unfold zQt at c;simp only[Bool.and_eq_true,decide_eq_true_eq,List.all_eq_true]at c;obtain⟨⟨d,e⟩,f⟩:=c;refine⟨(jG.1 d).1,(jG.1 e).1,(jG.1 d).2.1,(jG.1 e).2.1,fun s b m a=>⟨zIr d (List.mem_map.2 ⟨s,b,rfl⟩) (List.mem_map.2 ⟨m,a,rfl⟩),zIr e (List.mem_map.2 ⟨s,b,rfl⟩) (List.mem_map.2 ⟨m,a,rfl⟩)⟩,
  fun s b=>f _ (List.mem_append.2 (.inl (List.mem_map.2 ⟨s,b,rfl⟩))),fun m a=>f _ (List.mem_append.2 (.inr (List.mem_map.2 ⟨m,a,rfl⟩)))⟩
theorem RG.start(b:zQt T0.size vs ms=true:=by kernel_rfl)(hv:∀s∈vs,zAj s.P:=by repeat' (first|exact zFI _|exact zGD _|exact zCt _ _ _|exact zCc _|assumption|refine xgm.2 ⟨?_,?_⟩|exact xgn _)):RG W T0 vs ms (Array.replicate n false) T0 W.drew:=by
 have a:∀k:Nat,(Array.replicate n false)[k]?≠some true:=by
  intro k h;rw[Array.getElem?_replicate]at h;split at h<;>simp at h
 exact⟨b,hv,rfl,fun _ _ _=>rfl,dr _,fun s _ h=>absurd h (a _),fun _=>0,fun _=>0,fun m _ h=>absurd h (a _),fun m _ c _ _ h=>absurd h (a _)⟩
theorem RG.world(h:RG W T0 vs ms L T w)(a:BWq w w'):RG W T0 vs ms L T w':=by
 obtain⟨d,p,j,k⟩:=h.gh;refine⟨h.wf,h.lv,h.size,h.keep,nx h.bel a,fun s c b=>by
  obtain⟨v,l,n⟩:=h.val s c b;exact⟨v,l,h.lv s c _ _ _ a n⟩,d,p,fun m o b=>?_,k⟩
 obtain⟨e,f,v,g,i⟩:=j m o b;exact⟨e,zD f a.size,v,g,i.I a⟩
theorem RG.value{v:Value}(h:RG W T0 vs ms L T w)(s:VS)(b:s∈vs)(D:s.op=k)(C:s.P w v):RG W T0 vs ms (L.setIfInBounds k true) (T.setIfInBounds s.slot v) w:=by
 subst D;obtain⟨J,K,O,P,p,M,Q⟩:=h.parts;obtain⟨q,N,A,B⟩:=h.gh;have i:∀m∈ms,(L.setIfInBounds s.op true)[m.op]?=some true->L[m.op]?=some true:=fun m a c=>zAE c (p s b m a).2
 refine⟨h.wf,h.lv,by simp[h.size],fun j d f=>by rw[xgc (d s b)];exact h.keep j d f,h.bel,?_,q,N,fun m a c=>?_,fun m a o n E F G=>B m a o n E (i m a F) (i o n G)⟩
 .intro t l c
  by_cases g:t=s
  .subst g
   exact⟨v,by rw[Array.getElem?_setIfInBounds_self_of_lt (by rw[h.size];exact M _ b)],C⟩
  have H:t.op≠s.op:=fun e=>g (yN K l b e)
  have I:t.slot≠s.slot:=fun e=>g (yN J l b e)
  obtain⟨u,d,f⟩:=h.val t l (zAE c (qF H));exact⟨u,by rw[xgc (qF I)];exact d,f⟩
 obtain⟨r,x,u,y,z⟩:=A m a (i m a c);exact⟨r,x,u,by rw[xgc (p s b m a).1];exact y,z⟩
theorem RG.v{s:VS}(h:RG W T0 vs ms L T w)(b:s∈vs)(a:L[s.op]?=some true):∃v,T[s.slot]?=some v/\s.P w v:=h.val s b a
theorem RG.y{v:Value}(h:RG W T0 vs ms L T w){s:VS}(c:s∈vs)(a:s.P w v)(b:s.op=k:=by rfl):RG W T0 vs ms (L.setIfInBounds k true) (T.setIfInBounds s.slot v) w:=h.value s c b a
theorem RG.mat{ops:Array Oper}{v:Value}(h:RG W T0 vs ms L T w)(S:zC2 ops L)(R:L[k]?=some false)(m:MS)(d:m∈ms)(V:m.op=k)(B:BWq w w')(hw:zFu m.R m.C m.F w.heap.size w'.heap.size w' v)
  (X:(ms.all fun c=>!decide (k<c.op)||zI9 ops 9 c.op k)=true):RG W T0 vs ms (L.setIfInBounds k true) (T.setIfInBounds m.slot v) w':=by
 subst V;have F:=h.world B;obtain⟨p1,p2,p3,r,J,p6,p7⟩:=h.parts;obtain⟨K,a0,E,Q⟩:=h.gh;have Z:∀c∈ms,m.op<c.op->L[c.op]?≠some true:=fun c f z U=>by
  have G:=zAB.1 X c f;simp only[z,decide_true,Bool.not_true,Bool.false_or]at G;have:=zD7 S G U;rw[R]at this;cases this
 have p:∀c∈ms,c≠m->(L.setIfInBounds m.op true)[c.op]?=some true->L[c.op]?=some true:=fun c f Y o=>zAE o (fun e=>Y (yN r f d e.symm))
 refine⟨h.wf,h.lv,by simp[h.size],fun j A s=>by rw[xgc (s m d)];exact h.keep j A s,F.bel,?_,fun i=>if i=m.op then w.heap.size else K i,fun i=>if i=m.op then w'.heap.size else a0 i,fun c f o=>?_,fun a l b n z H I=>?_⟩
 .intro t C o
  obtain⟨u,A,s⟩:=F.val t C (zAE o (qF (J t C m d).2));exact⟨u,by rw[xgc (qF (J t C m d).1)];exact A,s⟩
 .by_cases y:c=m
  .subst y
   simp only[if_true];exact⟨h.bel.size,xgf _,v,by rw[Array.getElem?_setIfInBounds_self_of_lt (by rw[h.size];exact p7 _ d)],hw⟩
  have q:c.op≠m.op:=fun e=>y (yN r f d e)
  have D:c.slot≠m.slot:=fun e=>y (yN p3 f d e)
  simp only[if_neg q];obtain⟨M,N,u,O,P⟩:=E c f (p c f y o);exact⟨M,zD N B.size,u,by rw[xgc (qF D)];exact O,P.I B⟩
 by_cases x:b=m
 .subst x
  by_cases g:a=b
  .subst g;omega
  have q:a.op≠b.op:=fun e=>g (yN r l d e)
  simp only[if_true,if_neg q];exact(E a l (p a l g H)).2.1
 by_cases g:a=m
 .subst g
  exact absurd (p b n x I) (Z b n z)
 have q:a.op≠m.op:=fun e=>g (yN r l d e)
 have D:b.op≠m.op:=fun e=>x (yN r n d e)
 simp only[if_neg q,if_neg D];exact Q a l b n z (p a l g H) (p b n x I)
theorem RG.cell{o:Nat}{v:Value}(h:RG W T0 vs ms L T w)(hc:W.cell? ⟨b,o,none⟩=some v):w.cell? ⟨b,o,none⟩=some v:=jP hc h.bel
theorem RG.matv(h:RG W T0 vs ms L T w)(m:MS)(f:m∈ms)(e:L[m.op]?=some true):∃v,T[m.slot]?=some v/\∃o c,v= .agg #[niq m.R,niq m.C,.slice o m.R c]:=by
 obtain⟨g,l,d,k⟩:=h.gh;obtain⟨i,j,v,a,o,c,bs,b,-⟩:=d m f e;exact⟨v,a,o,c,b⟩
end
structure zMz(n0 R C Cu Cw:Nat)(z:W5)(w:World)(v:Value):Prop where
 ex:∃so sc uo uc vo vc wo wc xo xc bS bU bV bW bX,v= .agg #[niq R,niq C,.slice so R sc,niq R,niq Cu,.slice uo R uc,niq R,niq Cu,.slice vo R vc,niq C,niq Cw,.slice wo C wc,niq C,niq Cw,.slice xo C xc]∧
  Wri w (.slice so R sc) R C bS z.s/\Wri w (.slice uo R uc) R Cu bU z.u/\Wri w (.slice vo R vc) R Cu bV z.v/\Wri w (.slice wo C wc) C Cw bW z.w/\Wri w (.slice xo C xc) C Cw bX z.x∧
  (∀b,Zn (.slice so R sc) bS b∨Zn (.slice uo R uc) bU b∨Zn (.slice vo R vc) bV b∨Zn (.slice wo C wc) bW b∨Zn (.slice xo C xc) bX b->n0<=b)∧
  Ap (.slice so R sc) bS (.slice uo R uc) bU/\Ap (.slice so R sc) bS (.slice vo R vc) bV/\Ap (.slice so R sc) bS (.slice wo C wc) bW/\Ap (.slice so R sc) bS (.slice xo C xc) bX/\Ap (.slice uo R uc) bU (.slice vo R vc) bV∧
  Ap (.slice uo R uc) bU (.slice wo C wc) bW/\Ap (.slice uo R uc) bU (.slice xo C xc) bX/\Ap (.slice vo R vc) bV (.slice wo C wc) bW/\Ap (.slice vo R vc) bV (.slice xo C xc) bX/\Ap (.slice wo C wc) bW (.slice xo C xc) bX
theorem zOx(n0 R C Cu Cw:Nat)(z:W5):zAj (zMz n0 R C Cu Cw z):=by
 intro w w' v a ⟨o,n,q,p,s,r,t,wc,x,u,b,c,d,e,f,g,h,i,j,k,l,m⟩;exact⟨o,n,q,p,s,r,t,wc,x,u,b,c,d,e,f,g,h.I a,i.I a,j.I a,k.I a,l.I a,m⟩
theorem zCS{e:Value}{f:List Nat}{d:Nat}(h:∀x,Zn A bs x->a<=x/\x<b)(g:∀x,Zn e f x->c<=x/\x<d)(k:b<=c):Ap A bs e f:=fun x i j=>by
 have:=h x i;have:=g x j;omega
def gk:Nat->Nat->Nat
 |0,M=>M
 |k+1,M=>gk k (2*M*M)
theorem zJ0(h:1<=M):M<=2*M*M:=zD (show M<=2*M by omega) (zO _ oM)
theorem zKn:∀(k:Nat) {M:Nat},1<=M->M<=gk k M
 |0,M,_=>xgf _
 |k+1,M,h=>zD (zJ0 h) (zKn k (zD h (zJ0 h)))
theorem zGp:∀(a b M:Nat),gk (a+b) M=gk b (gk a M)
 |0,b,M=>by rw[zAM];rfl
 |a+1,b,M=>by
  have:a+1+b=(a+b)+1:=oM;rw[this];show gk (a+b) _=gk b (gk a _);exact zGp a b _
theorem zJ1(k:Nat)(h:1<=M):1<=gk k M:=zD h (zKn k h)
theorem zEj(h:1<=M)(c:a<=b):gk a M<=gk b M:=by
 obtain⟨d,rfl⟩:=zAV c;rw[zGp];exact zKn d (zJ1 a h)
theorem zTO:∀(k M:Nat),2*gk k M=(2*M)^(2^k)
 |0,M=>by simp[gk]
 |k+1,M=>by
  show 2*gk k (2*M*M)=_;rw[zTO k,qE 2 k,zN (2^k),jT (2*M) 2];congr 1;rw[Nat.pow_two,<-zE 2 (2*M) M,zN 2 (2*M),zE (2*M) 2 M]
theorem leB.mono{b:Nat}{x:Bst}(h:leB M n Cs Ct x)(a:M<=b):leB b n Cs Ct x:=⟨h.1.mono a,h.2.1.mono a,h.2.2.mono a⟩
theorem leB.ok{x:Bst}(h:leB M n Cs Ct x)(a:M<B):okB B n Cs Ct x:=⟨h.1.ok a,h.2.1.ok a,h.2.2.ok a⟩
theorem zJM{q:Nat}(a:1<=M)(b:q<=M):M*(1+q)<=2*M*M:=by
 have c:M*q<=M*M:=zG _ b;have d:M*1<=M*M:=zG _ a;rw[zAH,zE];omega
theorem zNL{a b:Int}(c:0<b)(f:a.natAbs<=M):(a/b).natAbs<=M:=by
 rcases zCX 0 a with h|h
 .have d:=zCC h (zBQ c)
  have e:=zDW b h;omega
 have d:a/b<=0:=zBE h c;have e:a<=a/b:=by
  rw[zCI c];have:a*b<=a*1:=zBY h oM;omega
 omega
def vw(ρ:Nat->Nat)(F:Nat->Nat->Int):Nat->Nat->Int:=fun a t=>F (ρ a) t
theorem zR4{B:Nat}(v:∀k,k<r->ρ k<n)(G:∀a b,a<b->b<r->ρ a≠ρ b)(hi:i<r):∀(m j:Nat) (x:Bst) (M:Nat),j+m=r->i<j->leB M n Cs Ct x->1<=M->Ech Cs r κ (vw ρ x.s)->
  (∀c,i<c->c<j->0<=x.s (ρ i) (κ c)/\x.s (ρ i) (κ c)<x.s (ρ c) (κ c))->gk m M<B->
  ∃l,zIT B n Cs Ct ρ κ i m j x=some (zCf l x)/\jZ n l/\leB (gk m M) n Cs Ct (zCf l x)/\Ech Cs r κ (vw ρ (zCf l x).s)/\(∀a,a≠ρ i->∀t,(zCf l x).s a t=x.s a t)∧
   (∀c,i<c->c<r->0<=(zCf l x).s (ρ i) (κ c)/\(zCf l x).s (ρ i) (κ c)<(zCf l x).s (ρ c) (κ c)):=by
 intro m;induction m with
 |zero=>
  intro j x M hj F p g d A P;exact⟨[],rfl,jZ.nil,p,d,fun a _ t=>rfl,fun c h1 E=>A c h1 oM⟩
 | succ m W=>
  intro j x M hj F p g d A P;have o:j<r:=oM;have I:0<x.s (ρ j) (κ j):=d.pos j o;have a1:gk m M<=gk (m+1) M:=zEj g oM;have Q:ρ i≠ρ j:=G i j F o;have U:(0<=x.s (ρ i) (κ j)/\x.s (ρ i) (κ j)<x.s (ρ j) (κ j))->∃l,zIT B n Cs Ct ρ κ i m (j+1) x=some (zCf l x)/\jZ n l/\leB (gk (m+1) M) n Cs Ct (zCf l x)/\Ech Cs r κ (vw ρ (zCf l x).s)/\(∀a,a≠ρ i->∀t,(zCf l x).s a t=x.s a t)∧
   (∀c,i<c->c<r->0<=(zCf l x).s (ρ i) (κ c)/\(zCf l x).s (ρ i) (κ c)<(zCf l x).s (ρ c) (κ c)):=fun a2=>by
   obtain⟨l,w,D,y,z⟩:=W (j+1) x M oM oM p g d (fun c h1 E=>by
    by_cases e:c=j
    .rw[e];exact a2
    exact A c h1 oM) oM
   exact⟨l,w,D,y.mono a1,z⟩
  unfold zIT;by_cases O:x.s (ρ i) (κ j)=0
  .rw[zB O]
   exact U oM
  rw[zA O,zA oM];by_cases J:x.s (ρ i) (κ j)/x.s (ρ j) (κ j)=0
  .rw[zB J]
   refine U ?_;have h1:=zAP (x.s (ρ i) (κ j)) (x.s (ρ j) (κ j));have E:=zAk (x.s (ρ i) (κ j)) (b:=x.s (ρ j) (κ j)) oM;have h3:=zAx (x.s (ρ i) (κ j)) I;rw[J,qB]at h1;omega
  rw[zA J];have T:(x.s (ρ i) (κ j)/x.s (ρ j) (κ j)).natAbs<=M:=zNL I (p.1 _ (v i oM) _ (d.lt j o));obtain⟨q,S⟩:∃q,x.s (ρ i) (κ j)/x.s (ρ j) (κ j)=q:=⟨_,rfl⟩;rw[S]at T ⊢
  have Z:=zJM g T;have a3:zEn B n Cs Ct x (ρ i) (ρ j) (-q):=zGa p (v i oM) (v j o) Q g (by
   rw[zY];have:2*M*M<=gk (m+1) M:=zKn m (zD g (zJ0 g));omega)
  rw[zB a3];have R:(Op.add (ρ i) (ρ j) (-q)).ok n:=⟨v i oM,v j o,Q⟩;have Y:leB (2*M*M) n Cs Ct (zCf [.add (ρ i) (ρ j) (-q)] x):=(zO4 p R).mono (by simpa[Op.g]using Z);have u:∀a t,(zCf [.add (ρ i) (ρ j) (-q)] x).s a t=if a=ρ i then x.s (ρ i) t+-q*x.s (ρ j) t else x.s a t:=fun a t=>rfl
  have a0:=zAP (x.s (ρ i) (κ j)) (x.s (ρ j) (κ j));have a4:=zAk (x.s (ρ i) (κ j)) (b:=x.s (ρ j) (κ j)) oM;have a5:=zAx (x.s (ρ i) (κ j)) I;rw[S]at a0;have H:∀a,a<r->a≠i->ρ a≠ρ i:=fun a f e h=>by
   rcases zAb e with h1|h1
   exact G a i h1 hi h;exact G i a h1 f h.symm
  have X:Ech Cs r κ (vw ρ (zCf [.add (ρ i) (ρ j) (-q)] x).s):=by
   have V:∀t,t<=κ i->x.s (ρ i) t+-q*x.s (ρ j) t=x.s (ρ i) t:=fun t C=>by
    have K:x.s (ρ j) t=0:=d.zero j o t (by have:=d.inc i j F o;omega);rw[K];omega
   refine⟨d.lt,fun a f=>?_,fun a f t C=>?_,d.inc⟩
   .show 0<(zCf [.add (ρ i) (ρ j) (-q)] x).s (ρ a) (κ a)
    rw[u];by_cases e:a=i
    .rw[e,zB rfl,V _ (xgf _)];exact d.pos i oM
    rw[zA (H a f e)];exact d.pos a f
   show(zCf [.add (ρ i) (ρ j) (-q)] x).s (ρ a) t=0;rw[u];by_cases e:a=i
   .rw[e]at C
    rw[e,zB rfl,V t oM];exact d.zero i oM t C
   rw[zA (H a f e)];exact d.zero a f t C
  obtain⟨l,w,D,y,z,L,N⟩:=W (j+1) (zCf [.add (ρ i) (ρ j) (-q)] x) (2*M*M) oM oM Y (zD g (zJ0 g)) X
   (fun c h1 E=>by
    rw[u,u,zB rfl,zA (H c oM oM)];by_cases e:c=j
    .rw[e,yE,zZ q]
     constructor<;>omega
    have K:x.s (ρ j) (κ c)=0:=d.zero j o (κ c) (d.inc c j oM o);rw[K,qB,zAJ];exact A c h1 oM) P
  rw[<-zDv]at w y z L N;refine⟨[Op.add (ρ i) (ρ j) (-q)]++l,w,(jZ.cons R jZ.nil).app D,y,z,fun a f t=>?_,N⟩;rw[L a f t,u,zA f]
theorem zR3{B:Nat}(N:∀k,k<r->ρ k<n)(u:∀a b,a<b->b<r->ρ a≠ρ b):∀(i:Nat) (x:Bst) (M:Nat),i<=r->leB M n Cs Ct x->1<=M->Ech Cs r κ (vw ρ x.s)->
  zF0 (fun a _=>i<=a) r κ (vw ρ x.s)->gk (zMj r i) M<B->
  ∃l,zKt B n Cs Ct ρ κ r i x=some (zCf l x)/\jZ n l/\leB (gk (zMj r i) M) n Cs Ct (zCf l x)/\Ech Cs r κ (vw ρ (zCf l x).s)/\zF0 (fun _ _=>True) r κ (vw ρ (zCf l x).s)∧
   (∀a,(∀k,k<r->ρ k≠a)->∀t,(zCf l x).s a t=x.s a t):=by
 intro i;induction i with
 |zero=>
  intro x M K o p m q f;exact⟨[],rfl,jZ.nil,o,m,fun a b h1 c _=>q a b h1 c (zH _),fun a _ t=>rfl⟩
 | succ i O=>
  intro x M K o p m q f;have L:gk (zMj r (i+1)) M=gk (zMj r i) (gk (r-(i+1)) M):=zGp _ _ _;rw[L]at f ⊢
  have v:=zJ1 (r-(i+1)) p;have J:gk (r-(i+1)) M<B:=zI (zKn (zMj r i) v) f;obtain⟨d,E,F,G,H,j,I⟩:=zR4 (B:=B) (Ct:=Ct) (i:=i) N u oM (r-(i+1)) (i+1) x M oM oM o p m (fun S h1 c=>by omega) J;have w:∀a,a<r->a≠i->ρ a≠ρ i:=fun a g e h=>by
   rcases zAb e with h1|h1
   exact u a i h1 oM h;exact u i a h1 g h.symm
  obtain⟨Q,y,P,z,A,C,D⟩:=O (zCf d x) (gk (r-(i+1)) M) oM G v H
   (fun a b h1 c R=>by
    show 0<=(zCf d x).s (ρ a) (κ b)/\(zCf d x).s (ρ a) (κ b)<(zCf d x).s (ρ b) (κ b);by_cases e:a=i
    .rw[e];exact I b oM c
    rw[j _ (w a oM e),j _ (w b c oM)];exact q a b h1 c oM) f
  rw[<-zDv]at y z A C D;refine⟨d++Q,?_,F.app P,z,A,C,fun a g t=>?_⟩
  .unfold zKt
   rw[E,zAN];exact y
  rw[D a g t,j a (fun e=>g i oM e.symm)]
theorem zQq{a b y:Int}(c:a.natAbs<=M)(d:b.natAbs<=M)(e:x.natAbs<=M)(f:y.natAbs<=M):(a*x+b*y).natAbs<=2*M*M:=by
 have g:(a*x).natAbs<=M*M:=by rw[qU];exact qO c e
 have h:(b*y).natAbs<=M*M:=by rw[qU];exact qO d f
 rw[zE];omega
theorem zIK{a b c:Int}(h:leM M n C F)(k:1<=M)(f:i<n)(g:j<n)(l:a.natAbs<=M)(m:b.natAbs<=M)(hc:c.natAbs<=M)(hd:d.natAbs<=M):leM (2*M*M) n C (jQ F i j a b c d):=by
 intro r o t e;unfold jQ;split;exact zQq l m (h i f t e) (h j g t e);split;exact zQq hc hd (h i f t e) (h j g t e);exact zD (h r o t e) (zJ0 k)
theorem zTj{a b c:Int}{x:Bst}(h:leB M n Cs Ct x)(e:1<=M)(k:i<n)(l:j<n)(f:a.natAbs<=M)(g:b.natAbs<=M)(hc:c.natAbs<=M)(hd:d.natAbs<=M):leB (2*M*M) n Cs Ct (x.mix i j a b c d):=
 ⟨zIK h.1 e k l f g hc hd,zIK h.2.1 e k l f g hc hd,zIK h.2.2 e k l hd (by rw[zY];exact hc) (by rw[zY];exact g) f⟩
theorem zWK{a b c:Int}{x:Bst}(h:leB M n Cs Ct x)(q:1<=M)(k:i<n)(l:j<n)(m:a.natAbs<=M)(o:b.natAbs<=M)(hc:c.natAbs<=M)(hd:d.natAbs<=M)(p:2*M*M<B):zT3 B n Cs Ct x i j a b c d:=by
 have w:=zJ0 q;have g:∀u v:Int,u.natAbs<=M->v.natAbs<=M->(u*v).natAbs<B:=fun u v r s=>by
  have e:(u*v).natAbs<=M*M:=by rw[qU];exact qO r s
  rw[zE]at p;omega
 exact⟨⟨oM,oM,oM,oM⟩,fun t f=>⟨g _ _ m (h.1 i k t f),g _ _ o (h.1 j l t f),g _ _ hc (h.1 i k t f),g _ _ hd (h.1 j l t f)⟩,
  fun t f=>⟨g _ _ m (h.2.1 i k t f),g _ _ o (h.2.1 j l t f),g _ _ hc (h.2.1 i k t f),g _ _ hd (h.2.1 j l t f)⟩,
  fun t f=>⟨g _ _ hd (h.2.2 i k t f),g _ _ hc (h.2.2 j l t f),g _ _ o (h.2.2 i k t f),g _ _ m (h.2.2 j l t f)⟩,(zTj h q k l m o hc hd).ok p⟩
def zB6(L:List (Nat × Nat))(k:Nat):Nat:=(L.getD k (0,0)).1
def zGQ(L:List (Nat × Nat))(k:Nat):Nat:=(L.getD k (0,0)).2
structure JC(n Cs Ct M0:Nat)(x0:Bst)(b g:Nat)(x:Bst)(L:List (Nat × Nat)):Prop where
 ops:∃l,jZ n l/\x=zCf l x0
 row:∀k,k<L.length->zB6 L k<b
 inj:∀i j,i<j->j<L.length->zB6 L i≠zB6 L j
 len:L.length<=b
 ech:Ech Cs L.length (zGQ L) (vw (zB6 L) x.s)
 zero:∀a,a<b->(∀k,k<L.length->zB6 L k≠a)->∀t,t<Cs->x.s a t=0
 bd:leB (gk g M0) n Cs Ct x
def es:Nat->Nat
 |0=>0
 |m+1=>es m+m+m*(m+1)/2
theorem zX9(h:a<=b):es a<=es b:=by
 obtain⟨d,rfl⟩:=zAV h;clear h;induction d with
 |zero=>exact xgf _
 |succ d c=>exact zD c (by show _<=es (a+d)+(a+d)+_;omega)
def esr(r:Nat):Nat->Nat
 |0=>0
 |m+1=>esr r m+min m r+min m r*(min m r+1)/2
theorem zVl(r:Nat)(h:a<=b):esr r a<=esr r b:=by
 obtain⟨d,rfl⟩:=zAV h;clear h;induction d with
 |zero=>exact xgf _
 |succ d c=>exact zD c (by show _<=esr r (a+d)+min (a+d) r+_;omega)
theorem zXI(r:Nat):∀m,esr r m<=es m
 |0=>xgf _
 |m+1=>zD3 (zD3 (zXI r m) (zDo m r)) (Nat.div_le_div_right (qO (zDo m r) (Nat.succ_le_succ (zDo m r))))
def RkB(r n Cs:Nat)(x0:Bst):Prop:=∀(l:List Op) (k:Nat) (ρ κ:Nat->Nat),jZ n l->k<=n->(∀j,j<k->ρ j<n)->(∀i j,i<j->j<k->ρ i≠ρ j)->Ech Cs k κ (vw ρ (zCf l x0).s)->k<=r
theorem RkB.all{x0:Bst}:RkB n n Cs x0:=fun _ _ _ _ _ h _ _ _=>h
theorem JC.rk{M0:Nat}{x0 x:Bst}{L:List (Nat × Nat)}(h:JC n Cs Ct M0 x0 b g x L)(a:b<=n)(f:RkB r n Cs x0):L.length<=r:=by
 obtain⟨l,c,d⟩:=h.ops;exact f l _ (zB6 L) (zGQ L) c (zD h.len a) (fun j e=>zM (h.row j e) a) h.inj (d ▸ h.ech)
def JH(ex:Nat->Nat)(r n Cs Ct M0:Nat)(x0:Bst)(m:Nat)(x:Bst)(L:List (Nat × Nat)):Prop:=
 m<=n/\(∃g,g<=L.length/\(m<n->∀i,i<g->lead Cs x.s m<0∨(zGQ L i:Int)<lead Cs x.s m)/\(m=n->g=0)/\JC n Cs Ct M0 x0 m (ex m+g) x L)/\(m=n->zF0 (fun _ _=>True) L.length (zGQ L) (vw (zB6 L) x.s))
def JH'(ex:Nat->Nat)(r n Cs Ct M0:Nat)(x0:Bst)(m:Nat)(x:Bst)(L:List (Nat × Nat)):Prop:=JC n Cs Ct M0 x0 (m+1) (ex m+min m r) x L
section
variable {ex:Nat->Nat} {B r n Cs Ct M0:Nat} {x0:Bst}
theorem JC.lok{x:Bst}{L:List (Nat × Nat)}(h:JC n Cs Ct M0 x0 b g x L)(c:b<=n):LOk n Cs b x L:=by
 refine⟨fun k a=>⟨h.row k a,zM (h.row k a) c,h.ech.lt k a,?_⟩,h.ech.inc,h.inj,zD h.len c⟩;have:0<x.s (zB6 L k) (zGQ L k):=h.ech.pos k a;have e:x.s (L.getD k (0,0)).1 (L.getD k (0,0)).2=x.s (zB6 L k) (zGQ L k):=rfl;rw[e];omega
theorem zKF{x y:Bst}{l a:List Op}(h1:jZ n l)(h2:x=zCf l x0)(b:jZ n a)(c:y=zCf a x):∃l,jZ n l/\y=zCf l x0:=⟨l++a,h1.app b,by rw[zDv,<-h2];exact c⟩
theorem zNY{x y:Bst}{L:List (Nat × Nat)}(P:m<n)(w:1<=M0)(M:c<Cs)(h:JC n Cs Ct M0 x0 m g x L)(N:e<=k)(f:k<L.length)(hc:zGQ L k=c)
  (H:∃l,jZ n l/\y=zCf l x) (j:∀a,a≠m->a≠zB6 L k->∀t,y.s a t=x.s a t) (G:0<y.s (zB6 L k) c) (I:∀t,t<c->y.s (zB6 L k) t=0) (F:∀t,t<=c->y.s m t=0) (z:leB (gk (ex m+e+1) M0) n Cs Ct y):
  JH ex r n Cs Ct M0 x0 m y L/\(lead Cs y.s m<0∨(c:Int)<lead Cs y.s m):=by
 have A:lead Cs y.s m<0∨(c:Int)<lead Cs y.s m:=by
  rcases zCp Cs y.s m with⟨g,-⟩|⟨o,J,K,v,-⟩
  left;omega;right;rcases zK c o with h|h
  omega;exact absurd (F o h) v
 have s:∀a,a<L.length->a≠k->zB6 L a≠zB6 L k:=fun a b e p=>by
  rcases zAb e with h1|h1
  exact h.inj a k h1 f p;exact h.inj k a h1 b p.symm
 have u:∀a,a<L.length->zB6 L a≠m:=fun a b=>by have:=h.row a b;omega
 obtain⟨l,B,C⟩:=h.ops;obtain⟨Q,D,E⟩:=H;refine⟨⟨oM,⟨k+1,f,fun _ i O=>?_,fun e=>oM,⟨zKF B C D E,h.row,h.inj,h.len,⟨h.ech.lt,fun a b=>?_,fun a b t d=>?_,h.ech.inc⟩,fun a b q t d=>?_,z.mono (zEj w oM)⟩⟩,fun e=>oM⟩,A⟩
 .have:zGQ L i<=c:=by
   rcases zK i k with h1|h1
   have:=h.ech.inc i k h1 f;omega;obtain rfl:i=k:=oM;omega
  omega
 .show 0<y.s (zB6 L a) (zGQ L a)
  by_cases e:a=k
  .rw[e,hc];exact G
  rw[j _ (u a b) (s a b e)];exact h.ech.pos a b
 .show y.s (zB6 L a) t=0
  by_cases e:a=k
  .rw[e,hc]at d
   rw[e];exact I t d
  rw[j _ (u a b) (s a b e)];exact h.ech.zero a b t d
 rw[j a oM (fun e=>q k f e.symm)];exact h.zero a b q t d
theorem zV3{x:Bst}{L:List (Nat × Nat)}(i:m<n)(j:1<=M0)(h:JC n Cs Ct M0 x0 m (ex m+e) x L)(A:e<=k)(B:lead Cs x.s m=(c:Int))(b:k<L.length)(hc:zGQ L k=c)
  (hd:x.s m c%x.s (zB6 L k) c=0):JH ex r n Cs Ct M0 x0 m (x.add m (zB6 L k) (-(x.s m c/x.s (zB6 L k) c))) L/\(lead Cs (x.add m (zB6 L k) (-(x.s m c/x.s (zB6 L k) c))).s m<0∨(c:Int)<lead Cs (x.add m (zB6 L k) (-(x.s m c/x.s (zB6 L k) c))).s m):=by
 obtain⟨l,-⟩:=zDu B;have I:=h.row k b;have q:∀t,t<c->x.s (zB6 L k) t=0:=fun t f=>h.ech.zero k b t (by rw[hc];exact f)
 have p:0<x.s (zB6 L k) c:=by have:=h.ech.pos k b;rw[hc]at this;exact this
 have C:∀t,t<c->x.s m t=0:=by
  rcases zCp Cs x.s m with⟨g,-⟩|⟨u,E,F,G,w⟩
  omega;obtain rfl:u=c:=oM;exact w
 have z:=zJ1 (ex m+e) j;have D:(x.s m c/x.s (zB6 L k) c).natAbs<=gk (ex m+e) M0:=zNL p (h.bd.1 m i c l);have o:(Op.add m (zB6 L k) (-(x.s m c/x.s (zB6 L k) c))).ok n:=⟨i,oM,oM⟩;have d:∀a t,(x.add m (zB6 L k) (-(x.s m c/x.s (zB6 L k) c))).s a t=if a=m then x.s m t+-(x.s m c/x.s (zB6 L k) c)*x.s (zB6 L k) t else x.s a t:=fun a t=>rfl
 refine zNY i j l h A b hc ⟨[_],jZ.cons o jZ.nil,rfl⟩ (fun a y H t=>by rw[d,zA y]) (by rw[d,zA oM];exact p) (fun t f=>by rw[d,zA oM];exact q t f) (fun t f=>?_) ?_
 .rw[d,zB rfl]
  by_cases v:t=c
  .subst v
   have:=zAP (x.s m t) (x.s (zB6 L k) t);rw[yE,zZ (x.s m t/_)];omega
  rw[C t oM,q t oM,qB];rfl
 refine(zO4 h.bd o).mono ?_;rw[zGp (ex m+e) 1];show _<=2*gk (ex m+e) M0*gk (ex m+e) M0;have:(Op.add m (zB6 L k) (-(x.s m c/x.s (zB6 L k) c))).g=1+(x.s m c/x.s (zB6 L k) c).natAbs:=by simp[Op.g]
 rw[this];exact zJM z D
theorem zXx{y:Int}(h:0<x){g:Int}(b:g=((Int.gcd x y:Nat):Int)):0<g/\g*(x/g)=x/\g*(y/g)=y/\(x/g).natAbs<=x.natAbs/\(y/g).natAbs<=y.natAbs:=by
 have f:Int.gcd x y≠0:=fun e=>by rw[zB2]at e;omega
 have a:0<g:=oM;have c:g∣x:=by rw[b];exact zBd ..
 have d:g∣y:=by rw[b];exact zCN ..
 exact⟨a,Int.mul_ediv_cancel' c,Int.mul_ediv_cancel' d,zNL a (xgf _),zNL a (xgf _)⟩
def qAO(x:Bst)(r m c:Nat)(s t:Int):Bst:=x.mix r m s t (-(x.s m c/((Int.gcd (x.s r c) (x.s m c):Nat):Int))) (x.s r c/((Int.gcd (x.s r c) (x.s m c):Nat):Int))
def zXX(B n Cs Ct G m c:Nat)(x:Bst)(r:Nat)(s t:Int):Prop:=G<B->zT3 B n Cs Ct x r m s t (-(x.s m c/((Int.gcd (x.s r c) (x.s m c):Nat):Int))) (x.s r c/((Int.gcd (x.s r c) (x.s m c):Nat):Int))
theorem zQK{x:Bst}{L:List (Nat × Nat)}(b:m<n)(y:1<=M0)(h:JC n Cs Ct M0 x0 m (ex m+e) x L)(U:e<=k)(V:lead Cs x.s m=(c:Int))(d:k<L.length)(hc:zGQ L k=c)(s t:Int)
  (S:Bez (x.s (zB6 L k) c) (x.s m c) s t):zXX B n Cs Ct (gk (ex m+e+1) M0) m c x (zB6 L k) s t/\(JH ex r n Cs Ct M0 x0 m (qAO x (zB6 L k) m c s t) L/\(lead Cs (qAO x (zB6 L k) m c s t).s m<0∨(c:Int)<lead Cs (qAO x (zB6 L k) m c s t).s m)):=by
 obtain⟨j,-⟩:=zDu V;have a3:=h.row k d;have D:∀t,t<c->x.s (zB6 L k) t=0:=fun t X=>h.ech.zero k d t (by rw[hc];exact X)
 have W:0<x.s (zB6 L k) c:=by have:=h.ech.pos k d;rw[hc]at this;exact this
 have A:∀t,t<c->x.s m t=0:=by
  rcases zCp Cs x.s m with⟨g,-⟩|⟨I,g1,g2,g3,O⟩
  omega;obtain rfl:I=c:=oM;exact O
 have w:=zJ1 (ex m+e) y;have bx:=h.bd.1 (zB6 L k) oM c j;have a0:=h.bd.1 m b c j;obtain⟨i,a1,a2⟩:=S;obtain⟨g,z⟩:∃g:Int,((Int.gcd (x.s (zB6 L k) c) (x.s m c):Nat):Int)=g:=⟨_,rfl⟩;obtain⟨J,p,q,d4,d5⟩:=zXx W z.symm;have E:s.natAbs<=gk (ex m+e) M0:=oM;have F:t.natAbs<=gk (ex m+e) M0:=oM;have G:(-(x.s m c/g)).natAbs<=gk (ex m+e) M0:=by rw[zY];omega
 have H:(x.s (zB6 L k) c/g).natAbs<=gk (ex m+e) M0:=oM;have R:=zTj h.bd w (by omega:zB6 L k<n) b E F G H;unfold zXX qAO;rw[z]at i ⊢
 refine⟨fun v=>zWK h.bd w oM b E F G H (by rw[zGp (ex m+e) 1]at v;exact v),?_⟩;have C:zB6 L k≠m:=oM;have T:s*(x.s (zB6 L k) c/g)-t*(-(x.s m c/g))=1:=by
  have K:g*(s*(x.s (zB6 L k) c/g)-t*(-(x.s m c/g)))=g*1:=by
   rw[zEC,Int.sub_neg,zDK,jF g s,jF g t,p,q,i,zAl]
  exact zAd oM K
 obtain⟨l,Y,Z⟩:=zYZ (n:=n) (by omega:zB6 L k<n) b C _ s t (-(x.s m c/g)) (x.s (zB6 L k) c/g) rfl T;have f:∀a u,(x.mix (zB6 L k) m s t (-(x.s m c/g)) (x.s (zB6 L k) c/g)).s a u=if a=zB6 L k then s*x.s (zB6 L k) u+t*x.s m u else if a=m then-(x.s m c/g)*x.s (zB6 L k) u+x.s (zB6 L k) c/g*x.s m u else x.s a u:=fun a u=>rfl
 refine zNY b y j h U d hc ⟨l,Y,Z x⟩ (fun a P Q u=>by rw[f,zA Q,zA P]) (by rw[f,zB rfl,i];exact J) (fun u o=>by rw[f,zB rfl,D u o,A u o];simp) (fun u o=>?_) (by rw[zGp (ex m+e) 1];exact R);rw[f,zA (qF C),zB rfl];by_cases N:u=c
 .subst N
  have M:x.s m u/g*x.s (zB6 L k) u=x.s (zB6 L k) u/g*x.s m u:=by
   have:g*(x.s m u/g*x.s (zB6 L k) u)=g*(x.s (zB6 L k) u/g*x.s m u):=by
    rw[<-qA,q,<-qA,p,zZ]
   exact zAd oM this
  rw[yE,M];omega
 rw[A u oM,D u oM];simp
theorem zQc(L:List (Nat × Nat))(f:k<=L.length)(a:Nat):(L.take k++(m,c)::L.drop k).getD a (0,0)=if a<k then L.getD a (0,0)else if a=k then(m,c)else L.getD (a-1) (0,0):=by
 rw[xgb];split
 .rename_i h
  rw[List.getElem?_append_left (by simp;omega),List.getElem?_take_of_lt h,<-xgb]
 rename_i h;rw[List.getElem?_append_right (by simp;omega)];have e:(L.take k).length=k:=by simp;omega
 rw[e];split
 .rename_i b
  rw[b];simp
 rename_i b;obtain⟨d,hd⟩:∃d,a-k=d+1:=⟨a-k-1,oM⟩;rw[hd,List.getElem?_cons_succ,List.getElem?_drop,<-xgb];congr 1;omega
theorem zZk{x:Bst}{L:List (Nat × Nat)}(Z:m<n)(S:1<=M0)(h:JC n Cs Ct M0 x0 m (ex m+e) x L)(he:e<=min m r)(W:lead Cs x.s m=(c:Int))(K:k<=L.length)(M:∀i,i<k->zGQ L i<c)(I:∀i,k<=i->i<L.length->c<zGQ L i):
  JH' ex r n Cs Ct M0 x0 m (if x.s m c<0 then x.neg m else x) (L.take k++(m,c)::L.drop k):=by
 obtain⟨U,a2⟩:=zDu W;have N:∀t,t<c->x.s m t=0:=by
  rcases zCp Cs x.s m with⟨g,-⟩|⟨P,f,o,l,Q⟩
  omega;obtain rfl:P=c:=oM;exact Q
 obtain⟨A,G,R,B⟩:∃A,jZ n A/\gro A=1/\(if x.s m c<0 then x.neg m else x)=zCf A x:=by
  by_cases O:x.s m c<0
  .rw[zB O];exact⟨[.neg m],jZ.cons Z jZ.nil,rfl,rfl⟩
  rw[zA O];exact⟨[],jZ.nil,rfl,rfl⟩
 have H:leB (gk (ex m+min m r) M0) n Cs Ct (if x.s m c<0 then x.neg m else x):=by
  rw[B];refine(zHF G h.bd).mono ?_;rw[R,jS];exact zEj S oM
 obtain⟨y,z⟩:∃y,(if x.s m c<0 then x.neg m else x)=y:=⟨_,rfl⟩;have w:∀a,a≠m->∀t,y.s a t=x.s a t:=fun a p t=>by
  rw[<-z];split
  .show(if a=m then _ else x.s a t)=_
   rw[zA p]
  rfl
 have a0:0<y.s m c:=by
  rw[<-z];split
  .show 0<(if m=m then-(x.s m c)else _)
   rw[zB rfl];omega
  omega
 have hz:∀t,t<c->y.s m t=0:=fun t d=>by
  rw[<-z];split
  .show(if m=m then-(x.s m t)else _)=0
   rw[zB rfl,N t d];rfl
  exact N t d
 rw[z]at B H ⊢
 obtain⟨a3,X,Y⟩:=h.ops;have q:(L.take k++(m,c)::L.drop k).length=L.length+1:=by simp;omega
 have s:∀a,zB6 (L.take k++(m,c)::L.drop k) a=if a<k then zB6 L a else if a=k then m else zB6 L (a-1):=fun a=>by
  unfold zB6;rw[zQc L K];split;rfl;split<;>rfl
 have v:∀a,zGQ (L.take k++(m,c)::L.drop k) a=if a<k then zGQ L a else if a=k then c else zGQ L (a-1):=fun a=>by
  unfold zGQ;rw[zQc L K];split;rfl;split<;>rfl
 have u:=h.row;have E:=h.inj;have J:=h.ech.inc;have a1:=h.len;refine⟨zKF X Y G B,fun a p=>?_,fun a b C D=>?_,oM,⟨fun a p=>?_,fun a p=>?_,fun a p t d=>?_,fun a b C D=>?_⟩,fun a p F t d=>?_,H⟩
 .rw[q]at p
  rw[s];split;have:=u a oM;omega;split;omega;have:=u (a-1) oM;omega
 .rw[q]at D
  rw[s a,s b];by_cases f:a<k
  .rw[zB f]
   by_cases o:b<k
   .rw[zB o];exact E a b C oM
   rw[zA o];by_cases l:b=k
   .rw[zB l];have:=u a oM;omega
   rw[zA l];exact E a (b-1) oM oM
  rw[zA f,zA (show ¬ b<k by omega),zA (show ¬ b=k by omega)];by_cases l:a=k
  .rw[zB l];have:=u (b-1) oM;omega
  rw[zA l];exact E (a-1) (b-1) oM oM
 .rw[q]at p
  rw[v];split;exact h.ech.lt a oM;split;exact U;exact h.ech.lt (a-1) oM
 .rw[q]at p
  show 0<y.s (zB6 _ a) (zGQ _ a);rw[s,v];split;rw[w _ (by have:=u a oM;omega)];exact h.ech.pos a oM;split;exact a0;rw[w _ (by have:=u (a-1) oM;omega)];exact h.ech.pos (a-1) oM
 .rw[q]at p
  show y.s (zB6 _ a) t=0;rw[v]at d;rw[s];split
  .rename_i f
   rw[zB f]at d;rw[w _ (by have:=u a oM;omega)];exact h.ech.zero a oM t d
  rename_i f;rw[zA f]at d;split
  .rename_i o
   rw[zB o]at d;exact hz t d
  rename_i o;rw[zA o]at d;rw[w _ (by have:=u (a-1) oM;omega)];exact h.ech.zero (a-1) oM t d
 .rw[q]at D
  rw[v a,v b];by_cases f:a<k
  .rw[zB f]
   by_cases o:b<k
   .rw[zB o];exact J a b C oM
   rw[zA o];by_cases l:b=k
   .rw[zB l];exact M a f
   rw[zA l];have i1:=M a f;have i2:=I (b-1) oM oM;omega
  rw[zA f,zA (show ¬ b<k by omega),zA (show ¬ b=k by omega)];by_cases l:a=k
  .rw[zB l];exact I (b-1) oM oM
  rw[zA l];exact J (a-1) (b-1) oM oM
 have T:a≠m:=fun e=>F k (by rw[q];omega) (by rw[s,zA oM,zB rfl];exact e.symm)
 rw[w a T];refine h.zero a oM (fun j hj=>?_) t d;by_cases V:j<k
 .have:=F j (by rw[q];omega)
  rw[s,zB V]at this;exact this
 have:=F (j+1) (by rw[q];omega);rw[s,zA oM,zA oM]at this;exact this
theorem zWV:∀m,m<6->∀r,r<=m+1->zMj r r<=m*(m+1)/2:=by decide
theorem zTH{p:Nat}(hn:n<=6)(v:1<=M0)(V:gk (ex n) M0<B)(E:RkB r n Cs x0)(O:∀m,p<=m->m<n->ex m+min m r+min m r*(min m r+1)/2<=ex (m+1)):
  zXB B n Cs Ct (fun m x L=>p<=m/\JH ex r n Cs Ct M0 x0 m x L) (fun m x L=>p<=m/\JH' ex r n Cs Ct M0 x0 m x L):=by
 have D:∀a,a<=ex n->gk a M0<B:=fun a F=>zI (zEj v F) V
 have a0:∀d m,p<=m->m+d=n->ex m<=ex n:=fun d=>by
  induction d with
  |zero=>
   intro m _ h;rw[show m=n by omega];exact xgf _
  |succ d ih=>
   intro m l h;have:=O m l oM;have:=ih (m+1) oM oM;omega
 have G:∀m,p<=m->m<n->ex m+min m r+min m r*(min m r+1)/2<=ex n:=fun m l j=>zD (O m l j) (a0 (n-(m+1)) (m+1) oM oM)
 refine⟨fun m x L h=>?_,fun m x L j h=>?_,fun m x L j h w=>?_,fun m x L k c j h w q C=>?_,fun m x L k c j h w q Y X=>?_,fun m x L j h=>?_⟩
 .obtain⟨l,u,⟨g,z,-,K,y⟩,-⟩:=h
  refine⟨y.bd.ok (D _ ?_),y.lok u⟩;rcases zK m n with j|j
  .have:=G m l j
   have:=y.len;have:=y.rk u E;omega
  obtain rfl:m=n:=oM;rw[K rfl];exact xgf _
 .obtain⟨l,h⟩:=h
  exact⟨h.bd.ok (D _ (by have:=G m l j;omega)),h.lok oM⟩
 .obtain⟨l,u,⟨g,z,-,-,f⟩,-⟩:=h
  refine⟨l,f.ops,fun k q=>Nat.lt_succ_of_lt (f.row k q),f.inj,Nat.le_succ_of_le f.len,f.ech,fun a F H t I=>?_,f.bd.mono (zEj v ?_)⟩
  .by_cases e:a=m
   .rw[e];exact zHk w t I
   exact f.zero a oM H t I
  have:=f.len;have:=f.rk u E;omega
 .obtain⟨l,u,⟨g,z,J,-,f⟩,-⟩:=h
  obtain⟨W,-⟩:=zDu w;have P:g<=k:=by
   refine zAC fun Z=>?_
   have:=J j k Z;rw[w,show zGQ L k=c from C]at this;omega
  have N:ex m+g+1<=ex n:=by
   have:=G m l j;have:=f.len;have:=f.rk u E;have:g+1<=min m r:=oM;omega
  refine⟨fun hd=>?_,fun s t M=>?_,fun a3 hy=>?_⟩
  .have l:0<x.s (zB6 L k) c:=by
    have:=f.ech.pos k q;rw[show zGQ L k=c from C]at this;exact this
   have R:=zJ1 (ex m+g) v;have a2:=f.row k q;have hq:(x.s m c/x.s (zB6 L k) c).natAbs<=gk (ex m+g) M0:=zNL l (f.bd.1 m j c W);refine zGa f.bd j (show zB6 L k<n by omega) (show m≠zB6 L k by omega) R ?_;rw[zY];have S:=zJM R hq;have Q:=D (ex m+g+1) N;rw[zGp (ex m+g) 1]at Q;exact zI S Q
  exact(zQK (r:=r) (B:=B) j v f P w q C s t M).1 (D _ N);cases hy with
  |add hd=>
   have A:=zV3 (r:=r) j v f P w q C hd;exact⟨⟨l,A.1⟩,A.2⟩
  |mix s t hd M=>
   have A:=(zQK (r:=r) (B:=B) j v f P w q C s t M).2;exact⟨⟨l,A.1⟩,A.2⟩
 .obtain⟨l,u,⟨g,z,-,-,f⟩,-⟩:=h
  refine⟨l,?_⟩;exact zZk j v f (by have:=f.len;have:=f.rk u E;omega) w q Y X
 obtain⟨l,h⟩:=h;have o:JC n Cs Ct M0 x0 (m+1) (ex m+min m r) x L:=h;have hr:zMj L.length L.length<=min m r*(min m r+1)/2:=zWV (min m r) oM L.length (by have:=o.len;have:=o.rk j E;omega);have N:=G m l j;obtain⟨a1,z,J,K,y,T,U⟩:=zR3 (B:=B) (Ct:=Ct) (ρ:=zB6 L) (κ:=zGQ L) (fun k q=>zM (o.row k q) oM) o.inj L.length x (gk (ex m+min m r) M0) (xgf _) o.bd (zJ1 _ v) o.ech
  (fun a b u f h3=>by omega) (by rw[<-zGp];exact D _ oM)
 obtain⟨l',k1,k2⟩:=o.ops;refine⟨zCf a1 x,z,oM,oM,⟨0,zH _,fun _ i hi=>oM,fun _=>rfl,⟨zKF k1 k2 J rfl,o.row,o.inj,o.len,y,fun a F H t I=>?_,?_⟩⟩,fun _=>T⟩
 .rw[U a H]
  exact o.zero a F H t I
 refine K.mono ?_;rw[<-zGp];refine zEj v ?_;have:=O m l j;omega
theorem zTG(u:n<=6)(o:1<=M0)(l:gk (esr r n) M0<B)(v:RkB r n Cs x0):zXB B n Cs Ct (JH (esr r) r n Cs Ct M0 x0) (JH' (esr r) r n Cs Ct M0 x0):=by
 have h:=zTH (p:=0) (Ct:=Ct) (ex:=esr r) u o l v fun m _ _=>xgf _
 exact⟨fun m x L k=>h.ok m x L ⟨zH _,k⟩,fun m x L a k=>h.ok' m x L a ⟨zH _,k⟩,fun m x L a k b=>(h.zero m x L a ⟨zH _,k⟩ b).2,fun m x L k c a g b f q=>by
  obtain⟨d,e,i⟩:=h.join m x L k c a ⟨zH _,g⟩ b f q;exact⟨d,e,fun y j=>⟨(i y j).1.2,(i y j).2⟩⟩,fun m x L k c a g b f t s=>(h.ins m x L k c a ⟨zH _,g⟩ b f t s).2,fun m x L a g=>by
  obtain⟨y,d,e⟩:=h.red m x L a ⟨zH _,g⟩;exact⟨y,d,e.2⟩⟩
theorem JH.fin{x:Bst}{L:List (Nat × Nat)}(h:JH ex r n Cs Ct M0 x0 n x L):JC n Cs Ct M0 x0 n (ex n) x L/\zF0 (fun _ _=>True) L.length (zGQ L) (vw (zB6 L) x.s):=by
 obtain⟨-,⟨g,-,-,b,a⟩,c⟩:=h;rw[b rfl]at a;exact⟨a,c rfl⟩
theorem zQJ(h:leB M0 n Cs Ct x0)(d:1<=M0):JH (esr r) r n Cs Ct M0 x0 0 x0 []:=
 ⟨zH _,⟨0,zH _,fun _ i g=>oM,fun _=>rfl,⟨⟨[],jZ.nil,rfl⟩,fun k b=>by simp at b,fun i j _ c=>by simp at c,xgf _,⟨fun k b=>by simp at b,fun k b=>by simp at b,fun k b=>by simp at b,fun k l _ e=>by simp at e⟩,fun a f=>oM,h.mono (zKn _ d)⟩⟩,fun _ i j _ c=>by simp at c⟩
end
end Go.Proofs.YtkidaebmhlijlaaGreat
