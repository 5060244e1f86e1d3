/- Joined. -/
import Derived.Test.YtkidaebmhlijlaaGreatD08
import Derived.Test.YtkidaebmhlijlaaGreatD19
set_option linter.unusedVariables false
set_option linter.unusedSimpArgs false
set_option linter.unusedSectionVars false
set_option maxHeartbeats 16000000
set_option maxRecDepth 100000
variable{cs:Array Go.Value}{e0:Bool}{d x:Int}{zs:List Int}{bs:List Nat}{B C Cs Ct M R a b bw c e g i j k m n r:Nat}{κ ρ:Nat->Nat}{F:Nat->Nat->Int}{P Z:Nat->Prop}{A Ah:Go.Value}{w w':Go.World}
namespace Go.Proofs.YtkidaebmhlijlaaGreat
open Go.RowKit
structure LOk(n Cs m:Nat)(x:Bst)(L:List (Nat × Nat)):Prop where
 mem:∀k,k<L.length->(L.getD k (0,0)).1<m/\(L.getD k (0,0)).1<n/\(L.getD k (0,0)).2<Cs/\x.s (L.getD k (0,0)).1 (L.getD k (0,0)).2≠0
 inc:∀i j,i<j->j<L.length->(L.getD i (0,0)).2<(L.getD j (0,0)).2
 inj:∀i j,i<j->j<L.length->(L.getD i (0,0)).1≠(L.getD j (0,0)).1
 len:L.length<=n
structure zV6(B n Cs Ct:Nat)(J J':Nat->Bst->List (Nat × Nat)->Prop):Prop where
 ok:∀m x L,J m x L->okB B n Cs Ct x/\LOk n Cs m x L
 ok':∀m x L,m<n->J' m x L->okB B n Cs Ct x/\LOk n Cs (m+1) x L
 zero:∀m x L,m<n->J m x L->lead Cs x.s m<0->J' m x L
 join:∀(m:Nat) (x:Bst) (L:List (Nat × Nat)) (k c:Nat),m<n->J m x L->lead Cs x.s m=(c:Int)->k<L.length->(L.getD k (0,0)).2=c->
  (x.s m c%x.s (L.getD k (0,0)).1 c=0->zFd B n Cs Ct x m (L.getD k (0,0)).1 (-(x.s m c/x.s (L.getD k (0,0)).1 c)))∧
  (∀s t,Bez (x.s (L.getD k (0,0)).1 c) (x.s m c) s t->zS4 B n Cs Ct x (L.getD k (0,0)).1 m s t (-(x.s m c/((Int.gcd (x.s (L.getD k (0,0)).1 c) (x.s m c):Nat):Int))) (x.s (L.getD k (0,0)).1 c/((Int.gcd (x.s (L.getD k (0,0)).1 c) (x.s m c):Nat):Int)))∧
  ∀y,zP1 x (L.getD k (0,0)).1 m c y->J m y L/\(lead Cs y.s m<0∨(c:Int)<lead Cs y.s m)
 ins:∀(m:Nat) (x:Bst) (L:List (Nat × Nat)) (k c:Nat),m<n->J m x L->lead Cs x.s m=(c:Int)->k<=L.length->(∀i,i<k->(L.getD i (0,0)).2<c)->(∀i,k<=i->i<L.length->c<(L.getD i (0,0)).2)->
  J' m (if x.s m c<0 then x.neg m else x) (L.take k++(m,c)::L.drop k)
 red:∀m x L,m<n->J' m x L->∃y,zKK B n Cs Ct (fun k=>(L.getD k (0,0)).1) (fun k=>(L.getD k (0,0)).2) L.length L.length x=some y/\J (m+1) y L
theorem zEM.rowB{e:Bool}{cap:Nat}{x:Bst}(h:zEM e Z w' bw (slq g a cap) n Cs Ct x)(hi:i<n)(hc:w.cell? ⟨g,i,none⟩=some (slq b Cs Cs))(ho:w'.heap[g]?=w.heap[g]?):jJ w' b (qZ Cs (x.s i)):=by
 obtain⟨b',o1,hr,-⟩:=h.row hi;have e1:w'.cell? ⟨g,i,none⟩=w.cell? ⟨g,i,none⟩:=by unfold World.cell?;rw[ho]
 rw[e1,hc]at o1;injection o1 with o1
 injection o1 with o1
 injection o1 with o1
 injection o1 with o1
 subst o1;exact hr
theorem zDi(h:lead C F i=(c:Int)):c<C/\F i c≠0:=by
 rcases zCY C F i with⟨h1,-⟩|⟨j,h1,h2,h3,-⟩
 omega;obtain rfl:j=c:=oM;exact⟨h2,h3⟩
theorem zLg:zCL 0 (qZ C (F i))=lead C F i:=rfl
theorem zY4(h:Wri w A R C bs F)(hp:Blk w b zD9 cs):¬ Zn A bs b:=by
 rintro(hb|hb)
 ·obtain⟨r,hr⟩:=h.blk hb
  exact zMO hp hr dE rfl
 rcases(qC.own h).2 with⟨rfl,-⟩|⟨g,cap,cur,rfl,-,hh,-⟩
 cases hb;simp only[Value.ownBlock,Option.some.injEq]at hb;subst hb;have hh2:zD9=tR:=congrArg (fun o:Option Obj=>match o with|some (Obj.cells _ t _)=>t|_=>0) (hp.symm.trans hh);exact absurd hh2 dE
theorem zHB{t:TypeId}(h:Blk w g t cs)(ht:¬ t=zD9)(ho:qJ P w w')(hP:∀b,P b->∃cs,Blk w b zD9 cs):Blk w' g t cs:=
 ho.blk h fun hg=>by
  obtain⟨cs',h'⟩:=hP g hg;exact ht (congrArg (fun o:Option Obj=>match o with|some (Obj.cells _ t _)=>t|_=>0) (h.symm.trans h'))
theorem zEM.pivs{e:Bool}{x:Bst}(h:zEM e Z w bw Ah n Cs Ct x)(ho:qJ P w w')(hP:∀b,P b->∃cs,Blk w b zD9 cs):zEM e Z w' bw Ah n Cs Ct x:=by
 have hk:∀{A:Value} {R C:Nat} {bs:List Nat} {F:Nat->Nat->Int},Wri w A R C bs F->Wri w' A R C bs F:=fun {A R C bs F} hw=>hw.keepZ ho fun b hb hp=>by
  obtain⟨cs,h1⟩:=hP b hp;exact zY4 hw h1 hb
 have hn:∀{A:Value} {n:Nat},zFN w A n->zFN w' A n:=fun {A n} hw=>by
  obtain⟨g,cap,cs,h1,h2,h3,h4,h5⟩:=hw;exact⟨g,cap,cs,h1,h2,h3,zHB h4 dE ho hP,h5⟩
 unfold zEM at h ⊢
 split at h
 ·rename_i he
  rw[if_pos he];obtain⟨Au,Av,b1,b2,b3,h1,h2,h3⟩:=h;exact⟨Au,Av,b1,b2,b3,zHB h1 dE ho hP,⟨hk h2.s,hk h2.t,hk h2.i,h2.st,h2.si,h2.ti,h2.ast,h2.asi,h2.ati⟩,h3⟩
 rename_i he;rw[if_neg he];obtain⟨h0,Au,Av,b1,h1,h2,h3,h4,h5⟩:=h;exact⟨h0,Au,Av,b1,zHB h1 dE ho hP,hk h2,hn h3,hn h4,h5⟩
theorem zIY.blk{base:Nat}{v:Value}{L:List (Nat × Nat)}(h:zIY w base v L):∀g,v.ownBlock=some g->∃cs,Blk w g zD9 cs:=by
 intro g hg;rcases h.2 with⟨rfl,h0⟩|⟨g',cap,cur,rfl,k1,k2,k3,k4,k5,k6⟩
 cases hg;simp only[Value.ownBlock,Option.some.injEq]at hg;subst hg;exact⟨cur,k2⟩
theorem zB0.z{S:List Nat}(h:zB0 S w w'):qJ (fun b=>b∈S) w w':=⟨h.bel,h.lext,fun k hk hn=>h.old k hk hn⟩
theorem zLT(hB:BSd B){x:Bst}{J J':Nat->Bst->List (Nat × Nat)->Prop}(hE:zV6 B n Cs Ct J J')(h:zEM e0 Z w bw Ah n Cs Ct x)(h0:J 0 x [])
  (hn:n<=1000000) (hCs:Cs<=1000000) (hCt:Ct<=1000000) (hn0:0<n) (hZ:∀b,Z b->b<w.heap.size) (hgz:∀g,Ah.ownBlock=some g->¬ Z g):
  CPq 143 #[Ah,.agg (zEx bw)] w fun e w'=>∃v y Lp,e= .returned v/\qJ Z w w'/\zEM e0 Z w' bw Ah n Cs Ct y/\J n y Lp/\zIY w' w.heap.size v Lp:=by
 have HE:=xgv hE;obtain⟨bss0,hw0,-⟩:=h.wri;obtain⟨so,sn,scap,rfl,s1,s2,s3,-⟩:=id (qC.rows hw0);have e2:n=sn:=by rw[<-s1];simp[genM]
 subst e2;obtain⟨g,_,rfl,-⟩:=qC.at_ hw0 (i:=0) (by rw[hw0.len];exact hn0);have hgz:=hgz g rfl;have HJ0:=xgv h0;clear s1 hw0 bss0 h0 hE;go_enter Tryz.func143,Tryz.ntmps143;go_upto_region 1 with(fail)
 refine zD ?_;intro W0 hW0;obtain⟨hB0,T3,hs0⟩:=qL hW0;have T3:Blk W0 w.heap.size 167 (zEx bw):=T3;have hO:=qJ.of Z hB0;have hz:=h.below hB0;have HL:=xgv (zIY.nil W0 w.heap.size);clear hW0 h;go_wp2;go_loopw [5,12] (fun pv mv wr=>∃(m:Nat) (x:Bst) (Lp:List (Nat × Nat)),mv= .int .i64 m/\m<=n/\qJ Z w wr/\Blk wr w.heap.size 167 (zEx bw)/\zEM e0 Z wr bw (.slice (some ⟨g,0,none⟩) n scap) n Cs Ct x/\jZ (J m x Lp)/\jZ (zIY wr w.heap.size pv Lp)) (fun _ mv _=>n-(intOf mv).toNat)
 case atStart=>exact⟨0,x,[],rfl,oM,hO,T3,hz,HJ0,HL⟩
 clear hO T3 hz HL HJ0;obtain⟨m,x,Lp,rfl,hm,hO,T3,hz,HJ,HL⟩:=hrel;by_cases hlt:m<n
 ·obtain⟨bm,o1,hrow,lg⟩:=hz.row hlt
  obtain⟨wc,hwc⟩:∃wc,wc=wr:=⟨_,rfl⟩;have oc:=o1;rw[<-hwc]at oc;have hgc:wr.heap[g]?=wc.heap[g]?:=by rw[hwc]
  have hVec:=hrow.vec (qA _ _) (xgf _) oM;go_wp2_with fail
  refine(zEt _ _ _ hVec).mono ?_;rintro e w1 ⟨rfl,hb1⟩;rw[zLg];have hz:=hz.below hb1;have T3:=T3.below hb1;have hO:=hO.trans (qJ.of Z hb1);have HL:=xgv (HL.out.below hb1);have hgc:=(hb1.block g oM).trans hgc;clear o1 hrow hVec hwc;obtain⟨c0,hc0⟩:∃c0,lead Cs x.s m=c0:=⟨_,rfl⟩;have HC0:=xgw hc0;rw[hc0];clear hc0;obtain⟨pv0,hpv0⟩:∃p,p=u5:=⟨_,rfl⟩;subst hpv0;obtain⟨ao,lcap,rfl,hlc,hcap,hP0⟩:=id HL.out.piv;have hP0:=xgv hP0;go_wp2;go_loopw [5,8,9] (fun pv kv cv wt=>∃(x:Bst) (k:Nat) (c:Int),pv= .slice ao Lp.length lcap/\kv= .int .i64 k/\cv= .int .i64 c/\k<=Lp.length/\Hid (lead Cs x.s m=c)/\jZ (∀i,i<k->((Lp.getD i (0,0)).2:Int)<c∨c<0)/\qJ Z w wt/\Blk wt w.heap.size 167 (zEx bw)/\zEM e0 Z wt bw (.slice (some ⟨g,0,none⟩) n scap) n Cs Ct x/\jZ (J m x Lp)/\jZ (zIY wt w.heap.size (.slice ao Lp.length lcap) Lp)/\wt.heap[g]?=wc.heap[g]?) (fun _ _ cv _=>if intOf cv<0 then 0 else Cs-(intOf cv).toNat)
  case atStart=>exact⟨x,0,c0,rfl,rfl,rfl,zE _,HC0,⟨fun i hi=>oM⟩,hO,T3,hz,HJ,HL,hgc⟩
  clear hO T3 hz HL HJ HC0 hgc;rename World=>wt
  obtain⟨x,k,c,rfl,rfl,rfl,hk,HC,HI,hO,T3,hz,HJ,HL,hgc⟩:=hrel;by_cases hc0:c<0
  ·have hge:¬ (0<=c):=oM
   have HJ':=xgv (HE.out.zero m x Lp hlt HJ.out (by rw[HC.out];exact hc0));have c1:=T3.three;go_wp2_with fail
   obtain⟨hokx,hLO⟩:=HE.out.ok' m x Lp hlt HJ'.out;obtain⟨y,hy,hJy⟩:=HE.out.red m x Lp hlt HJ'.out;have hown:=HL.out.own;refine(zEa hB hz hokx HL.out.piv (fun b hb hzb=>by have:=(hown b hb).1;have:=hZ b hzb;omega) (fun k hk=>(hLO.mem k hk).2.1) hLO.inj (fun k hk=>(hLO.mem k hk).2.2.1) hn hCs hCt hLO.len (fun b hb=>zJ (hZ b hb) hO.bel.size) hn0 hy).mono ?_;rintro e wz ⟨⟨uz,rfl⟩,hOz,hz,-⟩;have T3:=hOz.blk T3 (fun hh=>by have:=hZ _ hh;omega);have HL:=xgv (HL.out.old (fun g hg=>hOz.old g (hown g hg).2 (fun hzb=>by have:=(hown g hg).1;have:=hZ g hzb;omega)));have hO:=hO.trans hOz;have HJ:=xgv hJy;clear hokx hLO hy hJy hown c1;go_wp2;go_roundw
   case rel=>exact⟨m+1,y,_,by simp,oM,hO,T3,hz,HJ,HL⟩
   case measure=>exact meq
  obtain⟨cn,rfl⟩:∃cn:Nat,c=(cn:Int):=⟨c.toNat,oM⟩;have hge:(0:Int)<=cn:=oM;go_wp2;go_loopw [8] (fun kv wv=>∃k:Nat,kv= .int .i64 k/\k<=Lp.length/\jZ (∀i,i<k->(Lp.getD i (0,0)).2<cn)/\wv=wt) (fun kv _=>Lp.length-(intOf kv).toNat)
  case atStart=>exact⟨k,rfl,hk,⟨fun i hi=>by rcases HI.out i hi with h|h<;>omega⟩,rfl⟩
  obtain⟨k',rfl,hk',HI',hwv⟩:=hrel;have hwv:=hwv.symm;subst hwv;by_cases hkl:k'<Lp.length
  ·obtain⟨bp,_,rfl,-,-⟩:=hP0.out oM
   obtain⟨-,lbp,p1,p2⟩:=HL.out.piv.cell hkl;obtain⟨q,hq⟩:∃q,(Lp.getD k' (0,0)).2=q:=⟨_,rfl⟩;rw[hq]at p2;have HQ:=xgv hq;clear hq;by_cases hqc:q<cn
   ·go_wp2
    go_roundw
    case rel=>
     refine⟨k'+1,by simp,oM,⟨?_⟩,trivial⟩;intro i hi;rcases Nat.lt_succ_iff_lt_or_eq.1 hi with h|rfl
     exact HI'.out i h;rw[HQ.out];exact hqc
    case measure=>exact meq
   by_cases hqe:q=cn
   ·subst hqe
    have hsn:=zDi HC.out;have hokx:=HE.out.ok m x Lp HJ.out;obtain⟨hj1,hj2,hj3⟩:=HE.out.join m x Lp k' q hlt HJ.out HC.out hkl HQ.out;obtain⟨m1,m2,m3,m4⟩:=hokx.2.mem k' hkl;rw[HQ.out]at m3 m4;have c1:=T3.three;obtain⟨ρk,hρk⟩:∃r,(Lp.getD k' (0,0)).1=r:=⟨_,rfl⟩;rw[hρk]at p1 hj1 hj2 hj3 m1 m2 m4;have l3:=T3.lt;obtain⟨-,-,-,lg⟩:=hz.row hlt;have HOK:=xgv hokx.1;have HJ1:=xgv hj1;have HJ2:=xgv hj2;have HJ3:=xgv hj3;have HM4:=xgv m4;have hqC:=hsn.1;clear hsn hokx hj1 hj2 hj3 m4 hρk;go_upto_region 12 with(fail)
    refine yP 7 [] ?_;refine sRd ?_;refine sRf ?_;intro w5 hbw5;have hz:=hz.below hbw5;have T3:=T3.below hbw5;have hO:=hO.trans (qJ.of Z hbw5);have HL:=xgv (HL.out.below hbw5);have hgc:=(hbw5.block g lg).trans hgc;have lg:=zJ lg hbw5.size;clear p1 p2 c1;go_wp2_with fail
    refine(zU5 hB hz HOK.out m2 hlt oM hqC HM4.out hn hCs hCt (fun b hb=>zJ (hZ b hb) hO.bel.size) HJ1.out HJ2.out).mono ?_;rintro e wj ⟨⟨uj,rfl⟩,hOj,y,hJR,hz⟩;obtain⟨hJy,hly⟩:=HJ3.out y hJR;have T3:=hOj.blk T3 (fun hh=>by have:=hZ _ hh;omega);have hown:=HL.out.own;have HL:=xgv (HL.out.old (fun g hg=>hOj.old g (hown g hg).2 (fun hzb=>by have:=(hown g hg).1;have:=hZ g hzb;omega)));have hO:=hO.trans hOj;have hgc:=(hOj.old g lg hgz).trans hgc;have HJY:=xgv hJy;have HLY:=xgv hly;clear hJR hJy hly hown;have hVec:=(hz.rowB hlt oc hgc).vec (qA _ _) (xgf _) oM;go_wp2_with fail
    refine(zEt _ _ _ hVec).mono ?_;rintro e wl ⟨rfl,hbl⟩;rw[zLg];obtain⟨-,-,-,lg⟩:=hz.row hlt;have hz:=hz.below hbl;have T3:=T3.below hbl;have hO:=hO.trans (qJ.of Z hbl);have HL:=xgv (HL.out.below hbl);have hgc:=(hbl.block g lg).trans hgc;clear hVec;obtain⟨cy,hcy⟩:∃cy,lead Cs y.s m=cy:=⟨_,rfl⟩;have HCY:=xgw hcy;rw[hcy];rw[hcy]at HLY;clear hcy;go_wp2;go_roundw
    case rel=>
     refine⟨y,k',cy,rfl,rfl,rfl,hk',HCY,⟨fun i hi=>?_⟩,hO,T3,hz,HJY,HL,hgc⟩;have:=HI'.out i hi;rcases HLY.out with h|h
     exact .inr h;left;omega
    have:=HLY.out;have hg:(if cy<0 then 0 else Cs-cy.toNat)<(if(q:Int)<0 then 0 else Cs-((q:Int)).toNat):=by
     rw[if_neg (show ¬ ((q:Int)<0) by omega)];split<;>omega
    exact hg
   have hLO:=(HE.out.ok m x Lp HJ.out).2.inc;have HG:∀i,k'<=i->i<Lp.length->cn<(Lp.getD i (0,0)).2:=by
    intro i h1 h2;rcases Nat.lt_or_eq_of_le h1 with h|rfl
    ·have:=hLO k' i h h2
     have:=HQ.out;omega
    have:=HQ.out;omega
   clear hLO;have hsn:=zDi HC.out;have hrow:=hz.rowB hlt oc hgc;obtain⟨xs,xa,xl,xc,v1,v2,f1,f2,hx⟩:=hrow.cell (yE hsn.1);have hcC:=hsn.1;go_wp2_with fail
   refine(zAi _ (x.s m cn) wt hx.weak).mono ?_;rintro e ws ⟨rfl,hbs⟩;have hz:=hz.below hbs;have T3:=T3.below hbs;have hO:=hO.trans (qJ.of Z hbs);have HL:=xgv (HL.out.below hbs);have hsn2:=hsn.2;have HJ':=HE.out.ins m x Lp k' cn hlt HJ.out HC.out oM HI'.out HG;have hokx:=(HE.out.ok m x Lp HJ.out).1;have hlen:Lp.length<=1000000:=zB (HE.out.ok m x Lp HJ.out).2.len hn;clear hsn hrow v1 v2 f1 f2 hx HG;by_cases hneg:x.s m cn<0
   ·rw[if_pos hneg]at HJ'
    have HJ':=xgv HJ';rw[show zAt (x.s m cn) 0=-1 by unfold zAt;rw[if_pos hneg]];have HOK:=xgv hokx;clear hneg hsn2 hokx;have c1:=T3.three;go_wp2_with fail
    refine(zZ5 hB.bsm hz HOK.out hlt hn hCs hCt).mono ?_;rintro e wn ⟨⟨un,rfl⟩,hOn,hz⟩;have T3:=hOn.blk T3 (fun hh=>by have:=hZ _ hh;omega);have hown:=HL.out.own;have HL:=xgv (HL.out.old (fun g hg=>hOn.old g (hown g hg).2 (fun hzb=>by have:=(hown g hg).1;have:=hZ g hzb;omega)));have hO:=hO.trans hOn;clear hown c1;go_wp2_with fail
    obtain⟨wi,hwi⟩:∃wi,wi=wn.alloc (Obj.cells #[Value.int IntKind.i64 m,Value.int IntKind.i64 cn] 169):=⟨_,rfl⟩;rw[<-hwi];have hbi:BWq wn wi:=by rw[hwi];exact(zA _ _).alloc (xgf _) _
    have hBk:Blk wi wn.heap.size zD9 #[Value.int IntKind.i64 m,Value.int IntKind.i64 cn]:=by rw[hwi];exact qX _ _ _
    have hown:=HL.out.own;have hz:=hz.below hbi;have T3:=T3.below hbi;have hO:=hO.trans (qJ.of Z hbi);have HL:=HL.out.below hbi;clear hwi;refine(zGU w.heap.size _ Lp k' m cn wn.heap.size wi HL oM hBk (fun b hb=>zDa (hown b hb).2) hO.bel.size hlen).mono ?_;rintro e wk ⟨v',rfl,hv',hko⟩;have hPB:∀b,b∈(Value.ownBlock _).toList->∃cs,Blk wi b zD9 cs:=fun b hb=>HL.blk b (by simpa using hb)
    have hz:=hz.pivs hko.z hPB;have T3:=zHB T3 dE hko.z hPB;have hO:qJ Z w wk:=⟨hO.bel.trans hko.bel,hO.lext.trans hko.lext,fun b hb hn=>(hko.old b (zJ hb hO.bel.size) (fun hm=>by
     have:=(HL.own b (by simpa using hm)).1;omega)).trans (hO.old b hb hn)⟩
    have HL:=xgv hv';clear hown hv' hko hPB hBk;have c1:=T3.three;go_wp2_with fail
    obtain⟨hokx,hLO⟩:=HE.out.ok' m (x.neg m) (Lp.take k'++(m,cn)::Lp.drop k') hlt HJ'.out;obtain⟨y,hy,hJy⟩:=HE.out.red m (x.neg m) (Lp.take k'++(m,cn)::Lp.drop k') hlt HJ'.out;have hown:=HL.out.own;refine(zEa hB hz hokx HL.out.piv (fun b hb hzb=>by have:=(hown b hb).1;have:=hZ b hzb;omega) (fun k hk=>(hLO.mem k hk).2.1) hLO.inj (fun k hk=>(hLO.mem k hk).2.2.1) hn hCs hCt hLO.len (fun b hb=>zJ (hZ b hb) hO.bel.size) hn0 hy).mono ?_;rintro e wz ⟨⟨uz,rfl⟩,hOz,hz,-⟩;have T3:=hOz.blk T3 (fun hh=>by have:=hZ _ hh;omega);have HL:=xgv (HL.out.old (fun g hg=>hOz.old g (hown g hg).2 (fun hzb=>by have:=(hown g hg).1;have:=hZ g hzb;omega)));have hO:=hO.trans hOz;have HJ:=xgv hJy;clear hokx hLO hy hJy hown c1;go_wp2;go_roundw
    case rel=>exact⟨m+1,y,_,by simp,oM,hO,T3,hz,HJ,HL⟩
    case measure=>exact meq
   rw[if_neg hneg]at HJ';have HJ':=xgv HJ';rw[show zAt (x.s m cn) 0=1 by unfold zAt;rw[if_neg hneg,if_pos oM]];clear hneg hsn2 hokx;go_wp2_with fail
   obtain⟨wi,hwi⟩:∃wi,wi=ws.alloc (Obj.cells #[Value.int IntKind.i64 m,Value.int IntKind.i64 cn] 169):=⟨_,rfl⟩;rw[<-hwi];have hbi:BWq ws wi:=by rw[hwi];exact(zA _ _).alloc (xgf _) _
   have hBk:Blk wi ws.heap.size zD9 #[Value.int IntKind.i64 m,Value.int IntKind.i64 cn]:=by rw[hwi];exact qX _ _ _
   have hown:=HL.out.own;have hz:=hz.below hbi;have T3:=T3.below hbi;have hO:=hO.trans (qJ.of Z hbi);have HL:=HL.out.below hbi;clear hwi;refine(zGU w.heap.size _ Lp k' m cn ws.heap.size wi HL oM hBk (fun b hb=>zDa (hown b hb).2) hO.bel.size hlen).mono ?_;rintro e wk ⟨v',rfl,hv',hko⟩;have hPB:∀b,b∈(Value.ownBlock _).toList->∃cs,Blk wi b zD9 cs:=fun b hb=>HL.blk b (by simpa using hb)
   have hz:=hz.pivs hko.z hPB;have T3:=zHB T3 dE hko.z hPB;have hO:qJ Z w wk:=⟨hO.bel.trans hko.bel,hO.lext.trans hko.lext,fun b hb hn=>(hko.old b (zJ hb hO.bel.size) (fun hm=>by
    have:=(HL.own b (by simpa using hm)).1;omega)).trans (hO.old b hb hn)⟩
   have HL:=xgv hv';clear hown hv' hko hPB hBk;have c1:=T3.three;go_wp2_with fail
   obtain⟨hokx,hLO⟩:=HE.out.ok' m x (Lp.take k'++(m,cn)::Lp.drop k') hlt HJ'.out;obtain⟨y,hy,hJy⟩:=HE.out.red m x (Lp.take k'++(m,cn)::Lp.drop k') hlt HJ'.out;have hown:=HL.out.own;refine(zEa hB hz hokx HL.out.piv (fun b hb hzb=>by have:=(hown b hb).1;have:=hZ b hzb;omega) (fun k hk=>(hLO.mem k hk).2.1) hLO.inj (fun k hk=>(hLO.mem k hk).2.2.1) hn hCs hCt hLO.len (fun b hb=>zJ (hZ b hb) hO.bel.size) hn0 hy).mono ?_;rintro e wz ⟨⟨uz,rfl⟩,hOz,hz,-⟩;have T3:=hOz.blk T3 (fun hh=>by have:=hZ _ hh;omega);have HL:=xgv (HL.out.old (fun g hg=>hOz.old g (hown g hg).2 (fun hzb=>by have:=(hown g hg).1;have:=hZ g hzb;omega)));have hO:=hO.trans hOz;have HJ:=xgv hJy;clear hokx hLO hy hJy hown c1;go_wp2;go_roundw
   case rel=>exact⟨m+1,y,_,by simp,oM,hO,T3,hz,HJ,HL⟩
   case measure=>exact meq
  obtain rfl:k'=Lp.length:=oM;have HG:∀i,Lp.length<=i->i<Lp.length->cn<(Lp.getD i (0,0)).2:=fun i h1 h2=>oM
  have hsn:=zDi HC.out;have hrow:=hz.rowB hlt oc hgc;obtain⟨xs,xa,xl,xc,v1,v2,f1,f2,hx⟩:=hrow.cell (yE hsn.1);have hcC:=hsn.1;go_wp2_with fail
  refine(zAi _ (x.s m cn) wt hx.weak).mono ?_;rintro e ws ⟨rfl,hbs⟩;have hz:=hz.below hbs;have T3:=T3.below hbs;have hO:=hO.trans (qJ.of Z hbs);have HL:=xgv (HL.out.below hbs);have hsn2:=hsn.2;have HJ':=HE.out.ins m x Lp Lp.length cn hlt HJ.out HC.out oM HI'.out HG;have hokx:=(HE.out.ok m x Lp HJ.out).1;have hlen:Lp.length<=1000000:=zB (HE.out.ok m x Lp HJ.out).2.len hn;clear hsn hrow v1 v2 f1 f2 hx HG;by_cases hneg:x.s m cn<0
  ·rw[if_pos hneg]at HJ'
   have HJ':=xgv HJ';rw[show zAt (x.s m cn) 0=-1 by unfold zAt;rw[if_pos hneg]];have HOK:=xgv hokx;clear hneg hsn2 hokx;have c1:=T3.three;go_wp2_with fail
   refine(zZ5 hB.bsm hz HOK.out hlt hn hCs hCt).mono ?_;rintro e wn ⟨⟨un,rfl⟩,hOn,hz⟩;have T3:=hOn.blk T3 (fun hh=>by have:=hZ _ hh;omega);have hown:=HL.out.own;have HL:=xgv (HL.out.old (fun g hg=>hOn.old g (hown g hg).2 (fun hzb=>by have:=(hown g hg).1;have:=hZ g hzb;omega)));have hO:=hO.trans hOn;clear hown c1;go_wp2_with fail
   obtain⟨wi,hwi⟩:∃wi,wi=wn.alloc (Obj.cells #[Value.int IntKind.i64 m,Value.int IntKind.i64 cn] 169):=⟨_,rfl⟩;rw[<-hwi];have hbi:BWq wn wi:=by rw[hwi];exact(zA _ _).alloc (xgf _) _
   have hBk:Blk wi wn.heap.size zD9 #[Value.int IntKind.i64 m,Value.int IntKind.i64 cn]:=by rw[hwi];exact qX _ _ _
   have hown:=HL.out.own;have hz:=hz.below hbi;have T3:=T3.below hbi;have hO:=hO.trans (qJ.of Z hbi);have HL:=HL.out.below hbi;clear hwi;refine(zGU w.heap.size _ Lp Lp.length m cn wn.heap.size wi HL oM hBk (fun b hb=>zDa (hown b hb).2) hO.bel.size hlen).mono ?_;rintro e wk ⟨v',rfl,hv',hko⟩;have hPB:∀b,b∈(Value.ownBlock _).toList->∃cs,Blk wi b zD9 cs:=fun b hb=>HL.blk b (by simpa using hb)
   have hz:=hz.pivs hko.z hPB;have T3:=zHB T3 dE hko.z hPB;have hO:qJ Z w wk:=⟨hO.bel.trans hko.bel,hO.lext.trans hko.lext,fun b hb hn=>(hko.old b (zJ hb hO.bel.size) (fun hm=>by
    have:=(HL.own b (by simpa using hm)).1;omega)).trans (hO.old b hb hn)⟩
   have HL:=xgv hv';clear hown hv' hko hPB hBk;have c1:=T3.three;go_wp2_with fail
   obtain⟨hokx,hLO⟩:=HE.out.ok' m (x.neg m) (Lp.take Lp.length++(m,cn)::Lp.drop Lp.length) hlt HJ'.out;obtain⟨y,hy,hJy⟩:=HE.out.red m (x.neg m) (Lp.take Lp.length++(m,cn)::Lp.drop Lp.length) hlt HJ'.out;have hown:=HL.out.own;refine(zEa hB hz hokx HL.out.piv (fun b hb hzb=>by have:=(hown b hb).1;have:=hZ b hzb;omega) (fun k hk=>(hLO.mem k hk).2.1) hLO.inj (fun k hk=>(hLO.mem k hk).2.2.1) hn hCs hCt hLO.len (fun b hb=>zJ (hZ b hb) hO.bel.size) hn0 hy).mono ?_;rintro e wz ⟨⟨uz,rfl⟩,hOz,hz,-⟩;have T3:=hOz.blk T3 (fun hh=>by have:=hZ _ hh;omega);have HL:=xgv (HL.out.old (fun g hg=>hOz.old g (hown g hg).2 (fun hzb=>by have:=(hown g hg).1;have:=hZ g hzb;omega)));have hO:=hO.trans hOz;have HJ:=xgv hJy;clear hokx hLO hy hJy hown c1;go_wp2;go_roundw
   case rel=>exact⟨m+1,y,_,by simp,oM,hO,T3,hz,HJ,HL⟩
   case measure=>exact meq
  rw[if_neg hneg]at HJ';have HJ':=xgv HJ';rw[show zAt (x.s m cn) 0=1 by unfold zAt;rw[if_neg hneg,if_pos oM]];clear hneg hsn2 hokx;go_wp2_with fail
  obtain⟨wi,hwi⟩:∃wi,wi=ws.alloc (Obj.cells #[Value.int IntKind.i64 m,Value.int IntKind.i64 cn] 169):=⟨_,rfl⟩;rw[<-hwi];have hbi:BWq ws wi:=by rw[hwi];exact(zA _ _).alloc (xgf _) _
  have hBk:Blk wi ws.heap.size zD9 #[Value.int IntKind.i64 m,Value.int IntKind.i64 cn]:=by rw[hwi];exact qX _ _ _
  have hown:=HL.out.own;have hz:=hz.below hbi;have T3:=T3.below hbi;have hO:=hO.trans (qJ.of Z hbi);have HL:=HL.out.below hbi;clear hwi;refine(zGU w.heap.size _ Lp Lp.length m cn ws.heap.size wi HL oM hBk (fun b hb=>zDa (hown b hb).2) hO.bel.size hlen).mono ?_;rintro e wk ⟨v',rfl,hv',hko⟩;have hPB:∀b,b∈(Value.ownBlock _).toList->∃cs,Blk wi b zD9 cs:=fun b hb=>HL.blk b (by simpa using hb)
  have hz:=hz.pivs hko.z hPB;have T3:=zHB T3 dE hko.z hPB;have hO:qJ Z w wk:=⟨hO.bel.trans hko.bel,hO.lext.trans hko.lext,fun b hb hn=>(hko.old b (zJ hb hO.bel.size) (fun hm=>by
   have:=(HL.own b (by simpa using hm)).1;omega)).trans (hO.old b hb hn)⟩
  have HL:=xgv hv';clear hown hv' hko hPB hBk;have c1:=T3.three;go_wp2_with fail
  obtain⟨hokx,hLO⟩:=HE.out.ok' m x (Lp.take Lp.length++(m,cn)::Lp.drop Lp.length) hlt HJ'.out;obtain⟨y,hy,hJy⟩:=HE.out.red m x (Lp.take Lp.length++(m,cn)::Lp.drop Lp.length) hlt HJ'.out;have hown:=HL.out.own;refine(zEa hB hz hokx HL.out.piv (fun b hb hzb=>by have:=(hown b hb).1;have:=hZ b hzb;omega) (fun k hk=>(hLO.mem k hk).2.1) hLO.inj (fun k hk=>(hLO.mem k hk).2.2.1) hn hCs hCt hLO.len (fun b hb=>zJ (hZ b hb) hO.bel.size) hn0 hy).mono ?_;rintro e wz ⟨⟨uz,rfl⟩,hOz,hz,-⟩;have T3:=hOz.blk T3 (fun hh=>by have:=hZ _ hh;omega);have HL:=xgv (HL.out.old (fun g hg=>hOz.old g (hown g hg).2 (fun hzb=>by have:=(hown g hg).1;have:=hZ g hzb;omega)));have hO:=hO.trans hOz;have HJ:=xgv hJy;clear hokx hLO hy hJy hown c1;go_wp2;go_roundw
  case rel=>exact⟨m+1,y,_,by simp,oM,hO,T3,hz,HJ,HL⟩
  case measure=>exact meq
 obtain rfl:m=n:=oM;go_wp2;go_ret;exact⟨_,x,Lp,rfl,hO,hz,HJ.out,HL.out⟩
theorem zKC{x:Bst}(h:zEM e0 Z w bw Ah 0 Cs Ct x):
  CPq 143 #[Ah,.agg (zEx bw)] w fun e w'=>e= .returned (.slice none 0 0)/\BWq w w':=by
 obtain⟨bss0,hw0,-⟩:=h.wri;obtain⟨so,sn,scap,rfl,s1,-⟩:=id (qC.rows hw0);have e2:0=sn:=by rw[<-s1];simp[genM]
 subst e2;clear s1 hw0 bss0 h;go_enter Tryz.func143,Tryz.ntmps143;go_upto_region 1 with(fail)
 refine zD ?_;intro W0 hW0;obtain⟨hB0,T3,hs0⟩:=qL hW0;clear hW0;go_wp2;go_loopw [5,12] (fun pv mv wr=>pv= .slice none 0 0/\mv=niq 0/\BWq w wr) (fun _ mv _=>0)
 case atStart=>exact⟨rfl,rfl,hB0⟩
 obtain⟨rfl,rfl,hb⟩:=hrel;go_wp2;go_ret;exact⟨rfl,hb⟩
theorem zLS(hB:BSd B){x:Bst}{J J':Nat->Bst->List (Nat × Nat)->Prop}(hE:zV6 B n Cs Ct J J')(h:zEM e0 Z w bw Ah n Cs Ct x)(h0:J 0 x [])
  (hn:n<=1000000) (hCs:Cs<=1000000) (hCt:Ct<=1000000) (hZ:∀b,Z b->b<w.heap.size) (hgz:∀g,Ah.ownBlock=some g->¬ Z g):
  CPq 143 #[Ah,.agg (zEx bw)] w fun e w'=>∃v y L,e= .returned v/\qJ Z w w'/\zEM e0 Z w' bw Ah n Cs Ct y/\J n y L/\zIY w' w.heap.size v L:=by
 by_cases hn0:0<n
 ·exact zLT hB hE h h0 hn hCs hCt hn0 hZ hgz
 obtain rfl:n=0:=oM;refine(zKC h).mono ?_;rintro e w' ⟨rfl,hb⟩;exact⟨_,x,[],rfl,qJ.of Z hb,h.below hb,h0,zIY.nil _ _⟩
theorem zFq.weak{v:Value}{xs:List Nat}(h:zFq w b v xs)(hab:a<=b):zFq w a v xs:=by
 obtain⟨h1,h2,h3⟩:=h;refine⟨h1,h2,?_⟩;rcases h3 with h3|⟨g,cap,cur,rfl,k1,k2⟩
 exact .inl h3;exact .inr ⟨g,cap,cur,rfl,oM,k2⟩
theorem zFq.nil(w:World)(base:Nat):zFq w base (.slice none 0 0) []:=⟨by simp,rfl,.inl ⟨rfl,rfl⟩⟩
theorem zPJ(hB:BSd B){x:Bst}{J J':Nat->Bst->List (Nat × Nat)->Prop}(hE:zV6 B n Cs Ct J J')(h:zEM e0 Z w bw Ah n Cs Ct x)(h0:J 0 x [])
  (hn:n<=1000000) (hCs:Cs<=1000000) (hCt:Ct<=1000000) (hZ:∀b,Z b->b<w.heap.size) (hgz:∀g,Ah.ownBlock=some g->¬ Z g):
  CPq 100 #[ptq bw 0] w fun e w'=>∃v y L,e= .returned v/\qJ Z w w'/\zEM e0 Z w' bw Ah n Cs Ct y/\J n y L/\zFq w' w.heap.size v (L.map (·.1)):=by
 obtain⟨Au,Av,hbw⟩:=h.blk;have c1:=hbw.three;have HE:=xgv hE;have HJ0:=xgv h0;have HH:=xgv h;clear h hE h0;go_enter Tryz.func100,Tryz.ntmps100;go_wp2_with fail
 refine(zLS hB HE.out HH.out HJ0.out hn hCs hCt hZ hgz).mono ?_;rintro e w1 ⟨pv,y,Lp,rfl,hO,hz,hJ,hP⟩;obtain⟨hok,hL⟩:=HE.out.ok n y Lp hJ;have HL:=xgv hL;have hlen:Lp.length<=1000000:=zB hL.len hn;have HJ:=xgv hJ;have HP:=xgv hP;have HZ:=xgv hz;obtain⟨ao,lcap,rfl,hlc,hcap,hP0⟩:=hP.piv;have hP0:=xgv hP0;have hsz:=hO.bel.size;clear hJ hP hL hok hz HE HH HJ0 c1 hbw;go_wp2;go_loopw [3,19] (fun u iv wr=>∃k:Nat,iv=niq k/\k<=Lp.length/\zFq wr w1.heap.size u ((Lp.take k).map (·.1))/\BWq w1 wr) (fun _ iv _=>Lp.length-(intOf iv).toNat)
 case atStart=>exact⟨0,rfl,oM,zFq.nil _ _,zA _ _⟩
 obtain⟨k,rfl,hk,ho,hb⟩:=hrel;by_cases hlt:k<Lp.length
 ·obtain⟨bp,_,rfl,-,-⟩:=hP0.out oM
  obtain⟨-,lbp,p1,p2⟩:=(HP.out.below hb).piv.cell hlt;obtain⟨r,hr⟩:∃r,(Lp.getD k (0,0)).1=r:=⟨_,rfl⟩;obtain⟨q,hq⟩:∃q,(Lp.getD k (0,0)).2=q:=⟨_,rfl⟩;have hrn:r<=1000000:=by have:=(HL.out.mem k hlt).1;omega
  rw[hr]at p1;rw[hq]at p2;have htk:(Lp.take (k+1)).map (·.1)=(Lp.take k).map (·.1)++ [r]:=by
   rw[jD,zBe];congr 1;rw[xgb]at hr;cases hh:Lp[k]? with
   |none=>rw[List.getElem?_eq_none_iff]at hh;omega
   |some p=>rw[hh]at hr;simp at hr;simp[hr]
  have HTK:=xgv htk;have htl:((Lp.take k).map (·.1)).length=k:=by simp;omega
  clear hr hq htk;go_upto_region 5 with(fail)
  refine zD ?_;intro W7 hW7;obtain⟨hB7,T9,hs7⟩:=qL hW7;have T9:Blk W7 wr.heap.size zD9 #[niq r,niq q]:=T9;have ho7:=ho.below hB7;have hb7:=hb.trans (hB7.mono hb.size);have t1:=T9.two;have hys:∀w':World,zIX (w'.alloc (.cells #[niq r] tNn)) (some ⟨w'.heap.size,0,none⟩) [r]:=fun w'=>⟨by simp;omega,fun _=>⟨_,0,_,rfl,heap_alloc_new w' _,fun k x hk=>by
   match k with
   |0=>simp at hk;subst hk;rfl
   |k+1=>simp at hk⟩⟩
  have h7s:=hb7.size;clear hW7 p1 p2;go_wp2_with (at_builtin;refine zZ1 rfl _ _ rfl w1.heap.size u3 ((Lp.take k).map (·.1)) rfl (ho7.alloc _) (some ⟨W7.heap.size,0,none⟩) 1 1 [r] rfl (hys W7) rfl (by rw[htl];omega) (by simp;omega) ?_;intro v' w' hown hgr)
  have hgr:World.grownBy (W7.alloc (.cells #[niq r] tNn)) w' (Value.ownBlock u3):=hgr;have hB9:BWq w1 w':=(hb7.alloc hb7.size _).grown hgr (by simp;omega) (fun g hg=>(ho.own g hg).1);go_roundw
  case rel=>exact⟨k+1,by simp,oM,by rw[HTK.out];exact hown,hB9⟩
  case measure=>exact meq
 obtain rfl:k=Lp.length:=oM;go_wp2;go_ret;exact⟨_,y,Lp,rfl,hO.trans (qJ.of Z hb),HZ.out.below hb,HJ.out,(by rw[jA]at ho;exact ho.weak hsz)⟩
theorem zSz(w:World):
  CallsD Tryz.prog 110 #[] .returning w fun e u' w'=>e= .returned (.tuple #[])/\u'= .returning/\w'=w:=by
 refine callsD_of_wpS Tryz.func110 rfl fun c₀ cs hu=>?_
 apply wpS_region;simp[wpOpsS,go_sem,recoverD,hu,Tryz.ntmps110,bodyPostS,results,Tryz.results110];cases c₀;simp_all
def zLL(R C:Nat):World->Value->Prop:=fun w v=>∃g,v=slq g R R/\Blk w g tR (zBJ R C [])
def zRg:World->Value->Prop:=fun w v=>∃g,v=ptq g 0/\Blk w g tM #[niq 0,niq 0,.slice none 0 0]
def zG8(n:Nat)(P:World->Value->Prop):World->Value->Prop:=fun w v=>P w v/\∀b o,(v=ptq b o∨∃l c,v= .slice (some ⟨b,o,none⟩) l c)->n<=b
theorem zGx(n R C:Nat):zAK (zG8 n (zLL R C)):=fun _ _ _ x ⟨⟨g,h1,h2⟩,h3⟩=>⟨⟨g,h1,h2.below x⟩,h3⟩
theorem zLb(n:Nat):zAK (zG8 n zRg):=fun _ _ _ x ⟨⟨g,h1,h2⟩,h3⟩=>⟨⟨g,h1,h2.below x⟩,h3⟩
def zNf(n R C:Nat):World->Value->Prop:=fun w v=>∃s,v= .agg #[niq R,niq C,s]/\zG8 n (zLL R C) w s
theorem zKF(n R C:Nat):zAK (zNf n R C):=fun w w' _ x ⟨s,h1,h2⟩=>⟨s,h1,zGx n R C w w' s x h2⟩
theorem zFp.times{A B:List (List Int)}(h:zFp A B R m C)(hi:i<R)(hz:A[i]?=some zs):zRi zs B m C:=by
 intro j hj t ht;have h1:=h i hi j hj t ht;have he:∀s,ent A i s=zs.getD s 0:=fun s=>by unfold ent;rw[zBz hz]
 unfold zFL at h1;simp only[he]at h1;exact h1
theorem zVC(v1 v2:Value)(R m C:Nat)(M1 M2:List (List Int))(w:World)(h1:zAC w v1 R m M1)(h2:zAC w v2 m C M2)(hF1:zBU R m M1)(hF2:zBU m C M2)(hR:R<=1000000)(hm:m<=1000000)(hC:C<=1000000)(hS:zFp M1 M2 R m C):
  CPq 65 #[v1,v2] w (zYF w R C (genM R C (zFL M1 M2 m))):=by
 have hmf:∀(fn:Fn) (first cap:Array Value) (w:World),(Instr.makeFunc fn first cap).run Tryz.prog w= .ok (.func fn first cap) w:=fun _ _ _ _=>rfl
 have H1:=xgv h1;have H2:=xgv h2;obtain⟨A1,rfl,h1⟩:=h1;obtain⟨A2,rfl,h2⟩:=h2;obtain⟨ao,n,cap,rfl,e2,e3,e4,-⟩:=id h1;obtain⟨bo,q,bcap,rfl,g2,g3,g4,-⟩:=id h2;obtain rfl:R=n:=by rw[<-e2,hF1.1]
 obtain rfl:m=q:=by rw[<-g2,hF2.1]
 have hdv:decide (zBS R m M1/\zBS m C M2)=true:=decide_eq_true ⟨hF1.valid,hF2.valid⟩;have HS:=xgv hS;have HF1:=xgv hF1;have HF2:=xgv hF2;obtain⟨G,hG⟩:∃G:Nat->Nat->Int,zFL M1 M2 m=G:=⟨_,rfl⟩;rw[hG];have HG:=xgv hG;have hmk:=fun W=>mkR (R:Int) R rfl oM W
 clear hF1 hF2 hS e2 g2 hG;have DV:=xgv hdv;clear hdv;go_enter_defers Tryz.func65,Tryz.ntmps65;go_upto_region 2 with(fail)
 refine zD ?_;intro W0 hW0;obtain⟨hB0,bx1,bx2,br,hs0⟩:=zBk hW0;have c1:=bx1.three;have d1:=bx2.three;clear hW0;go_wp2_with fail
 refine(zIV _ 2 R m m C _ _ M1 M2 _ (qX _ _ _) (xgf _) oM ((H1.out.below hB0).below ((zA _ _).alloc (xgf _) _)).off ((H2.out.below hB0).below ((zA _ _).alloc (xgf _) _)).off).mono ?_;rintro e w1 ⟨rfl,hb1⟩;rw[DV.out];have hb01:BWq W0 w1:=nx ((zA _ _).alloc (xgf _) _) hb1;have hB:=nx hB0 hb01;have bx1:=bx1.below hb01;have bx2:=bx2.below hb01;have br:=br.below hb01;have hsz1:=hb01.size;clear c1 d1;have c1:=bx1.three;have d1:=bx2.three;have hl1:=zGx w1.heap.size R C;have hl2:=zLb w1.heap.size;have hl3:=zKF w1.heap.size R C;go_upto_region 4 with(fail)
 refine yP 9 [pcD 6 [] (zG8 w1.heap.size (zLL R C)),pcD 7 [6] (zNf w1.heap.size R C),pcD 8 [] (zG8 w1.heap.size zRg)] ?_;refine sRd ?_;refine sRc (fun wS hI Gk hG=>?_) (fun va6 _=>?_)
 ·have hmkS:=hmk wS
  go_simp;exact⟨hG _ _ ⟨⟨_,rfl,by rw[<-zE0];exact qX _ _ _⟩,fun b o hh=>by have:=hI.bel.size;rcases hh with hh|⟨l,c,hh⟩;cases hh;cases hh;exact this⟩,(zA _ _).alloc (xgf _) _⟩
 refine sRc (fun wS hI ha6 Gk hG=>?_) (fun va7 _=>?_)
 ·have h6':zG8 w1.heap.size (zLL R C) wS va6:=ha6
  obtain⟨⟨g6,rfl,gb6⟩,gl6⟩:=id h6';go_simp;exact⟨hG _ _ ⟨_,rfl,h6'⟩,zA _ _⟩
 refine sRc (fun wS hI Gk hG=>?_) (fun va8 _=>?_)
 ·go_simp
  exact⟨hG _ _ ⟨⟨_,rfl,qX _ _ _⟩,fun b o hh=>by have:=hI.bel.size;rcases hh with hh|⟨l,c,hh⟩;cases hh;exact this;cases hh⟩,(zA _ _).alloc (xgf _) _⟩
 refine sRe ?_;intro w2 hbw2 ha6 ha7 ha8;obtain⟨sv,rfl,⟨g7,rfl,gb7⟩,gl7⟩:zNf w1.heap.size R C w2 va7:=ha7;obtain⟨⟨g8,rfl,gb8⟩,gl8⟩:zG8 w1.heap.size zRg w2 va8:=ha8;have gl7:=gl7 g7 0 (.inr ⟨_,_,rfl⟩);have gl8:=gl8 g8 0 (.inl rfl);have hB:=nx hB hbw2;have bx1:=bx1.below hbw2;have bx2:=bx2.below hbw2;have br:=br.below hbw2;have hne:g7≠g8:=by
  rintro rfl;have q1:w2.heap[g7]?=some (.cells _ tR (0,0)):=gb7;have q2:w2.heap[g7]?=some (.cells _ tM (0,0)):=gb8;rw[q1]at q2;injection q2 with q2
  injection q2 with _ ht
  exact absurd ht dE
 have f1:=gb8.three;clear c1 d1 ha6 hmk;go_upto_region 5 with(fail)
 refine zD ?_;intro W3 hW3;have hx3:zBw w2 W3:=by rw[hW3.out];exact gb8.lext3 dE _ _ _
 have T6:Blk W3 g8 tM #[.int .i64 R,.int .i64 C,.slice (some ⟨g7,0,none⟩) R R]:=by rw[hW3.out];exact gb8.put3 _ _ _
 have hold:∀b,b≠g8->W3.heap[b]?=w2.heap[b]?:=fun b hb=>by rw[hW3.out];exact zAf _ _ _ _ _ _ hb
 have bx1:=(hold _ oM).trans bx1;have bx2:=(hold _ oM).trans bx2;have br:=(hold _ oM).trans br;have bR:=(hold _ hne).trans gb7;have hB3:BWq w W3:=by rw[hW3.out];exact yJ (yJ (yJ hB oM 0 _) oM 1 _) oM 2 _
 replace bx1:Blk W3 w.heap.size tM #[.int .i64 R,.int .i64 m,.slice ao R cap]:=bx1;replace bx2:Blk W3 (w.heap.size+1) tM #[.int .i64 m,.int .i64 C,.slice bo m bcap]:=bx2;replace br:Blk W3 (w.heap.size+1+1) tM #[.int .i64 0,.int .i64 0,.slice none 0 0]:=br;replace bR:Blk W3 g7 tR (zBJ R C []):=bR;have c1:=bx1.three;clear hW3 hold hx3 f1 gb7 gb8 hB;go_wp2;clear c1;go_loopw [33] (fun iv wr=>∃(i:Nat) (bs:List Nat),i<=R/\iv= .int .i64 i/\bs.length=i/\BWq w wr/\Blk wr (w.heap.size+1) tM #[.int .i64 m,.int .i64 C,.slice bo m bcap]/\Blk wr (w.heap.size+1+1) tM #[.int .i64 0,.int .i64 0,.slice none 0 0]/\Blk wr g8 tM #[.int .i64 R,.int .i64 C,.slice (some ⟨g7,0,none⟩) R R]/\Blk wr g7 tR (zBJ R C bs)∧
  jZ (bs.Nodup/\∀t b,bs[t]?=some b->w1.heap.size<=b/\jJ wr b (qZ C (G t)))) (fun iv _=>R-(intOf iv).toNat)
 case atStart=>exact⟨0,[],oM,rfl,rfl,hB3,bx2,br,T6,bR,⟨⟨by simp,fun t b ht=>by simp at ht⟩⟩⟩
 obtain⟨i,bs,hi,rfl,hbl,hb,bx2,br,T6,bR,hH⟩:=hrel;have d1:=bx2.three;have f1:=T6.three;by_cases hlt:i<R
 ·obtain⟨b1,ra,rn,rc,zs,rfl,hbl1,hz,p1,hv⟩:=h1.row (k:=i) (by rw[HF1.out.1];exact hlt)
  have hzl:=HF1.out.2 zs (xgd hz);have p1:=jL p1 hb;have hv:=hv.below hb;have TS:=xgv (HS.out.times hlt hz);have hgi:jZ (qZ C (zIM zs M2 m)=qZ C (G i)):=⟨qY fun j _=>by rw[<-HG.out];unfold zIM zFL ent;rw[zBz hz]⟩;have HZL:=xgv hzl;have l2:=bx2.lt;have l6:=T6.lt;have lR:=bR.lt;have hszr:=hb.size;have hB1s:=hb1.size;have hlast:=zKi wr.heap.size C (qZ C (G i));clear hz hzl;go_upto_region 8 with(fail)
  refine yP 7 [pcD 5 [] (zHU wr.heap.size C (qZ C (G i)))] ?_;refine sRd ?_;refine sRc (fun wS hI Gk hG=>?_) (fun vb5 _=>?_)
  ·go_simp
   refine(zQq _ _ zs M2 m C _ (hv.below hI.bel) ((H2.out.below hb).below hI.bel) HZL.out HF2.out hm hC TS.out).mono ?_
   (rintro e wa ⟨v,rfl,⟨g,e1,e2,e3⟩,hba⟩;rw[hgi.out]at e3;have hv:zHU wr.heap.size C (qZ C (G i)) wa v:=⟨g,e1,zB hI.bel.size e2,e3⟩)
   exact⟨_,rfl,hG _ _ hv,hba⟩
  refine sRd ?_;refine sRe ?_;intro w9 hbw9 hb5;obtain⟨g,rfl,hg1,hg2⟩:zHU wr.heap.size C (qZ C (G i)) w9 vb5:=hb5;have bR:=bR.below hbw9;have bx2:=bx2.below hbw9;have br:=br.below hbw9;have T6:=T6.below hbw9;have z1:=bR.frozen i;obtain⟨u,z2⟩:∃u,w9.cell? ⟨g7,i,none⟩=some u:=by
   rw[bR.cell i];exact⟨_,Array.getElem?_eq_getElem (by rw[zCw oM];exact hlt)⟩
  have hset:=bR.set_ i (.slice (some ⟨g,0,none⟩) C C);rw[<-hbl,zGB oM,hbl]at hset;have hx1:=bR.lext dE i (.slice (some ⟨g,0,none⟩) C C);have HG2:=xgv hg2;have HH:=xgv hH.out;have hbrl:=br.lt;have hrow7:∀(t b:Nat),bs[t]?=some b->b≠g7:=fun t b ht=>by
   rintro rfl;obtain⟨cs,q1,-⟩:=((HH.out.2 t b ht).2.below hbw9);have q2:w9.heap[b]?=some (.cells _ tR (0,0)):=bR;rw[q2]at q1;injection q1 with q1
   injection q1 with _ ht
   exact absurd ht dE
  have HR7:=xgv hrow7;clear hg2 p1 d1 f1 hrow7;go_wp2;go_roundw
  case rel=>
   refine⟨i+1,bs++ [g],oM,by simp,by simp[hbl],yJ (nx hb hbw9) oM _ _,(zY _ _ _ _ _ oM).trans bx2,(zY _ _ _ _ _ oM).trans br,(zY _ _ _ _ _ oM).trans T6,hset,⟨⟨?_,?_⟩⟩⟩
   ·rw[yT]
    refine⟨HH.out.1,by simp,fun x hx y hy=>?_⟩;simp at hy;subst hy;obtain⟨t,ht,e⟩:=qW hx;have:=(HH.out.2 t x (by rw[xga ht,e])).2.lt;omega
   intro t b ht;by_cases e:t=i
   ·subst e
    rw[List.getElem?_append_right oM,hbl]at ht;simp at ht;subst ht;exact⟨oM,HG2.out.old (zY _ _ _ _ _ oM) hx1⟩
   have htl:t<bs.length:=by
    have h5:=(xge.1 ht).1;simp at h5;omega
   rw[List.getElem?_append_left htl]at ht;obtain⟨h6,h7⟩:=HH.out.2 t b ht;exact⟨h6,(h7.below hbw9).old (zY _ _ _ _ _ (HR7.out t b ht)) hx1⟩
  case measure=>exact meq
 obtain rfl:i=R:=oM;have HH:=xgv hH.out;have r1:=br.three;have lr:=br.lt;have l6:=T6.lt;go_wp2;refine leaves_cons (f:=110) (args:=#[]) sI (by simp[go_sem]) ?_;refine(zSz _).mono ?_;rintro e u' w'' ⟨rfl,rfl,rfl⟩;have hx:=br.lext3 dE (.int .i64 i) (.int .i64 C) (.slice (some ⟨g7,0,none⟩) i i);refine⟨_,zDT rfl _ rfl (br.put3 _ _ _) rfl,_,bs,rfl,⟨hbl,_,rfl,?_⟩,yJ (yJ (yJ hb oM 0 _) oM 1 _) oM 2 _⟩;refine qC.ofPart ((zAf _ _ _ _ _ _ oM).trans bR) hbl HH.out.1 (fun t b ht=>?_) (by simp[genM]) oM hC hR;obtain⟨h6,h7⟩:=HH.out.2 t b ht;have hti:t<i:=by have:=(xge.1 ht).1;omega
 exact⟨oM,_,zDF i C G hti,by simp,h7.old (zAf _ _ _ _ _ _ oM) hx⟩
theorem zTh{ys:List Int}(h1:zs.length=C)(h2:ys.length=C):(∀j,j<C->decide (zs.getD j 0=ys.getD j 0)=true)↔zs=ys:=by
 refine⟨fun h=>?_,fun h j _=>by rw[h];simp⟩;apply qT;omega;intro j a b;have:=of_decide_eq_true (h j oM);simpa[xgb,a,b]using this
theorem zQd(v1 v2:Value)(R C:Nat)(M1 M2:List (List Int))(w:World)(h1:zAC w v1 R C M1)(h2:zAC w v2 R C M2)(hF1:zBU R C M1)(hF2:zBU R C M2)(hC:C<=1000000):
  CPq 80 #[v1,v2] w fun e w'=>e= .returned (.bool (decide (M1=M2)))/\BWq w w':=by
 have H1:=xgv h1;have H2:=xgv h2;obtain⟨A1,rfl,h1⟩:=h1;obtain⟨A2,rfl,h2⟩:=h2;obtain⟨ao,n,cap,rfl,e2,e3,e4,-⟩:=id h1;obtain⟨bo,q,bcap,rfl,g2,g3,g4,-⟩:=id h2;obtain rfl:R=n:=by rw[<-e2,hF1.1]
 obtain rfl:R=q:=by rw[<-g2,hF2.1]
 obtain⟨ans,hans⟩:∃ans:Bool,decide (M1=M2)=ans:=⟨_,rfl⟩;rw[hans];have HA:=xgv hans;have HF1:=xgv hF1;have HF2:=xgv hF2;have HV1:=xgv hF1.valid;have HV2:=xgv hF2.valid;clear hans hF1 hF2 e2 g2;have hl1:=zHJ (niq R) (niq C) (.slice ao R cap) (niq R) (niq C) (.slice bo R bcap);have hl2:=zEc (niq R) (niq C) (.slice ao R cap);have hl4:=zEc (niq R) (niq C) (.slice bo R bcap);have hl3:=zEu R C;go_enter Tryz.func80,Tryz.ntmps80;go_upto_region 1 with(fail)
 refine zD ?_;intro W0 hW0;obtain⟨hB0,bx1,bx2,hs0⟩:=zAj hW0;have c1:=bx1.three;have d1:=bx2.three;clear hW0;refine zBl [pcD 2 [] (zY9 (niq R) (niq C) (.slice ao R cap) (niq R) (niq C) (.slice bo R bcap)),pcD 3 [2] (fun _ v=>v= .bool true),pcD 7 [] (zWk (niq R) (niq C) (.slice ao R cap)),pcD 8 [7] (zEn R C),pcD 10 [] (zWk (niq R) (niq C) (.slice bo R bcap)),pcD 11 [10] (zEn R C),pcD 12 [8,11] (fun _ v=>v= .bool true)] ?_;refine sRd ?_;refine sRc (fun wS hI Gk hG=>?_) (fun va2 _=>?_)
 ·go_simp
  exact⟨hG _ _ ⟨_,rfl,qX _ _ _⟩,(zA _ _).alloc (xgf _) _⟩
 refine sRc (fun wS hI ha2 Gk hG=>?_) (fun _ hv=>?_)
 ·obtain⟨g2,rfl,gb2⟩:=ha2
  go_simp;refine(zOu g2 2 R C R C _ _ M1 M2 _ gb2 (xgf _) oM ((H1.out.below hB0).below hI.bel).off ((H2.out.below hB0).below hI.bel).off HV1.out HV2.out).mono ?_;rintro e wa ⟨v,rfl,hv,hba⟩;exact⟨_,rfl,hG _ _ hv,hba⟩
 obtain⟨_,-,rfl⟩:=hv;refine sRd ?_;refine sRc (fun wS hI Gk hG=>?_) (fun va7 _=>?_)
 ·go_simp
  exact⟨hG _ _ ⟨_,rfl,qX _ _ _⟩,(zA _ _).alloc (xgf _) _⟩
 refine sRc (fun wS hI ha7 Gk hG=>?_) (fun va8 _=>?_)
 ·obtain⟨g7,rfl,gb7⟩:=ha7
  go_simp;refine(zFH g7 1 R C _ _ gb7 ⟨_,_,_,rfl⟩ (xgf _) oM).mono ?_;rintro e wa ⟨v,rfl,hv,hba⟩;exact⟨_,rfl,hG _ _ hv,hba⟩
 refine sRd ?_;refine sRc (fun wS hI Gk hG=>?_) (fun va10 _=>?_)
 ·go_simp
  exact⟨hG _ _ ⟨_,rfl,qX _ _ _⟩,(zA _ _).alloc (xgf _) _⟩
 refine sRc (fun wS hI ha10 Gk hG=>?_) (fun va11 _=>?_)
 ·obtain⟨g10,rfl,gb10⟩:=ha10
  go_simp;refine(zFH g10 1 R C _ _ gb10 ⟨_,_,_,rfl⟩ (xgf _) oM).mono ?_;rintro e wa ⟨v,rfl,hv,hba⟩;exact⟨_,rfl,hG _ _ hv,hba⟩
 refine sRc (fun wS hI ha8 ha11 Gk hG=>?_) (fun _ hv=>?_)
 ·go_simp
  refine(zK9 _ _ R C _ ha8 ha11).mono ?_;rintro e wa ⟨v,rfl,hv,hba⟩;exact⟨_,rfl,hG _ _ hv,hba⟩
 obtain⟨_,-,rfl⟩:=hv;refine sRd ?_;refine sRe ?_;intro w1 hbw1 ha2 _ ha7 ha8 ha10 ha11 _;have hBt:=nx hB0 hbw1;have bx1:=bx1.below hbw1;have bx2:=bx2.below hbw1;clear c1 d1 ha2 ha7 ha8 ha10 ha11;have c1:=bx1.three;go_wp2;clear c1;go_loopw [26] (fun iv wr=>∃i:Nat,i<=R/\iv=niq i/\BWq w wr/\Blk wr (w.heap.size+1) tM #[niq R,niq C,.slice bo R bcap]/\jZ (M1.take i=M2.take i)) (fun iv _=>R-(intOf iv).toNat)
 case atStart=>exact⟨0,oM,rfl,hBt,bx2,⟨by rw[jI,jI]⟩⟩
 obtain⟨i,hi,rfl,hb,bx2,hsame⟩:=hrel;have d1:=bx2.three;by_cases hlt:i<R
 ·obtain⟨b1,ra,rn,rc,zs,rfl,hbl1,hz,p1,hv⟩:=h1.row (k:=i) (by rw[HF1.out.1];exact hlt)
  obtain⟨b2,sa,sn,sc,ys,rfl,hbl2,hy,q1,hu⟩:=h2.row (k:=i) (by rw[HF2.out.1];exact hlt);have hzl:=HF1.out.2 zs (xgd hz);have hyl:=HF2.out.2 ys (xgd hy);have HZ:=xgv hz;have HY:=xgv hy;have HZL:=xgv hzl;have HYL:=xgv hyl;have p1:=jL p1 hb;have q1:=jL q1 hb;clear hz hy hzl hyl;go_wp2_with fail
  refine(zR2 _ _ zs ys C wr (hv.below hb) (hu.below hb) HZL.out HYL.out hC).mono ?_;rintro e w5 ⟨rfl,hbl5,hb5⟩;go_wp2_with fail
  refine(zMT wr.heap.size C C _ w5 hbl5 hC (xgf _) oM).mono ?_;rintro e w6 ⟨rfl,hb6⟩;have hb:=nx (nx hb hb5) hb6;have bx2:=(bx2.below hb5).below hb6;by_cases he:zs=ys
  ·have hd:decide (¬ ∀j,j<C->decide (zs.getD j 0=ys.getD j 0)=true)=false:=decide_eq_false (fun hh=>hh ((zTh HZL.out HYL.out).2 he))
   have HE:=xgv he;rw[hd];clear hd he p1 q1 d1;go_wp2;go_roundw
   case rel=>exact⟨i+1,oM,by simp,hb,bx2,⟨zJ1 hsame.out HZ.out HY.out HE.out⟩⟩
   case measure=>exact meq
  have hd:decide (¬ ∀j,j<C->decide (zs.getD j 0=ys.getD j 0)=true)=true:=decide_eq_true (fun hh=>he ((zTh HZL.out HYL.out).1 hh));have HE:=xgv he;rw[hd];clear hd he p1 q1 d1;go_wp2;go_ret;refine⟨?_,hb⟩;have h3:ans=false:=by rw[<-HA.out];exact decide_eq_false (zHS HZ.out HY.out HE.out)
  rw[h3];rfl
 obtain rfl:i=R:=oM;go_wp2;go_ret;refine⟨?_,hb⟩;have h4:=hsame.out;rw[jK (by rw[HF1.out.1];omega),jK (by rw[HF2.out.1];omega)]at h4;have h3:ans=true:=by rw[<-HA.out];exact decide_eq_true h4
 rw[h3];rfl
def zGs(R C:Nat)(F:Nat->Nat->Int)(lo hi:Nat):World->Value->Prop:=fun w v=>∃o c bs,v= .agg #[niq R,niq C,.slice o R c]/\Wri w (.slice o R c) R C bs F/\∀b,Zn (.slice o R c) bs b->lo<=b/\b<hi
theorem zGs.below{lo hi:Nat}{v:Value}(h:zGs R C F lo hi w v)(hb:BWq w w'):zGs R C F lo hi w' v:=by
 obtain⟨o,c,bs,h1,h2,h3⟩:=h;exact⟨o,c,bs,h1,h2.below hb,h3⟩
theorem zEm.within{e:Ending}(h:zEm w R C (genM R C F) e w'):∃v,e= .returned v/\zGs R C F w.heap.size w'.heap.size w' v/\BWq w w':=by
 obtain⟨v,bs,rfl,⟨hl,A',rfl,ho⟩,hb⟩:=h;have hw:Wri w' A' R C bs F:=ho.mono (zE _);obtain⟨o,c,rfl⟩:=hw.shape;exact⟨_,rfl,⟨o,c,bs,rfl,hw,fun b hz=>⟨ho.fresh hz,hw.zlt hz⟩⟩,hb⟩
structure MS where
 op:Nat
 slot:Nat
 R:Nat
 C:Nat
 F:Nat->Nat->Int
def zPy(N:Nat)(vs:List VS)(ms:List MS):Bool:=decide ((vs.map (·.slot))++(ms.map (·.slot))).Nodup && decide ((vs.map (·.op))++(ms.map (·.op))).Nodup && ((vs.map (·.slot))++(ms.map (·.slot))).all (fun s=>decide (s<N))
theorem zIf{α:Type}{xs ys:List α}(h:(xs++ys).Nodup){a b:α}(ha:a∈xs)(hb:b∈ys):a≠b:=(yT.1 h).2.2 a ha b hb
structure RG(W:World)(T0:Array Value)(vs:List VS)(ms:List MS)(L:Array Bool)(T:Array Value)(w:World):Prop where
 wf:zPy T0.size vs ms=true
 lv:∀s∈vs,zAK s.P
 size:T.size=T0.size
 keep:∀j,(∀s∈vs,s.slot≠j)->(∀m∈ms,m.slot≠j)->T[j]?=T0[j]?
 bel:BWq W w
 val:∀s∈vs,L[s.op]?=some true->∃v,T[s.slot]?=some v/\s.P w v
 gh:∃bot top:Nat->Nat,(∀m∈ms,L[m.op]?=some true->W.heap.size<=bot m.op/\top m.op<=w.heap.size/\∃v,T[m.slot]?=some v/\zGs m.R m.C m.F (bot m.op) (top m.op) w v)∧
  ∀m∈ms,∀m'∈ms,m.op<m'.op->L[m.op]?=some true->L[m'.op]?=some true->top m.op<=bot m'.op
section
variable {W:World} {T0:Array Value} {vs:List VS} {ms:List MS} {L:Array Bool} {T:Array Value} {w w':World}
theorem RG.parts(h:RG W T0 vs ms L T w):(vs.map (·.slot)).Nodup/\(vs.map (·.op)).Nodup/\(ms.map (·.slot)).Nodup/\(ms.map (·.op)).Nodup/\(∀s∈vs,∀m∈ms,s.slot≠m.slot/\s.op≠m.op)/\(∀s∈vs,s.slot<T0.size)/\(∀m∈ms,m.slot<T0.size):=by
 have hwf:=h.wf;unfold zPy at hwf;simp only[Bool.and_eq_true,decide_eq_true_eq,List.all_eq_true]at hwf;obtain⟨⟨w1,w2⟩,w3⟩:=hwf;refine⟨(yT.1 w1).1,(yT.1 w2).1,(yT.1 w1).2.1,(yT.1 w2).2.1,fun s hs m hm=>⟨zIf w1 (List.mem_map.2 ⟨s,hs,rfl⟩) (List.mem_map.2 ⟨m,hm,rfl⟩),zIf w2 (List.mem_map.2 ⟨s,hs,rfl⟩) (List.mem_map.2 ⟨m,hm,rfl⟩)⟩,
  fun s hs=>w3 _ (List.mem_append.2 (.inl (List.mem_map.2 ⟨s,hs,rfl⟩))),fun m hm=>w3 _ (List.mem_append.2 (.inr (List.mem_map.2 ⟨m,hm,rfl⟩)))⟩
theorem RG.start(hwf:zPy T0.size vs ms=true:=by kernel_rfl)(hv:∀s∈vs,zAK s.P:=by repeat' (first|exact zE9 _|exact zF5 _|exact zCc _ _ _|exact zBG _|assumption|refine xgm.2 ⟨?_,?_⟩|exact xgn _)):RG W T0 vs ms (Array.replicate n false) T0 W.drew:=by
 have hf:∀k:Nat,(Array.replicate n false)[k]?≠some true:=by
  intro k h;rw[Array.getElem?_replicate]at h;split at h<;>simp at h
 exact⟨hwf,hv,rfl,fun _ _ _=>rfl,dr _,fun s _ h=>absurd h (hf _),fun _=>0,fun _=>0,fun m _ h=>absurd h (hf _),fun m _ m' _ _ h=>absurd h (hf _)⟩
theorem RG.world(h:RG W T0 vs ms L T w)(hb:BWq w w'):RG W T0 vs ms L T w':=by
 obtain⟨bot,top,g1,g2⟩:=h.gh;refine⟨h.wf,h.lv,h.size,h.keep,nx h.bel hb,fun s hs hl=>by
  obtain⟨v,h1,h2⟩:=h.val s hs hl;exact⟨v,h1,h.lv s hs _ _ _ hb h2⟩,bot,top,fun m hm hl=>?_,g2⟩
 obtain⟨e1,e2,v,e3,e4⟩:=g1 m hm hl;exact⟨e1,zB e2 hb.size,v,e3,e4.below hb⟩
theorem RG.value{v:Value}(h:RG W T0 vs ms L T w)(s:VS)(hs:s∈vs)(hk:s.op=k)(hP:s.P w v):RG W T0 vs ms (L.setIfInBounds k true) (T.setIfInBounds s.slot v) w:=by
 subst hk;obtain⟨p1,p2,p3,p4,p5,p6,p7⟩:=h.parts;obtain⟨bot,top,g1,g2⟩:=h.gh;have hm':∀m∈ms,(L.setIfInBounds s.op true)[m.op]?=some true->L[m.op]?=some true:=fun m hm hl=>jT hl (p5 s hs m hm).2
 refine⟨h.wf,h.lv,by simp[h.size],fun j h1 h2=>by rw[xgc (h1 s hs)];exact h.keep j h1 h2,h.bel,?_,bot,top,fun m hm hl=>?_,fun m hm m' hm2 hlt l1 l2=>g2 m hm m' hm2 hlt (hm' m hm l1) (hm' m' hm2 l2)⟩
 ·intro t ht hl
  by_cases he:t=s
  ·subst he
   exact⟨v,by rw[Array.getElem?_setIfInBounds_self_of_lt (by rw[h.size];exact p6 _ hs)],hP⟩
  have n1:t.op≠s.op:=fun e=>he (yI p2 ht hs e)
  have n2:t.slot≠s.slot:=fun e=>he (yI p1 ht hs e)
  obtain⟨u,h1,h2⟩:=h.val t ht (jT hl (qD n1));exact⟨u,by rw[xgc (qD n2)];exact h1,h2⟩
 obtain⟨e1,e2,u,e3,e4⟩:=g1 m hm (hm' m hm hl);exact⟨e1,e2,u,by rw[xgc (p5 s hs m hm).1];exact e3,e4⟩
theorem RG.v{s:VS}(h:RG W T0 vs ms L T w)(hs:s∈vs)(hl:L[s.op]?=some true):∃v,T[s.slot]?=some v/\s.P w v:=h.val s hs hl
theorem RG.y{v:Value}(h:RG W T0 vs ms L T w){s:VS}(hs:s∈vs)(hP:s.P w v)(hk:s.op=k:=by rfl):RG W T0 vs ms (L.setIfInBounds k true) (T.setIfInBounds s.slot v) w:=h.value s hs hk hP
theorem RG.mat{ops:Array Oper}{v:Value}(h:RG W T0 vs ms L T w)(hcl:zCl ops L)(hL:L[k]?=some false)(m:MS)(hm:m∈ms)(hk:m.op=k)(hb:BWq w w')(hw:zGs m.R m.C m.F w.heap.size w'.heap.size w' v)
  (hlt:(ms.all fun m'=>!decide (k<m'.op)||zIt ops 9 m'.op k)=true):RG W T0 vs ms (L.setIfInBounds k true) (T.setIfInBounds m.slot v) w':=by
 subst hk;have h':=h.world hb;obtain⟨p1,p2,p3,p4,p5,p6,p7⟩:=h.parts;obtain⟨bot,top,g1,g2⟩:=h.gh;have hno:∀m'∈ms,m.op<m'.op->L[m'.op]?≠some true:=fun m' hm' hlt' hh=>by
  have h3:=jP.1 hlt m' hm';simp only[hlt',decide_true,Bool.not_true,Bool.false_or]at h3;have:=zDv hcl h3 hh;rw[hL]at this;cases this
 have hold:∀m'∈ms,m'≠m->(L.setIfInBounds m.op true)[m'.op]?=some true->L[m'.op]?=some true:=fun m' hm' hne hl=>jT hl (fun e=>hne (yI p4 hm' hm e.symm))
 refine⟨h.wf,h.lv,by simp[h.size],fun j h1 h2=>by rw[xgc (h2 m hm)];exact h.keep j h1 h2,h'.bel,?_,fun i=>if i=m.op then w.heap.size else bot i,fun i=>if i=m.op then w'.heap.size else top i,fun m' hm' hl=>?_,fun a ha b hb' hlt' l1 l2=>?_⟩
 ·intro t ht hl
  obtain⟨u,h1,h2⟩:=h'.val t ht (jT hl (qD (p5 t ht m hm).2));exact⟨u,by rw[xgc (qD (p5 t ht m hm).1)];exact h1,h2⟩
 ·by_cases he:m'=m
  ·subst he
   simp only[if_true];exact⟨h.bel.size,xgf _,v,by rw[Array.getElem?_setIfInBounds_self_of_lt (by rw[h.size];exact p7 _ hm)],hw⟩
  have n1:m'.op≠m.op:=fun e=>he (yI p4 hm' hm e)
  have n2:m'.slot≠m.slot:=fun e=>he (yI p3 hm' hm e)
  simp only[if_neg n1];obtain⟨e1,e2,u,e3,e4⟩:=g1 m' hm' (hold m' hm' he hl);exact⟨e1,zB e2 hb.size,u,by rw[xgc (qD n2)];exact e3,e4.below hb⟩
 by_cases hb2:b=m
 ·subst hb2
  by_cases ha2:a=b
  ·subst ha2;omega
  have n1:a.op≠b.op:=fun e=>ha2 (yI p4 ha hm e)
  simp only[if_true,if_neg n1];exact(g1 a ha (hold a ha ha2 l1)).2.1
 by_cases ha2:a=m
 ·subst ha2
  exact absurd (hold b hb' hb2 l2) (hno b hb' hlt')
 have n1:a.op≠m.op:=fun e=>ha2 (yI p4 ha hm e)
 have n2:b.op≠m.op:=fun e=>hb2 (yI p4 hb' hm e)
 simp only[if_neg n1,if_neg n2];exact g2 a ha b hb' hlt' (hold a ha ha2 l1) (hold b hb' hb2 l2)
theorem RG.cell{o:Nat}{v:Value}(h:RG W T0 vs ms L T w)(hc:W.cell? ⟨b,o,none⟩=some v):w.cell? ⟨b,o,none⟩=some v:=jL hc h.bel
theorem RG.matv(h:RG W T0 vs ms L T w)(m:MS)(hm:m∈ms)(hl:L[m.op]?=some true):∃v,T[m.slot]?=some v/\∃o c,v= .agg #[niq m.R,niq m.C,.slice o m.R c]:=by
 obtain⟨bot,top,g1,g2⟩:=h.gh;obtain⟨e1,e2,v,e3,o,c,bs,e4,-⟩:=g1 m hm hl;exact⟨v,e3,o,c,e4⟩
end
structure zME(n0 R C Cu Cw:Nat)(z:W5)(w:World)(v:Value):Prop where
 ex:∃so sc uo uc vo vc wo wc xo xc bS bU bV bW bX,v= .agg #[niq R,niq C,.slice so R sc,niq R,niq Cu,.slice uo R uc,niq R,niq Cu,.slice vo R vc,niq C,niq Cw,.slice wo C wc,niq C,niq Cw,.slice xo C xc]∧
  Wri w (.slice so R sc) R C bS z.s/\Wri w (.slice uo R uc) R Cu bU z.u/\Wri w (.slice vo R vc) R Cu bV z.v/\Wri w (.slice wo C wc) C Cw bW z.w/\Wri w (.slice xo C xc) C Cw bX z.x∧
  (∀b,Zn (.slice so R sc) bS b∨Zn (.slice uo R uc) bU b∨Zn (.slice vo R vc) bV b∨Zn (.slice wo C wc) bW b∨Zn (.slice xo C xc) bX b->n0<=b)∧
  Ap (.slice so R sc) bS (.slice uo R uc) bU/\Ap (.slice so R sc) bS (.slice vo R vc) bV/\Ap (.slice so R sc) bS (.slice wo C wc) bW/\Ap (.slice so R sc) bS (.slice xo C xc) bX/\Ap (.slice uo R uc) bU (.slice vo R vc) bV∧
  Ap (.slice uo R uc) bU (.slice wo C wc) bW/\Ap (.slice uo R uc) bU (.slice xo C xc) bX/\Ap (.slice vo R vc) bV (.slice wo C wc) bW/\Ap (.slice vo R vc) bV (.slice xo C xc) bX/\Ap (.slice wo C wc) bW (.slice xo C xc) bX
theorem zN6(n0 R C Cu Cw:Nat)(z:W5):zAK (zME n0 R C Cu Cw z):=by
 intro w w' v hb ⟨so,sc,uo,uc,vo,vc,wo,wc,xo,xc,bS,bU,bV,bW,bX,h1,h2,h3,h4,h5,h6,h7⟩;exact⟨so,sc,uo,uc,vo,vc,wo,wc,xo,xc,bS,bU,bV,bW,bX,h1,h2.below hb,h3.below hb,h4.below hb,h5.below hb,h6.below hb,h7⟩
theorem zCv{A':Value}{bs':List Nat}{d:Nat}(h:∀x,Zn A bs x->a<=x/\x<b)(h':∀x,Zn A' bs' x->c<=x/\x<d)(hbc:b<=c):Ap A bs A' bs':=fun x h1 h2=>by
 have:=h x h1;have:=h' x h2;omega
def gk:Nat->Nat->Nat
 |0,M=>M
 |k+1,M=>gk k (2*M*M)
theorem zKc(h:1<=M):M<=2*M*M:=zB (show M<=2*M by omega) (zO _ oM)
theorem zKD:∀(k:Nat) {M:Nat},1<=M->M<=gk k M
 |0,M,_=>xgf _
 |k+1,M,h=>zB (zKc h) (zKD k (zB h (zKc h)))
theorem zGw:∀(a b M:Nat),gk (a+b) M=gk b (gk a M)
 |0,b,M=>by rw[zAR];rfl
 |a+1,b,M=>by
  have:a+1+b=(a+b)+1:=oM;rw[this];show gk (a+b) _=gk b (gk a _);exact zGw a b _
theorem zJb(k:Nat)(h:1<=M):1<=gk k M:=zB h (zKD k h)
theorem zEY(h:1<=M)(hab:a<=b):gk a M<=gk b M:=by
 obtain⟨d,rfl⟩:=zAc hab;rw[zGw];exact zKD d (zJb a h)
theorem zWF:∀(k M:Nat),2*gk k M=(2*M)^(2^k)
 |0,M=>by simp[gk]
 |k+1,M=>by
  show 2*gk k (2*M*M)=_;rw[zWF k,qI 2 k,zN (2^k),jO (2*M) 2];congr 1;rw[Nat.pow_two,<-zC 2 (2*M) M,zN 2 (2*M),zC (2*M) 2 M]
theorem leB.mono{M':Nat}{x:Bst}(h:leB M n Cs Ct x)(hm:M<=M'):leB M' n Cs Ct x:=⟨h.1.mono hm,h.2.1.mono hm,h.2.2.mono hm⟩
theorem leB.ok{x:Bst}(h:leB M n Cs Ct x)(hm:M<B):okB B n Cs Ct x:=⟨h.1.ok hm,h.2.1.ok hm,h.2.2.ok hm⟩
theorem zLs{q:Nat}(hM:1<=M)(hq:q<=M):M*(1+q)<=2*M*M:=by
 have h1:M*q<=M*M:=zH _ hq;have h2:M*1<=M*M:=zH _ hM;rw[zAU,zC];omega
theorem zMa{a b:Int}(hb:0<b)(ha:a.natAbs<=M):(a/b).natAbs<=M:=by
 rcases zCn 0 a with h|h
 ·have g1:=zCg h (zBa hb)
  have g2:=zDH b h;omega
 have g1:a/b<=0:=zA9 h hb;have g2:a<=a/b:=by
  rw[zB5 hb];have:a*b<=a*1:=zBT h oM;omega
 omega
def vw(ρ:Nat->Nat)(F:Nat->Nat->Int):Nat->Nat->Int:=fun a t=>F (ρ a) t
theorem zQ2{B:Nat}(hρ:∀k,k<r->ρ k<n)(hinj:∀a b,a<b->b<r->ρ a≠ρ b)(hi:i<r):∀(m j:Nat) (x:Bst) (M:Nat),j+m=r->i<j->leB M n Cs Ct x->1<=M->Ech Cs r κ (vw ρ x.s)->
  (∀j',i<j'->j'<j->0<=x.s (ρ i) (κ j')/\x.s (ρ i) (κ j')<x.s (ρ j') (κ j'))->gk m M<B->
  ∃l,zIK B n Cs Ct ρ κ i m j x=some (zCO l x)/\jS n l/\leB (gk m M) n Cs Ct (zCO l x)/\Ech Cs r κ (vw ρ (zCO l x).s)/\(∀a,a≠ρ i->∀t,(zCO l x).s a t=x.s a t)∧
   (∀j',i<j'->j'<r->0<=(zCO l x).s (ρ i) (κ j')/\(zCO l x).s (ρ i) (κ j')<(zCO l x).s (ρ j') (κ j')):=by
 intro m;induction m with
 |zero=>
  intro j x M hj hij hM hM1 hE hR hB;exact⟨[],rfl,jS.nil,hM,hE,fun a _ t=>rfl,fun j' h1 h2=>hR j' h1 oM⟩
 | succ m ih=>
  intro j x M hj hij hM hM1 hE hR hB;have hjr:j<r:=oM;have hp:0<x.s (ρ j) (κ j):=hE.pos j hjr;have hg1:gk m M<=gk (m+1) M:=zEY hM1 oM;have hnij:ρ i≠ρ j:=hinj i j hij hjr;have hskip:(0<=x.s (ρ i) (κ j)/\x.s (ρ i) (κ j)<x.s (ρ j) (κ j))->∃l,zIK B n Cs Ct ρ κ i m (j+1) x=some (zCO l x)/\jS n l/\leB (gk (m+1) M) n Cs Ct (zCO l x)/\Ech Cs r κ (vw ρ (zCO l x).s)/\(∀a,a≠ρ i->∀t,(zCO l x).s a t=x.s a t)∧
   (∀j',i<j'->j'<r->0<=(zCO l x).s (ρ i) (κ j')/\(zCO l x).s (ρ i) (κ j')<(zCO l x).s (ρ j') (κ j')):=fun hin=>by
   obtain⟨l,g1,g2,g3,g4⟩:=ih (j+1) x M oM oM hM hM1 hE (fun j' h1 h2=>by
    by_cases e:j'=j
    ·rw[e];exact hin
    exact hR j' h1 oM) oM
   exact⟨l,g1,g2,g3.mono hg1,g4⟩
  unfold zIK;by_cases h0:x.s (ρ i) (κ j)=0
  ·rw[if_pos h0]
   exact hskip oM
  rw[if_neg h0,if_neg oM];by_cases hq0:x.s (ρ i) (κ j)/x.s (ρ j) (κ j)=0
  ·rw[if_pos hq0]
   refine hskip ?_;have h1:=zAl (x.s (ρ i) (κ j)) (x.s (ρ j) (κ j));have h2:=zAy (x.s (ρ i) (κ j)) (b:=x.s (ρ j) (κ j)) oM;have h3:=zBA (x.s (ρ i) (κ j)) hp;rw[hq0,zP]at h1;omega
  rw[if_neg hq0];have hqM:(x.s (ρ i) (κ j)/x.s (ρ j) (κ j)).natAbs<=M:=zMa hp (hM.1 _ (hρ i oM) _ (hE.lt j hjr));obtain⟨q,hq⟩:∃q,x.s (ρ i) (κ j)/x.s (ρ j) (κ j)=q:=⟨_,rfl⟩;rw[hq]at hqM ⊢
  have hb2:=zLs hM1 hqM;have hok:zFd B n Cs Ct x (ρ i) (ρ j) (-q):=zI7 hM (hρ i oM) (hρ j hjr) hnij hM1 (by
   rw[zR];have:2*M*M<=gk (m+1) M:=zKD m (zB hM1 (zKc hM1));omega)
  rw[if_pos hok];have hoa:(Op.add (ρ i) (ρ j) (-q)).ok n:=⟨hρ i oM,hρ j hjr,hnij⟩;have hM2:leB (2*M*M) n Cs Ct (zCO [.add (ρ i) (ρ j) (-q)] x):=(zXK hM hoa).mono (by simpa[Op.g]using hb2);have hst:∀a t,(zCO [.add (ρ i) (ρ j) (-q)] x).s a t=if a=ρ i then x.s (ρ i) t+-q*x.s (ρ j) t else x.s a t:=fun a t=>rfl
  have hdm:=zAl (x.s (ρ i) (κ j)) (x.s (ρ j) (κ j));have hm0:=zAy (x.s (ρ i) (κ j)) (b:=x.s (ρ j) (κ j)) oM;have hml:=zBA (x.s (ρ i) (κ j)) hp;rw[hq]at hdm;have hne:∀a,a<r->a≠i->ρ a≠ρ i:=fun a ha e h=>by
   rcases zAQ e with h1|h1
   exact hinj a i h1 hi h;exact hinj i a h1 ha h.symm
  have hEy:Ech Cs r κ (vw ρ (zCO [.add (ρ i) (ρ j) (-q)] x).s):=by
   have hsm:∀t,t<=κ i->x.s (ρ i) t+-q*x.s (ρ j) t=x.s (ρ i) t:=fun t ht=>by
    have hz:x.s (ρ j) t=0:=hE.zero j hjr t (by have:=hE.inc i j hij hjr;omega);rw[hz];omega
   refine⟨hE.lt,fun a ha=>?_,fun a ha t ht=>?_,hE.inc⟩
   ·show 0<(zCO [.add (ρ i) (ρ j) (-q)] x).s (ρ a) (κ a)
    rw[hst];by_cases e:a=i
    ·rw[e,if_pos rfl,hsm _ (xgf _)];exact hE.pos i oM
    rw[if_neg (hne a ha e)];exact hE.pos a ha
   show(zCO [.add (ρ i) (ρ j) (-q)] x).s (ρ a) t=0;rw[hst];by_cases e:a=i
   ·rw[e]at ht
    rw[e,if_pos rfl,hsm t oM];exact hE.zero i oM t ht
   rw[if_neg (hne a ha e)];exact hE.zero a ha t ht
  obtain⟨l,g1,g2,g3,g4,g5,g6⟩:=ih (j+1) (zCO [.add (ρ i) (ρ j) (-q)] x) (2*M*M) oM oM hM2 (zB hM1 (zKc hM1)) hEy
   (fun j' h1 h2=>by
    rw[hst,hst,if_pos rfl,if_neg (hne j' oM oM)];by_cases e:j'=j
    ·rw[e,yA,qH q]
     constructor<;>omega
    have hz:x.s (ρ j) (κ j')=0:=hE.zero j hjr (κ j') (hE.inc j' j oM hjr);rw[hz,zP,yY];exact hR j' h1 oM) hB
  rw[<-zDk]at g1 g3 g4 g5 g6;refine⟨[Op.add (ρ i) (ρ j) (-q)]++l,g1,(jS.cons hoa jS.nil).app g2,g3,g4,fun a ha t=>?_,g6⟩;rw[g5 a ha t,hst,if_neg ha]
theorem zQ1{B:Nat}(hρ:∀k,k<r->ρ k<n)(hinj:∀a b,a<b->b<r->ρ a≠ρ b):∀(i:Nat) (x:Bst) (M:Nat),i<=r->leB M n Cs Ct x->1<=M->Ech Cs r κ (vw ρ x.s)->
  zFr (fun a _=>i<=a) r κ (vw ρ x.s)->gk (zLx r i) M<B->
  ∃l,zKK B n Cs Ct ρ κ r i x=some (zCO l x)/\jS n l/\leB (gk (zLx r i) M) n Cs Ct (zCO l x)/\Ech Cs r κ (vw ρ (zCO l x).s)/\zFr (fun _ _=>True) r κ (vw ρ (zCO l x).s)∧
   (∀a,(∀k,k<r->ρ k≠a)->∀t,(zCO l x).s a t=x.s a t):=by
 intro i;induction i with
 |zero=>
  intro x M hi hM hM1 hE hR hB;exact⟨[],rfl,jS.nil,hM,hE,fun a b h1 h2 _=>hR a b h1 h2 (zE _),fun a _ t=>rfl⟩
 | succ i ih=>
  intro x M hi hM hM1 hE hR hB;have hsum:gk (zLx r (i+1)) M=gk (zLx r i) (gk (r-(i+1)) M):=zGw _ _ _;rw[hsum]at hB ⊢
  have hM2:=zJb (r-(i+1)) hM1;have hB1:gk (r-(i+1)) M<B:=zK (zKD (zLx r i) hM2) hB;obtain⟨l1,g1,g2,g3,g4,g5,g6⟩:=zQ2 (B:=B) (Ct:=Ct) (i:=i) hρ hinj oM (r-(i+1)) (i+1) x M oM oM hM hM1 hE (fun j' h1 h2=>by omega) hB1;have hne:∀a,a<r->a≠i->ρ a≠ρ i:=fun a ha e h=>by
   rcases zAQ e with h1|h1
   exact hinj a i h1 oM h;exact hinj i a h1 ha h.symm
  obtain⟨l2,k1,k2,k3,k4,k5,k6⟩:=ih (zCO l1 x) (gk (r-(i+1)) M) oM g3 hM2 g4
   (fun a b h1 h2 h3=>by
    show 0<=(zCO l1 x).s (ρ a) (κ b)/\(zCO l1 x).s (ρ a) (κ b)<(zCO l1 x).s (ρ b) (κ b);by_cases e:a=i
    ·rw[e];exact g6 b oM h2
    rw[g5 _ (hne a oM e),g5 _ (hne b h2 oM)];exact hR a b h1 h2 oM) hB
  rw[<-zDk]at k1 k3 k4 k5 k6;refine⟨l1++l2,?_,g2.app k2,k3,k4,k5,fun a ha t=>?_⟩
  ·unfold zKK
   rw[g1,zAE];exact k1
  rw[k6 a ha t,g5 a (fun e=>ha i oM e.symm)]
theorem zPx{a b y:Int}(ha:a.natAbs<=M)(hb:b.natAbs<=M)(hx:x.natAbs<=M)(hy:y.natAbs<=M):(a*x+b*y).natAbs<=2*M*M:=by
 have h1:(a*x).natAbs<=M*M:=by rw[qV];exact qO ha hx
 have h2:(b*y).natAbs<=M*M:=by rw[qV];exact qO hb hy
 rw[zC];omega
theorem zH8{a b c:Int}(h:leM M n C F)(hM:1<=M)(hi:i<n)(hj:j<n)(ha:a.natAbs<=M)(hb:b.natAbs<=M)(hc:c.natAbs<=M)(hd:d.natAbs<=M):leM (2*M*M) n C (jE F i j a b c d):=by
 intro r hr t ht;unfold jE;split;exact zPx ha hb (h i hi t ht) (h j hj t ht);split;exact zPx hc hd (h i hi t ht) (h j hj t ht);exact zB (h r hr t ht) (zKc hM)
theorem zSk{a b c:Int}{x:Bst}(h:leB M n Cs Ct x)(hM:1<=M)(hi:i<n)(hj:j<n)(ha:a.natAbs<=M)(hb:b.natAbs<=M)(hc:c.natAbs<=M)(hd:d.natAbs<=M):leB (2*M*M) n Cs Ct (x.mix i j a b c d):=
 ⟨zH8 h.1 hM hi hj ha hb hc hd,zH8 h.2.1 hM hi hj ha hb hc hd,zH8 h.2.2 hM hi hj hd (by rw[zR];exact hc) (by rw[zR];exact hb) ha⟩
theorem zVI{a b c:Int}{x:Bst}(h:leB M n Cs Ct x)(hM:1<=M)(hi:i<n)(hj:j<n)(ha:a.natAbs<=M)(hb:b.natAbs<=M)(hc:c.natAbs<=M)(hd:d.natAbs<=M)(hB:2*M*M<B):zS4 B n Cs Ct x i j a b c d:=by
 have h1:=zKc hM;have hp:∀u v:Int,u.natAbs<=M->v.natAbs<=M->(u*v).natAbs<B:=fun u v hu hv=>by
  have e:(u*v).natAbs<=M*M:=by rw[qV];exact qO hu hv
  rw[zC]at hB;omega
 exact⟨⟨oM,oM,oM,oM⟩,fun t ht=>⟨hp _ _ ha (h.1 i hi t ht),hp _ _ hb (h.1 j hj t ht),hp _ _ hc (h.1 i hi t ht),hp _ _ hd (h.1 j hj t ht)⟩,
  fun t ht=>⟨hp _ _ ha (h.2.1 i hi t ht),hp _ _ hb (h.2.1 j hj t ht),hp _ _ hc (h.2.1 i hi t ht),hp _ _ hd (h.2.1 j hj t ht)⟩,
  fun t ht=>⟨hp _ _ hd (h.2.2 i hi t ht),hp _ _ hc (h.2.2 j hj t ht),hp _ _ hb (h.2.2 i hi t ht),hp _ _ ha (h.2.2 j hj t ht)⟩,(zSk h hM hi hj ha hb hc hd).ok hB⟩
def zBx(L:List (Nat × Nat))(k:Nat):Nat:=(L.getD k (0,0)).1
def zGQ(L:List (Nat × Nat))(k:Nat):Nat:=(L.getD k (0,0)).2
structure JC(n Cs Ct M0:Nat)(x0:Bst)(b g:Nat)(x:Bst)(L:List (Nat × Nat)):Prop where
 ops:∃l,jS n l/\x=zCO l x0
 row:∀k,k<L.length->zBx L k<b
 inj:∀i j,i<j->j<L.length->zBx L i≠zBx L j
 len:L.length<=b
 ech:Ech Cs L.length (zGQ L) (vw (zBx L) x.s)
 zero:∀a,a<b->(∀k,k<L.length->zBx L k≠a)->∀t,t<Cs->x.s a t=0
 bd:leB (gk g M0) n Cs Ct x
def es:Nat->Nat
 |0=>0
 |m+1=>es m+m+m*(m+1)/2
theorem zW0(h:a<=b):es a<=es b:=by
 obtain⟨d,rfl⟩:=zAc h;clear h;induction d with
 |zero=>exact xgf _
 |succ d ih=>exact zB ih (by show _<=es (a+d)+(a+d)+_;omega)
def esr(r:Nat):Nat->Nat
 |0=>0
 |m+1=>esr r m+min m r+min m r*(min m r+1)/2
theorem zUm(r:Nat)(h:a<=b):esr r a<=esr r b:=by
 obtain⟨d,rfl⟩:=zAc h;clear h;induction d with
 |zero=>exact xgf _
 |succ d ih=>exact zB ih (by show _<=esr r (a+d)+min (a+d) r+_;omega)
theorem zWC(r:Nat):∀m,esr r m<=es m
 |0=>xgf _
 |m+1=>zDr (zDr (zWC r m) (zDZ m r)) (Nat.div_le_div_right (qO (zDZ m r) (Nat.succ_le_succ (zDZ m r))))
def RkB(r n Cs:Nat)(x0:Bst):Prop:=∀(l:List Op) (k:Nat) (ρ κ:Nat->Nat),jS n l->k<=n->(∀j,j<k->ρ j<n)->(∀i j,i<j->j<k->ρ i≠ρ j)->Ech Cs k κ (vw ρ (zCO l x0).s)->k<=r
theorem RkB.all{x0:Bst}:RkB n n Cs x0:=fun _ _ _ _ _ h _ _ _=>h
theorem JC.rk{M0:Nat}{x0 x:Bst}{L:List (Nat × Nat)}(h:JC n Cs Ct M0 x0 b g x L)(hb:b<=n)(hr:RkB r n Cs x0):L.length<=r:=by
 obtain⟨l,h1,h2⟩:=h.ops;exact hr l _ (zBx L) (zGQ L) h1 (zB h.len hb) (fun j hj=>zJ (h.row j hj) hb) h.inj (h2 ▸ h.ech)
def JH(ex:Nat->Nat)(r n Cs Ct M0:Nat)(x0:Bst)(m:Nat)(x:Bst)(L:List (Nat × Nat)):Prop:=
 m<=n/\(∃g,g<=L.length/\(m<n->∀i,i<g->lead Cs x.s m<0∨(zGQ L i:Int)<lead Cs x.s m)/\(m=n->g=0)/\JC n Cs Ct M0 x0 m (ex m+g) x L)/\(m=n->zFr (fun _ _=>True) L.length (zGQ L) (vw (zBx L) x.s))
def JH'(ex:Nat->Nat)(r n Cs Ct M0:Nat)(x0:Bst)(m:Nat)(x:Bst)(L:List (Nat × Nat)):Prop:=JC n Cs Ct M0 x0 (m+1) (ex m+min m r) x L
section
variable {ex:Nat->Nat} {B r n Cs Ct M0:Nat} {x0:Bst}
theorem JC.lok{x:Bst}{L:List (Nat × Nat)}(h:JC n Cs Ct M0 x0 b g x L)(hb:b<=n):LOk n Cs b x L:=by
 refine⟨fun k hk=>⟨h.row k hk,zJ (h.row k hk) hb,h.ech.lt k hk,?_⟩,h.ech.inc,h.inj,zB h.len hb⟩;have:0<x.s (zBx L k) (zGQ L k):=h.ech.pos k hk;have e:x.s (L.getD k (0,0)).1 (L.getD k (0,0)).2=x.s (zBx L k) (zGQ L k):=rfl;rw[e];omega
theorem zOR{x y:Bst}{l l':List Op}(h1:jS n l)(h2:x=zCO l x0)(h3:jS n l')(h4:y=zCO l' x):∃l,jS n l/\y=zCO l x0:=⟨l++l',h1.app h3,by rw[zDk,<-h2];exact h4⟩
theorem zMm{x y:Bst}{L:List (Nat × Nat)}(hm:m<n)(hM0:1<=M0)(hcC:c<Cs)(h:JC n Cs Ct M0 x0 m g x L)(he:e<=k)(hk:k<L.length)(hc:zGQ L k=c)
  (hy:∃l,jS n l/\y=zCO l x) (ho:∀a,a≠m->a≠zBx L k->∀t,y.s a t=x.s a t) (hp:0<y.s (zBx L k) c) (hz:∀t,t<c->y.s (zBx L k) t=0) (hmz:∀t,t<=c->y.s m t=0) (hb:leB (gk (ex m+e+1) M0) n Cs Ct y):
  JH ex r n Cs Ct M0 x0 m y L/\(lead Cs y.s m<0∨(c:Int)<lead Cs y.s m):=by
 have hl:lead Cs y.s m<0∨(c:Int)<lead Cs y.s m:=by
  rcases zCY Cs y.s m with⟨g,-⟩|⟨c1,g1,g2,g3,-⟩
  left;omega;right;rcases zG c c1 with h|h
  omega;exact absurd (hmz c1 h) g3
 have hne:∀a,a<L.length->a≠k->zBx L a≠zBx L k:=fun a ha e hh=>by
  rcases zAQ e with h1|h1
  exact h.inj a k h1 hk hh;exact h.inj k a h1 ha hh.symm
 have hrm:∀a,a<L.length->zBx L a≠m:=fun a ha=>by have:=h.row a ha;omega
 obtain⟨l,hl1,hl2⟩:=h.ops;obtain⟨l',hl3,hl4⟩:=hy;refine⟨⟨oM,⟨k+1,hk,fun _ i hi=>?_,fun e=>oM,⟨zOR hl1 hl2 hl3 hl4,h.row,h.inj,h.len,⟨h.ech.lt,fun a ha=>?_,fun a ha t ht=>?_,h.ech.inc⟩,fun a ha hna t ht=>?_,hb.mono (zEY hM0 oM)⟩⟩,fun e=>oM⟩,hl⟩
 ·have:zGQ L i<=c:=by
   rcases zG i k with h1|h1
   have:=h.ech.inc i k h1 hk;omega;obtain rfl:i=k:=oM;omega
  omega
 ·show 0<y.s (zBx L a) (zGQ L a)
  by_cases e:a=k
  ·rw[e,hc];exact hp
  rw[ho _ (hrm a ha) (hne a ha e)];exact h.ech.pos a ha
 ·show y.s (zBx L a) t=0
  by_cases e:a=k
  ·rw[e,hc]at ht
   rw[e];exact hz t ht
  rw[ho _ (hrm a ha) (hne a ha e)];exact h.ech.zero a ha t ht
 rw[ho a oM (fun e=>hna k hk e.symm)];exact h.zero a ha hna t ht
theorem zU4{x:Bst}{L:List (Nat × Nat)}(hm:m<n)(hM0:1<=M0)(h:JC n Cs Ct M0 x0 m (ex m+e) x L)(he:e<=k)(hl:lead Cs x.s m=(c:Int))(hk:k<L.length)(hc:zGQ L k=c)
  (hd:x.s m c%x.s (zBx L k) c=0):JH ex r n Cs Ct M0 x0 m (x.add m (zBx L k) (-(x.s m c/x.s (zBx L k) c))) L/\(lead Cs (x.add m (zBx L k) (-(x.s m c/x.s (zBx L k) c))).s m<0∨(c:Int)<lead Cs (x.add m (zBx L k) (-(x.s m c/x.s (zBx L k) c))).s m):=by
 obtain⟨hcC,-⟩:=zDi hl;have hrm:=h.row k hk;have hz:∀t,t<c->x.s (zBx L k) t=0:=fun t ht=>h.ech.zero k hk t (by rw[hc];exact ht)
 have hp:0<x.s (zBx L k) c:=by have:=h.ech.pos k hk;rw[hc]at this;exact this
 have hmz:∀t,t<c->x.s m t=0:=by
  rcases zCY Cs x.s m with⟨g,-⟩|⟨c1,g1,g2,g3,g4⟩
  omega;obtain rfl:c1=c:=oM;exact g4
 have hM:=zJb (ex m+e) hM0;have hq:(x.s m c/x.s (zBx L k) c).natAbs<=gk (ex m+e) M0:=zMa hp (h.bd.1 m hm c hcC);have hoa:(Op.add m (zBx L k) (-(x.s m c/x.s (zBx L k) c))).ok n:=⟨hm,oM,oM⟩;have hst:∀a t,(x.add m (zBx L k) (-(x.s m c/x.s (zBx L k) c))).s a t=if a=m then x.s m t+-(x.s m c/x.s (zBx L k) c)*x.s (zBx L k) t else x.s a t:=fun a t=>rfl
 refine zMm hm hM0 hcC h he hk hc ⟨[_],jS.cons hoa jS.nil,rfl⟩ (fun a h1 h2 t=>by rw[hst,if_neg h1]) (by rw[hst,if_neg oM];exact hp) (fun t ht=>by rw[hst,if_neg oM];exact hz t ht) (fun t ht=>?_) ?_
 ·rw[hst,if_pos rfl]
  by_cases ee:t=c
  ·subst ee
   have:=zAl (x.s m t) (x.s (zBx L k) t);rw[yA,qH (x.s m t/_)];omega
  rw[hmz t oM,hz t oM,zP];rfl
 refine(zXK h.bd hoa).mono ?_;rw[zGw (ex m+e) 1];show _<=2*gk (ex m+e) M0*gk (ex m+e) M0;have:(Op.add m (zBx L k) (-(x.s m c/x.s (zBx L k) c))).g=1+(x.s m c/x.s (zBx L k) c).natAbs:=by simp[Op.g]
 rw[this];exact zLs hM hq
theorem zWp{y:Int}(hx:0<x){g:Int}(hg:g=((Int.gcd x y:Nat):Int)):0<g/\g*(x/g)=x/\g*(y/g)=y/\(x/g).natAbs<=x.natAbs/\(y/g).natAbs<=y.natAbs:=by
 have h0:Int.gcd x y≠0:=fun e=>by rw[zBv]at e;omega
 have hg0:0<g:=oM;have d1:g∣x:=by rw[hg];exact zBW ..
 have d2:g∣y:=by rw[hg];exact zB9 ..
 exact⟨hg0,Int.mul_ediv_cancel' d1,Int.mul_ediv_cancel' d2,zMa hg0 (xgf _),zMa hg0 (xgf _)⟩
def zZF(x:Bst)(r m c:Nat)(s t:Int):Bst:=x.mix r m s t (-(x.s m c/((Int.gcd (x.s r c) (x.s m c):Nat):Int))) (x.s r c/((Int.gcd (x.s r c) (x.s m c):Nat):Int))
def zWP(B n Cs Ct G m c:Nat)(x:Bst)(r:Nat)(s t:Int):Prop:=G<B->zS4 B n Cs Ct x r m s t (-(x.s m c/((Int.gcd (x.s r c) (x.s m c):Nat):Int))) (x.s r c/((Int.gcd (x.s r c) (x.s m c):Nat):Int))
theorem zPO{x:Bst}{L:List (Nat × Nat)}(hm:m<n)(hM0:1<=M0)(h:JC n Cs Ct M0 x0 m (ex m+e) x L)(he:e<=k)(hl:lead Cs x.s m=(c:Int))(hk:k<L.length)(hc:zGQ L k=c)(s t:Int)
  (hbz:Bez (x.s (zBx L k) c) (x.s m c) s t):zWP B n Cs Ct (gk (ex m+e+1) M0) m c x (zBx L k) s t/\(JH ex r n Cs Ct M0 x0 m (zZF x (zBx L k) m c s t) L/\(lead Cs (zZF x (zBx L k) m c s t).s m<0∨(c:Int)<lead Cs (zZF x (zBx L k) m c s t).s m)):=by
 obtain⟨hcC,-⟩:=zDi hl;have hrm:=h.row k hk;have hz:∀t,t<c->x.s (zBx L k) t=0:=fun t ht=>h.ech.zero k hk t (by rw[hc];exact ht)
 have hp:0<x.s (zBx L k) c:=by have:=h.ech.pos k hk;rw[hc]at this;exact this
 have hmz:∀t,t<c->x.s m t=0:=by
  rcases zCY Cs x.s m with⟨g,-⟩|⟨c1,g1,g2,g3,g4⟩
  omega;obtain rfl:c1=c:=oM;exact g4
 have hM:=zJb (ex m+e) hM0;have bx:=h.bd.1 (zBx L k) oM c hcC;have by_:=h.bd.1 m hm c hcC;obtain⟨hb1,hb2,hb3⟩:=hbz;obtain⟨g,hg⟩:∃g:Int,((Int.gcd (x.s (zBx L k) c) (x.s m c):Nat):Int)=g:=⟨_,rfl⟩;obtain⟨d1,d2,d3,d4,d5⟩:=zWp hp hg.symm;have q1:s.natAbs<=gk (ex m+e) M0:=oM;have q2:t.natAbs<=gk (ex m+e) M0:=oM;have q3:(-(x.s m c/g)).natAbs<=gk (ex m+e) M0:=by rw[zR];omega
 have q4:(x.s (zBx L k) c/g).natAbs<=gk (ex m+e) M0:=oM;have hbd:=zSk h.bd hM (by omega:zBx L k<n) hm q1 q2 q3 q4;unfold zWP zZF;rw[hg]at hb1 ⊢
 refine⟨fun hB=>zVI h.bd hM oM hm q1 q2 q3 q4 (by rw[zGw (ex m+e) 1]at hB;exact hB),?_⟩;have hne:zBx L k≠m:=oM;have hdet:s*(x.s (zBx L k) c/g)-t*(-(x.s m c/g))=1:=by
  have e':g*(s*(x.s (zBx L k) c/g)-t*(-(x.s m c/g)))=g*1:=by
   rw[zC6,Int.sub_neg,zCb,jU g s,jU g t,d2,d3,hb1,zAT]
  exact zAW oM e'
 obtain⟨l,l1,l2⟩:=zXP (n:=n) (by omega:zBx L k<n) hm hne _ s t (-(x.s m c/g)) (x.s (zBx L k) c/g) rfl hdet;have hst:∀a u,(x.mix (zBx L k) m s t (-(x.s m c/g)) (x.s (zBx L k) c/g)).s a u=if a=zBx L k then s*x.s (zBx L k) u+t*x.s m u else if a=m then-(x.s m c/g)*x.s (zBx L k) u+x.s (zBx L k) c/g*x.s m u else x.s a u:=fun a u=>rfl
 refine zMm hm hM0 hcC h he hk hc ⟨l,l1,l2 x⟩ (fun a h1 h2 u=>by rw[hst,if_neg h2,if_neg h1]) (by rw[hst,if_pos rfl,hb1];exact d1) (fun u hu=>by rw[hst,if_pos rfl,hz u hu,hmz u hu];simp) (fun u hu=>?_) (by rw[zGw (ex m+e) 1];exact hbd);rw[hst,if_neg (qD hne),if_pos rfl];by_cases ee:u=c
 ·subst ee
  have e1:x.s m u/g*x.s (zBx L k) u=x.s (zBx L k) u/g*x.s m u:=by
   have:g*(x.s m u/g*x.s (zBx L k) u)=g*(x.s (zBx L k) u/g*x.s m u):=by
    rw[<-qK,d3,<-qK,d2,qH]
   exact zAW oM this
  rw[yA,e1];omega
 rw[hmz u oM,hz u oM];simp
theorem zPh(L:List (Nat × Nat))(hk:k<=L.length)(a:Nat):(L.take k++(m,c)::L.drop k).getD a (0,0)=if a<k then L.getD a (0,0)else if a=k then(m,c)else L.getD (a-1) (0,0):=by
 rw[xgb];split
 ·rename_i h
  rw[List.getElem?_append_left (by simp;omega),List.getElem?_take_of_lt h,<-xgb]
 rename_i h;rw[List.getElem?_append_right (by simp;omega)];have e:(L.take k).length=k:=by simp;omega
 rw[e];split
 ·rename_i h2
  rw[h2];simp
 rename_i h2;obtain⟨d,hd⟩:∃d,a-k=d+1:=⟨a-k-1,oM⟩;rw[hd,List.getElem?_cons_succ,List.getElem?_drop,<-xgb];congr 1;omega
theorem zYc{x:Bst}{L:List (Nat × Nat)}(hm:m<n)(hM0:1<=M0)(h:JC n Cs Ct M0 x0 m (ex m+e) x L)(he:e<=min m r)(hl:lead Cs x.s m=(c:Int))(hk:k<=L.length)(hlo:∀i,i<k->zGQ L i<c)(hhi:∀i,k<=i->i<L.length->c<zGQ L i):
  JH' ex r n Cs Ct M0 x0 m (if x.s m c<0 then x.neg m else x) (L.take k++(m,c)::L.drop k):=by
 obtain⟨hcC,hn0⟩:=zDi hl;have hmz:∀t,t<c->x.s m t=0:=by
  rcases zCY Cs x.s m with⟨g,-⟩|⟨c1,g1,g2,g3,g4⟩
  omega;obtain rfl:c1=c:=oM;exact g4
 obtain⟨ng,h1,h2,h3⟩:∃ng,jS n ng/\gro ng=1/\(if x.s m c<0 then x.neg m else x)=zCO ng x:=by
  by_cases hneg:x.s m c<0
  ·rw[if_pos hneg];exact⟨[.neg m],jS.cons hm jS.nil,rfl,rfl⟩
  rw[if_neg hneg];exact⟨[],jS.nil,rfl,rfl⟩
 have hb:leB (gk (ex m+min m r) M0) n Cs Ct (if x.s m c<0 then x.neg m else x):=by
  rw[h3];refine(zHK h1 h.bd).mono ?_;rw[h2,zAr];exact zEY hM0 oM
 obtain⟨y,hy⟩:∃y,(if x.s m c<0 then x.neg m else x)=y:=⟨_,rfl⟩;have ho:∀a,a≠m->∀t,y.s a t=x.s a t:=fun a ha t=>by
  rw[<-hy];split
  ·show(if a=m then _ else x.s a t)=_
   rw[if_neg ha]
  rfl
 have hpos:0<y.s m c:=by
  rw[<-hy];split
  ·show 0<(if m=m then-(x.s m c)else _)
   rw[if_pos rfl];omega
  omega
 have hz:∀t,t<c->y.s m t=0:=fun t ht=>by
  rw[<-hy];split
  ·show(if m=m then-(x.s m t)else _)=0
   rw[if_pos rfl,hmz t ht];rfl
  exact hmz t ht
 rw[hy]at h3 hb ⊢
 obtain⟨l,hl1,hl2⟩:=h.ops;have hlen:(L.take k++(m,c)::L.drop k).length=L.length+1:=by simp;omega
 have er:∀a,zBx (L.take k++(m,c)::L.drop k) a=if a<k then zBx L a else if a=k then m else zBx L (a-1):=fun a=>by
  unfold zBx;rw[zPh L hk];split;rfl;split<;>rfl
 have ec:∀a,zGQ (L.take k++(m,c)::L.drop k) a=if a<k then zGQ L a else if a=k then c else zGQ L (a-1):=fun a=>by
  unfold zGQ;rw[zPh L hk];split;rfl;split<;>rfl
 have hrow:=h.row;have hinj:=h.inj;have hinc:=h.ech.inc;have hll:=h.len;refine⟨zOR hl1 hl2 h1 h3,fun a ha=>?_,fun a b hab hb'=>?_,oM,⟨fun a ha=>?_,fun a ha=>?_,fun a ha t ht=>?_,fun a b hab hb'=>?_⟩,fun a ha hna t ht=>?_,hb⟩
 ·rw[hlen]at ha
  rw[er];split;have:=hrow a oM;omega;split;omega;have:=hrow (a-1) oM;omega
 ·rw[hlen]at hb'
  rw[er a,er b];by_cases g1:a<k
  ·rw[if_pos g1]
   by_cases g2:b<k
   ·rw[if_pos g2];exact hinj a b hab oM
   rw[if_neg g2];by_cases g3:b=k
   ·rw[if_pos g3];have:=hrow a oM;omega
   rw[if_neg g3];exact hinj a (b-1) oM oM
  rw[if_neg g1,if_neg (show ¬ b<k by omega),if_neg (show ¬ b=k by omega)];by_cases g3:a=k
  ·rw[if_pos g3];have:=hrow (b-1) oM;omega
  rw[if_neg g3];exact hinj (a-1) (b-1) oM oM
 ·rw[hlen]at ha
  rw[ec];split;exact h.ech.lt a oM;split;exact hcC;exact h.ech.lt (a-1) oM
 ·rw[hlen]at ha
  show 0<y.s (zBx _ a) (zGQ _ a);rw[er,ec];split;rw[ho _ (by have:=hrow a oM;omega)];exact h.ech.pos a oM;split;exact hpos;rw[ho _ (by have:=hrow (a-1) oM;omega)];exact h.ech.pos (a-1) oM
 ·rw[hlen]at ha
  show y.s (zBx _ a) t=0;rw[ec]at ht;rw[er];split
  ·rename_i g1
   rw[if_pos g1]at ht;rw[ho _ (by have:=hrow a oM;omega)];exact h.ech.zero a oM t ht
  rename_i g1;rw[if_neg g1]at ht;split
  ·rename_i g2
   rw[if_pos g2]at ht;exact hz t ht
  rename_i g2;rw[if_neg g2]at ht;rw[ho _ (by have:=hrow (a-1) oM;omega)];exact h.ech.zero (a-1) oM t ht
 ·rw[hlen]at hb'
  rw[ec a,ec b];by_cases g1:a<k
  ·rw[if_pos g1]
   by_cases g2:b<k
   ·rw[if_pos g2];exact hinc a b hab oM
   rw[if_neg g2];by_cases g3:b=k
   ·rw[if_pos g3];exact hlo a g1
   rw[if_neg g3];have i1:=hlo a g1;have i2:=hhi (b-1) oM oM;omega
  rw[if_neg g1,if_neg (show ¬ b<k by omega),if_neg (show ¬ b=k by omega)];by_cases g3:a=k
  ·rw[if_pos g3];exact hhi (b-1) oM oM
  rw[if_neg g3];exact hinc (a-1) (b-1) oM oM
 have ham:a≠m:=fun e=>hna k (by rw[hlen];omega) (by rw[er,if_neg oM,if_pos rfl];exact e.symm)
 rw[ho a ham];refine h.zero a oM (fun j hj=>?_) t ht;by_cases hjk:j<k
 ·have:=hna j (by rw[hlen];omega)
  rw[er,if_pos hjk]at this;exact this
 have:=hna (j+1) (by rw[hlen];omega);rw[er,if_neg oM,if_neg oM]at this;exact this
theorem zVT:∀m,m<6->∀r,r<=m+1->zLx r r<=m*(m+1)/2:=by decide
theorem zSH{p:Nat}(hn:n<=6)(hM0:1<=M0)(hB:gk (ex n) M0<B)(hrk:RkB r n Cs x0)(hex:∀m,p<=m->m<n->ex m+min m r+min m r*(min m r+1)/2<=ex (m+1)):
  zV6 B n Cs Ct (fun m x L=>p<=m/\JH ex r n Cs Ct M0 x0 m x L) (fun m x L=>p<=m/\JH' ex r n Cs Ct M0 x0 m x L):=by
 have hg:∀a,a<=ex n->gk a M0<B:=fun a ha=>zK (zEY hM0 ha) hB
 have hup:∀d m,p<=m->m+d=n->ex m<=ex n:=fun d=>by
  induction d with
  |zero=>
   intro m _ h;rw[show m=n by omega];exact xgf _
  |succ d ih=>
   intro m hp h;have:=hex m hp oM;have:=ih (m+1) oM oM;omega
 have hes:∀m,p<=m->m<n->ex m+min m r+min m r*(min m r+1)/2<=ex n:=fun m hp hm=>zB (hex m hp hm) (hup (n-(m+1)) (m+1) oM oM)
 refine⟨fun m x L h=>?_,fun m x L hm h=>?_,fun m x L hm h hl=>?_,fun m x L k c hm h hl hk hc=>?_,fun m x L k c hm h hl hk hlo hhi=>?_,fun m x L hm h=>?_⟩
 ·obtain⟨hp,h1,⟨g,g1,-,g3,g4⟩,-⟩:=h
  refine⟨g4.bd.ok (hg _ ?_),g4.lok h1⟩;rcases zG m n with hm|hm
  ·have:=hes m hp hm
   have:=g4.len;have:=g4.rk h1 hrk;omega
  obtain rfl:m=n:=oM;rw[g3 rfl];exact xgf _
 ·obtain⟨hp,h⟩:=h
  exact⟨h.bd.ok (hg _ (by have:=hes m hp hm;omega)),h.lok oM⟩
 ·obtain⟨hp,h1,⟨g,g1,-,-,h2⟩,-⟩:=h
  refine⟨hp,h2.ops,fun k hk=>Nat.lt_succ_of_lt (h2.row k hk),h2.inj,Nat.le_succ_of_le h2.len,h2.ech,fun a ha hna t ht=>?_,h2.bd.mono (zEY hM0 ?_)⟩
  ·by_cases e:a=m
   ·rw[e];exact zHg hl t ht
   exact h2.zero a oM hna t ht
  have:=h2.len;have:=h2.rk h1 hrk;omega
 ·obtain⟨hp,h1,⟨g,g1,g2,-,h2⟩,-⟩:=h
  obtain⟨hcC,-⟩:=zDi hl;have hgk:g<=k:=by
   refine zAD fun hlt=>?_
   have:=g2 hm k hlt;rw[hl,show zGQ L k=c from hc]at this;omega
  have hen:ex m+g+1<=ex n:=by
   have:=hes m hp hm;have:=h2.len;have:=h2.rk h1 hrk;have:g+1<=min m r:=oM;omega
  refine⟨fun hd=>?_,fun s t hbz=>?_,fun y hy=>?_⟩
  ·have hp:0<x.s (zBx L k) c:=by
    have:=h2.ech.pos k hk;rw[show zGQ L k=c from hc]at this;exact this
   have hM:=zJb (ex m+g) hM0;have hrm:=h2.row k hk;have hq:(x.s m c/x.s (zBx L k) c).natAbs<=gk (ex m+g) M0:=zMa hp (h2.bd.1 m hm c hcC);refine zI7 h2.bd hm (show zBx L k<n by omega) (show m≠zBx L k by omega) hM ?_;rw[zR];have e1:=zLs hM hq;have e2:=hg (ex m+g+1) hen;rw[zGw (ex m+g) 1]at e2;exact zK e1 e2
  exact(zPO (r:=r) (B:=B) hm hM0 h2 hgk hl hk hc s t hbz).1 (hg _ hen);cases hy with
  |add hd=>
   have h5:=zU4 (r:=r) hm hM0 h2 hgk hl hk hc hd;exact⟨⟨hp,h5.1⟩,h5.2⟩
  |mix s t hd hbz=>
   have h5:=(zPO (r:=r) (B:=B) hm hM0 h2 hgk hl hk hc s t hbz).2;exact⟨⟨hp,h5.1⟩,h5.2⟩
 ·obtain⟨hp,h1,⟨g,g1,-,-,h2⟩,-⟩:=h
  refine⟨hp,?_⟩;exact zYc hm hM0 h2 (by have:=h2.len;have:=h2.rk h1 hrk;omega) hl hk hlo hhi
 obtain⟨hp,h⟩:=h;have h':JC n Cs Ct M0 x0 (m+1) (ex m+min m r) x L:=h;have hr:zLx L.length L.length<=min m r*(min m r+1)/2:=zVT (min m r) oM L.length (by have:=h'.len;have:=h'.rk hm hrk;omega);have hen:=hes m hp hm;obtain⟨l,g1,g2,g3,g4,g5,g6⟩:=zQ1 (B:=B) (Ct:=Ct) (ρ:=zBx L) (κ:=zGQ L) (fun k hk=>zJ (h'.row k hk) oM) h'.inj L.length x (gk (ex m+min m r) M0) (xgf _) h'.bd (zJb _ hM0) h'.ech
  (fun a b h1 h2 h3=>by omega) (by rw[<-zGw];exact hg _ oM)
 obtain⟨l',k1,k2⟩:=h'.ops;refine⟨zCO l x,g1,oM,oM,⟨0,zE _,fun _ i hi=>oM,fun _=>rfl,⟨zOR k1 k2 g2 rfl,h'.row,h'.inj,h'.len,g4,fun a ha hna t ht=>?_,?_⟩⟩,fun _=>g5⟩
 ·rw[g6 a hna]
  exact h'.zero a ha hna t ht
 refine g3.mono ?_;rw[<-zGw];refine zEY hM0 ?_;have:=hex m hp hm;omega
theorem zSG(hn:n<=6)(hM0:1<=M0)(hB:gk (esr r n) M0<B)(hrk:RkB r n Cs x0):zV6 B n Cs Ct (JH (esr r) r n Cs Ct M0 x0) (JH' (esr r) r n Cs Ct M0 x0):=by
 have h:=zSH (p:=0) (Ct:=Ct) (ex:=esr r) hn hM0 hB hrk fun m _ _=>xgf _
 exact⟨fun m x L k=>h.ok m x L ⟨zE _,k⟩,fun m x L hm k=>h.ok' m x L hm ⟨zE _,k⟩,fun m x L hm k hl=>(h.zero m x L hm ⟨zE _,k⟩ hl).2,fun m x L k c hm g hl hk hc=>by
  obtain⟨h1,h2,h3⟩:=h.join m x L k c hm ⟨zE _,g⟩ hl hk hc;exact⟨h1,h2,fun y hy=>⟨(h3 y hy).1.2,(h3 y hy).2⟩⟩,fun m x L k c hm g hl hk hlo hhi=>(h.ins m x L k c hm ⟨zE _,g⟩ hl hk hlo hhi).2,fun m x L hm g=>by
  obtain⟨y,h1,h2⟩:=h.red m x L hm ⟨zE _,g⟩;exact⟨y,h1,h2.2⟩⟩
theorem JH.fin{x:Bst}{L:List (Nat × Nat)}(h:JH ex r n Cs Ct M0 x0 n x L):JC n Cs Ct M0 x0 n (ex n) x L/\zFr (fun _ _=>True) L.length (zGQ L) (vw (zBx L) x.s):=by
 obtain⟨-,⟨g,-,-,g3,g4⟩,h3⟩:=h;rw[g3 rfl]at g4;exact⟨g4,h3 rfl⟩
theorem zPN(h:leB M0 n Cs Ct x0)(hM0:1<=M0):JH (esr r) r n Cs Ct M0 x0 0 x0 []:=
 ⟨zE _,⟨0,zE _,fun _ i hi=>oM,fun _=>rfl,⟨⟨[],jS.nil,rfl⟩,fun k hk=>by simp at hk,fun i j _ hj=>by simp at hj,xgf _,⟨fun k hk=>by simp at hk,fun k hk=>by simp at hk,fun k hk=>by simp at hk,fun k l _ hl=>by simp at hl⟩,fun a ha=>oM,h.mono (zKD _ hM0)⟩⟩,fun _ i j _ hj=>by simp at hj⟩
end
end Go.Proofs.YtkidaebmhlijlaaGreat
