/- Joined. -/
import Derived.Test.YtkidaebmhlijlaaGreatS16
import Derived.Test.YtkidaebmhlijlaaGreatS17
set_option linter.unusedVariables false
set_option linter.unusedSimpArgs false
set_option linter.unusedSectionVars false
set_option maxHeartbeats 16000000
set_option maxRecDepth 100000
variable{cs:Array Go.Value}{e0:Bool}{d m0 m1 m2 m3 s t x y:Int}{B C Cs Ct Cu Cw K M N R T a b bw c e g i j k m n r:Nat}{κ ρ:Nat->Nat}{A F Q:Nat->Nat->Int}{P Z:Nat->Prop}{Ah v:Go.Value}{w w':Go.World}
namespace Go.Proofs.YtkidaebmhlijlaaGreat
open Go.RowKit
structure LOk(n Cs m:Nat)(x:Bst)(L:List (Nat × Nat)):Prop where
 mem:∀k,k<L.length->(L.getD k (0,0)).1<m/\(L.getD k (0,0)).1<n/\(L.getD k (0,0)).2<Cs/\x.s (L.getD k (0,0)).1 (L.getD k (0,0)).2≠0
 inc:∀i j,i<j->j<L.length->(L.getD i (0,0)).2<(L.getD j (0,0)).2
 inj:∀i j,i<j->j<L.length->(L.getD i (0,0)).1≠(L.getD j (0,0)).1
 len:L.length<=n
structure zUi(B n Cs Ct:Nat)(J J':Nat->Bst->List (Nat × Nat)->Prop):Prop where
 ok:∀m x L,J m x L->okB B n Cs Ct x/\LOk n Cs m x L
 ok':∀m x L,m<n->J' m x L->okB B n Cs Ct x/\LOk n Cs (m+1) x L
 zero:∀m x L,m<n->J m x L->lead Cs x.s m<0->J' m x L
 join:∀(m:Nat) (x:Bst) (L:List (Nat × Nat)) (k c:Nat),m<n->J m x L->lead Cs x.s m=(c:Int)->k<L.length->(L.getD k (0,0)).2=c->
  (x.s m c%x.s (L.getD k (0,0)).1 c=0->zFI B n Cs Ct x m (L.getD k (0,0)).1 (-(x.s m c/x.s (L.getD k (0,0)).1 c)))∧
  (∀s t,Bez (x.s (L.getD k (0,0)).1 c) (x.s m c) s t->zRp B n Cs Ct x (L.getD k (0,0)).1 m s t (-(x.s m c/((Int.gcd (x.s (L.getD k (0,0)).1 c) (x.s m c):Nat):Int))) (x.s (L.getD k (0,0)).1 c/((Int.gcd (x.s (L.getD k (0,0)).1 c) (x.s m c):Nat):Int)))∧
  ∀y,zOq x (L.getD k (0,0)).1 m c y->J m y L/\(lead Cs y.s m<0∨(c:Int)<lead Cs y.s m)
 ins:∀(m:Nat) (x:Bst) (L:List (Nat × Nat)) (k c:Nat),m<n->J m x L->lead Cs x.s m=(c:Int)->k<=L.length->(∀i,i<k->(L.getD i (0,0)).2<c)->(∀i,k<=i->i<L.length->c<(L.getD i (0,0)).2)->
  J' m (if x.s m c<0 then x.neg m else x) (L.take k++(m,c)::L.drop k)
 red:∀m x L,m<n->J' m x L->∃y,zJR B n Cs Ct (fun k=>(L.getD k (0,0)).1) (fun k=>(L.getD k (0,0)).2) L.length L.length x=some y/\J (m+1) y L
theorem zD7.rowB{e:Bool}{cap:Nat}{x:Bst}(h:zD7 e Z w' bw (.slice (some ⟨g,0,none⟩) a cap) n Cs Ct x)(hi:i<n)(hc:w.cell? ⟨g,i,none⟩=some (.slice (some ⟨b,0,none⟩) Cs Cs))(ho:w'.heap[g]?=w.heap[g]?):jQ w' b (yL Cs (x.s i)):=by
 obtain⟨b',o1,hr,-⟩:=h.row hi;have e1:w'.cell? ⟨g,i,none⟩=w.cell? ⟨g,i,none⟩:=by unfold World.cell?;rw[ho]
 rw[e1,hc]at o1;injection o1 with o1
 injection o1 with o1
 injection o1 with o1
 injection o1 with o1
 subst o1;exact hr
theorem zDY(h:lead C F i=(c:Int)):c<C/\F i c≠0:=by
 rcases zCT C F i with⟨h1,-⟩|⟨j,h1,h2,h3,-⟩
 omega;obtain rfl:j=c:=by omega
 exact⟨h2,h3⟩
theorem zKk:zCG 0 (yL C (F i))=lead C F i:=rfl
theorem zXV{A:Value}{bs:List Nat}(h:Wri w A R C bs F)(hp:Blk w b zDy cs):¬ Zn A bs b:=by
 rintro(hb|hb)
 ·obtain⟨r,hr⟩:=h.blk hb
  exact zLV hp hr dE rfl
 rcases(qA.own h).2 with⟨rfl,-⟩|⟨g,cap,cur,rfl,-,hh,-⟩
 cases hb;simp only[Value.ownBlock,Option.some.injEq]at hb;subst hb;have hh2:zDy=tR:=congrArg (fun o:Option Obj=>match o with|some (Obj.cells _ t _)=>t|_=>0) (hp.symm.trans hh);exact absurd hh2 dE
theorem zGW{t:TypeId}(h:Blk w g t cs)(ht:¬ t=zDy)(ho:qG P w w')(hP:∀b,P b->∃cs,Blk w b zDy cs):Blk w' g t cs:=
 ho.blk h fun hg=>by
  obtain⟨cs',h'⟩:=hP g hg;exact ht (congrArg (fun o:Option Obj=>match o with|some (Obj.cells _ t _)=>t|_=>0) (h.symm.trans h'))
theorem zD7.pivs{e:Bool}{x:Bst}(h:zD7 e Z w bw Ah n Cs Ct x)(ho:qG P w w')(hP:∀b,P b->∃cs,Blk w b zDy cs):zD7 e Z w' bw Ah n Cs Ct x:=by
 have hk:∀{A:Value} {R C:Nat} {bs:List Nat} {F:Nat->Nat->Int},Wri w A R C bs F->Wri w' A R C bs F:=fun {A R C bs F} hw=>hw.keepZ ho fun b hb hp=>by
  obtain⟨cs,h1⟩:=hP b hp;exact zXV hw h1 hb
 have hn:∀{A:Value} {n:Nat},zE2 w A n->zE2 w' A n:=fun {A n} hw=>by
  obtain⟨g,cap,cs,h1,h2,h3,h4,h5⟩:=hw;exact⟨g,cap,cs,h1,h2,h3,zGW h4 dE ho hP,h5⟩
 unfold zD7 at h ⊢
 split at h
 ·rename_i he
  rw[if_pos he];obtain⟨Au,Av,b1,b2,b3,h1,h2,h3⟩:=h;exact⟨Au,Av,b1,b2,b3,zGW h1 dE ho hP,⟨hk h2.s,hk h2.t,hk h2.i,h2.st,h2.si,h2.ti,h2.ast,h2.asi,h2.ati⟩,h3⟩
 rename_i he;rw[if_neg he];obtain⟨h0,Au,Av,b1,h1,h2,h3,h4,h5⟩:=h;exact⟨h0,Au,Av,b1,zGW h1 dE ho hP,hk h2,hn h3,hn h4,h5⟩
theorem zHi.blk{base:Nat}{L:List (Nat × Nat)}(h:zHi w base v L):∀g,v.ownBlock=some g->∃cs,Blk w g zDy cs:=by
 intro g hg;rcases h.2 with⟨rfl,h0⟩|⟨g',cap,cur,rfl,k1,k2,k3,k4,k5,k6⟩
 cases hg;simp only[Value.ownBlock,Option.some.injEq]at hg;subst hg;exact⟨cur,k2⟩
theorem zBr.z{S:List Nat}(h:zBr S w w'):qG (fun b=>b∈S) w w':=⟨h.bel,h.lext,fun k hk hn=>h.old k hk hn⟩
theorem zKZ(hB:BSd B){x:Bst}{J J':Nat->Bst->List (Nat × Nat)->Prop}(hE:zUi B n Cs Ct J J')(h:zD7 e0 Z w bw Ah n Cs Ct x)(h0:J 0 x [])
  (hn:n<=1000000) (hCs:Cs<=1000000) (hCt:Ct<=1000000) (hn0:0<n) (hZ:∀b,Z b->b<w.heap.size) (hgz:∀g,Ah.ownBlock=some g->¬ Z g):
  Calls Tryz.prog 143 #[Ah,.agg (zEg bw)] w fun e w'=>∃v y Lp,e= .returned v/\qG Z w w'/\zD7 e0 Z w' bw Ah n Cs Ct y/\J n y Lp/\zHi w' w.heap.size v Lp:=by
 have HE:=xgv hE;obtain⟨bss0,hw0,-⟩:=h.wri;obtain⟨so,sn,scap,rfl,s1,s2,s3,-⟩:=id (qA.rows hw0);have e2:n=sn:=by rw[<-s1];simp[genM]
 subst e2;obtain⟨g,_,rfl,-⟩:=qA.at_ hw0 (i:=0) (by rw[hw0.len];exact hn0);have hgz:=hgz g rfl;have HJ0:=xgv h0;clear s1 hw0 bss0 h0 hE;go_enter Tryz.func143,Tryz.ntmps143;go_upto_region 1 with(fail)
 refine zD ?_;intro W0 hW0;obtain⟨hB0,T3,hs0⟩:=qM hW0;have T3:Blk W0 w.heap.size 167 (zEg bw):=T3;have hO:=qG.of Z hB0;have hz:=h.below hB0;have HL:=xgv (zHi.nil W0 w.heap.size);clear hW0 h;go_wp2;go_loopw [5,12] (fun pv mv wr=>∃(m:Nat) (x:Bst) (Lp:List (Nat × Nat)),mv= .int .i64 m/\m<=n/\qG Z w wr/\Blk wr w.heap.size 167 (zEg bw)/\zD7 e0 Z wr bw (.slice (some ⟨g,0,none⟩) n scap) n Cs Ct x/\zAN (J m x Lp)/\zAN (zHi wr w.heap.size pv Lp)) (fun _ mv _=>n-(intOf mv).toNat)
 case atStart=>exact⟨0,x,[],rfl,by omega,hO,T3,hz,HJ0,HL⟩
 clear hO T3 hz HL HJ0;obtain⟨m,x,Lp,rfl,hm,hO,T3,hz,HJ,HL⟩:=hrel;by_cases hlt:m<n
 ·obtain⟨bm,o1,hrow,lg⟩:=hz.row hlt
  obtain⟨wc,hwc⟩:∃wc,wc=wr:=⟨_,rfl⟩;have oc:=o1;rw[<-hwc]at oc;have hgc:wr.heap[g]?=wc.heap[g]?:=by rw[hwc]
  have hVec:=hrow.vec (qC _ _) (xgf _) oM;go_wp2_with fail
  refine(zEc _ _ _ hVec).mono ?_;rintro e w1 ⟨rfl,hb1⟩;rw[zKk];have hz:=hz.below hb1;have T3:=T3.below hb1;have hO:=hO.trans (qG.of Z hb1);have HL:=xgv (HL.out.below hb1);have hgc:=(hb1.block g oM).trans hgc;clear o1 hrow hVec hwc;obtain⟨c0,hc0⟩:∃c0,lead Cs x.s m=c0:=⟨_,rfl⟩;have HC0:=xgw hc0;rw[hc0];clear hc0;obtain⟨pv0,hpv0⟩:∃p,p=u5:=⟨_,rfl⟩;subst hpv0;obtain⟨ao,lcap,rfl,hlc,hcap,hP0⟩:=id HL.out.piv;have hP0:=xgv hP0;go_wp2;go_loopw [5,8,9] (fun pv kv cv wt=>∃(x:Bst) (k:Nat) (c:Int),pv= .slice ao Lp.length lcap/\kv= .int .i64 k/\cv= .int .i64 c/\k<=Lp.length/\Hid (lead Cs x.s m=c)/\zAN (∀i,i<k->((Lp.getD i (0,0)).2:Int)<c∨c<0)/\qG Z w wt/\Blk wt w.heap.size 167 (zEg bw)/\zD7 e0 Z wt bw (.slice (some ⟨g,0,none⟩) n scap) n Cs Ct x/\zAN (J m x Lp)/\zAN (zHi wt w.heap.size (.slice ao Lp.length lcap) Lp)/\wt.heap[g]?=wc.heap[g]?) (fun _ _ cv _=>if intOf cv<0 then 0 else Cs-(intOf cv).toNat)
  case atStart=>exact⟨x,0,c0,rfl,rfl,rfl,zE _,HC0,⟨fun i hi=>by omega⟩,hO,T3,hz,HJ,HL,hgc⟩
  clear hO T3 hz HL HJ HC0 hgc;rename World=>wt
  obtain⟨x,k,c,rfl,rfl,rfl,hk,HC,HI,hO,T3,hz,HJ,HL,hgc⟩:=hrel;by_cases hc0:c<0
  ·have hge:¬ (0<=c):=by omega
   have HJ':=xgv (HE.out.zero m x Lp hlt HJ.out (by rw[HC.out];exact hc0));obtain⟨c1,c2,c3,c4,c5,c6⟩:=T3.three;go_wp2_with fail
   obtain⟨hokx,hLO⟩:=HE.out.ok' m x Lp hlt HJ'.out;obtain⟨y,hy,hJy⟩:=HE.out.red m x Lp hlt HJ'.out;have hown:=HL.out.own;refine(zEN hB hz hokx HL.out.piv (fun b hb hzb=>by have:=(hown b hb).1;have:=hZ b hzb;omega) (fun k hk=>(hLO.mem k hk).2.1) hLO.inj (fun k hk=>(hLO.mem k hk).2.2.1) hn hCs hCt hLO.len (fun b hb=>zH (hZ b hb) hO.bel.size) hn0 hy).mono ?_;rintro e wz ⟨⟨uz,rfl⟩,hOz,hz,-⟩;have T3:=hOz.blk T3 (fun hh=>by have:=hZ _ hh;omega);have HL:=xgv (HL.out.old (fun g hg=>hOz.old g (hown g hg).2 (fun hzb=>by have:=(hown g hg).1;have:=hZ g hzb;omega)));have hO:=hO.trans hOz;have HJ:=xgv hJy;clear hokx hLO hy hJy hown c1 c2 c3 c4 c5 c6;go_wp2;go_roundw
   case rel=>exact⟨m+1,y,_,by simp,by omega,hO,T3,hz,HJ,HL⟩
   case measure=>simp[intOf];omega
  obtain⟨cn,rfl⟩:∃cn:Nat,c=(cn:Int):=⟨c.toNat,by omega⟩;have hge:(0:Int)<=cn:=by omega
  go_wp2;go_loopw [8] (fun kv wv=>∃k:Nat,kv= .int .i64 k/\k<=Lp.length/\zAN (∀i,i<k->(Lp.getD i (0,0)).2<cn)/\wv=wt) (fun kv _=>Lp.length-(intOf kv).toNat)
  case atStart=>exact⟨k,rfl,hk,⟨fun i hi=>by rcases HI.out i hi with h|h<;>omega⟩,rfl⟩
  obtain⟨k',rfl,hk',HI',hwv⟩:=hrel;have hwv:=hwv.symm;subst hwv;by_cases hkl:k'<Lp.length
  ·obtain⟨bp,_,rfl,-,-⟩:=hP0.out oM
   obtain⟨-,lbp,p1,p2⟩:=HL.out.piv.cell hkl;obtain⟨q,hq⟩:∃q,(Lp.getD k' (0,0)).2=q:=⟨_,rfl⟩;rw[hq]at p2;have HQ:=xgv hq;clear hq;by_cases hqc:q<cn
   ·go_wp2
    go_roundw
    case rel=>
     refine⟨k'+1,by simp,by omega,⟨?_⟩,trivial⟩;intro i hi;rcases Nat.lt_succ_iff_lt_or_eq.1 hi with h|rfl
     exact HI'.out i h;rw[HQ.out];exact hqc
    case measure=>simp[intOf];omega
   by_cases hqe:q=cn
   ·subst hqe
    have hsn:=zDY HC.out;have hokx:=HE.out.ok m x Lp HJ.out;obtain⟨hj1,hj2,hj3⟩:=HE.out.join m x Lp k' q hlt HJ.out HC.out hkl HQ.out;obtain⟨m1,m2,m3,m4⟩:=hokx.2.mem k' hkl;rw[HQ.out]at m3 m4;obtain⟨c1,c2,c3,c4,c5,c6⟩:=T3.three;obtain⟨ρk,hρk⟩:∃r,(Lp.getD k' (0,0)).1=r:=⟨_,rfl⟩;rw[hρk]at p1 hj1 hj2 hj3 m1 m2 m4;have l3:=T3.lt;obtain⟨-,-,-,lg⟩:=hz.row hlt;have HOK:=xgv hokx.1;have HJ1:=xgv hj1;have HJ2:=xgv hj2;have HJ3:=xgv hj3;have HM4:=xgv m4;have hqC:=hsn.1;clear hsn hokx hj1 hj2 hj3 m4 hρk;go_upto_region 12 with(fail)
    refine yX 7 [] ?_;refine sRd ?_;refine sRf ?_;intro w5 hbw5;have hz:=hz.below hbw5;have T3:=T3.below hbw5;have hO:=hO.trans (qG.of Z hbw5);have HL:=xgv (HL.out.below hbw5);have hgc:=(hbw5.block g lg).trans hgc;have lg:=zH lg hbw5.size;clear p1 p2 c1 c2 c3 c4 c5 c6;go_wp2_with fail
    refine(zTi hB hz HOK.out m2 hlt oM hqC HM4.out hn hCs hCt (fun b hb=>zH (hZ b hb) hO.bel.size) HJ1.out HJ2.out).mono ?_;rintro e wj ⟨⟨uj,rfl⟩,hOj,y,hJR,hz⟩;obtain⟨hJy,hly⟩:=HJ3.out y hJR;have T3:=hOj.blk T3 (fun hh=>by have:=hZ _ hh;omega);have hown:=HL.out.own;have HL:=xgv (HL.out.old (fun g hg=>hOj.old g (hown g hg).2 (fun hzb=>by have:=(hown g hg).1;have:=hZ g hzb;omega)));have hO:=hO.trans hOj;have hgc:=(hOj.old g lg hgz).trans hgc;have HJY:=xgv hJy;have HLY:=xgv hly;clear hJR hJy hly hown;have hVec:=(hz.rowB hlt oc hgc).vec (qC _ _) (xgf _) oM;go_wp2_with fail
    refine(zEc _ _ _ hVec).mono ?_;rintro e wl ⟨rfl,hbl⟩;rw[zKk];obtain⟨-,-,-,lg⟩:=hz.row hlt;have hz:=hz.below hbl;have T3:=T3.below hbl;have hO:=hO.trans (qG.of Z hbl);have HL:=xgv (HL.out.below hbl);have hgc:=(hbl.block g lg).trans hgc;clear hVec;obtain⟨cy,hcy⟩:∃cy,lead Cs y.s m=cy:=⟨_,rfl⟩;have HCY:=xgw hcy;rw[hcy];rw[hcy]at HLY;clear hcy;go_wp2;go_roundw
    case rel=>
     refine⟨y,k',cy,rfl,rfl,rfl,hk',HCY,⟨fun i hi=>?_⟩,hO,T3,hz,HJY,HL,hgc⟩;have:=HI'.out i hi;rcases HLY.out with h|h
     exact .inr h;left;omega
    have:=HLY.out;have hg:(if cy<0 then 0 else Cs-cy.toNat)<(if(q:Int)<0 then 0 else Cs-((q:Int)).toNat):=by
     rw[if_neg (show ¬ ((q:Int)<0) by omega)];split<;>omega
    exact hg
   have hLO:=(HE.out.ok m x Lp HJ.out).2.inc;have HG:∀i,k'<=i->i<Lp.length->cn<(Lp.getD i (0,0)).2:=by
    intro i h1 h2;rcases Nat.lt_or_eq_of_le h1 with h|rfl
    ·have:=hLO k' i h h2
     have:=HQ.out;omega
    have:=HQ.out;omega
   clear hLO;have hsn:=zDY HC.out;have hrow:=hz.rowB hlt oc hgc;obtain⟨xs,xa,xl,xc,v1,v2,f1,f2,hx⟩:=hrow.cell (yE hsn.1);have hcC:=hsn.1;go_wp2_with fail
   refine(zAa _ (x.s m cn) wt hx.weak).mono ?_;rintro e ws ⟨rfl,hbs⟩;have hz:=hz.below hbs;have T3:=T3.below hbs;have hO:=hO.trans (qG.of Z hbs);have HL:=xgv (HL.out.below hbs);have hsn2:=hsn.2;have HJ':=HE.out.ins m x Lp k' cn hlt HJ.out HC.out oM HI'.out HG;have hokx:=(HE.out.ok m x Lp HJ.out).1;have hlen:Lp.length<=1000000:=zB (HE.out.ok m x Lp HJ.out).2.len hn;clear hsn hrow v1 v2 f1 f2 hx HG;by_cases hneg:x.s m cn<0
   ·rw[if_pos hneg]at HJ'
    have HJ':=xgv HJ';rw[show zAp (x.s m cn) 0=-1 by unfold zAp;rw[if_pos hneg]];have HOK:=xgv hokx;clear hneg hsn2 hokx;obtain⟨c1,c2,c3,c4,c5,c6⟩:=T3.three;go_wp2_with fail
    refine(zYV hB.bsm hz HOK.out hlt hn hCs hCt).mono ?_;rintro e wn ⟨⟨un,rfl⟩,hOn,hz⟩;have T3:=hOn.blk T3 (fun hh=>by have:=hZ _ hh;omega);have hown:=HL.out.own;have HL:=xgv (HL.out.old (fun g hg=>hOn.old g (hown g hg).2 (fun hzb=>by have:=(hown g hg).1;have:=hZ g hzb;omega)));have hO:=hO.trans hOn;clear hown c1 c2 c3 c4 c5 c6;go_wp2_with fail
    obtain⟨wi,hwi⟩:∃wi,wi=wn.alloc (Obj.cells #[Value.int IntKind.i64 m,Value.int IntKind.i64 cn] 169):=⟨_,rfl⟩;rw[<-hwi];have hbi:Below wn.heap.size wn wi:=by rw[hwi];exact(zA _ _).alloc (xgf _) _
    have hBk:Blk wi wn.heap.size zDy #[Value.int IntKind.i64 m,Value.int IntKind.i64 cn]:=by rw[hwi];exact qQ _ _ _
    have hown:=HL.out.own;have hz:=hz.below hbi;have T3:=T3.below hbi;have hO:=hO.trans (qG.of Z hbi);have HL:=HL.out.below hbi;clear hwi;refine(zFt w.heap.size _ Lp k' m cn wn.heap.size wi HL oM hBk (fun b hb=>zDT (hown b hb).2) hO.bel.size hlen).mono ?_;rintro e wk ⟨v',rfl,hv',hko⟩;have hPB:∀b,b∈(Value.ownBlock _).toList->∃cs,Blk wi b zDy cs:=fun b hb=>HL.blk b (by simpa using hb)
    have hz:=hz.pivs hko.z hPB;have T3:=zGW T3 dE hko.z hPB;have hO:qG Z w wk:=⟨hO.bel.trans hko.bel,hO.lext.trans hko.lext,fun b hb hn=>(hko.old b (zH hb hO.bel.size) (fun hm=>by
     have:=(HL.own b (by simpa using hm)).1;omega)).trans (hO.old b hb hn)⟩
    have HL:=xgv hv';clear hown hv' hko hPB hBk;obtain⟨c1,c2,c3,c4,c5,c6⟩:=T3.three;go_wp2_with fail
    obtain⟨hokx,hLO⟩:=HE.out.ok' m (x.neg m) (Lp.take k'++(m,cn)::Lp.drop k') hlt HJ'.out;obtain⟨y,hy,hJy⟩:=HE.out.red m (x.neg m) (Lp.take k'++(m,cn)::Lp.drop k') hlt HJ'.out;have hown:=HL.out.own;refine(zEN hB hz hokx HL.out.piv (fun b hb hzb=>by have:=(hown b hb).1;have:=hZ b hzb;omega) (fun k hk=>(hLO.mem k hk).2.1) hLO.inj (fun k hk=>(hLO.mem k hk).2.2.1) hn hCs hCt hLO.len (fun b hb=>zH (hZ b hb) hO.bel.size) hn0 hy).mono ?_;rintro e wz ⟨⟨uz,rfl⟩,hOz,hz,-⟩;have T3:=hOz.blk T3 (fun hh=>by have:=hZ _ hh;omega);have HL:=xgv (HL.out.old (fun g hg=>hOz.old g (hown g hg).2 (fun hzb=>by have:=(hown g hg).1;have:=hZ g hzb;omega)));have hO:=hO.trans hOz;have HJ:=xgv hJy;clear hokx hLO hy hJy hown c1 c2 c3 c4 c5 c6;go_wp2;go_roundw
    case rel=>exact⟨m+1,y,_,by simp,by omega,hO,T3,hz,HJ,HL⟩
    case measure=>simp[intOf];omega
   rw[if_neg hneg]at HJ';have HJ':=xgv HJ';rw[show zAp (x.s m cn) 0=1 by unfold zAp;rw[if_neg hneg,if_pos oM]];clear hneg hsn2 hokx;go_wp2_with fail
   obtain⟨wi,hwi⟩:∃wi,wi=ws.alloc (Obj.cells #[Value.int IntKind.i64 m,Value.int IntKind.i64 cn] 169):=⟨_,rfl⟩;rw[<-hwi];have hbi:Below ws.heap.size ws wi:=by rw[hwi];exact(zA _ _).alloc (xgf _) _
   have hBk:Blk wi ws.heap.size zDy #[Value.int IntKind.i64 m,Value.int IntKind.i64 cn]:=by rw[hwi];exact qQ _ _ _
   have hown:=HL.out.own;have hz:=hz.below hbi;have T3:=T3.below hbi;have hO:=hO.trans (qG.of Z hbi);have HL:=HL.out.below hbi;clear hwi;refine(zFt w.heap.size _ Lp k' m cn ws.heap.size wi HL oM hBk (fun b hb=>zDT (hown b hb).2) hO.bel.size hlen).mono ?_;rintro e wk ⟨v',rfl,hv',hko⟩;have hPB:∀b,b∈(Value.ownBlock _).toList->∃cs,Blk wi b zDy cs:=fun b hb=>HL.blk b (by simpa using hb)
   have hz:=hz.pivs hko.z hPB;have T3:=zGW T3 dE hko.z hPB;have hO:qG Z w wk:=⟨hO.bel.trans hko.bel,hO.lext.trans hko.lext,fun b hb hn=>(hko.old b (zH hb hO.bel.size) (fun hm=>by
    have:=(HL.own b (by simpa using hm)).1;omega)).trans (hO.old b hb hn)⟩
   have HL:=xgv hv';clear hown hv' hko hPB hBk;obtain⟨c1,c2,c3,c4,c5,c6⟩:=T3.three;go_wp2_with fail
   obtain⟨hokx,hLO⟩:=HE.out.ok' m x (Lp.take k'++(m,cn)::Lp.drop k') hlt HJ'.out;obtain⟨y,hy,hJy⟩:=HE.out.red m x (Lp.take k'++(m,cn)::Lp.drop k') hlt HJ'.out;have hown:=HL.out.own;refine(zEN hB hz hokx HL.out.piv (fun b hb hzb=>by have:=(hown b hb).1;have:=hZ b hzb;omega) (fun k hk=>(hLO.mem k hk).2.1) hLO.inj (fun k hk=>(hLO.mem k hk).2.2.1) hn hCs hCt hLO.len (fun b hb=>zH (hZ b hb) hO.bel.size) hn0 hy).mono ?_;rintro e wz ⟨⟨uz,rfl⟩,hOz,hz,-⟩;have T3:=hOz.blk T3 (fun hh=>by have:=hZ _ hh;omega);have HL:=xgv (HL.out.old (fun g hg=>hOz.old g (hown g hg).2 (fun hzb=>by have:=(hown g hg).1;have:=hZ g hzb;omega)));have hO:=hO.trans hOz;have HJ:=xgv hJy;clear hokx hLO hy hJy hown c1 c2 c3 c4 c5 c6;go_wp2;go_roundw
   case rel=>exact⟨m+1,y,_,by simp,by omega,hO,T3,hz,HJ,HL⟩
   case measure=>simp[intOf];omega
  obtain rfl:k'=Lp.length:=by omega
  have HG:∀i,Lp.length<=i->i<Lp.length->cn<(Lp.getD i (0,0)).2:=fun i h1 h2=>by omega
  have hsn:=zDY HC.out;have hrow:=hz.rowB hlt oc hgc;obtain⟨xs,xa,xl,xc,v1,v2,f1,f2,hx⟩:=hrow.cell (yE hsn.1);have hcC:=hsn.1;go_wp2_with fail
  refine(zAa _ (x.s m cn) wt hx.weak).mono ?_;rintro e ws ⟨rfl,hbs⟩;have hz:=hz.below hbs;have T3:=T3.below hbs;have hO:=hO.trans (qG.of Z hbs);have HL:=xgv (HL.out.below hbs);have hsn2:=hsn.2;have HJ':=HE.out.ins m x Lp Lp.length cn hlt HJ.out HC.out oM HI'.out HG;have hokx:=(HE.out.ok m x Lp HJ.out).1;have hlen:Lp.length<=1000000:=zB (HE.out.ok m x Lp HJ.out).2.len hn;clear hsn hrow v1 v2 f1 f2 hx HG;by_cases hneg:x.s m cn<0
  ·rw[if_pos hneg]at HJ'
   have HJ':=xgv HJ';rw[show zAp (x.s m cn) 0=-1 by unfold zAp;rw[if_pos hneg]];have HOK:=xgv hokx;clear hneg hsn2 hokx;obtain⟨c1,c2,c3,c4,c5,c6⟩:=T3.three;go_wp2_with fail
   refine(zYV hB.bsm hz HOK.out hlt hn hCs hCt).mono ?_;rintro e wn ⟨⟨un,rfl⟩,hOn,hz⟩;have T3:=hOn.blk T3 (fun hh=>by have:=hZ _ hh;omega);have hown:=HL.out.own;have HL:=xgv (HL.out.old (fun g hg=>hOn.old g (hown g hg).2 (fun hzb=>by have:=(hown g hg).1;have:=hZ g hzb;omega)));have hO:=hO.trans hOn;clear hown c1 c2 c3 c4 c5 c6;go_wp2_with fail
   obtain⟨wi,hwi⟩:∃wi,wi=wn.alloc (Obj.cells #[Value.int IntKind.i64 m,Value.int IntKind.i64 cn] 169):=⟨_,rfl⟩;rw[<-hwi];have hbi:Below wn.heap.size wn wi:=by rw[hwi];exact(zA _ _).alloc (xgf _) _
   have hBk:Blk wi wn.heap.size zDy #[Value.int IntKind.i64 m,Value.int IntKind.i64 cn]:=by rw[hwi];exact qQ _ _ _
   have hown:=HL.out.own;have hz:=hz.below hbi;have T3:=T3.below hbi;have hO:=hO.trans (qG.of Z hbi);have HL:=HL.out.below hbi;clear hwi;refine(zFt w.heap.size _ Lp Lp.length m cn wn.heap.size wi HL oM hBk (fun b hb=>zDT (hown b hb).2) hO.bel.size hlen).mono ?_;rintro e wk ⟨v',rfl,hv',hko⟩;have hPB:∀b,b∈(Value.ownBlock _).toList->∃cs,Blk wi b zDy cs:=fun b hb=>HL.blk b (by simpa using hb)
   have hz:=hz.pivs hko.z hPB;have T3:=zGW T3 dE hko.z hPB;have hO:qG Z w wk:=⟨hO.bel.trans hko.bel,hO.lext.trans hko.lext,fun b hb hn=>(hko.old b (zH hb hO.bel.size) (fun hm=>by
    have:=(HL.own b (by simpa using hm)).1;omega)).trans (hO.old b hb hn)⟩
   have HL:=xgv hv';clear hown hv' hko hPB hBk;obtain⟨c1,c2,c3,c4,c5,c6⟩:=T3.three;go_wp2_with fail
   obtain⟨hokx,hLO⟩:=HE.out.ok' m (x.neg m) (Lp.take Lp.length++(m,cn)::Lp.drop Lp.length) hlt HJ'.out;obtain⟨y,hy,hJy⟩:=HE.out.red m (x.neg m) (Lp.take Lp.length++(m,cn)::Lp.drop Lp.length) hlt HJ'.out;have hown:=HL.out.own;refine(zEN hB hz hokx HL.out.piv (fun b hb hzb=>by have:=(hown b hb).1;have:=hZ b hzb;omega) (fun k hk=>(hLO.mem k hk).2.1) hLO.inj (fun k hk=>(hLO.mem k hk).2.2.1) hn hCs hCt hLO.len (fun b hb=>zH (hZ b hb) hO.bel.size) hn0 hy).mono ?_;rintro e wz ⟨⟨uz,rfl⟩,hOz,hz,-⟩;have T3:=hOz.blk T3 (fun hh=>by have:=hZ _ hh;omega);have HL:=xgv (HL.out.old (fun g hg=>hOz.old g (hown g hg).2 (fun hzb=>by have:=(hown g hg).1;have:=hZ g hzb;omega)));have hO:=hO.trans hOz;have HJ:=xgv hJy;clear hokx hLO hy hJy hown c1 c2 c3 c4 c5 c6;go_wp2;go_roundw
   case rel=>exact⟨m+1,y,_,by simp,by omega,hO,T3,hz,HJ,HL⟩
   case measure=>simp[intOf];omega
  rw[if_neg hneg]at HJ';have HJ':=xgv HJ';rw[show zAp (x.s m cn) 0=1 by unfold zAp;rw[if_neg hneg,if_pos oM]];clear hneg hsn2 hokx;go_wp2_with fail
  obtain⟨wi,hwi⟩:∃wi,wi=ws.alloc (Obj.cells #[Value.int IntKind.i64 m,Value.int IntKind.i64 cn] 169):=⟨_,rfl⟩;rw[<-hwi];have hbi:Below ws.heap.size ws wi:=by rw[hwi];exact(zA _ _).alloc (xgf _) _
  have hBk:Blk wi ws.heap.size zDy #[Value.int IntKind.i64 m,Value.int IntKind.i64 cn]:=by rw[hwi];exact qQ _ _ _
  have hown:=HL.out.own;have hz:=hz.below hbi;have T3:=T3.below hbi;have hO:=hO.trans (qG.of Z hbi);have HL:=HL.out.below hbi;clear hwi;refine(zFt w.heap.size _ Lp Lp.length m cn ws.heap.size wi HL oM hBk (fun b hb=>zDT (hown b hb).2) hO.bel.size hlen).mono ?_;rintro e wk ⟨v',rfl,hv',hko⟩;have hPB:∀b,b∈(Value.ownBlock _).toList->∃cs,Blk wi b zDy cs:=fun b hb=>HL.blk b (by simpa using hb)
  have hz:=hz.pivs hko.z hPB;have T3:=zGW T3 dE hko.z hPB;have hO:qG Z w wk:=⟨hO.bel.trans hko.bel,hO.lext.trans hko.lext,fun b hb hn=>(hko.old b (zH hb hO.bel.size) (fun hm=>by
   have:=(HL.own b (by simpa using hm)).1;omega)).trans (hO.old b hb hn)⟩
  have HL:=xgv hv';clear hown hv' hko hPB hBk;obtain⟨c1,c2,c3,c4,c5,c6⟩:=T3.three;go_wp2_with fail
  obtain⟨hokx,hLO⟩:=HE.out.ok' m x (Lp.take Lp.length++(m,cn)::Lp.drop Lp.length) hlt HJ'.out;obtain⟨y,hy,hJy⟩:=HE.out.red m x (Lp.take Lp.length++(m,cn)::Lp.drop Lp.length) hlt HJ'.out;have hown:=HL.out.own;refine(zEN hB hz hokx HL.out.piv (fun b hb hzb=>by have:=(hown b hb).1;have:=hZ b hzb;omega) (fun k hk=>(hLO.mem k hk).2.1) hLO.inj (fun k hk=>(hLO.mem k hk).2.2.1) hn hCs hCt hLO.len (fun b hb=>zH (hZ b hb) hO.bel.size) hn0 hy).mono ?_;rintro e wz ⟨⟨uz,rfl⟩,hOz,hz,-⟩;have T3:=hOz.blk T3 (fun hh=>by have:=hZ _ hh;omega);have HL:=xgv (HL.out.old (fun g hg=>hOz.old g (hown g hg).2 (fun hzb=>by have:=(hown g hg).1;have:=hZ g hzb;omega)));have hO:=hO.trans hOz;have HJ:=xgv hJy;clear hokx hLO hy hJy hown c1 c2 c3 c4 c5 c6;go_wp2;go_roundw
  case rel=>exact⟨m+1,y,_,by simp,by omega,hO,T3,hz,HJ,HL⟩
  case measure=>simp[intOf];omega
 obtain rfl:m=n:=by omega
 go_wp2;go_ret;exact⟨_,x,Lp,rfl,hO,hz,HJ.out,HL.out⟩
theorem zJJ{x:Bst}(h:zD7 e0 Z w bw Ah 0 Cs Ct x):
  Calls Tryz.prog 143 #[Ah,.agg (zEg bw)] w fun e w'=>e= .returned (.slice none 0 0)/\Below w.heap.size w w':=by
 obtain⟨bss0,hw0,-⟩:=h.wri;obtain⟨so,sn,scap,rfl,s1,-⟩:=id (qA.rows hw0);have e2:0=sn:=by rw[<-s1];simp[genM]
 subst e2;clear s1 hw0 bss0 h;go_enter Tryz.func143,Tryz.ntmps143;go_upto_region 1 with(fail)
 refine zD ?_;intro W0 hW0;obtain⟨hB0,T3,hs0⟩:=qM hW0;clear hW0;go_wp2;go_loopw [5,12] (fun pv mv wr=>pv= .slice none 0 0/\mv= .int .i64 0/\Below w.heap.size w wr) (fun _ mv _=>0)
 case atStart=>exact⟨rfl,rfl,hB0⟩
 obtain⟨rfl,rfl,hb⟩:=hrel;go_wp2;go_ret;exact⟨rfl,hb⟩
theorem zKY(hB:BSd B){x:Bst}{J J':Nat->Bst->List (Nat × Nat)->Prop}(hE:zUi B n Cs Ct J J')(h:zD7 e0 Z w bw Ah n Cs Ct x)(h0:J 0 x [])
  (hn:n<=1000000) (hCs:Cs<=1000000) (hCt:Ct<=1000000) (hZ:∀b,Z b->b<w.heap.size) (hgz:∀g,Ah.ownBlock=some g->¬ Z g):
  Calls Tryz.prog 143 #[Ah,.agg (zEg bw)] w fun e w'=>∃v y L,e= .returned v/\qG Z w w'/\zD7 e0 Z w' bw Ah n Cs Ct y/\J n y L/\zHi w' w.heap.size v L:=by
 by_cases hn0:0<n
 ·exact zKZ hB hE h h0 hn hCs hCt hn0 hZ hgz
 obtain rfl:n=0:=by omega
 refine(zJJ h).mono ?_;rintro e w' ⟨rfl,hb⟩;exact⟨_,x,[],rfl,qG.of Z hb,h.below hb,h0,zHi.nil _ _⟩
theorem zFT.weak{xs:List Nat}(h:zFT w b v xs)(hab:a<=b):zFT w a v xs:=by
 obtain⟨h1,h2,h3⟩:=h;refine⟨h1,h2,?_⟩;rcases h3 with h3|⟨g,cap,cur,rfl,k1,k2⟩
 exact .inl h3;exact .inr ⟨g,cap,cur,rfl,by omega,k2⟩
theorem zFT.nil(w:World)(base:Nat):zFT w base (.slice none 0 0) []:=⟨by simp,rfl,.inl ⟨rfl,rfl⟩⟩
theorem zOE(hB:BSd B){x:Bst}{J J':Nat->Bst->List (Nat × Nat)->Prop}(hE:zUi B n Cs Ct J J')(h:zD7 e0 Z w bw Ah n Cs Ct x)(h0:J 0 x [])
  (hn:n<=1000000) (hCs:Cs<=1000000) (hCt:Ct<=1000000) (hZ:∀b,Z b->b<w.heap.size) (hgz:∀g,Ah.ownBlock=some g->¬ Z g):
  Calls Tryz.prog 100 #[.pointer (some ⟨bw,0,none⟩)] w fun e w'=>∃v y L,e= .returned v/\qG Z w w'/\zD7 e0 Z w' bw Ah n Cs Ct y/\J n y L/\zFT w' w.heap.size v (L.map (·.1)):=by
 obtain⟨Au,Av,hbw⟩:=h.blk;obtain⟨c1,c2,c3,c4,c5,c6⟩:=hbw.three;have HE:=xgv hE;have HJ0:=xgv h0;have HH:=xgv h;clear h hE h0;go_enter Tryz.func100,Tryz.ntmps100;go_wp2_with fail
 refine(zKY hB HE.out HH.out HJ0.out hn hCs hCt hZ hgz).mono ?_;rintro e w1 ⟨pv,y,Lp,rfl,hO,hz,hJ,hP⟩;obtain⟨hok,hL⟩:=HE.out.ok n y Lp hJ;have HL:=xgv hL;have hlen:Lp.length<=1000000:=zB hL.len hn;have HJ:=xgv hJ;have HP:=xgv hP;have HZ:=xgv hz;obtain⟨ao,lcap,rfl,hlc,hcap,hP0⟩:=hP.piv;have hP0:=xgv hP0;have hsz:=hO.bel.size;clear hJ hP hL hok hz HE HH HJ0 c1 c2 c3 c4 c5 c6 hbw;go_wp2;go_loopw [3,19] (fun u iv wr=>∃k:Nat,iv= .int .i64 k/\k<=Lp.length/\zFT wr w1.heap.size u ((Lp.take k).map (·.1))/\Below w1.heap.size w1 wr) (fun _ iv _=>Lp.length-(intOf iv).toNat)
 case atStart=>exact⟨0,rfl,by omega,zFT.nil _ _,zA _ _⟩
 obtain⟨k,rfl,hk,ho,hb⟩:=hrel;by_cases hlt:k<Lp.length
 ·obtain⟨bp,_,rfl,-,-⟩:=hP0.out oM
  obtain⟨-,lbp,p1,p2⟩:=(HP.out.below hb).piv.cell hlt;obtain⟨r,hr⟩:∃r,(Lp.getD k (0,0)).1=r:=⟨_,rfl⟩;obtain⟨q,hq⟩:∃q,(Lp.getD k (0,0)).2=q:=⟨_,rfl⟩;have hrn:r<=1000000:=by have:=(HL.out.mem k hlt).1;omega
  rw[hr]at p1;rw[hq]at p2;have htk:(Lp.take (k+1)).map (·.1)=(Lp.take k).map (·.1)++ [r]:=by
   rw[yY,zBY];congr 1;rw[xgb]at hr;cases hh:Lp[k]? with
   |none=>rw[List.getElem?_eq_none_iff]at hh;omega
   |some p=>rw[hh]at hr;simp at hr;simp[hr]
  have HTK:=xgv htk;have htl:((Lp.take k).map (·.1)).length=k:=by simp;omega
  clear hr hq htk;go_upto_region 5 with(fail)
  refine zD ?_;intro W7 hW7;obtain⟨hB7,T9,hs7⟩:=qM hW7;have T9:Blk W7 wr.heap.size zDy #[.int .i64 r,.int .i64 q]:=T9;have ho7:=ho.below hB7;have hb7:=hb.trans (hB7.mono hb.size);obtain⟨t1,t2,t3,t4⟩:=T9.two;have hys:∀w':World,zHh (w'.alloc (.cells #[.int .i64 r] tNn)) (some ⟨w'.heap.size,0,none⟩) [r]:=fun w'=>⟨by simp;omega,fun _=>⟨_,0,_,rfl,heap_alloc_new w' _,fun k x hk=>by
   match k with
   |0=>simp at hk;subst hk;rfl
   |k+1=>simp at hk⟩⟩
  have h7s:=hb7.size;clear hW7 p1 p2;go_wp2_with (at_builtin;refine zYS rfl _ _ rfl w1.heap.size u3 ((Lp.take k).map (·.1)) rfl (ho7.alloc _) (some ⟨W7.heap.size,0,none⟩) 1 1 [r] rfl (hys W7) rfl (by rw[htl];omega) (by simp;omega) ?_;intro v' w' hown hgr)
  have hgr:World.grownBy (W7.alloc (.cells #[.int .i64 r] tNn)) w' (Value.ownBlock u3):=hgr;have hB9:Below w1.heap.size w1 w':=(hb7.alloc hb7.size _).grown hgr (by simp;omega) (fun g hg=>(ho.own g hg).1);go_roundw
  case rel=>exact⟨k+1,by simp,by omega,by rw[HTK.out];exact hown,hB9⟩
  case measure=>simp[intOf];omega
 obtain rfl:k=Lp.length:=by omega
 go_wp2;go_ret;exact⟨_,y,Lp,rfl,hO.trans (qG.of Z hb),HZ.out.below hb,HJ.out,(by rw[yU]at ho;exact ho.weak hsz)⟩
def gk:Nat->Nat->Nat
 |0,M=>M
 |k+1,M=>gk k (2*M*M)
theorem zJk(h:1<=M):M<=2*M*M:=zB (show M<=2*M by omega) (zQ _ oM)
theorem zJK:∀(k:Nat) {M:Nat},1<=M->M<=gk k M
 |0,M,_=>xgf _
 |k+1,M,h=>zB (zJk h) (zJK k (zB h (zJk h)))
theorem zGH:∀(a b M:Nat),gk (a+b) M=gk b (gk a M)
 |0,b,M=>by rw[zAX];rfl
 |a+1,b,M=>by
  have:a+1+b=(a+b)+1:=by omega
  rw[this];show gk (a+b) _=gk b (gk a _);exact zGH a b _
theorem zIe(k:Nat)(h:1<=M):1<=gk k M:=zB h (zJK k h)
theorem zEL(h:1<=M)(hab:a<=b):gk a M<=gk b M:=by
 obtain⟨d,rfl⟩:=zAU hab;rw[zGH];exact zJK d (zIe a h)
theorem zUs:∀(k M:Nat),2*gk k M=(2*M)^(2^k)
 |0,M=>by simp[gk]
 |k+1,M=>by
  show 2*gk k (2*M*M)=_;rw[zUs k,qF 2 k,zN (2^k),jS (2*M) 2];congr 1;rw[Nat.pow_two,<-zC 2 (2*M) M,zN 2 (2*M),zC (2*M) 2 M]
theorem leB.mono{M':Nat}{x:Bst}(h:leB M n Cs Ct x)(hm:M<=M'):leB M' n Cs Ct x:=⟨h.1.mono hm,h.2.1.mono hm,h.2.2.mono hm⟩
theorem leB.ok{x:Bst}(h:leB M n Cs Ct x)(hm:M<B):okB B n Cs Ct x:=⟨h.1.ok hm,h.2.1.ok hm,h.2.2.ok hm⟩
theorem zKz{q:Nat}(hM:1<=M)(hq:q<=M):M*(1+q)<=2*M*M:=by
 have h1:M*q<=M*M:=zF _ hq;have h2:M*1<=M*M:=zF _ hM;rw[zAF,zC];omega
theorem zLg{a b:Int}(hb:0<b)(ha:a.natAbs<=M):(a/b).natAbs<=M:=by
 rcases zDO 0 a with h|h
 ·have g1:=zCZ h (zBT hb)
  have g2:=zC5 b h;omega
 have g1:a/b<=0:=zA1 h hb;have g2:a<=a/b:=by
  rw[zB0 hb];have:a*b<=a*1:=zBN h oM;omega
 omega
def vw(ρ:Nat->Nat)(F:Nat->Nat->Int):Nat->Nat->Int:=fun a t=>F (ρ a) t
theorem zPs{B:Nat}(hρ:∀k,k<r->ρ k<n)(hinj:∀a b,a<b->b<r->ρ a≠ρ b)(hi:i<r):∀(m j:Nat) (x:Bst) (M:Nat),j+m=r->i<j->leB M n Cs Ct x->1<=M->Ech Cs r κ (vw ρ x.s)->
  (∀j',i<j'->j'<j->0<=x.s (ρ i) (κ j')/\x.s (ρ i) (κ j')<x.s (ρ j') (κ j'))->gk m M<B->
  ∃l,zHW B n Cs Ct ρ κ i m j x=some (zCK l x)/\jN n l/\leB (gk m M) n Cs Ct (zCK l x)/\Ech Cs r κ (vw ρ (zCK l x).s)/\(∀a,a≠ρ i->∀t,(zCK l x).s a t=x.s a t)∧
   (∀j',i<j'->j'<r->0<=(zCK l x).s (ρ i) (κ j')/\(zCK l x).s (ρ i) (κ j')<(zCK l x).s (ρ j') (κ j')):=by
 intro m;induction m with
 |zero=>
  intro j x M hj hij hM hM1 hE hR hB;exact⟨[],rfl,jN.nil,hM,hE,fun a _ t=>rfl,fun j' h1 h2=>hR j' h1 oM⟩
 | succ m ih=>
  intro j x M hj hij hM hM1 hE hR hB;have hjr:j<r:=by omega
  have hp:0<x.s (ρ j) (κ j):=hE.pos j hjr;have hg1:gk m M<=gk (m+1) M:=zEL hM1 oM;have hnij:ρ i≠ρ j:=hinj i j hij hjr;have hskip:(0<=x.s (ρ i) (κ j)/\x.s (ρ i) (κ j)<x.s (ρ j) (κ j))->∃l,zHW B n Cs Ct ρ κ i m (j+1) x=some (zCK l x)/\jN n l/\leB (gk (m+1) M) n Cs Ct (zCK l x)/\Ech Cs r κ (vw ρ (zCK l x).s)/\(∀a,a≠ρ i->∀t,(zCK l x).s a t=x.s a t)∧
   (∀j',i<j'->j'<r->0<=(zCK l x).s (ρ i) (κ j')/\(zCK l x).s (ρ i) (κ j')<(zCK l x).s (ρ j') (κ j')):=fun hin=>by
   obtain⟨l,g1,g2,g3,g4⟩:=ih (j+1) x M oM oM hM hM1 hE (fun j' h1 h2=>by
    by_cases e:j'=j
    ·rw[e];exact hin
    exact hR j' h1 oM) oM
   exact⟨l,g1,g2,g3.mono hg1,g4⟩
  unfold zHW;by_cases h0:x.s (ρ i) (κ j)=0
  ·rw[if_pos h0]
   exact hskip oM
  rw[if_neg h0,if_neg oM];by_cases hq0:x.s (ρ i) (κ j)/x.s (ρ j) (κ j)=0
  ·rw[if_pos hq0]
   refine hskip ?_;have h1:=zAc (x.s (ρ i) (κ j)) (x.s (ρ j) (κ j));have h2:=zAt (x.s (ρ i) (κ j)) (b:=x.s (ρ j) (κ j)) oM;have h3:=zA2 (x.s (ρ i) (κ j)) hp;rw[hq0,zZ]at h1;omega
  rw[if_neg hq0];have hqM:(x.s (ρ i) (κ j)/x.s (ρ j) (κ j)).natAbs<=M:=zLg hp (hM.1 _ (hρ i oM) _ (hE.lt j hjr));obtain⟨q,hq⟩:∃q,x.s (ρ i) (κ j)/x.s (ρ j) (κ j)=q:=⟨_,rfl⟩;rw[hq]at hqM ⊢
  have hb2:=zKz hM1 hqM;have hok:zFI B n Cs Ct x (ρ i) (ρ j) (-q):=zIE hM (hρ i oM) (hρ j hjr) hnij hM1 (by
   rw[zT];have:2*M*M<=gk (m+1) M:=zJK m (zB hM1 (zJk hM1));omega)
  rw[if_pos hok];have hoa:(Op.add (ρ i) (ρ j) (-q)).ok n:=⟨hρ i oM,hρ j hjr,hnij⟩;have hM2:leB (2*M*M) n Cs Ct (zCK [.add (ρ i) (ρ j) (-q)] x):=(zVt hM hoa).mono (by simpa[Op.g]using hb2);have hst:∀a t,(zCK [.add (ρ i) (ρ j) (-q)] x).s a t=if a=ρ i then x.s (ρ i) t+-q*x.s (ρ j) t else x.s a t:=fun a t=>rfl
  have hdm:=zAc (x.s (ρ i) (κ j)) (x.s (ρ j) (κ j));have hm0:=zAt (x.s (ρ i) (κ j)) (b:=x.s (ρ j) (κ j)) oM;have hml:=zA2 (x.s (ρ i) (κ j)) hp;rw[hq]at hdm;have hne:∀a,a<r->a≠i->ρ a≠ρ i:=fun a ha e h=>by
   rcases zAS e with h1|h1
   exact hinj a i h1 hi h;exact hinj i a h1 ha h.symm
  have hEy:Ech Cs r κ (vw ρ (zCK [.add (ρ i) (ρ j) (-q)] x).s):=by
   have hsm:∀t,t<=κ i->x.s (ρ i) t+-q*x.s (ρ j) t=x.s (ρ i) t:=fun t ht=>by
    have hz:x.s (ρ j) t=0:=hE.zero j hjr t (by have:=hE.inc i j hij hjr;omega);rw[hz];omega
   refine⟨hE.lt,fun a ha=>?_,fun a ha t ht=>?_,hE.inc⟩
   ·show 0<(zCK [.add (ρ i) (ρ j) (-q)] x).s (ρ a) (κ a)
    rw[hst];by_cases e:a=i
    ·rw[e,if_pos rfl,hsm _ (xgf _)];exact hE.pos i oM
    rw[if_neg (hne a ha e)];exact hE.pos a ha
   show(zCK [.add (ρ i) (ρ j) (-q)] x).s (ρ a) t=0;rw[hst];by_cases e:a=i
   ·rw[e]at ht
    rw[e,if_pos rfl,hsm t oM];exact hE.zero i oM t ht
   rw[if_neg (hne a ha e)];exact hE.zero a ha t ht
  obtain⟨l,g1,g2,g3,g4,g5,g6⟩:=ih (j+1) (zCK [.add (ρ i) (ρ j) (-q)] x) (2*M*M) oM oM hM2 (zB hM1 (zJk hM1)) hEy
   (fun j' h1 h2=>by
    rw[hst,hst,if_pos rfl,if_neg (hne j' oM oM)];by_cases e:j'=j
    ·rw[e,yD,qL q]
     constructor<;>omega
    have hz:x.s (ρ j) (κ j')=0:=hE.zero j hjr (κ j') (hE.inc j' j oM hjr);rw[hz,zZ,jZ];exact hR j' h1 oM) hB
  rw[<-zDa]at g1 g3 g4 g5 g6;refine⟨[Op.add (ρ i) (ρ j) (-q)]++l,g1,(jN.cons hoa jN.nil).app g2,g3,g4,fun a ha t=>?_,g6⟩;rw[g5 a ha t,hst,if_neg ha]
theorem zPr{B:Nat}(hρ:∀k,k<r->ρ k<n)(hinj:∀a b,a<b->b<r->ρ a≠ρ b):∀(i:Nat) (x:Bst) (M:Nat),i<=r->leB M n Cs Ct x->1<=M->Ech Cs r κ (vw ρ x.s)->
  zFU (fun a _=>i<=a) r κ (vw ρ x.s)->gk (zK3 r i) M<B->
  ∃l,zJR B n Cs Ct ρ κ r i x=some (zCK l x)/\jN n l/\leB (gk (zK3 r i) M) n Cs Ct (zCK l x)/\Ech Cs r κ (vw ρ (zCK l x).s)/\zFU (fun _ _=>True) r κ (vw ρ (zCK l x).s)∧
   (∀a,(∀k,k<r->ρ k≠a)->∀t,(zCK l x).s a t=x.s a t):=by
 intro i;induction i with
 |zero=>
  intro x M hi hM hM1 hE hR hB;exact⟨[],rfl,jN.nil,hM,hE,fun a b h1 h2 _=>hR a b h1 h2 (zE _),fun a _ t=>rfl⟩
 | succ i ih=>
  intro x M hi hM hM1 hE hR hB;have hsum:gk (zK3 r (i+1)) M=gk (zK3 r i) (gk (r-(i+1)) M):=zGH _ _ _;rw[hsum]at hB ⊢
  have hM2:=zIe (r-(i+1)) hM1;have hB1:gk (r-(i+1)) M<B:=zJ (zJK (zK3 r i) hM2) hB;obtain⟨l1,g1,g2,g3,g4,g5,g6⟩:=zPs (B:=B) (Ct:=Ct) (i:=i) hρ hinj oM (r-(i+1)) (i+1) x M oM oM hM hM1 hE (fun j' h1 h2=>by omega) hB1;have hne:∀a,a<r->a≠i->ρ a≠ρ i:=fun a ha e h=>by
   rcases zAS e with h1|h1
   exact hinj a i h1 oM h;exact hinj i a h1 ha h.symm
  obtain⟨l2,k1,k2,k3,k4,k5,k6⟩:=ih (zCK l1 x) (gk (r-(i+1)) M) oM g3 hM2 g4
   (fun a b h1 h2 h3=>by
    show 0<=(zCK l1 x).s (ρ a) (κ b)/\(zCK l1 x).s (ρ a) (κ b)<(zCK l1 x).s (ρ b) (κ b);by_cases e:a=i
    ·rw[e];exact g6 b oM h2
    rw[g5 _ (hne a oM e),g5 _ (hne b h2 oM)];exact hR a b h1 h2 oM) hB
  rw[<-zDa]at k1 k3 k4 k5 k6;refine⟨l1++l2,?_,g2.app k2,k3,k4,k5,fun a ha t=>?_⟩
  ·unfold zJR
   rw[g1,jV];exact k1
  rw[k6 a ha t,g5 a (fun e=>ha i oM e.symm)]
theorem zOm{a b:Int}(ha:a.natAbs<=M)(hb:b.natAbs<=M)(hx:x.natAbs<=M)(hy:y.natAbs<=M):(a*x+b*y).natAbs<=2*M*M:=by
 have h1:(a*x).natAbs<=M*M:=by rw[qZ];exact qT ha hx
 have h2:(b*y).natAbs<=M*M:=by rw[qZ];exact qT hb hy
 rw[zC];omega
theorem zHL{a b c:Int}(h:leM M n C F)(hM:1<=M)(hi:i<n)(hj:j<n)(ha:a.natAbs<=M)(hb:b.natAbs<=M)(hc:c.natAbs<=M)(hd:d.natAbs<=M):leM (2*M*M) n C (yZ F i j a b c d):=by
 intro r hr t ht;unfold yZ;split;exact zOm ha hb (h i hi t ht) (h j hj t ht);split;exact zOm hc hd (h i hi t ht) (h j hj t ht);exact zB (h r hr t ht) (zJk hM)
theorem zRY{a b c:Int}{x:Bst}(h:leB M n Cs Ct x)(hM:1<=M)(hi:i<n)(hj:j<n)(ha:a.natAbs<=M)(hb:b.natAbs<=M)(hc:c.natAbs<=M)(hd:d.natAbs<=M):leB (2*M*M) n Cs Ct (x.mix i j a b c d):=
 ⟨zHL h.1 hM hi hj ha hb hc hd,zHL h.2.1 hM hi hj ha hb hc hd,zHL h.2.2 hM hi hj hd (by rw[zT];exact hc) (by rw[zT];exact hb) ha⟩
theorem zTw{a b c:Int}{x:Bst}(h:leB M n Cs Ct x)(hM:1<=M)(hi:i<n)(hj:j<n)(ha:a.natAbs<=M)(hb:b.natAbs<=M)(hc:c.natAbs<=M)(hd:d.natAbs<=M)(hB:2*M*M<B):zRp B n Cs Ct x i j a b c d:=by
 have h1:=zJk hM;have hp:∀u v:Int,u.natAbs<=M->v.natAbs<=M->(u*v).natAbs<B:=fun u v hu hv=>by
  have e:(u*v).natAbs<=M*M:=by rw[qZ];exact qT hu hv
  rw[zC]at hB;omega
 exact⟨⟨by omega,by omega,by omega,by omega⟩,fun t ht=>⟨hp _ _ ha (h.1 i hi t ht),hp _ _ hb (h.1 j hj t ht),hp _ _ hc (h.1 i hi t ht),hp _ _ hd (h.1 j hj t ht)⟩,
  fun t ht=>⟨hp _ _ ha (h.2.1 i hi t ht),hp _ _ hb (h.2.1 j hj t ht),hp _ _ hc (h.2.1 i hi t ht),hp _ _ hd (h.2.1 j hj t ht)⟩,
  fun t ht=>⟨hp _ _ hd (h.2.2 i hi t ht),hp _ _ hc (h.2.2 j hj t ht),hp _ _ hb (h.2.2 i hi t ht),hp _ _ ha (h.2.2 j hj t ht)⟩,(zRY h hM hi hj ha hb hc hd).ok hB⟩
def zBs(L:List (Nat × Nat))(k:Nat):Nat:=(L.getD k (0,0)).1
def zFp(L:List (Nat × Nat))(k:Nat):Nat:=(L.getD k (0,0)).2
structure JC(n Cs Ct M0:Nat)(x0:Bst)(b g:Nat)(x:Bst)(L:List (Nat × Nat)):Prop where
 ops:∃l,jN n l/\x=zCK l x0
 row:∀k,k<L.length->zBs L k<b
 inj:∀i j,i<j->j<L.length->zBs L i≠zBs L j
 len:L.length<=b
 ech:Ech Cs L.length (zFp L) (vw (zBs L) x.s)
 zero:∀a,a<b->(∀k,k<L.length->zBs L k≠a)->∀t,t<Cs->x.s a t=0
 bd:leB (gk g M0) n Cs Ct x
def es:Nat->Nat
 |0=>0
 |m+1=>es m+m+m*(m+1)/2
theorem zVa(h:a<=b):es a<=es b:=by
 obtain⟨d,rfl⟩:=zAU h;clear h;induction d with
 |zero=>exact xgf _
 |succ d ih=>exact zB ih (by show _<=es (a+d)+(a+d)+_;omega)
def esr(r:Nat):Nat->Nat
 |0=>0
 |m+1=>esr r m+min m r+min m r*(min m r+1)/2
theorem zTP(r:Nat)(h:a<=b):esr r a<=esr r b:=by
 obtain⟨d,rfl⟩:=zAU h;clear h;induction d with
 |zero=>exact xgf _
 |succ d ih=>exact zB ih (by show _<=esr r (a+d)+min (a+d) r+_;omega)
theorem zUp(r:Nat):∀m,esr r m<=es m
 |0=>xgf _
 |m+1=>zDh (zDh (zUp r m) (zDS m r)) (Nat.div_le_div_right (qT (zDS m r) (Nat.succ_le_succ (zDS m r))))
def RkB(r n Cs:Nat)(x0:Bst):Prop:=∀(l:List Op) (k:Nat) (ρ κ:Nat->Nat),jN n l->k<=n->(∀j,j<k->ρ j<n)->(∀i j,i<j->j<k->ρ i≠ρ j)->Ech Cs k κ (vw ρ (zCK l x0).s)->k<=r
theorem RkB.all{x0:Bst}:RkB n n Cs x0:=fun _ _ _ _ _ h _ _ _=>h
theorem JC.rk{M0:Nat}{x0 x:Bst}{L:List (Nat × Nat)}(h:JC n Cs Ct M0 x0 b g x L)(hb:b<=n)(hr:RkB r n Cs x0):L.length<=r:=by
 obtain⟨l,h1,h2⟩:=h.ops;exact hr l _ (zBs L) (zFp L) h1 (zB h.len hb) (fun j hj=>zH (h.row j hj) hb) h.inj (h2 ▸ h.ech)
def JH(ex:Nat->Nat)(r n Cs Ct M0:Nat)(x0:Bst)(m:Nat)(x:Bst)(L:List (Nat × Nat)):Prop:=
 m<=n/\(∃g,g<=L.length/\(m<n->∀i,i<g->lead Cs x.s m<0∨(zFp L i:Int)<lead Cs x.s m)/\(m=n->g=0)/\JC n Cs Ct M0 x0 m (ex m+g) x L)/\(m=n->zFU (fun _ _=>True) L.length (zFp L) (vw (zBs L) x.s))
def JH'(ex:Nat->Nat)(r n Cs Ct M0:Nat)(x0:Bst)(m:Nat)(x:Bst)(L:List (Nat × Nat)):Prop:=JC n Cs Ct M0 x0 (m+1) (ex m+min m r) x L
section
variable {ex:Nat->Nat} {B r n Cs Ct M0:Nat} {x0:Bst}
theorem JC.lok{x:Bst}{L:List (Nat × Nat)}(h:JC n Cs Ct M0 x0 b g x L)(hb:b<=n):LOk n Cs b x L:=by
 refine⟨fun k hk=>⟨h.row k hk,zH (h.row k hk) hb,h.ech.lt k hk,?_⟩,h.ech.inc,h.inj,zB h.len hb⟩;have:0<x.s (zBs L k) (zFp L k):=h.ech.pos k hk;have e:x.s (L.getD k (0,0)).1 (L.getD k (0,0)).2=x.s (zBs L k) (zFp L k):=rfl;rw[e];omega
theorem zNS{x y:Bst}{l l':List Op}(h1:jN n l)(h2:x=zCK l x0)(h3:jN n l')(h4:y=zCK l' x):∃l,jN n l/\y=zCK l x0:=⟨l++l',h1.app h3,by rw[zDa,<-h2];exact h4⟩
theorem zLt{x y:Bst}{L:List (Nat × Nat)}(hm:m<n)(hM0:1<=M0)(hcC:c<Cs)(h:JC n Cs Ct M0 x0 m g x L)(he:e<=k)(hk:k<L.length)(hc:zFp L k=c)
  (hy:∃l,jN n l/\y=zCK l x) (ho:∀a,a≠m->a≠zBs L k->∀t,y.s a t=x.s a t) (hp:0<y.s (zBs L k) c) (hz:∀t,t<c->y.s (zBs L k) t=0) (hmz:∀t,t<=c->y.s m t=0) (hb:leB (gk (ex m+e+1) M0) n Cs Ct y):
  JH ex r n Cs Ct M0 x0 m y L/\(lead Cs y.s m<0∨(c:Int)<lead Cs y.s m):=by
 have hl:lead Cs y.s m<0∨(c:Int)<lead Cs y.s m:=by
  rcases zCT Cs y.s m with⟨g,-⟩|⟨c1,g1,g2,g3,-⟩
  left;omega;right;rcases zG c c1 with h|h
  omega;exact absurd (hmz c1 h) g3
 have hne:∀a,a<L.length->a≠k->zBs L a≠zBs L k:=fun a ha e hh=>by
  rcases zAS e with h1|h1
  exact h.inj a k h1 hk hh;exact h.inj k a h1 ha hh.symm
 have hrm:∀a,a<L.length->zBs L a≠m:=fun a ha=>by have:=h.row a ha;omega
 obtain⟨l,hl1,hl2⟩:=h.ops;obtain⟨l',hl3,hl4⟩:=hy;refine⟨⟨by omega,⟨k+1,hk,fun _ i hi=>?_,fun e=>by omega,⟨zNS hl1 hl2 hl3 hl4,h.row,h.inj,h.len,⟨h.ech.lt,fun a ha=>?_,fun a ha t ht=>?_,h.ech.inc⟩,fun a ha hna t ht=>?_,hb.mono (zEL hM0 oM)⟩⟩,fun e=>by omega⟩,hl⟩
 ·have:zFp L i<=c:=by
   rcases zG i k with h1|h1
   have:=h.ech.inc i k h1 hk;omega;obtain rfl:i=k:=by omega
   omega
  omega
 ·show 0<y.s (zBs L a) (zFp L a)
  by_cases e:a=k
  ·rw[e,hc];exact hp
  rw[ho _ (hrm a ha) (hne a ha e)];exact h.ech.pos a ha
 ·show y.s (zBs L a) t=0
  by_cases e:a=k
  ·rw[e,hc]at ht
   rw[e];exact hz t ht
  rw[ho _ (hrm a ha) (hne a ha e)];exact h.ech.zero a ha t ht
 rw[ho a oM (fun e=>hna k hk e.symm)];exact h.zero a ha hna t ht
theorem zTh{x:Bst}{L:List (Nat × Nat)}(hm:m<n)(hM0:1<=M0)(h:JC n Cs Ct M0 x0 m (ex m+e) x L)(he:e<=k)(hl:lead Cs x.s m=(c:Int))(hk:k<L.length)(hc:zFp L k=c)
  (hd:x.s m c%x.s (zBs L k) c=0):JH ex r n Cs Ct M0 x0 m (x.add m (zBs L k) (-(x.s m c/x.s (zBs L k) c))) L/\(lead Cs (x.add m (zBs L k) (-(x.s m c/x.s (zBs L k) c))).s m<0∨(c:Int)<lead Cs (x.add m (zBs L k) (-(x.s m c/x.s (zBs L k) c))).s m):=by
 obtain⟨hcC,-⟩:=zDY hl;have hrm:=h.row k hk;have hz:∀t,t<c->x.s (zBs L k) t=0:=fun t ht=>h.ech.zero k hk t (by rw[hc];exact ht)
 have hp:0<x.s (zBs L k) c:=by have:=h.ech.pos k hk;rw[hc]at this;exact this
 have hmz:∀t,t<c->x.s m t=0:=by
  rcases zCT Cs x.s m with⟨g,-⟩|⟨c1,g1,g2,g3,g4⟩
  omega;obtain rfl:c1=c:=by omega
  exact g4
 have hM:=zIe (ex m+e) hM0;have hq:(x.s m c/x.s (zBs L k) c).natAbs<=gk (ex m+e) M0:=zLg hp (h.bd.1 m hm c hcC);have hoa:(Op.add m (zBs L k) (-(x.s m c/x.s (zBs L k) c))).ok n:=⟨hm,by omega,by omega⟩;have hst:∀a t,(x.add m (zBs L k) (-(x.s m c/x.s (zBs L k) c))).s a t=if a=m then x.s m t+-(x.s m c/x.s (zBs L k) c)*x.s (zBs L k) t else x.s a t:=fun a t=>rfl
 refine zLt hm hM0 hcC h he hk hc ⟨[_],jN.cons hoa jN.nil,rfl⟩ (fun a h1 h2 t=>by rw[hst,if_neg h1]) (by rw[hst,if_neg oM];exact hp) (fun t ht=>by rw[hst,if_neg oM];exact hz t ht) (fun t ht=>?_) ?_
 ·rw[hst,if_pos rfl]
  by_cases ee:t=c
  ·subst ee
   have:=zAc (x.s m t) (x.s (zBs L k) t);rw[yD,qL (x.s m t/_)];omega
  rw[hmz t oM,hz t oM,zZ];rfl
 refine(zVt h.bd hoa).mono ?_;rw[zGH (ex m+e) 1];show _<=2*gk (ex m+e) M0*gk (ex m+e) M0;have:(Op.add m (zBs L k) (-(x.s m c/x.s (zBs L k) c))).g=1+(x.s m c/x.s (zBs L k) c).natAbs:=by simp[Op.g]
 rw[this];exact zKz hM hq
theorem zVR(hx:0<x){g:Int}(hg:g=((Int.gcd x y:Nat):Int)):0<g/\g*(x/g)=x/\g*(y/g)=y/\(x/g).natAbs<=x.natAbs/\(y/g).natAbs<=y.natAbs:=by
 have h0:Int.gcd x y≠0:=fun e=>by rw[zBp]at e;omega
 have hg0:0<g:=by omega
 have d1:g∣x:=by rw[hg];exact zBQ ..
 have d2:g∣y:=by rw[hg];exact zB3 ..
 exact⟨hg0,Int.mul_ediv_cancel' d1,Int.mul_ediv_cancel' d2,zLg hg0 (xgf _),zLg hg0 (xgf _)⟩
def zXi(x:Bst)(r m c:Nat)(s t:Int):Bst:=x.mix r m s t (-(x.s m c/((Int.gcd (x.s r c) (x.s m c):Nat):Int))) (x.s r c/((Int.gcd (x.s r c) (x.s m c):Nat):Int))
def zU2(B n Cs Ct G m c:Nat)(x:Bst)(r:Nat)(s t:Int):Prop:=G<B->zRp B n Cs Ct x r m s t (-(x.s m c/((Int.gcd (x.s r c) (x.s m c):Nat):Int))) (x.s r c/((Int.gcd (x.s r c) (x.s m c):Nat):Int))
theorem zOI{x:Bst}{L:List (Nat × Nat)}(hm:m<n)(hM0:1<=M0)(h:JC n Cs Ct M0 x0 m (ex m+e) x L)(he:e<=k)(hl:lead Cs x.s m=(c:Int))(hk:k<L.length)(hc:zFp L k=c)(s t:Int)
  (hbz:Bez (x.s (zBs L k) c) (x.s m c) s t):zU2 B n Cs Ct (gk (ex m+e+1) M0) m c x (zBs L k) s t/\(JH ex r n Cs Ct M0 x0 m (zXi x (zBs L k) m c s t) L/\(lead Cs (zXi x (zBs L k) m c s t).s m<0∨(c:Int)<lead Cs (zXi x (zBs L k) m c s t).s m)):=by
 obtain⟨hcC,-⟩:=zDY hl;have hrm:=h.row k hk;have hz:∀t,t<c->x.s (zBs L k) t=0:=fun t ht=>h.ech.zero k hk t (by rw[hc];exact ht)
 have hp:0<x.s (zBs L k) c:=by have:=h.ech.pos k hk;rw[hc]at this;exact this
 have hmz:∀t,t<c->x.s m t=0:=by
  rcases zCT Cs x.s m with⟨g,-⟩|⟨c1,g1,g2,g3,g4⟩
  omega;obtain rfl:c1=c:=by omega
  exact g4
 have hM:=zIe (ex m+e) hM0;have bx:=h.bd.1 (zBs L k) oM c hcC;have by_:=h.bd.1 m hm c hcC;obtain⟨hb1,hb2,hb3⟩:=hbz;obtain⟨g,hg⟩:∃g:Int,((Int.gcd (x.s (zBs L k) c) (x.s m c):Nat):Int)=g:=⟨_,rfl⟩;obtain⟨d1,d2,d3,d4,d5⟩:=zVR hp hg.symm;have q1:s.natAbs<=gk (ex m+e) M0:=by omega
 have q2:t.natAbs<=gk (ex m+e) M0:=by omega
 have q3:(-(x.s m c/g)).natAbs<=gk (ex m+e) M0:=by rw[zT];omega
 have q4:(x.s (zBs L k) c/g).natAbs<=gk (ex m+e) M0:=by omega
 have hbd:=zRY h.bd hM (by omega:zBs L k<n) hm q1 q2 q3 q4;unfold zU2 zXi;rw[hg]at hb1 ⊢
 refine⟨fun hB=>zTw h.bd hM oM hm q1 q2 q3 q4 (by rw[zGH (ex m+e) 1]at hB;exact hB),?_⟩;have hne:zBs L k≠m:=by omega
 have hdet:s*(x.s (zBs L k) c/g)-t*(-(x.s m c/g))=1:=by
  have e':g*(s*(x.s (zBs L k) c/g)-t*(-(x.s m c/g)))=g*1:=by
   rw[zDp,Int.sub_neg,zCs,jO g s,jO g t,d2,d3,hb1,zAv]
  exact zAG oM e'
 obtain⟨l,l1,l2⟩:=zVy (n:=n) (by omega:zBs L k<n) hm hne _ s t (-(x.s m c/g)) (x.s (zBs L k) c/g) rfl hdet;have hst:∀a u,(x.mix (zBs L k) m s t (-(x.s m c/g)) (x.s (zBs L k) c/g)).s a u=if a=zBs L k then s*x.s (zBs L k) u+t*x.s m u else if a=m then-(x.s m c/g)*x.s (zBs L k) u+x.s (zBs L k) c/g*x.s m u else x.s a u:=fun a u=>rfl
 refine zLt hm hM0 hcC h he hk hc ⟨l,l1,l2 x⟩ (fun a h1 h2 u=>by rw[hst,if_neg h2,if_neg h1]) (by rw[hst,if_pos rfl,hb1];exact d1) (fun u hu=>by rw[hst,if_pos rfl,hz u hu,hmz u hu];simp) (fun u hu=>?_) (by rw[zGH (ex m+e) 1];exact hbd);rw[hst,if_neg (zP hne),if_pos rfl];by_cases ee:u=c
 ·subst ee
  have e1:x.s m u/g*x.s (zBs L k) u=x.s (zBs L k) u/g*x.s m u:=by
   have:g*(x.s m u/g*x.s (zBs L k) u)=g*(x.s (zBs L k) u/g*x.s m u):=by
    rw[<-qI,d3,<-qI,d2,qL]
   exact zAG oM this
  rw[yD,e1];omega
 rw[hmz u oM,hz u oM];simp
theorem zOZ(L:List (Nat × Nat))(hk:k<=L.length)(a:Nat):(L.take k++(m,c)::L.drop k).getD a (0,0)=if a<k then L.getD a (0,0)else if a=k then(m,c)else L.getD (a-1) (0,0):=by
 rw[xgb];split
 ·rename_i h
  rw[List.getElem?_append_left (by simp;omega),List.getElem?_take_of_lt h,<-xgb]
 rename_i h;rw[List.getElem?_append_right (by simp;omega)];have e:(L.take k).length=k:=by simp;omega
 rw[e];split
 ·rename_i h2
  rw[h2];simp
 rename_i h2;obtain⟨d,hd⟩:∃d,a-k=d+1:=⟨a-k-1,by omega⟩;rw[hd,List.getElem?_cons_succ,List.getElem?_drop,<-xgb];congr 1;omega
theorem zW6{x:Bst}{L:List (Nat × Nat)}(hm:m<n)(hM0:1<=M0)(h:JC n Cs Ct M0 x0 m (ex m+e) x L)(he:e<=min m r)(hl:lead Cs x.s m=(c:Int))(hk:k<=L.length)(hlo:∀i,i<k->zFp L i<c)(hhi:∀i,k<=i->i<L.length->c<zFp L i):
  JH' ex r n Cs Ct M0 x0 m (if x.s m c<0 then x.neg m else x) (L.take k++(m,c)::L.drop k):=by
 obtain⟨hcC,hn0⟩:=zDY hl;have hmz:∀t,t<c->x.s m t=0:=by
  rcases zCT Cs x.s m with⟨g,-⟩|⟨c1,g1,g2,g3,g4⟩
  omega;obtain rfl:c1=c:=by omega
  exact g4
 obtain⟨ng,h1,h2,h3⟩:∃ng,jN n ng/\gro ng=1/\(if x.s m c<0 then x.neg m else x)=zCK ng x:=by
  by_cases hneg:x.s m c<0
  ·rw[if_pos hneg];exact⟨[.neg m],jN.cons hm jN.nil,rfl,rfl⟩
  rw[if_neg hneg];exact⟨[],jN.nil,rfl,rfl⟩
 have hb:leB (gk (ex m+min m r) M0) n Cs Ct (if x.s m c<0 then x.neg m else x):=by
  rw[h3];refine(zGd h1 h.bd).mono ?_;rw[h2,zAn];exact zEL hM0 oM
 obtain⟨y,hy⟩:∃y,(if x.s m c<0 then x.neg m else x)=y:=⟨_,rfl⟩;have ho:∀a,a≠m->∀t,y.s a t=x.s a t:=fun a ha t=>by
  rw[<-hy];split
  ·show(if a=m then _ else x.s a t)=_
   rw[if_neg ha]
  rfl
 have hpos:0<y.s m c:=by
  rw[<-hy];split
  ·show 0<(if m=m then-(x.s m c)else _)
   rw[if_pos rfl];omega
  omega
 have hz:∀t,t<c->y.s m t=0:=fun t ht=>by
  rw[<-hy];split
  ·show(if m=m then-(x.s m t)else _)=0
   rw[if_pos rfl,hmz t ht];rfl
  exact hmz t ht
 rw[hy]at h3 hb ⊢
 obtain⟨l,hl1,hl2⟩:=h.ops;have hlen:(L.take k++(m,c)::L.drop k).length=L.length+1:=by simp;omega
 have er:∀a,zBs (L.take k++(m,c)::L.drop k) a=if a<k then zBs L a else if a=k then m else zBs L (a-1):=fun a=>by
  unfold zBs;rw[zOZ L hk];split;rfl;split<;>rfl
 have ec:∀a,zFp (L.take k++(m,c)::L.drop k) a=if a<k then zFp L a else if a=k then c else zFp L (a-1):=fun a=>by
  unfold zFp;rw[zOZ L hk];split;rfl;split<;>rfl
 have hrow:=h.row;have hinj:=h.inj;have hinc:=h.ech.inc;have hll:=h.len;refine⟨zNS hl1 hl2 h1 h3,fun a ha=>?_,fun a b hab hb'=>?_,by omega,⟨fun a ha=>?_,fun a ha=>?_,fun a ha t ht=>?_,fun a b hab hb'=>?_⟩,fun a ha hna t ht=>?_,hb⟩
 ·rw[hlen]at ha
  rw[er];split;have:=hrow a oM;omega;split;omega;have:=hrow (a-1) oM;omega
 ·rw[hlen]at hb'
  rw[er a,er b];by_cases g1:a<k
  ·rw[if_pos g1]
   by_cases g2:b<k
   ·rw[if_pos g2];exact hinj a b hab oM
   rw[if_neg g2];by_cases g3:b=k
   ·rw[if_pos g3];have:=hrow a oM;omega
   rw[if_neg g3];exact hinj a (b-1) oM oM
  rw[if_neg g1,if_neg (show ¬ b<k by omega),if_neg (show ¬ b=k by omega)];by_cases g3:a=k
  ·rw[if_pos g3];have:=hrow (b-1) oM;omega
  rw[if_neg g3];exact hinj (a-1) (b-1) oM oM
 ·rw[hlen]at ha
  rw[ec];split;exact h.ech.lt a oM;split;exact hcC;exact h.ech.lt (a-1) oM
 ·rw[hlen]at ha
  show 0<y.s (zBs _ a) (zFp _ a);rw[er,ec];split;rw[ho _ (by have:=hrow a oM;omega)];exact h.ech.pos a oM;split;exact hpos;rw[ho _ (by have:=hrow (a-1) oM;omega)];exact h.ech.pos (a-1) oM
 ·rw[hlen]at ha
  show y.s (zBs _ a) t=0;rw[ec]at ht;rw[er];split
  ·rename_i g1
   rw[if_pos g1]at ht;rw[ho _ (by have:=hrow a oM;omega)];exact h.ech.zero a oM t ht
  rename_i g1;rw[if_neg g1]at ht;split
  ·rename_i g2
   rw[if_pos g2]at ht;exact hz t ht
  rename_i g2;rw[if_neg g2]at ht;rw[ho _ (by have:=hrow (a-1) oM;omega)];exact h.ech.zero (a-1) oM t ht
 ·rw[hlen]at hb'
  rw[ec a,ec b];by_cases g1:a<k
  ·rw[if_pos g1]
   by_cases g2:b<k
   ·rw[if_pos g2];exact hinc a b hab oM
   rw[if_neg g2];by_cases g3:b=k
   ·rw[if_pos g3];exact hlo a g1
   rw[if_neg g3];have i1:=hlo a g1;have i2:=hhi (b-1) oM oM;omega
  rw[if_neg g1,if_neg (show ¬ b<k by omega),if_neg (show ¬ b=k by omega)];by_cases g3:a=k
  ·rw[if_pos g3];exact hhi (b-1) oM oM
  rw[if_neg g3];exact hinc (a-1) (b-1) oM oM
 have ham:a≠m:=fun e=>hna k (by rw[hlen];omega) (by rw[er,if_neg oM,if_pos rfl];exact e.symm)
 rw[ho a ham];refine h.zero a oM (fun j hj=>?_) t ht;by_cases hjk:j<k
 ·have:=hna j (by rw[hlen];omega)
  rw[er,if_pos hjk]at this;exact this
 have:=hna (j+1) (by rw[hlen];omega);rw[er,if_neg oM,if_neg oM]at this;exact this
theorem zT7:∀m,m<6->∀r,r<=m+1->zK3 r r<=m*(m+1)/2:=by decide
theorem zQ3{p:Nat}(hn:n<=6)(hM0:1<=M0)(hB:gk (ex n) M0<B)(hrk:RkB r n Cs x0)(hex:∀m,p<=m->m<n->ex m+min m r+min m r*(min m r+1)/2<=ex (m+1)):
  zUi B n Cs Ct (fun m x L=>p<=m/\JH ex r n Cs Ct M0 x0 m x L) (fun m x L=>p<=m/\JH' ex r n Cs Ct M0 x0 m x L):=by
 have hg:∀a,a<=ex n->gk a M0<B:=fun a ha=>zJ (zEL hM0 ha) hB
 have hup:∀d m,p<=m->m+d=n->ex m<=ex n:=fun d=>by
  induction d with
  |zero=>
   intro m _ h;rw[show m=n by omega];exact xgf _
  |succ d ih=>
   intro m hp h;have:=hex m hp oM;have:=ih (m+1) oM oM;omega
 have hes:∀m,p<=m->m<n->ex m+min m r+min m r*(min m r+1)/2<=ex n:=fun m hp hm=>zB (hex m hp hm) (hup (n-(m+1)) (m+1) oM oM)
 refine⟨fun m x L h=>?_,fun m x L hm h=>?_,fun m x L hm h hl=>?_,fun m x L k c hm h hl hk hc=>?_,fun m x L k c hm h hl hk hlo hhi=>?_,fun m x L hm h=>?_⟩
 ·obtain⟨hp,h1,⟨g,g1,-,g3,g4⟩,-⟩:=h
  refine⟨g4.bd.ok (hg _ ?_),g4.lok h1⟩;rcases zG m n with hm|hm
  ·have:=hes m hp hm
   have:=g4.len;have:=g4.rk h1 hrk;omega
  obtain rfl:m=n:=by omega
  rw[g3 rfl];exact xgf _
 ·obtain⟨hp,h⟩:=h
  exact⟨h.bd.ok (hg _ (by have:=hes m hp hm;omega)),h.lok oM⟩
 ·obtain⟨hp,h1,⟨g,g1,-,-,h2⟩,-⟩:=h
  refine⟨hp,h2.ops,fun k hk=>Nat.lt_succ_of_lt (h2.row k hk),h2.inj,Nat.le_succ_of_le h2.len,h2.ech,fun a ha hna t ht=>?_,h2.bd.mono (zEL hM0 ?_)⟩
  ·by_cases e:a=m
   ·rw[e];exact zGv hl t ht
   exact h2.zero a oM hna t ht
  have:=h2.len;have:=h2.rk h1 hrk;omega
 ·obtain⟨hp,h1,⟨g,g1,g2,-,h2⟩,-⟩:=h
  obtain⟨hcC,-⟩:=zDY hl;have hgk:g<=k:=by
   refine zAE fun hlt=>?_
   have:=g2 hm k hlt;rw[hl,show zFp L k=c from hc]at this;omega
  have hen:ex m+g+1<=ex n:=by
   have:=hes m hp hm;have:=h2.len;have:=h2.rk h1 hrk;have:g+1<=min m r:=by omega
   omega
  refine⟨fun hd=>?_,fun s t hbz=>?_,fun y hy=>?_⟩
  ·have hp:0<x.s (zBs L k) c:=by
    have:=h2.ech.pos k hk;rw[show zFp L k=c from hc]at this;exact this
   have hM:=zIe (ex m+g) hM0;have hrm:=h2.row k hk;have hq:(x.s m c/x.s (zBs L k) c).natAbs<=gk (ex m+g) M0:=zLg hp (h2.bd.1 m hm c hcC);refine zIE h2.bd hm (show zBs L k<n by omega) (show m≠zBs L k by omega) hM ?_;rw[zT];have e1:=zKz hM hq;have e2:=hg (ex m+g+1) hen;rw[zGH (ex m+g) 1]at e2;exact zJ e1 e2
  exact(zOI (r:=r) (B:=B) hm hM0 h2 hgk hl hk hc s t hbz).1 (hg _ hen);cases hy with
  |add hd=>
   have h5:=zTh (r:=r) hm hM0 h2 hgk hl hk hc hd;exact⟨⟨hp,h5.1⟩,h5.2⟩
  |mix s t hd hbz=>
   have h5:=(zOI (r:=r) (B:=B) hm hM0 h2 hgk hl hk hc s t hbz).2;exact⟨⟨hp,h5.1⟩,h5.2⟩
 ·obtain⟨hp,h1,⟨g,g1,-,-,h2⟩,-⟩:=h
  refine⟨hp,?_⟩;exact zW6 hm hM0 h2 (by have:=h2.len;have:=h2.rk h1 hrk;omega) hl hk hlo hhi
 obtain⟨hp,h⟩:=h;have h':JC n Cs Ct M0 x0 (m+1) (ex m+min m r) x L:=h;have hr:zK3 L.length L.length<=min m r*(min m r+1)/2:=zT7 (min m r) oM L.length (by have:=h'.len;have:=h'.rk hm hrk;omega);have hen:=hes m hp hm;obtain⟨l,g1,g2,g3,g4,g5,g6⟩:=zPr (B:=B) (Ct:=Ct) (ρ:=zBs L) (κ:=zFp L) (fun k hk=>zH (h'.row k hk) oM) h'.inj L.length x (gk (ex m+min m r) M0) (xgf _) h'.bd (zIe _ hM0) h'.ech
  (fun a b h1 h2 h3=>by omega) (by rw[<-zGH];exact hg _ oM)
 obtain⟨l',k1,k2⟩:=h'.ops;refine⟨zCK l x,g1,by omega,by omega,⟨0,zE _,fun _ i hi=>by omega,fun _=>rfl,⟨zNS k1 k2 g2 rfl,h'.row,h'.inj,h'.len,g4,fun a ha hna t ht=>?_,?_⟩⟩,fun _=>g5⟩
 ·rw[g6 a hna]
  exact h'.zero a ha hna t ht
 refine g3.mono ?_;rw[<-zGH];refine zEL hM0 ?_;have:=hex m hp hm;omega
theorem zQ2(hn:n<=6)(hM0:1<=M0)(hB:gk (esr r n) M0<B)(hrk:RkB r n Cs x0):zUi B n Cs Ct (JH (esr r) r n Cs Ct M0 x0) (JH' (esr r) r n Cs Ct M0 x0):=by
 have h:=zQ3 (p:=0) (Ct:=Ct) (ex:=esr r) hn hM0 hB hrk fun m _ _=>xgf _
 exact⟨fun m x L k=>h.ok m x L ⟨zE _,k⟩,fun m x L hm k=>h.ok' m x L hm ⟨zE _,k⟩,fun m x L hm k hl=>(h.zero m x L hm ⟨zE _,k⟩ hl).2,fun m x L k c hm g hl hk hc=>by
  obtain⟨h1,h2,h3⟩:=h.join m x L k c hm ⟨zE _,g⟩ hl hk hc;exact⟨h1,h2,fun y hy=>⟨(h3 y hy).1.2,(h3 y hy).2⟩⟩,fun m x L k c hm g hl hk hlo hhi=>(h.ins m x L k c hm ⟨zE _,g⟩ hl hk hlo hhi).2,fun m x L hm g=>by
  obtain⟨y,h1,h2⟩:=h.red m x L hm ⟨zE _,g⟩;exact⟨y,h1,h2.2⟩⟩
theorem JH.fin{x:Bst}{L:List (Nat × Nat)}(h:JH ex r n Cs Ct M0 x0 n x L):JC n Cs Ct M0 x0 n (ex n) x L/\zFU (fun _ _=>True) L.length (zFp L) (vw (zBs L) x.s):=by
 obtain⟨-,⟨g,-,-,g3,g4⟩,h3⟩:=h;rw[g3 rfl]at g4;exact⟨g4,h3 rfl⟩
theorem zOH(h:leB M0 n Cs Ct x0)(hM0:1<=M0):JH (esr r) r n Cs Ct M0 x0 0 x0 []:=
 ⟨zE _,⟨0,zE _,fun _ i hi=>by omega,fun _=>rfl,⟨⟨[],jN.nil,rfl⟩,fun k hk=>by simp at hk,fun i j _ hj=>by simp at hj,xgf _,⟨fun k hk=>by simp at hk,fun k hk=>by simp at hk,fun k hk=>by simp at hk,fun k l _ hl=>by simp at hl⟩,fun a ha=>by omega,h.mono (zJK _ hM0)⟩⟩,fun _ i j _ hj=>by simp at hj⟩
end
theorem zYq:∀m n:Nat,∃s t:Int,s*(m:Int)+t*(n:Int)=((Nat.gcd m n:Nat):Int):=by
 intro m;induction m using Nat.strongRecOn with
 | ind m ih=>
  intro n;rcases qN m with h|h
  ·subst h
   exact⟨0,1,by rw[Nat.gcd_zero_left];omega⟩
  obtain⟨s,t,e⟩:=ih (n%m) (yV _ h) m;refine⟨t-s*((n/m:Nat):Int),s,?_⟩;rw[Nat.gcd_rec,<-e];have h2:(n:Int)=(m:Int)*((n/m:Nat):Int)+((n%m:Nat):Int):=by
   have:=jU n m;exact_mod_cast this.symm
  generalize ((n/m:Nat):Int)=q at*;generalize ((n%m:Nat):Int)=r at*;rw[h2];grind
theorem zYp(hx:0<=x)(hy:0<=y):∃s t:Int,s*x+t*y=((Int.gcd x y:Nat):Int):=by
 obtain⟨s,t,e⟩:=zYq x.natAbs y.natAbs;refine⟨s,t,?_⟩;rw[show((x.natAbs:Nat):Int)=x by omega,show((y.natAbs:Nat):Int)=y by omega]at e;exact e
def bl(f:Nat->Int)(i j:Nat)(m0 m1 m2 m3:Int)(a:Nat):Int:=if a=i then m0*f i+m1*f j else if a=j then m2*f i+m3*f j else f a
theorem zIR(n:Nat)(F:Nat->Nat->Int)(i j:Nat)(m0 m1 m2 m3:Int)(X:Nat->Int)(a:Nat):
  qH n (fun t=>yZ F i j m0 m1 m2 m3 a t*X t)=bl (fun a=>qH n fun t=>F a t*X t) i j m0 m1 m2 m3 a:=by
 unfold bl yZ;split
 ·rw[<-jH,<-jH,<-zBj]
  exact zL fun t ht=>by rw[zBk,qI,qI]
 split
 ·rw[<-jH,<-jH,<-zBj]
  exact zL fun t ht=>by rw[zBk,qI,qI]
 rfl
theorem zJc(n:Nat)(F:Nat->Nat->Int)(i j:Nat)(m0 m1 m2 m3:Int)(X:Nat->Int)(a:Nat):
  qH n (fun t=>X t*yZ F i j m0 m1 m2 m3 a t)=bl (fun a=>qH n fun t=>X t*F a t) i j m0 m1 m2 m3 a:=by
 rw[zL (g:=fun t=>yZ F i j m0 m1 m2 m3 a t*X t) (fun t ht=>qL _ _),zIR];unfold bl;dsimp only;rw[zL (g:=fun t=>F i t*X t) (f:=fun t=>X t*F i t) (fun t ht=>qL _ _),zL (g:=fun t=>F j t*X t) (f:=fun t=>X t*F j t) (fun t ht=>qL _ _),zL (g:=fun t=>F a t*X t) (f:=fun t=>X t*F a t) (fun t ht=>qL _ _)]
theorem zLS{P:Nat->Nat->Int}{m0 m1 m2 m3 n0 n1 n2 n3:Int}(hi:i<n)(hj:j<n)(hij:i≠j)(h:∀a,a<n->∀b,b<n->dot n P Q a b=idf a b)
  (e0:m0*n0+m1*n1=1) (e1:m0*n2+m1*n3=0) (e2:m2*n0+m3*n1=0) (e3:m2*n2+m3*n3=1):∀a,a<n->∀b,b<n->dot n (yZ P i j m0 m1 m2 m3) (yZ Q i j n0 n1 n2 n3) a b=idf a b:=by
 intro a ha b hb;unfold dot;rw[zIR];have e:∀a,a<n->qH n (fun t=>P a t*yZ Q i j n0 n1 n2 n3 b t)=bl (fun b=>idf a b) i j n0 n1 n2 n3 b:=fun a ha=>by
  rw[zJc];have g:∀b,b<n->qH n (fun t=>P a t*Q b t)=idf a b:=fun b hb=>h a ha b hb
  unfold bl;dsimp only;rw[g i hi,g j hj,g b hb]
 have hji:¬ j=i:=fun h=>hij h.symm
 unfold bl;dsimp only;rw[e i hi,e j hj,e a ha];unfold bl idf;by_cases a1:a=i
 ·by_cases b1:b=i
  ·subst a1;subst b1;simp[hij,hji];omega
  by_cases b2:b=j
  ·subst a1;subst b2;simp[hij,hji];omega
  have b3:¬ i=b:=fun h=>b1 h.symm
  have b4:¬ j=b:=fun h=>b2 h.symm
  subst a1;simp[b1,b2,b3,b4]
 by_cases a2:a=j
 ·by_cases b1:b=i
  ·subst a2;subst b1;simp[hij,hji];omega
  by_cases b2:b=j
  ·subst a2;subst b2;simp[hij,hji];omega
  have b3:¬ i=b:=fun h=>b1 h.symm
  have b4:¬ j=b:=fun h=>b2 h.symm
  subst a2;simp[b1,b2,b3,b4,hji]
 by_cases b1:b=i
 ·subst b1;simp[a1,a2]
 by_cases b2:b=j
 ·subst b2;simp[a1,a2,hji]
 simp[a1,a2,b1,b2]
theorem zP4{f g:Nat->Int}(hi:i<n)(hj:j<n)(hij:i≠j)(h:∀t,t<n->t≠i->t≠j->f t=g t)(h1:f i+f j=g i+g j):qH n f=qH n g:=
 zI3 (d:=f i-g i) hi hj hij h oM oM
theorem zLR{P Q:Nat->Nat->Int}{m0 m1 m2 m3 n0 n1 n2 n3:Int}(hi:i<n)(hj:j<n)(hij:i≠j)
  (e0:n0*m0+n2*m2=1) (e1:n0*m1+n2*m3=0) (e2:n1*m0+n3*m2=0) (e3:n1*m1+n3*m3=1) (a b:Nat):cod n (yZ Q i j n0 n1 n2 n3) (yZ P i j m0 m1 m2 m3) a b=cod n Q P a b:=by
 refine zP4 hi hj hij (fun t ht h1 h2=>?_) ?_;unfold yZ;rw[if_neg h1,if_neg h1,if_neg h2,if_neg h2];unfold yZ;have hji:¬ j=i:=fun h=>hij h.symm
 simp only[if_true,if_neg hji];generalize P i b=p;generalize P j b=q;generalize Q i a=r;generalize Q j a=s;have:(n0*r+n1*s)*(m0*p+m1*q)+(n2*r+n3*s)*(m2*p+m3*q)=r*p*(n0*m0+n2*m2)+r*q*(n0*m1+n2*m3)+s*p*(n1*m0+n3*m2)+s*q*(n1*m1+n3*m3):=by grind
 rw[this,e0,e1,e2,e3];omega
theorem zTK{z:W5}(h:Rel R C A z)(hd:zF9 R C z.s)(hij:i<j)(hj:j<min R C)(hg:Int.gcd (z.s i i) (z.s j j)≠0)(hb:s*z.s i i+t*z.s j j=((Int.gcd (z.s i i) (z.s j j):Nat):Int)):Rel R C A (zXf z i j s t):=by
 obtain⟨u0,hu0⟩:(((Int.gcd (z.s i i) (z.s j j):Nat):Int))∣z.s i i:=zBQ ..;obtain⟨v,hv⟩:(((Int.gcd (z.s i i) (z.s j j):Nat):Int))∣z.s j j:=zB3 ..;obtain⟨g,hgg⟩:∃g:Int,((Int.gcd (z.s i i) (z.s j j):Nat):Int)=g:=⟨_,rfl⟩;have hg0:g≠0:=by rw[<-hgg];omega
 rw[hgg]at hb hu0 hv;have q1:z.s i i/g=u0:=by rw[hu0];exact zBE _ hg0
 have q2:z.s j j/g=v:=by rw[hv];exact zBE _ hg0
 have hstuv:s*u0+t*v=1:=by
  have:g*(s*u0+t*v)=g*1:=by rw[hu0,hv]at hb;grind
  exact zAG hg0 this
 have hi':i<R/\i<C/\j<R/\j<C:=by omega
 obtain⟨hiR,hiC,hjR,hjC⟩:=hi';have hne:i≠j:=by omega
 have hji:¬ j=i:=by omega
 refine⟨fun a ha b hb'=>?_,?_,fun a ha b hb'=>?_,?_,fun a ha b hb'=>?_⟩
 ·show zH0 z.s i j a b=qH R fun s'=>yZ z.u i j s t (-(z.s j j/_)) (z.s i i/_) a s'*qH C fun t'=>A s' t'*yZ z.w i j 1 1 (-(t*(z.s j j/_))) (1-t*(z.s j j/_)) b t'
  unfold zH0;rw[hgg,q1,q2];have e1:∀s',qH C (fun t'=>A s' t'*yZ z.w i j 1 1 (-(t*v)) (1-t*v) b t')=bl (fun b=>qH C fun t'=>A s' t'*z.w b t') i j 1 1 (-(t*v)) (1-t*v) b:=fun s'=>zJc _ _ _ _ _ _ _ _ _ _
  simp only[e1];rw[zIR];have e2:∀a,a<R->qH R (fun s'=>z.u a s'*bl (fun b=>qH C fun t'=>A s' t'*z.w b t') i j 1 1 (-(t*v)) (1-t*v) b)=bl (fun b=>z.s a b) i j 1 1 (-(t*v)) (1-t*v) b:=fun a ha=>by
   have g1:∀b,b<C->z.s a b=qH R fun s=>z.u a s*qH C fun t=>A s t*z.w b t:=fun b hb=>h.s a ha b hb
   unfold bl;dsimp only;split
   ·rw[g1 i hiC,g1 j hjC,<-jH,<-jH,<-zBj]
    exact zL fun s' _=>by rw[zCs,jO (z.u a s'),jO (z.u a s')]
   split
   ·rw[g1 i hiC,g1 j hjC,<-jH,<-jH,<-zBj]
    exact zL fun s' _=>by rw[zCs,jO (z.u a s'),jO (z.u a s')]
   rw[g1 b hb']
  have hout:bl (fun a=>qH R fun s'=>z.u a s'*bl (fun b=>qH C fun t'=>A s' t'*z.w b t') i j 1 1 (-(t*v)) (1-t*v) b) i j s t (-v) u0 a=bl (fun a=>bl (fun b=>z.s a b) i j 1 1 (-(t*v)) (1-t*v) b) i j s t (-v) u0 a:=by
   unfold bl at*;dsimp only at*;rw[e2 i hiR,e2 j hjR,e2 a ha]
  rw[hout];have zij:z.s i j=0:=hd i hiR j hjC hne;have zji:z.s j i=0:=hd j hjR i hiC hji;unfold bl;dsimp only;by_cases a1:a=i
  ·subst a1
   by_cases b1:b=a
   ·subst b1
    rw[if_neg oM,if_pos ⟨rfl,rfl⟩,if_pos rfl,if_pos rfl,if_pos rfl,zij,zji,<-hb];grind
   by_cases b2:b=j
   ·subst b2
    rw[if_neg oM,if_neg oM,if_pos rfl,if_neg hji,if_neg hji,if_pos rfl,if_pos rfl,zji,zij];have:s*(-(t*v)*z.s a a+(1-t*v)*0)+t*(-(t*v)*0+(1-t*v)*z.s b b)=-(t*v)*(s*z.s a a+t*z.s b b)+t*z.s b b:=by grind
    rw[this,hb,hv];grind
   have h1:z.s a b=0:=hd a ha b hb' (fun e=>b1 e.symm);have h2:z.s j b=0:=hd j hjR b hb' (fun e=>b2 e.symm);rw[if_neg oM,if_neg oM,if_pos rfl,if_neg b1,if_neg b2,if_neg b1,if_neg b2,h1,h2];omega
  by_cases a2:a=j
  ·subst a2
   by_cases b1:b=i
   ·subst b1
    rw[if_neg oM,if_neg oM,if_neg a1,if_pos rfl,if_pos rfl,if_pos rfl,zij,zji];have:-v*(1*z.s b b+1*0)+u0*(1*0+1*z.s a a)=u0*z.s a a-v*z.s b b:=by grind
    rw[this,hu0,hv];grind
   by_cases b2:b=a
   ·subst b2
    rw[if_pos ⟨rfl,rfl⟩,if_neg a1,if_pos rfl,if_neg b1,if_neg b1,if_pos rfl,if_pos rfl,zij,zji];have:-v*(-(t*v)*z.s i i+(1-t*v)*0)+u0*(-(t*v)*0+(1-t*v)*z.s b b)=t*v*v*z.s i i+(1-t*v)*u0*z.s b b:=by grind
    rw[this,hu0,hv];grind
   have h1:z.s i b=0:=hd i hiR b hb' (fun e=>b1 e.symm);have h2:z.s a b=0:=hd a ha b hb' (fun e=>b2 e.symm);rw[if_neg oM,if_neg oM,if_neg a1,if_pos rfl,if_neg b1,if_neg b2,if_neg b1,if_neg b2,h1,h2];omega
  rw[if_neg oM,if_neg oM,if_neg a1,if_neg a2];by_cases b1:b=i
  ·subst b1
   rw[if_pos rfl,hd a ha b hb' a1,hd a ha j hjC a2];omega
  by_cases b2:b=j
  ·subst b2
   rw[if_neg b1,if_pos rfl,hd a ha b hb' a2,hd a ha i hiC a1];omega
  rw[if_neg b1,if_neg b2]
 ·show ∀a,a<R->∀b,b<R->dot R (yZ z.u i j s t (-(z.s j j/_)) (z.s i i/_)) (yZ z.v i j (z.s i i/_) (z.s j j/_) (-t) s) a b=idf a b
  rw[hgg,q1,q2];exact zLS hiR hjR hne h.uv hstuv (by grind) (by grind) (by grind)
 ·show cod R (yZ z.v i j (z.s i i/_) (z.s j j/_) (-t) s) (yZ z.u i j s t (-(z.s j j/_)) (z.s i i/_)) a b=idf a b
  rw[hgg,q1,q2,zLR hiR hjR hne (by grind) (by grind) (by grind) (by grind)];exact h.vu a ha b hb'
 ·show ∀a,a<C->∀b,b<C->dot C (yZ z.w i j 1 1 (-(t*(z.s j j/_))) (1-t*(z.s j j/_))) (yZ z.x i j (1-t*(z.s j j/_)) (t*(z.s j j/_)) (-1) 1) a b=idf a b
  rw[hgg,q2];exact zLS hiC hjC hne h.wx (by grind) (by grind) (by grind) (by grind)
 show cod C (yZ z.x i j (1-t*(z.s j j/_)) (t*(z.s j j/_)) (-1) 1) (yZ z.w i j 1 1 (-(t*(z.s j j/_))) (1-t*(z.s j j/_))) a b=idf a b;rw[hgg,q2,zLR hiC hjC hne (by grind) (by grind) (by grind) (by grind)];exact h.xw a ha b hb'
structure Dg(R C r:Nat)(F:Nat->Nat->Int):Prop where
 off:zF9 R C F
 pos:∀i,i<r->0<F i i
 zero:∀i,r<=i->i<min R C->F i i=0
 le:r<=min R C
theorem Low.dg(h:Low R C r F)(hd:zF9 R C F):Dg R C r F:=
 ⟨hd,fun i hi=>h.hnf.ech.pos i hi,fun i h1 h2=>h.row i h1 oM i oM,by have:=h.le;have:=h.hnf.le;omega⟩
theorem Dg.both(h:Dg R C r F)(hij:i<j)(hj:j<min R C)(hn:¬ F i i∣F j j):j<r/\0<F i i/\0<F j j:=by
 have hjr:j<r:=by
  rcases zG j r with h1|h1
  exact h1;rw[h.zero j h1 hj]at hn;exact absurd (zCC _) hn
 exact⟨hjr,h.pos i oM,h.pos j hjr⟩
theorem zKV(hij:i<j):zH0 F i j i i=((Int.gcd (F i i) (F j j):Nat):Int):=by
 unfold zH0;rw[if_neg oM,if_pos ⟨rfl,rfl⟩]
theorem zKW:zH0 F i j j j=F i i*(F j j/((Int.gcd (F i i) (F j j):Nat):Int)):=by
 unfold zH0;rw[if_pos ⟨rfl,rfl⟩]
theorem zGZ(h1:¬ (a=j/\b=j))(h2:¬ (a=i/\b=i)):zH0 F i j a b=F a b:=by
 unfold zH0;rw[if_neg h1,if_neg h2]
theorem zIc(hx:0<x)(hy:0<y):∃g u v:Int,((Int.gcd x y:Nat):Int)=g/\0<g/\x=g*u/\y=g*v/\0<u/\0<v/\x/g=u/\y/g=v:=by
 obtain⟨u,hu⟩:(((Int.gcd x y:Nat):Int))∣x:=zBQ ..;obtain⟨v,hv⟩:(((Int.gcd x y:Nat):Int))∣y:=zB3 ..;have h0:0<((Int.gcd x y:Nat):Int):=by
  have:Int.gcd x y≠0:=fun h=>by rw[zBp]at h;omega
  omega
 generalize hg:((Int.gcd x y:Nat):Int)=g at*;have hu0:0<u:=by
  rcases zCf 0 u with h|h
  exact h;have:=zAr (zBT h0) h;omega
 have hv0:0<v:=by
  rcases zCf 0 v with h|h
  exact h;have:=zAr (zBT h0) h;omega
 exact⟨g,u,v,rfl,h0,hu,hv,hu0,hv0,by rw[hu];exact zBE _ oM,by rw[hv];exact zBE _ oM⟩
theorem Dg.step(h:Dg R C r F)(hij:i<j)(hj:j<min R C)(hn:¬ F i i∣F j j):Dg R C r (zH0 F i j):=by
 obtain⟨h1,h2,h3⟩:=h.both hij hj hn;obtain⟨g,u,v,e1,e2,e3,e4,e5,e6,e7,e8⟩:=zIc h2 h3;refine⟨fun a ha b hb hab=>?_,fun k hk=>?_,fun k h4 h5=>?_,h.le⟩;rw[zGZ oM oM];exact h.off a ha b hb hab
 ·by_cases k1:k=i
  ·rw[k1,zKV hij,e1];exact e2
  by_cases k2:k=j
  ·rw[k2,zKW,e1,e8];exact Int.mul_pos h2 e6
  rw[zGZ oM oM];exact h.pos k hk
 rw[zGZ oM oM];exact h.zero k h4 h5
theorem zQx{r:Nat}(hij:i<j)(h2:0<F i i)(h3:0<F j j):∃u:Int,F i i=((Int.gcd (F i i) (F j j):Nat):Int)*u/\0<u∧
  ∀m,yW m (fun k=>zH0 F i j k k)*(if i<m/\m<=j then u else 1)=yW m (fun k=>F k k):=by
 obtain⟨g,u,v,e1,e2,e3,e4,e5,e6,e7,e8⟩:=zIc h2 h3;refine⟨u,by rw[e1];exact e3,e5,fun m=>?_⟩;induction m with
 |zero=>rw[if_neg oM];rfl
 | succ m ih=>
  show yW m (fun k=>zH0 F i j k k)*zH0 F i j m m*_=yW m (fun k=>F k k)*F m m;by_cases k1:m=i
  ·subst k1
   rw[if_neg oM,zAv]at ih;rw[zKV hij,e1,if_pos oM,ih,qI,<-e3]
  by_cases k2:m=j
  ·subst k2
   rw[if_pos oM]at ih;rw[zKW,e1,e8,if_neg oM,zAv,<-ih,e3];have:F m m=g*v:=e4;rw[this];grind
  rw[zGZ oM oM,<-ih];by_cases k3:i<m/\m<=j
  ·rw[if_pos k3,if_pos oM]
   grind
  rw[if_neg k3,if_neg oM];grind
theorem zVT(h:Dg R C r F)(hij:i<j)(hj:j<min R C)(hn:¬ F i i∣F j j):2*mu r (zH0 F i j)<=mu r F/\yW r (fun k=>zH0 F i j k k)=yW r (fun k=>F k k):=by
 obtain⟨h1,h2,h3⟩:=h.both hij hj hn;have hs:=h.step hij hj hn;obtain⟨u,e1,e2,e3⟩:=zQx (r:=r) hij h2 h3;have hdv:∀m,yW m (fun k=>zH0 F i j k k)∣yW m (fun k=>F k k):=fun m=>⟨_,(e3 m).symm⟩
 refine⟨zIf (jX fun a ha=>jX fun b hb=>hs.pos b oM) (jX fun a ha=>jX fun b hb=>h.pos b oM) (zG1 fun a ha=>hdv _) (fun he=>?_),?_⟩
 ·have g1:=zFh (fun a ha=>jX fun b hb=>hs.pos b oM) (fun a ha=>jX fun b hb=>h.pos b oM) (fun a ha=>hdv (a+1)) he i oM
  have g2:=e3 (i+1);rw[if_pos oM,<-g1]at g2;have g3:0<yW (i+1) (fun k=>zH0 F i j k k):=jX fun b hb=>hs.pos b oM
  have g4:u=1:=zAG (a:=yW (i+1) fun k=>zH0 F i j k k) oM (by rw[g2,zAv]);rw[g4,zAv]at e1;exact hn (by rw[e1];exact zB3 ..)
 have:=e3 r;rwa[if_neg oM,zAv]at this
theorem zCU{X Y:Nat}(hx:x.natAbs<=X)(hy:y.natAbs<=Y):(x*y).natAbs<=X*Y:=by
 rw[qZ];exact qT hx hy
theorem zGu(h:leM M n C F)(hi:i<n)(hj:j<n)(hK:1<=K)(h0:m0.natAbs<=K)(h1:m1.natAbs<=K)(h2:m2.natAbs<=K)(h3:m3.natAbs<=K):
  leM (M*(2*K)) n C (yZ F i j m0 m1 m2 m3):=by
 intro a ha b hb;have e:M*(2*K)=K*M+K*M:=by rw[zN,zC];omega
 have q1:=zCU h0 (h i hi b hb);have q2:=zCU h1 (h j hj b hb);have q3:=zCU h2 (h i hi b hb);have q4:=zCU h3 (h j hj b hb);have q5:=h a ha b hb;have q6:M<=K*M:=qK _ hK;unfold yZ;split;omega;split<;>omega
theorem zKy(h:leM M n C F)(hi:i<n)(hj:j<n)(hK:1<=K)(hM:1<=M)(hB:M*(2*K)<B)(h0:m0.natAbs<=K)(h1:m1.natAbs<=K)(h2:m2.natAbs<=K)(h3:m3.natAbs<=K):zTx B C F i j m0 m1 m2 m3:=by
 have e:M*(2*K)=K*M+K*M:=by rw[zN,zC];omega
 have q6:M<=K*M:=qK _ hK;have q7:K<=K*M:=zQ _ hM;refine⟨by omega,by omega,by omega,by omega,fun t ht=>?_⟩;have g1:=h i hi t ht;have g2:=h j hj t ht;have q1:=zCU h0 g1;have q2:=zCU h1 g2;have q3:=zCU h2 g1;have q4:=zCU h3 g2;exact⟨by omega,by omega,by omega,by omega,by omega,by omega⟩
structure zXk(M T R C Cu Cw r e:Nat)(y0 y:W5):Prop where
 dg:Dg R C r y.s
 muh:mu r y.s*2^e<=mu r y0.s
 prod:yW r (fun k=>y.s k k)=yW r (fun k=>y0.s k k)
 u:leM (M*(4*T*T)^e) R Cu y.u
 v:leM (M*(4*T*T)^e) R Cu y.v
 w:leM (M*(4*T*T)^e) C Cw y.w
 x:leM (M*(4*T*T)^e) C Cw y.x
theorem Dg.small(h:Dg R C r F)(hT:(yW r (fun k=>F k k)).natAbs<=T):leM T R C F:=by
 intro a ha b hb;by_cases e:a=b
 ·subst e
  rcases zG a r with h1|h1
  ·have h2:=zNZ h.pos h1
   have h3:=h.pos a h1;omega
  rw[h.zero a h1 oM];omega
 rw[h.off a ha b hb e];omega
theorem zN7{g u v:Int}(hx:0<x)(hy:0<y)(hxT:x.natAbs<=T)(hyT:y.natAbs<=T)(hg:g=((Int.gcd x y:Nat):Int))(hu:u=x/g)(hv:v=y/g)(hb:Bez x y s t):
  s.natAbs<=2*T*T/\t.natAbs<=2*T*T/\u.natAbs<=2*T*T/\v.natAbs<=2*T*T/\(t*v).natAbs<=2*T*T/\(1-t*v).natAbs<=2*T*T/\(x*v).natAbs<=T*T:=by
 obtain⟨g',u',v',e1,e2,e3,e4,e5,e6,e7,e8⟩:=zIc hx hy;obtain rfl:g=g':=by rw[hg];exact e1
 obtain rfl:u=u':=by rw[hu];exact e7
 obtain rfl:v=v':=by rw[hv];exact e8
 obtain⟨-,b1,b2⟩:=hb;have hT1:1<=T:=by omega
 have hTT:T<=T*T:=qK _ hT1;have h2:2*T*T=T*T+T*T:=by rw[zC];omega
 have gu:u<=x:=by rw[e3];have:1*u<=g*u:=yK oM oM;omega
 have gv:v<=y:=by rw[e4];have:1*v<=g*v:=yK oM oM;omega
 have q1:(t*v).natAbs<=T*T:=zCU oM oM;have q2:(x*v).natAbs<=T*T:=zCU hxT oM;refine⟨by omega,by omega,by omega,by omega,by omega,by omega,q2⟩
theorem zQz{y0:W5}(hT:(yW r (fun k=>y0.s k k)).natAbs<=T)(hT1:1<=T)(h0:Dg R C r y0.s)(hu:leM M R Cu y0.u)(hv:leM M R Cu y0.v)(hw:leM M C Cw y0.w)(hx:leM M C Cw y0.x){y:W5}(h:zMf (min R C) y0 y):∃e,zXk M T R C Cu Cw r e y0 y:=by
 induction h with
 |refl=>exact⟨0,h0,by simp,rfl,by simpa using hu,by simpa using hv,by simpa using hw,by simpa using hx⟩
 | step y i j s t hr hij hj hn hb ih=>
  obtain⟨e,hI⟩:=ih;obtain⟨b1,b2,b3⟩:=hI.dg.both hij hj hn;have hsm:=hI.dg.small (T:=T) (by rw[hI.prod];exact hT);obtain⟨c1,c2,c3,c4,c5,c6,c7⟩:=zN7 b2 b3 (hsm i oM i oM) (hsm j oM j oM) rfl rfl rfl hb;have hK:1<=2*T*T:=yA oM hT1;have hpe:M*(4*T*T)^e*(2*(2*T*T))=M*(4*T*T)^(e+1):=by
   rw[qF,zC];congr 2;rw[<-zC,<-zC]
  obtain⟨m1,m2⟩:=zVT hI.dg hij hj hn;refine⟨e+1,hI.dg.step hij hj hn,?_,m2.trans hI.prod,?_,?_,?_,?_⟩
  ·refine Int.le_trans ?_ hI.muh
   have h2:(0:Int)<=2^e:=Int.pow_nonneg oM;have h3:(2:Int)^(e+1)=2*2^e:=by rw[Int.pow_succ,qL]
   show mu r (zH0 y.s i j)*2^(e+1)<=_;rw[h3,<-qI];refine yK ?_ h2;omega
  ·have:=zGu (K:=2*T*T) hI.u (show i<R by omega) (show j<R by omega) hK c1 c2 (by rw[zT];exact c4) c3
   rwa[hpe]at this
  ·have:=zGu (K:=2*T*T) hI.v (show i<R by omega) (show j<R by omega) hK c3 c4 (m2:=-t) (by rw[zT];exact c2) c1
   rwa[hpe]at this
  ·have:=zGu (K:=2*T*T) (m0:=1) (m1:=1) hI.w (show i<C by omega) (show j<C by omega) hK hK hK (by rw[zT];exact c5) c6
   rwa[hpe]at this
  have:=zGu (K:=2*T*T) (m2:=-1) (m3:=1) hI.x (show i<C by omega) (show j<C by omega) hK c6 c5 (by rw[zT];exact hK) hK;rwa[hpe]at this
theorem zXk.few{y0 y:W5}(h:zXk M T R C Cu Cw r e y0 y)(hN:mu r y0.s<2^N):e<N:=by
 have h1:=h.muh;have h2:0<mu r y.s:=jX fun a ha=>jX fun b hb=>h.dg.pos b oM
 have h3:(0:Int)<=2^e:=Int.pow_nonneg oM;have h4:1*(2:Int)^e<=mu r y.s*2^e:=yK oM h3;refine zCP fun h5=>?_
 have h6:(2:Nat)^N<=2^e:=zDC oM h5;have e1:((2^N:Nat):Int)=(2:Int)^N:=by rw[zCa];rfl
 have e2:((2^e:Nat):Int)=(2:Int)^e:=by rw[zCa];rfl
 omega
theorem zVV{B:Nat}{y0:W5}(hT:(yW r (fun k=>y0.s k k)).natAbs<=T)(hT1:1<=T)(hM1:1<=M)(h0:Dg R C r y0.s)(hu:leM M R Cu y0.u)(hv:leM M R Cu y0.v)(hw:leM M C Cw y0.w)(hx:leM M C Cw y0.x)(hN:mu r y0.s<2^N)
  (hB:M*(4*T*T)^(N+1)<B) {y:W5} (h:zMf (min R C) y0 y):
  okW B R C Cu Cw y/\∀i j,i<j->j<min R C->¬ y.s i i∣y.s j j->zQR B C Cu Cw y i j:=by
 obtain⟨e,hI⟩:=zQz hT hT1 h0 hu hv hw hx h;have he:=hI.few hN;have hQ:1<=4*T*T:=yA oM hT1;have hMe:M*(4*T*T)^e*(4*T*T)<=M*(4*T*T)^(N+1):=by
  rw[zC,<-qF];exact zF _ (zDC hQ oM)
 have hMB:=zJ hMe hB;have hM1':1<=M*(4*T*T)^e:=yA hM1 (qP oM);have hsm:=hI.dg.small (T:=T) (by rw[hI.prod];exact hT);have gu:=hI.u;have gv:=hI.v;have gw:=hI.w;have gx:=hI.x;have hdg:=hI.dg;clear hMe hB hI hN hu hv hw hx he;generalize M*(4*T*T)^e=M' at hMB hM1' gu gv gw gx;have hTT:T<=T*T:=qK _ hT1;have h4Q:4*T*T=2*(2*T*T):=by rw[<-zC,<-zC]
 have h2Q:2*T*T=2*(T*T):=zC _ _ _;rw[h4Q,h2Q]at hMB;have hM0:M'<=M'*(2*(2*(T*T))):=zQ _ oM;have hQ2:2*(2*(T*T))<=M'*(2*(2*(T*T))):=qK _ hM1';refine⟨⟨hsm.ok oM,gu.ok oM,gv.ok oM,gw.ok oM,gx.ok oM⟩,fun i j hij hj hn=>?_⟩;obtain⟨b1,b2,b3⟩:=hdg.both hij hj hn;have s1:=hsm i oM i oM;have s2:=hsm j oM j oM;refine⟨⟨by omega,by omega⟩,fun h=>by rw[zBp]at h;omega,fun g u v s t hg hu' hv' hb=>?_⟩;obtain⟨c1,c2,c3,c4,c5,c6,c7⟩:=zN7 b2 b3 s1 s2 hg hu' hv' hb;rw[h2Q]at c1 c2 c3 c4 c5 c6;have hK:1<=2*(T*T):=by omega
 have n1:∀z:Int,z.natAbs<=2*(T*T)->(-z).natAbs<=2*(T*T):=fun z h=>by rw[zT];exact h
 have k1:(1:Int).natAbs<=2*(T*T):=hK;have q1:T*T<B:=by omega
 have q2:2*(T*T)<B:=by omega
 have iR:i<R:=by omega
 have jR:j<R:=by omega
 have iC:i<C:=by omega
 have jC:j<C:=by omega
 clear hu' hv' hb hg;refine⟨zJ c7 q1,zJ c5 q2,?_,?_,?_,?_⟩;exact zKy gu iR jR hK hM1' hMB c1 c2 (n1 _ c4) c3;exact zKy gv iR jR hK hM1' hMB c3 c4 (n1 _ c2) c1;exact zKy gw iC jC hK hM1' hMB k1 k1 (n1 _ c5) c6;exact zKy gx iC jC hK hM1' hMB c6 c5 (n1 _ k1) k1
def Chn(i n:Nat)(F:Nat->Nat->Int):Prop:=∀a b,i<=a->a<b->b<n->F a a∣F b b
theorem zTJ(hij:i<j)(hik:k<=i)(hjn:j<n)(h:∀a,k<=a->a<n->d∣F a a):∀a,k<=a->a<n->d∣zH0 F i j a a:=by
 intro a h1 h2;by_cases e1:a=j
 ·rw[e1,zKW];exact Int.dvd_mul_of_dvd_left (h i oM oM)
 by_cases e2:a=i
 ·rw[e2,zKV hij];exact Int.dvd_coe_gcd (h i hik oM) (h j oM hjn)
 rw[zGZ oM oM];exact h a h1 h2
theorem zTH(hik:k<=i):∀(m j:Nat) (F:Nat->Nat->Int),i<j->j+m<=n->(∀a,k<=a->a<n->d∣F a a)->∀a,k<=a->a<n->d∣divJ i m j F a a:=by
 intro m;induction m with
 |zero=>intro j F _ _ h;exact h
 |succ m ih=>
  intro j F h1 h2 h;unfold divJ;refine ih (j+1) _ oM oM ?_;split;exact h;exact zTJ h1 hik oM h
theorem zO5:∀(m j:Nat) (F:Nat->Nat->Int),i<j->j+m<=n->(∀l,i<l->l<j->F i i∣F l l)->∀l,i<l->l<j+m->divJ i m j F i i∣divJ i m j F l l:=by
 intro m;induction m with
 |zero=>intro j F _ _ h;exact h
 | succ m ih=>
  intro j F h1 h2 h l h3 h4;unfold divJ;refine ih (j+1) _ oM oM ?_ l h3 oM;intro l h3 h4;split
  ·rename_i hd
   by_cases e:l=j
   ·rw[e];exact hd
   exact h l h3 oM
  rw[zKV h1];by_cases e:l=j
  ·rw[e,zKW];exact Int.dvd_mul_of_dvd_left (zBQ ..)
  rw[zGZ oM oM];exact zD2 (zBQ ..) (h l h3 oM)
theorem zTI:∀(m j:Nat) (F:Nat->Nat->Int),i<j->∀a b,a<i->divJ i m j F a b=F a b:=by
 intro m;induction m with
 |zero=>intro j F _ a b _;rfl
 |succ m ih=>
  intro j F h1 a b h;unfold divJ;rw[ih (j+1) _ oM a b h];split;rfl;exact zGZ oM oM
theorem zTG:∀(m i:Nat) (F:Nat->Nat->Int),∀a b,a<i->divI m i F a b=F a b:=by
 intro m;induction m with
 |zero=>intro i F a b _;rfl
 |succ m ih=>
  intro i F a b h;unfold divI;rw[ih (i+1) _ a b oM,zTI m (i+1) F oM a b h]
theorem zTF:∀(m i:Nat) (F:Nat->Nat->Int),i+m=n->k<=i->(∀a,k<=a->a<n->d∣F a a)->∀a,k<=a->a<n->d∣divI m i F a a:=by
 intro m;induction m with
 |zero=>intro i F _ _ h;exact h
 |succ m ih=>
  intro i F h1 h2 h;unfold divI;exact ih (i+1) _ oM oM (zTH h2 m (i+1) F oM oM h)
theorem zO4:∀(m i:Nat) (F:Nat->Nat->Int),i+m=n->Chn i n (divI m i F):=by
 intro m;induction m with
 |zero=>intro i F h a b h1 h2 h3;omega
 | succ m ih=>
  intro i F h a b h1 h2 h3;unfold divI;by_cases e:a=i
  ·subst e
   rw[zTG m (a+1) _ a a oM];refine zTF (n:=n) (k:=a+1) m (a+1) _ oM (xgf _) (fun c h4 h5=>?_) b oM h3;exact zO5 (n:=n) m (a+1) F oM oM (fun l h6 h7=>by omega) c oM oM
  exact ih (i+1) _ oM a b oM h2 h3
def zOs(R C r:Nat)(A F:Nat->Nat->Int):Prop:=Dg R C r F/\∃u v w x,Rel R C A ⟨F,u,v,w,x⟩
theorem zOs.step(h:zOs R C r A F)(hij:i<j)(hj:j<min R C)(hn:¬ F i i∣F j j):zOs R C r A (zH0 F i j):=by
 obtain⟨hd,u,v,w,x,hr⟩:=h;obtain⟨b1,b2,b3⟩:=hd.both hij hj hn;obtain⟨s,t,e⟩:=zYp (x:=F i i) (y:=F j j) oM oM;have:=zTK hr hd.off hij hj (fun h=>by dsimp only at h;rw[zBp]at h;omega) e;exact⟨hd.step hij hj hn,_,_,_,_,this⟩
theorem zOs.divJ:∀(m j:Nat) (F:Nat->Nat->Int),i<j->j+m<=min R C->zOs R C r A F->zOs R C r A (divJ i m j F):=by
 intro m;induction m with
 |zero=>intro j F _ _ h;exact h
 |succ m ih=>
  intro j F h1 h2 h;unfold Go.Proofs.YtkidaebmhlijlaaGreat.divJ;refine ih (j+1) _ oM oM ?_;split;exact h;rename_i hn;exact h.step h1 oM hn
theorem zOs.divI:∀(m i:Nat) (F:Nat->Nat->Int),i+m<=min R C->zOs R C r A F->zOs R C r A (divI m i F):=by
 intro m;induction m with
 |zero=>intro i F _ h;exact h
 |succ m ih=>
  intro i F h1 h;unfold Go.Proofs.YtkidaebmhlijlaaGreat.divI;exact ih (i+1) _ oM (zOs.divJ m (i+1) F oM oM h)
end Go.Proofs.YtkidaebmhlijlaaGreat
