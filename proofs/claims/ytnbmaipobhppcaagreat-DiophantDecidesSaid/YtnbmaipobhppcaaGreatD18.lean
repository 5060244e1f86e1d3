/- hermite: eliminate. Slices of int: their own rows, append; torsionref05.Range. hermite: (*work).run. smith: work.divide. smith: the parts of work.run. smith: work.run. slices.Index, slices.Contains; matrix.Equal's comparison; combine to bools. matrix.combine to bools, to integers, to rows; Scale's closures. matrix.combine to rows; matrix.valid, sizes, slices.Equal. -/
import Derived.Test.YtnbmaipobhppcaaGreatD02
import Derived.Test.YtnbmaipobhppcaaGreatD06
import Derived.Test.YtnbmaipobhppcaaGreatD09
import Derived.Test.YtnbmaipobhppcaaGreatD17
set_option linter.unusedVariables false
set_option linter.unusedSimpArgs false
set_option linter.unusedSectionVars false
set_option maxHeartbeats 16000000
set_option maxRecDepth 100000
namespace Go.Proofs.YtnbmaipobhppcaaGreat
open Go.RowKit
structure LOk(n Cs m:Nat)(x:Bst)(L:List (Nat × Nat)):Prop where
 mem:∀k,k<L.length->(L.getD k (0,0)).1<m/\(L.getD k (0,0)).1<n/\(L.getD k (0,0)).2<Cs/\x.s (L.getD k (0,0)).1 (L.getD k (0,0)).2≠0
 inc:∀i j,i<j->j<L.length->(L.getD i (0,0)).2<(L.getD j (0,0)).2
 inj:∀i j,i<j->j<L.length->(L.getD i (0,0)).1≠(L.getD j (0,0)).1
 len:L.length<=n
structure zOu(B n Cs Ct:Nat)(J J':Nat->Bst->List (Nat × Nat)->Prop):Prop where
 ok:∀m x L,J m x L->okB B n Cs Ct x/\LOk n Cs m x L
 ok':∀m x L,m<n->J' m x L->okB B n Cs Ct x/\LOk n Cs (m+1) x L
 zero:∀m x L,m<n->J m x L->lead Cs x.s m<0->J' m x L
 join:∀(m:Nat) (x:Bst) (L:List (Nat × Nat)) (k c:Nat),m<n->J m x L->lead Cs x.s m=(c:Int)->k<L.length->(L.getD k (0,0)).2=c->
  (x.s m c%x.s (L.getD k (0,0)).1 c=0->zDa B n Cs Ct x m (L.getD k (0,0)).1 (-(x.s m c/x.s (L.getD k (0,0)).1 c)))∧
  (∀s t,Bez (x.s (L.getD k (0,0)).1 c) (x.s m c) s t->zKu B n Cs Ct x (L.getD k (0,0)).1 m s t (-(x.s m c/((Int.gcd (x.s (L.getD k (0,0)).1 c) (x.s m c):Nat):Int))) (x.s (L.getD k (0,0)).1 c/((Int.gcd (x.s (L.getD k (0,0)).1 c) (x.s m c):Nat):Int)))∧
  ∀y,zI2 x (L.getD k (0,0)).1 m c y->J m y L/\(lead Cs y.s m<0∨(c:Int)<lead Cs y.s m)
 ins:∀(m:Nat) (x:Bst) (L:List (Nat × Nat)) (k c:Nat),m<n->J m x L->lead Cs x.s m=(c:Int)->k<=L.length->(∀i,i<k->(L.getD i (0,0)).2<c)->(∀i,k<=i->i<L.length->c<(L.getD i (0,0)).2)->
  J' m (if x.s m c<0 then x.neg m else x) (L.take k++(m,c)::L.drop k)
 red:∀m x L,m<n->J' m x L->∃y,zG0 B n Cs Ct (fun k=>(L.getD k (0,0)).1) (fun k=>(L.getD k (0,0)).2) L.length L.length x=some y/\J (m+1) y L
theorem zAv.rowB{e:Bool}{Z:Nat->Prop}{w w':World}{bw g a cap n Cs Ct b:Nat}{x:Bst}(h:zAv e Z w' bw (.slice (some ⟨g,0,none⟩) a cap) n Cs Ct x){i:Nat}(hi:i<n)(hc:w.cell? ⟨g,i,none⟩=some (.slice (some ⟨b,0,none⟩) Cs Cs))(ho:w'.heap[g]?=w.heap[g]?):qC w' b (zM Cs (x.s i)):=by
 obtain⟨b',o1,hr,-⟩:=h.row hi;have e1:w'.cell? ⟨g,i,none⟩=w.cell? ⟨g,i,none⟩:=by unfold World.cell?;rw[ho]
 rw[e1,hc]at o1;injection o1 with o1
 injection o1 with o1
 injection o1 with o1
 injection o1 with o1
 subst o1;exact hr
theorem zBE{C:Nat}{F:Nat->Nat->Int}{i c:Nat}(h:lead C F i=(c:Int)):c<C/\F i c≠0:=by
 rcases zAk C F i with⟨h1,-⟩|⟨j,h1,h2,h3,-⟩
 ·omega
 ·obtain rfl:j=c:=by omega
  exact⟨h2,h3⟩
theorem zFz{C:Nat}{F:Nat->Nat->Int}{i:Nat}:zBo 0 (zM C (F i))=lead C F i:=rfl
theorem zPe{w:World}{A:Value}{R C:Nat}{bs:List Nat}{F:Nat->Nat->Int}(h:Wri w A R C bs F){b:Nat}{cs:Array Value}(hp:Blk w b zAl cs):¬ Zn A bs b:=by
 rintro(hb|hb)
 ·obtain⟨r,hr⟩:=h.blk hb
  exact zGU hp hr dE rfl
 ·rcases(zS.own h).2 with⟨rfl,-⟩|⟨g,cap,cur,rfl,-,hh,-⟩
  ·cases hb
  ·simp only[Value.ownBlock,Option.some.injEq]at hb
   subst hb;have hh2:zAl=tR:=congrArg (fun o:Option Obj=>match o with|some (Obj.cells _ t _)=>t|_=>0) (hp.symm.trans hh);exact absurd hh2 dE
theorem zCb{w w':World}{P:Nat->Prop}{g:Nat}{t:TypeId}{cs:Array Value}(h:Blk w g t cs)(ht:¬ t=zAl)(ho:zY P w w')(hP:∀b,P b->∃cs,Blk w b zAl cs):Blk w' g t cs:=
 ho.blk h fun hg=>by
  obtain⟨cs',h'⟩:=hP g hg;exact ht (congrArg (fun o:Option Obj=>match o with|some (Obj.cells _ t _)=>t|_=>0) (h.symm.trans h'))
theorem zAv.pivs{e:Bool}{Z P:Nat->Prop}{w w':World}{bw n Cs Ct:Nat}{Ah:Value}{x:Bst}(h:zAv e Z w bw Ah n Cs Ct x)(ho:zY P w w')(hP:∀b,P b->∃cs,Blk w b zAl cs):zAv e Z w' bw Ah n Cs Ct x:=by
 have hk:∀{A:Value} {R C:Nat} {bs:List Nat} {F:Nat->Nat->Int},Wri w A R C bs F->Wri w' A R C bs F:=fun {A R C bs F} hw=>hw.keepZ ho fun b hb hp=>by
  obtain⟨cs,h1⟩:=hP b hp;exact zPe hw h1 hb
 have hn:∀{A:Value} {n:Nat},zBg w A n->zBg w' A n:=fun {A n} hw=>by
  obtain⟨g,cap,cs,h1,h2,h3,h4,h5⟩:=hw;exact⟨g,cap,cs,h1,h2,h3,zCb h4 dE ho hP,h5⟩
 unfold zAv at h ⊢
 split at h
 ·rename_i he
  rw[if_pos he];obtain⟨Au,Av,b1,b2,b3,h1,h2,h3⟩:=h;exact⟨Au,Av,b1,b2,b3,zCb h1 dE ho hP,⟨hk h2.s,hk h2.t,hk h2.i,h2.st,h2.si,h2.ti,h2.ast,h2.asi,h2.ati⟩,h3⟩
 ·rename_i he
  rw[if_neg he];obtain⟨h0,Au,Av,b1,h1,h2,h3,h4,h5⟩:=h;exact⟨h0,Au,Av,b1,zCb h1 dE ho hP,hk h2,hn h3,hn h4,h5⟩
theorem zDk.blk{w:World}{base:Nat}{v:Value}{L:List (Nat × Nat)}(h:zDk w base v L):∀g,v.ownBlock=some g->∃cs,Blk w g zAl cs:=by
 intro g hg;rcases h.2 with⟨rfl,h0⟩|⟨g',cap,cur,rfl,k1,k2,k3,k4,k5,k6⟩
 ·cases hg
 ·simp only[Value.ownBlock,Option.some.injEq]at hg
  subst hg;exact⟨cur,k2⟩
theorem yC.z{S:List Nat}{w w':World}(h:yC S w w'):zY (fun b=>b∈S) w w':=⟨h.bel,h.lext,fun k hk hn=>h.old k hk hn⟩
theorem zFt{e0:Bool}{Z:Nat->Prop}{B:Nat}(hB:BSd B){bw n Cs Ct:Nat}{Ah:Value}{x:Bst}{w:World}{J J':Nat->Bst->List (Nat × Nat)->Prop}(hE:zOu B n Cs Ct J J')(h:zAv e0 Z w bw Ah n Cs Ct x)(h0:J 0 x [])
  (hn:n<=1000000) (hCs:Cs<=1000000) (hCt:Ct<=1000000) (hn0:0<n) (hZ:∀b,Z b->b<w.heap.size) (hgz:∀g,Ah.ownBlock=some g->¬ Z g):
  Calls Tryz.prog 219 #[Ah,.agg (zA6 bw)] w fun e w'=>∃v y Lp,e= .returned v/\zY Z w w'/\zAv e0 Z w' bw Ah n Cs Ct y/\J n y Lp/\zDk w' w.heap.size v Lp:=by
 have HE:=xgv hE;obtain⟨bss0,hw0,-⟩:=h.wri;obtain⟨so,sn,scap,rfl,s1,s2,s3,-⟩:=id (zS.rows hw0);have e2:n=sn:=by rw[<-s1];simp[zX]
 subst e2;obtain⟨g,_,rfl,-⟩:=zS.at_ hw0 (i:=0) (by rw[hw0.len];exact hn0);have hgz:=hgz g rfl;have HJ0:=xgv h0;clear s1 hw0 bss0 h0 hE;go_enter Tryz.func219,Tryz.ntmps219;go_upto_region 1 with(fail)
 refine zB ?_;intro W0 hW0;obtain⟨hB0,T3,hs0⟩:=zK hW0;have T3:Blk W0 w.heap.size 272 (zA6 bw):=T3;have hO:=zY.of Z hB0;have hz:=h.below hB0;have HL:=xgv (zDk.nil W0 w.heap.size);clear hW0 h;go_wp2;go_loopw [5,12] (fun pv mv wr=>∃(m:Nat) (x:Bst) (Lp:List (Nat × Nat)),mv= .int .i64 m/\m<=n/\zY Z w wr/\Blk wr w.heap.size 272 (zA6 bw)/\zAv e0 Z wr bw (.slice (some ⟨g,0,none⟩) n scap) n Cs Ct x/\qF (J m x Lp)/\qF (zDk wr w.heap.size pv Lp)) (fun _ mv _=>n-(intOf mv).toNat)
 case atStart=>exact⟨0,x,[],rfl,by omega,hO,T3,hz,HJ0,HL⟩
 case round=>
  clear hO T3 hz HL HJ0;obtain⟨m,x,Lp,rfl,hm,hO,T3,hz,HJ,HL⟩:=hrel;by_cases hlt:m<n
  ·obtain ⟨bm,o1,hrow,lg⟩:=hz.row hlt
   obtain⟨wc,hwc⟩:∃wc,wc=wr:=⟨_,rfl⟩;have oc:=o1;rw[<-hwc]at oc;have hgc:wr.heap[g]?=wc.heap[g]?:=by rw[hwc]
   have hVec:=hrow.vec (zD _ _) (xgf _) oM;go_wp2_with fail
   refine(zBD _ _ _ hVec).mono ?_;rintro e w1 ⟨rfl,hb1⟩;rw[zFz];have hz:=hz.below hb1;have T3:=T3.below hb1;have hO:=hO.trans (zY.of Z hb1);have HL:=xgv (HL.out.below hb1);have hgc:=(hb1.block g oM).trans hgc;clear o1 hrow hVec hwc;obtain⟨c0,hc0⟩:∃c0,lead Cs x.s m=c0:=⟨_,rfl⟩;have HC0:=xgw hc0;rw[hc0];clear hc0;obtain⟨pv0,hpv0⟩:∃p,p=u5:=⟨_,rfl⟩;subst hpv0;obtain⟨ao,lcap,rfl,hlc,hcap,hP0⟩:=id HL.out.piv;have hP0:=xgv hP0;go_wp2;go_loopw [5,8,9] (fun pv kv cv wt=>∃(x:Bst) (k:Nat) (c:Int),pv= .slice ao Lp.length lcap/\kv= .int .i64 k/\cv= .int .i64 c/\k<=Lp.length/\Hid (lead Cs x.s m=c)/\qF (∀i,i<k->((Lp.getD i (0,0)).2:Int)<c∨c<0)/\zY Z w wt/\Blk wt w.heap.size 272 (zA6 bw)/\zAv e0 Z wt bw (.slice (some ⟨g,0,none⟩) n scap) n Cs Ct x/\qF (J m x Lp)/\qF (zDk wt w.heap.size (.slice ao Lp.length lcap) Lp)/\wt.heap[g]?=wc.heap[g]?) (fun _ _ cv _=>if intOf cv<0 then 0 else Cs-(intOf cv).toNat)
   case atStart=>exact⟨x,0,c0,rfl,rfl,rfl,Nat.zero_le _,HC0,⟨fun i hi=>by omega⟩,hO,T3,hz,HJ,HL,hgc⟩
   case round=>
    clear hO T3 hz HL HJ HC0 hgc;rename World=>wt
    obtain⟨x,k,c,rfl,rfl,rfl,hk,HC,HI,hO,T3,hz,HJ,HL,hgc⟩:=hrel;by_cases hc0:c<0
    ·have hge:¬ (0<=c):=by omega
     have HJ':=xgv (HE.out.zero m x Lp hlt HJ.out (by rw[HC.out];exact hc0));obtain⟨c1,c2,c3,c4,c5,c6⟩:=T3.three;go_wp2_with fail
     obtain⟨hokx,hLO⟩:=HE.out.ok' m x Lp hlt HJ'.out;obtain⟨y,hy,hJy⟩:=HE.out.red m x Lp hlt HJ'.out;have hown:=HL.out.own;refine(zA3 hB hz hokx HL.out.piv (fun b hb hzb=>by have:=(hown b hb).1;have:=hZ b hzb;omega) (fun k hk=>(hLO.mem k hk).2.1) hLO.inj (fun k hk=>(hLO.mem k hk).2.2.1) hn hCs hCt hLO.len (fun b hb=>Nat.lt_of_lt_of_le (hZ b hb) hO.bel.size) hn0 hy).mono ?_;rintro e wz ⟨⟨uz,rfl⟩,hOz,hz,-⟩;have T3:=hOz.blk T3 (fun hh=>by have:=hZ _ hh;omega);have HL:=xgv (HL.out.old (fun g hg=>hOz.old g (hown g hg).2 (fun hzb=>by have:=(hown g hg).1;have:=hZ g hzb;omega)));have hO:=hO.trans hOz;have HJ:=xgv hJy;clear hokx hLO hy hJy hown c1 c2 c3 c4 c5 c6;go_wp2;go_roundw
     case rel=>exact⟨m+1,y,_,by simp,by omega,hO,T3,hz,HJ,HL⟩
     case measure=>simp[intOf];omega
    ·obtain⟨cn,rfl⟩:∃cn:Nat,c=(cn:Int):=⟨c.toNat,by omega⟩
     have hge:(0:Int)<=cn:=by omega
     go_wp2;go_loopw [8] (fun kv wv=>∃k:Nat,kv= .int .i64 k/\k<=Lp.length/\qF (∀i,i<k->(Lp.getD i (0,0)).2<cn)/\wv=wt) (fun kv _=>Lp.length-(intOf kv).toNat)
     case atStart=>exact⟨k,rfl,hk,⟨fun i hi=>by rcases HI.out i hi with h|h<;>omega⟩,rfl⟩
     case round=>
      obtain⟨k',rfl,hk',HI',hwv⟩:=hrel;have hwv:=hwv.symm;subst hwv;by_cases hkl:k'<Lp.length
      ·obtain⟨bp,_,rfl,-,-⟩:=hP0.out oM
       obtain⟨-,lbp,p1,p2⟩:=HL.out.piv.cell hkl;obtain⟨q,hq⟩:∃q,(Lp.getD k' (0,0)).2=q:=⟨_,rfl⟩;rw[hq]at p2;have HQ:=xgv hq;clear hq;by_cases hqc:q<cn
       ·go_wp2
        go_roundw
        case rel=>
         refine⟨k'+1,by simp,by omega,⟨?_⟩,trivial⟩;intro i hi;rcases Nat.lt_succ_iff_lt_or_eq.1 hi with h|rfl
         ·exact HI'.out i h
         ·rw[HQ.out];exact hqc
        case measure=>simp[intOf];omega
       ·by_cases hqe:q=cn
        ·subst hqe
         have hsn:=zBE HC.out;have hokx:=HE.out.ok m x Lp HJ.out;obtain⟨hj1,hj2,hj3⟩:=HE.out.join m x Lp k' q hlt HJ.out HC.out hkl HQ.out;obtain⟨m1,m2,m3,m4⟩:=hokx.2.mem k' hkl;rw[HQ.out]at m3 m4;obtain⟨c1,c2,c3,c4,c5,c6⟩:=T3.three;obtain⟨ρk,hρk⟩:∃r,(Lp.getD k' (0,0)).1=r:=⟨_,rfl⟩;rw[hρk]at p1 hj1 hj2 hj3 m1 m2 m4;have l3:=T3.lt;obtain⟨-,-,-,lg⟩:=hz.row hlt;have HOK:=xgv hokx.1;have HJ1:=xgv hj1;have HJ2:=xgv hj2;have HJ3:=xgv hj3;have HM4:=xgv m4;have hqC:=hsn.1;clear hsn hokx hj1 hj2 hj3 m4 hρk;go_upto_region 12 with(fail)
         refine zC 7 rfl (RI wt (wt.heap.size) _ 35
           [VSl 0 51 g n scap,E 1 52 (.slice (some ⟨bp,0,none⟩) Lp.length lcap),E 2 53 (.int .i64 k'),VP 3 54 bp (k'*2),E 4 55 (.agg #[.int .i64 ρk,.int .i64 q]),VN 5 56 m,E 6 57 (.agg (zA6 bw))] [] []) kR RI.start (RI.fin kR ?fin1) ?steps1
         case steps1=>
          refine⟨?_,?_,?_,?_,?_,?_,?_,trivial⟩<;>(intro L T wS hL hd hcl hI K hK;try refine zA rfl ?_)
          ·exact xgs (hI.k 0 rfl kR)
          ·exact xgs (hI.k 5 rfl kR)
          ·exact xgs (hI.k 8 rfl kR)
          ·exact xgt (hI.e mm1 (hd 1)) (hI.e mm2 (hd 2))
          ·have zt3:=hI.e mm3 (hd 3)
           have cc0:=hI.cell p1 oM nom;have cc1:=hI.cell p2 oM nom;exact xgu
          ·exact xgs (hI.k 6 rfl kR)
          ·have zt:=hI.k 3 rfl kR
           have cc0:=hI.cell c1 oM nom;have cc1:=hI.cell c2 oM nom;have cc2:=hI.cell c3 oM nom;exact xgu
         intro w5 hlw5 hbw5 holdw5 T hT;simp only[Fin,E,EI,VP,VSl,VN,xgg,xgh,xgi,xgj]at hT;subst hT;simp only[xgl,xgk];have hz:=hz.below hbw5;have T3:=T3.below hbw5;have hO:=hO.trans (zY.of Z hbw5);have HL:=xgv (HL.out.below hbw5);have hgc:=(hbw5.block g lg).trans hgc;have lg:=Nat.lt_of_lt_of_le lg hbw5.size;clear p1 p2 c1 c2 c3 c4 c5 c6;go_wp2_with fail
         refine(zMX hB hz HOK.out m2 hlt oM hqC HM4.out hn hCs hCt (fun b hb=>Nat.lt_of_lt_of_le (hZ b hb) hO.bel.size) HJ1.out HJ2.out).mono ?_;rintro e wj ⟨⟨uj,rfl⟩,hOj,y,hJR,hz⟩;obtain⟨hJy,hly⟩:=HJ3.out y hJR;have T3:=hOj.blk T3 (fun hh=>by have:=hZ _ hh;omega);have hown:=HL.out.own;have HL:=xgv (HL.out.old (fun g hg=>hOj.old g (hown g hg).2 (fun hzb=>by have:=(hown g hg).1;have:=hZ g hzb;omega)));have hO:=hO.trans hOj;have hgc:=(hOj.old g lg hgz).trans hgc;have HJY:=xgv hJy;have HLY:=xgv hly;clear hJR hJy hly hown;have hVec:=(hz.rowB hlt oc hgc).vec (zD _ _) (xgf _) oM;go_wp2_with fail
         refine(zBD _ _ _ hVec).mono ?_;rintro e wl ⟨rfl,hbl⟩;rw[zFz];obtain⟨-,-,-,lg⟩:=hz.row hlt;have hz:=hz.below hbl;have T3:=T3.below hbl;have hO:=hO.trans (zY.of Z hbl);have HL:=xgv (HL.out.below hbl);have hgc:=(hbl.block g lg).trans hgc;clear hVec;obtain⟨cy,hcy⟩:∃cy,lead Cs y.s m=cy:=⟨_,rfl⟩;have HCY:=xgw hcy;rw[hcy];rw[hcy]at HLY;clear hcy;go_wp2;go_roundw
         case rel=>
          refine⟨y,k',cy,rfl,rfl,rfl,hk',HCY,⟨fun i hi=>?_⟩,hO,T3,hz,HJY,HL,hgc⟩;have:=HI'.out i hi;rcases HLY.out with h|h
          ·exact .inr h
          ·left;omega
         case measure=>
          have:=HLY.out;have hg:(if cy<0 then 0 else Cs-cy.toNat)<(if(q:Int)<0 then 0 else Cs-((q:Int)).toNat):=by
           rw[if_neg (show ¬ ((q:Int)<0) by omega)];split<;>omega
          exact hg
        ·have hLO:=(HE.out.ok m x Lp HJ.out).2.inc
         have HG:∀i,k'<=i->i<Lp.length->cn<(Lp.getD i (0,0)).2:=by
          intro i h1 h2;rcases Nat.lt_or_eq_of_le h1 with h|rfl
          ·have:=hLO k' i h h2
           have:=HQ.out;omega
          ·have:=HQ.out
           omega
         clear hLO;have hsn:=zBE HC.out;have hrow:=hz.rowB hlt oc hgc;obtain⟨xs,xa,xl,xc,v1,v2,f1,f2,hx⟩:=hrow.cell (zO hsn.1);have hcC:=hsn.1;go_wp2_with fail
         refine(qU _ (x.s m cn) wt hx.weak).mono ?_;rintro e ws ⟨rfl,hbs⟩;have hz:=hz.below hbs;have T3:=T3.below hbs;have hO:=hO.trans (zY.of Z hbs);have HL:=xgv (HL.out.below hbs);have hsn2:=hsn.2;have HJ':=HE.out.ins m x Lp k' cn hlt HJ.out HC.out oM HI'.out HG;have hokx:=(HE.out.ok m x Lp HJ.out).1;have hlen:Lp.length<=1000000:=Nat.le_trans (HE.out.ok m x Lp HJ.out).2.len hn;clear hsn hrow v1 v2 f1 f2 hx HG;by_cases hneg:x.s m cn<0
         ·rw[if_pos hneg]at HJ'
          have HJ':=xgv HJ';rw[show qJ (x.s m cn) 0=-1 by unfold qJ;rw[if_pos hneg]];have HOK:=xgv hokx;clear hneg hsn2 hokx;obtain⟨c1,c2,c3,c4,c5,c6⟩:=T3.three;go_wp2_with fail
          refine(zQN hB.bsm hz HOK.out hlt hn hCs hCt).mono ?_;rintro e wn ⟨⟨un,rfl⟩,hOn,hz⟩;have T3:=hOn.blk T3 (fun hh=>by have:=hZ _ hh;omega);have hown:=HL.out.own;have HL:=xgv (HL.out.old (fun g hg=>hOn.old g (hown g hg).2 (fun hzb=>by have:=(hown g hg).1;have:=hZ g hzb;omega)));have hO:=hO.trans hOn;clear hown c1 c2 c3 c4 c5 c6;go_wp2_with fail
          obtain⟨wi,hwi⟩:∃wi,wi=wn.alloc (Obj.cells #[Value.int IntKind.i64 m,Value.int IntKind.i64 cn] 274):=⟨_,rfl⟩;rw[<-hwi];have hbi:Below wn.heap.size wn wi:=by rw[hwi];exact(Below.refl _ _).alloc (xgf _) _
          have hBk:Blk wi wn.heap.size zAl #[Value.int IntKind.i64 m,Value.int IntKind.i64 cn]:=by rw[hwi];exact Blk.new _ _ _
          have hown:=HL.out.own;have hz:=hz.below hbi;have T3:=T3.below hbi;have hO:=hO.trans (zY.of Z hbi);have HL:=HL.out.below hbi;clear hwi;refine(zCC w.heap.size _ Lp k' m cn wn.heap.size wi HL oM hBk (fun b hb=>Nat.ne_of_lt (hown b hb).2) hO.bel.size hlen).mono ?_;rintro e wk ⟨v',rfl,hv',hko⟩;have hPB:∀b,b∈(Value.ownBlock _).toList->∃cs,Blk wi b zAl cs:=fun b hb=>HL.blk b (by simpa using hb)
          have hz:=hz.pivs hko.z hPB;have T3:=zCb T3 dE hko.z hPB;have hO:zY Z w wk:=⟨hO.bel.trans hko.bel,hO.lext.trans hko.lext,fun b hb hn=>(hko.old b (Nat.lt_of_lt_of_le hb hO.bel.size) (fun hm=>by
           have:=(HL.own b (by simpa using hm)).1;omega)).trans (hO.old b hb hn)⟩
          have HL:=xgv hv';clear hown hv' hko hPB hBk;obtain⟨c1,c2,c3,c4,c5,c6⟩:=T3.three;go_wp2_with fail
          obtain⟨hokx,hLO⟩:=HE.out.ok' m (x.neg m) (Lp.take k'++(m,cn)::Lp.drop k') hlt HJ'.out;obtain⟨y,hy,hJy⟩:=HE.out.red m (x.neg m) (Lp.take k'++(m,cn)::Lp.drop k') hlt HJ'.out;have hown:=HL.out.own;refine(zA3 hB hz hokx HL.out.piv (fun b hb hzb=>by have:=(hown b hb).1;have:=hZ b hzb;omega) (fun k hk=>(hLO.mem k hk).2.1) hLO.inj (fun k hk=>(hLO.mem k hk).2.2.1) hn hCs hCt hLO.len (fun b hb=>Nat.lt_of_lt_of_le (hZ b hb) hO.bel.size) hn0 hy).mono ?_;rintro e wz ⟨⟨uz,rfl⟩,hOz,hz,-⟩;have T3:=hOz.blk T3 (fun hh=>by have:=hZ _ hh;omega);have HL:=xgv (HL.out.old (fun g hg=>hOz.old g (hown g hg).2 (fun hzb=>by have:=(hown g hg).1;have:=hZ g hzb;omega)));have hO:=hO.trans hOz;have HJ:=xgv hJy;clear hokx hLO hy hJy hown c1 c2 c3 c4 c5 c6;go_wp2;go_roundw
          case rel=>exact⟨m+1,y,_,by simp,by omega,hO,T3,hz,HJ,HL⟩
          case measure=>simp[intOf];omega
         ·rw[if_neg hneg]at HJ'
          have HJ':=xgv HJ';rw[show qJ (x.s m cn) 0=1 by unfold qJ;rw[if_neg hneg,if_pos oM]];clear hneg hsn2 hokx;go_wp2_with fail
          obtain⟨wi,hwi⟩:∃wi,wi=ws.alloc (Obj.cells #[Value.int IntKind.i64 m,Value.int IntKind.i64 cn] 274):=⟨_,rfl⟩;rw[<-hwi];have hbi:Below ws.heap.size ws wi:=by rw[hwi];exact(Below.refl _ _).alloc (xgf _) _
          have hBk:Blk wi ws.heap.size zAl #[Value.int IntKind.i64 m,Value.int IntKind.i64 cn]:=by rw[hwi];exact Blk.new _ _ _
          have hown:=HL.out.own;have hz:=hz.below hbi;have T3:=T3.below hbi;have hO:=hO.trans (zY.of Z hbi);have HL:=HL.out.below hbi;clear hwi;refine(zCC w.heap.size _ Lp k' m cn ws.heap.size wi HL oM hBk (fun b hb=>Nat.ne_of_lt (hown b hb).2) hO.bel.size hlen).mono ?_;rintro e wk ⟨v',rfl,hv',hko⟩;have hPB:∀b,b∈(Value.ownBlock _).toList->∃cs,Blk wi b zAl cs:=fun b hb=>HL.blk b (by simpa using hb)
          have hz:=hz.pivs hko.z hPB;have T3:=zCb T3 dE hko.z hPB;have hO:zY Z w wk:=⟨hO.bel.trans hko.bel,hO.lext.trans hko.lext,fun b hb hn=>(hko.old b (Nat.lt_of_lt_of_le hb hO.bel.size) (fun hm=>by
           have:=(HL.own b (by simpa using hm)).1;omega)).trans (hO.old b hb hn)⟩
          have HL:=xgv hv';clear hown hv' hko hPB hBk;obtain⟨c1,c2,c3,c4,c5,c6⟩:=T3.three;go_wp2_with fail
          obtain⟨hokx,hLO⟩:=HE.out.ok' m x (Lp.take k'++(m,cn)::Lp.drop k') hlt HJ'.out;obtain⟨y,hy,hJy⟩:=HE.out.red m x (Lp.take k'++(m,cn)::Lp.drop k') hlt HJ'.out;have hown:=HL.out.own;refine(zA3 hB hz hokx HL.out.piv (fun b hb hzb=>by have:=(hown b hb).1;have:=hZ b hzb;omega) (fun k hk=>(hLO.mem k hk).2.1) hLO.inj (fun k hk=>(hLO.mem k hk).2.2.1) hn hCs hCt hLO.len (fun b hb=>Nat.lt_of_lt_of_le (hZ b hb) hO.bel.size) hn0 hy).mono ?_;rintro e wz ⟨⟨uz,rfl⟩,hOz,hz,-⟩;have T3:=hOz.blk T3 (fun hh=>by have:=hZ _ hh;omega);have HL:=xgv (HL.out.old (fun g hg=>hOz.old g (hown g hg).2 (fun hzb=>by have:=(hown g hg).1;have:=hZ g hzb;omega)));have hO:=hO.trans hOz;have HJ:=xgv hJy;clear hokx hLO hy hJy hown c1 c2 c3 c4 c5 c6;go_wp2;go_roundw
          case rel=>exact⟨m+1,y,_,by simp,by omega,hO,T3,hz,HJ,HL⟩
          case measure=>simp[intOf];omega
      ·obtain rfl:k'=Lp.length:=by omega
       have HG:∀i,Lp.length<=i->i<Lp.length->cn<(Lp.getD i (0,0)).2:=fun i h1 h2=>by omega
       have hsn:=zBE HC.out;have hrow:=hz.rowB hlt oc hgc;obtain⟨xs,xa,xl,xc,v1,v2,f1,f2,hx⟩:=hrow.cell (zO hsn.1);have hcC:=hsn.1;go_wp2_with fail
       refine(qU _ (x.s m cn) wt hx.weak).mono ?_;rintro e ws ⟨rfl,hbs⟩;have hz:=hz.below hbs;have T3:=T3.below hbs;have hO:=hO.trans (zY.of Z hbs);have HL:=xgv (HL.out.below hbs);have hsn2:=hsn.2;have HJ':=HE.out.ins m x Lp Lp.length cn hlt HJ.out HC.out oM HI'.out HG;have hokx:=(HE.out.ok m x Lp HJ.out).1;have hlen:Lp.length<=1000000:=Nat.le_trans (HE.out.ok m x Lp HJ.out).2.len hn;clear hsn hrow v1 v2 f1 f2 hx HG;by_cases hneg:x.s m cn<0
       ·rw[if_pos hneg]at HJ'
        have HJ':=xgv HJ';rw[show qJ (x.s m cn) 0=-1 by unfold qJ;rw[if_pos hneg]];have HOK:=xgv hokx;clear hneg hsn2 hokx;obtain⟨c1,c2,c3,c4,c5,c6⟩:=T3.three;go_wp2_with fail
        refine(zQN hB.bsm hz HOK.out hlt hn hCs hCt).mono ?_;rintro e wn ⟨⟨un,rfl⟩,hOn,hz⟩;have T3:=hOn.blk T3 (fun hh=>by have:=hZ _ hh;omega);have hown:=HL.out.own;have HL:=xgv (HL.out.old (fun g hg=>hOn.old g (hown g hg).2 (fun hzb=>by have:=(hown g hg).1;have:=hZ g hzb;omega)));have hO:=hO.trans hOn;clear hown c1 c2 c3 c4 c5 c6;go_wp2_with fail
        obtain⟨wi,hwi⟩:∃wi,wi=wn.alloc (Obj.cells #[Value.int IntKind.i64 m,Value.int IntKind.i64 cn] 274):=⟨_,rfl⟩;rw[<-hwi];have hbi:Below wn.heap.size wn wi:=by rw[hwi];exact(Below.refl _ _).alloc (xgf _) _
        have hBk:Blk wi wn.heap.size zAl #[Value.int IntKind.i64 m,Value.int IntKind.i64 cn]:=by rw[hwi];exact Blk.new _ _ _
        have hown:=HL.out.own;have hz:=hz.below hbi;have T3:=T3.below hbi;have hO:=hO.trans (zY.of Z hbi);have HL:=HL.out.below hbi;clear hwi;refine(zCC w.heap.size _ Lp Lp.length m cn wn.heap.size wi HL oM hBk (fun b hb=>Nat.ne_of_lt (hown b hb).2) hO.bel.size hlen).mono ?_;rintro e wk ⟨v',rfl,hv',hko⟩;have hPB:∀b,b∈(Value.ownBlock _).toList->∃cs,Blk wi b zAl cs:=fun b hb=>HL.blk b (by simpa using hb)
        have hz:=hz.pivs hko.z hPB;have T3:=zCb T3 dE hko.z hPB;have hO:zY Z w wk:=⟨hO.bel.trans hko.bel,hO.lext.trans hko.lext,fun b hb hn=>(hko.old b (Nat.lt_of_lt_of_le hb hO.bel.size) (fun hm=>by
         have:=(HL.own b (by simpa using hm)).1;omega)).trans (hO.old b hb hn)⟩
        have HL:=xgv hv';clear hown hv' hko hPB hBk;obtain⟨c1,c2,c3,c4,c5,c6⟩:=T3.three;go_wp2_with fail
        obtain⟨hokx,hLO⟩:=HE.out.ok' m (x.neg m) (Lp.take Lp.length++(m,cn)::Lp.drop Lp.length) hlt HJ'.out;obtain⟨y,hy,hJy⟩:=HE.out.red m (x.neg m) (Lp.take Lp.length++(m,cn)::Lp.drop Lp.length) hlt HJ'.out;have hown:=HL.out.own;refine(zA3 hB hz hokx HL.out.piv (fun b hb hzb=>by have:=(hown b hb).1;have:=hZ b hzb;omega) (fun k hk=>(hLO.mem k hk).2.1) hLO.inj (fun k hk=>(hLO.mem k hk).2.2.1) hn hCs hCt hLO.len (fun b hb=>Nat.lt_of_lt_of_le (hZ b hb) hO.bel.size) hn0 hy).mono ?_;rintro e wz ⟨⟨uz,rfl⟩,hOz,hz,-⟩;have T3:=hOz.blk T3 (fun hh=>by have:=hZ _ hh;omega);have HL:=xgv (HL.out.old (fun g hg=>hOz.old g (hown g hg).2 (fun hzb=>by have:=(hown g hg).1;have:=hZ g hzb;omega)));have hO:=hO.trans hOz;have HJ:=xgv hJy;clear hokx hLO hy hJy hown c1 c2 c3 c4 c5 c6;go_wp2;go_roundw
        case rel=>exact⟨m+1,y,_,by simp,by omega,hO,T3,hz,HJ,HL⟩
        case measure=>simp[intOf];omega
       ·rw[if_neg hneg]at HJ'
        have HJ':=xgv HJ';rw[show qJ (x.s m cn) 0=1 by unfold qJ;rw[if_neg hneg,if_pos oM]];clear hneg hsn2 hokx;go_wp2_with fail
        obtain⟨wi,hwi⟩:∃wi,wi=ws.alloc (Obj.cells #[Value.int IntKind.i64 m,Value.int IntKind.i64 cn] 274):=⟨_,rfl⟩;rw[<-hwi];have hbi:Below ws.heap.size ws wi:=by rw[hwi];exact(Below.refl _ _).alloc (xgf _) _
        have hBk:Blk wi ws.heap.size zAl #[Value.int IntKind.i64 m,Value.int IntKind.i64 cn]:=by rw[hwi];exact Blk.new _ _ _
        have hown:=HL.out.own;have hz:=hz.below hbi;have T3:=T3.below hbi;have hO:=hO.trans (zY.of Z hbi);have HL:=HL.out.below hbi;clear hwi;refine(zCC w.heap.size _ Lp Lp.length m cn ws.heap.size wi HL oM hBk (fun b hb=>Nat.ne_of_lt (hown b hb).2) hO.bel.size hlen).mono ?_;rintro e wk ⟨v',rfl,hv',hko⟩;have hPB:∀b,b∈(Value.ownBlock _).toList->∃cs,Blk wi b zAl cs:=fun b hb=>HL.blk b (by simpa using hb)
        have hz:=hz.pivs hko.z hPB;have T3:=zCb T3 dE hko.z hPB;have hO:zY Z w wk:=⟨hO.bel.trans hko.bel,hO.lext.trans hko.lext,fun b hb hn=>(hko.old b (Nat.lt_of_lt_of_le hb hO.bel.size) (fun hm=>by
         have:=(HL.own b (by simpa using hm)).1;omega)).trans (hO.old b hb hn)⟩
        have HL:=xgv hv';clear hown hv' hko hPB hBk;obtain⟨c1,c2,c3,c4,c5,c6⟩:=T3.three;go_wp2_with fail
        obtain⟨hokx,hLO⟩:=HE.out.ok' m x (Lp.take Lp.length++(m,cn)::Lp.drop Lp.length) hlt HJ'.out;obtain⟨y,hy,hJy⟩:=HE.out.red m x (Lp.take Lp.length++(m,cn)::Lp.drop Lp.length) hlt HJ'.out;have hown:=HL.out.own;refine(zA3 hB hz hokx HL.out.piv (fun b hb hzb=>by have:=(hown b hb).1;have:=hZ b hzb;omega) (fun k hk=>(hLO.mem k hk).2.1) hLO.inj (fun k hk=>(hLO.mem k hk).2.2.1) hn hCs hCt hLO.len (fun b hb=>Nat.lt_of_lt_of_le (hZ b hb) hO.bel.size) hn0 hy).mono ?_;rintro e wz ⟨⟨uz,rfl⟩,hOz,hz,-⟩;have T3:=hOz.blk T3 (fun hh=>by have:=hZ _ hh;omega);have HL:=xgv (HL.out.old (fun g hg=>hOz.old g (hown g hg).2 (fun hzb=>by have:=(hown g hg).1;have:=hZ g hzb;omega)));have hO:=hO.trans hOz;have HJ:=xgv hJy;clear hokx hLO hy hJy hown c1 c2 c3 c4 c5 c6;go_wp2;go_roundw
        case rel=>exact⟨m+1,y,_,by simp,by omega,hO,T3,hz,HJ,HL⟩
        case measure=>simp[intOf];omega
  ·obtain rfl:m=n:=by omega
   go_wp2;go_ret;exact⟨_,x,Lp,rfl,hO,hz,HJ.out,HL.out⟩
abbrev tNn:TypeId:=3
theorem Tryz.infoNn:(Tryz.prog.info? tNn).map (fun i=>(i.zero,i.size,i.bytes))=some (some (.int .i64 0),1,8):=by kernel_rfl
def zAy(w:World)(ao:Option Addr)(xs:List Nat):Prop:=
 (∀x∈xs,x<=1000000)/\(xs≠ []->∃b off cs,ao=some ⟨b,off,none⟩/\w.heap[b]?=some (.cells cs tNn (0,0))/\∀k x,xs[k]?=some x->cs[off+k]?=some (.int .i64 (x:Nat)))
theorem zAy.nil(w:World)(ao:Option Addr):zAy w ao []:=⟨by simp,fun h=>absurd rfl h⟩
theorem zAy.block{w w':World}{ao:Option Addr}{xs:List Nat}(h:zAy w ao xs)(e:∀b off,ao=some ⟨b,off,none⟩->b<w.heap.size->w'.heap[b]?=w.heap[b]?):zAy w' ao xs:=
 ⟨h.1,fun hn=>by
  obtain⟨b,off,cs,h1,h2,h3⟩:=h.2 hn;exact⟨b,off,cs,h1,(e b off h1 (Array.getElem?_eq_some_iff.1 h2).1).trans h2,h3⟩⟩
theorem zAy.below{w w':World}{ao:Option Addr}{xs:List Nat}(h:zAy w ao xs)(e:Below w.heap.size w w'):zAy w' ao xs:=h.block fun b _ _ hb=>e.block b hb
def zBe(w:World)(base:Nat)(v:Value)(xs:List Nat):Prop:=(∀x∈xs,x<=1000000)/\w.ownsRow base tNn 1 v xs.length (xs.map fun n=>Value.int .i64 (n:Nat))
theorem zBe.at_{w:World}{base:Nat}{v:Value}{xs:List Nat}(h:zBe w base v xs):
  ∃ao cap,v= .slice ao xs.length cap/\xs.length<=cap/\cap<=9223372036854775807/\zAy w ao xs:=by
 obtain⟨hl,h1,h2⟩:=h;rcases h2 with⟨rfl,h0⟩|⟨g,cap,cur,rfl,hg,hh,hn,hc,hs,ht⟩
 ·have:xs= []:=List.eq_nil_of_length_eq_zero h0
  subst this;exact⟨none,0,rfl,by simp,by omega,zAy.nil _ _⟩
 ·refine⟨some ⟨g,0,none⟩,cap,rfl,hn,hc,hl,fun _=>⟨g,0,cur,rfl,hh,fun k x hk=>?_⟩⟩
  have hk':(xs.map fun n=>Value.int .i64 (n:Nat))[k]?=some (.int .i64 (x:Nat)):=by simp[hk]
  rw[<-ht,List.getElem?_take]at hk';split at hk'
  ·simpa using hk'
  ·cases hk'
theorem zBe.own{w:World}{base:Nat}{v:Value}{xs:List Nat}(h:zBe w base v xs):∀g,v.ownBlock=some g->base<=g/\g<w.heap.size:=h.2.lt
theorem zBe.alloc{w:World}{base:Nat}{v:Value}{xs:List Nat}(h:zBe w base v xs)(o:Obj):zBe (w.alloc o) base v xs:=⟨h.1,h.2.alloc o⟩
theorem zBe.below{w w':World}{base:Nat}{v:Value}{xs:List Nat}(h:zBe w base v xs)(hb:Below w.heap.size w w'):zBe w' base v xs:=
 ⟨h.1,h.2.kept (row:=none) ⟨hb.os,hb.tape,hb.output,hb.size,fun k hk _=>hb.block k hk⟩ (by cases hv:v.ownBlock<;>simp)⟩
theorem wpN{o:Oper}{a:Act}{K:Act->World->Prop}{Q:Exit->Act->World->Prop}{w:World}(s x:Operand)
  (ho:o.op= .call {callee:=.builtin .append,args:=#[s,x],argTypes:=#[52,52]})
  (base:Nat) (v:Value) (xs:List Nat) (hs:a.eval s=v) (hown:zBe w base v xs) (ao:Option Addr) (m c:Nat) (ys:List Nat) (hx:a.eval x= .slice ao m c) (hy:zAy w ao ys) (hm:ys.length=m)
  (hlen:xs.length+m<=17592186044416) (hbase:base<=w.heap.size)
  (h:∀v' w',zBe w' base v' (xs++ys)->w.grownBy w' v.ownBlock->K (a.put o.dst v') w'):Oper.wp Tryz.prog o a w K Q:=by
 obtain⟨i0,hi,hz0,hz1,hz2⟩:=info_parts Tryz.infoNn;have hall:∀x∈xs++ys,x<=1000000:=fun x hx=>(List.mem_append.1 hx).elim (hown.1 x) (hy.1 x)
 by_cases hy0:ys= []
 ·subst hy0
  simp at hm;subst hm;have hrun:(Builtin.append_ #[52,52] o.type #[v,.slice ao 0 c]).run Tryz.prog w= .ok v w:=by
   cases ao with
   |none=>
    rcases hown.2.2 with⟨rfl,h0⟩|⟨g,cap,cur,rfl,_,_,hnc,_⟩
    ·simp[Builtin.append_,run_underlying Tryz.underlying52,sizeOf,typeInfo,hi,Builtin.lenOf,Builtin.firstCells,h0]
    ·simp[Builtin.append_,run_underlying Tryz.underlying52,sizeOf,typeInfo,hi,Builtin.lenOf,Builtin.firstCells,hnc,storeCells]
   |some ad=>
    have hf:=run_firstCells_some (P:=Tryz.prog) w i0.size 0 ad 0 c [] sI sI;rcases hown.2.2 with⟨rfl,h0⟩|⟨g,cap,cur,rfl,_,_,hnc,_⟩
    ·simp[Builtin.append_,run_underlying Tryz.underlying52,sizeOf,typeInfo,hi,Builtin.lenOf,hf,h0]
    ·simp[Builtin.append_,run_underlying Tryz.underlying52,sizeOf,typeInfo,hi,Builtin.lenOf,hf,hnc,storeCells]
  unfold Oper.wp;simp only[execOp,ho,resolve,invoke,builtin,Sem.run_bind,Sem.run_pure,Result.andThen_ok,List.map_toArray,List.map_cons,List.map_nil,hs,hx,hrun];exact h v w (by simpa using hown) (World.grownBy.refl w _)
 ·obtain⟨b,off,cs,rfl,h2,h3⟩:=hy.2 hy0
  refine wp_append_own w s x 52 ho base tNn i0 _ 1 8 Tryz.underlying52 hi hz0 hz1 hz2 rfl oM v xs.length _ hs hown.2 ⟨b,off,none⟩ m c (ys.map fun n=>Value.int .i64 (n:Nat)) hx (by simp[hm]) ?_ ?_ (by simp[maxLen];omega) oM hbase ?_
  ·intro j u hj
   simp only[List.getElem?_map,Option.map_eq_some_iff]at hj;obtain⟨x',hj,rfl⟩:=hj;rw[Addr.add_lit,cell_of_row w b (off+j) cs tNn _ h2];exact h3 j x' hj
  ·intro u hu
   simp only[List.mem_map]at hu;obtain⟨x',_,rfl⟩:=hu;rfl
  ·intro v' w' h1 h2 _
   refine h v' w' ⟨hall,?_⟩ h2;simpa[hm]using h1
theorem zPw{w:World}{ops:Array Oper}{rest:List Oper}{o:Oper}{a:Act}{Q:Exit->Act->World->Prop}(hgd:o.guard=none)(s x:Operand)
  (ho:o.op= .call {callee:=.builtin .append,args:=#[s,x],argTypes:=#[52,52]})
  (base:Nat) (v:Value) (xs:List Nat) (hs:a.eval s=v) (hown:zBe w base v xs) (ao:Option Addr) (m c:Nat) (ys:List Nat) (hx:a.eval x= .slice ao m c) (hy:zAy w ao ys) (hm:ys.length=m)
  (hlen:xs.length+m<=17592186044416) (hbase:base<=w.heap.size)
  (h:∀v' w',zBe w' base v' (xs++ys)->w.grownBy w' v.ownBlock->wpList Tryz.prog ops Q rest (a.put o.dst v') w'):wpList Tryz.prog ops Q (o::rest) a w:=
 wpList_plain hgd fun _ hK=>wpN s x ho base v xs hs hown ao m c ys hx hy hm hlen hbase fun v' w' h1 h2=>hK _ _ (h v' w' h1 h2)
theorem zEv{e0:Bool}{Z:Nat->Prop}{bw Cs Ct:Nat}{Ah:Value}{x:Bst}{w:World}(h:zAv e0 Z w bw Ah 0 Cs Ct x):
  Calls Tryz.prog 219 #[Ah,.agg (zA6 bw)] w fun e w'=>e= .returned (.slice none 0 0)/\Below w.heap.size w w':=by
 obtain⟨bss0,hw0,-⟩:=h.wri;obtain⟨so,sn,scap,rfl,s1,-⟩:=id (zS.rows hw0);have e2:0=sn:=by rw[<-s1];simp[zX]
 subst e2;clear s1 hw0 bss0 h;go_enter Tryz.func219,Tryz.ntmps219;go_upto_region 1 with(fail)
 refine zB ?_;intro W0 hW0;obtain⟨hB0,T3,hs0⟩:=zK hW0;clear hW0;go_wp2;go_loopw [5,12] (fun pv mv wr=>pv= .slice none 0 0/\mv= .int .i64 0/\Below w.heap.size w wr) (fun _ mv _=>0)
 case atStart=>exact⟨rfl,rfl,hB0⟩
 case round=>
  obtain⟨rfl,rfl,hb⟩:=hrel;go_wp2;go_ret;exact⟨rfl,hb⟩
theorem zFs{e0:Bool}{Z:Nat->Prop}{B:Nat}(hB:BSd B){bw n Cs Ct:Nat}{Ah:Value}{x:Bst}{w:World}{J J':Nat->Bst->List (Nat × Nat)->Prop}(hE:zOu B n Cs Ct J J')(h:zAv e0 Z w bw Ah n Cs Ct x)(h0:J 0 x [])
  (hn:n<=1000000) (hCs:Cs<=1000000) (hCt:Ct<=1000000) (hZ:∀b,Z b->b<w.heap.size) (hgz:∀g,Ah.ownBlock=some g->¬ Z g):
  Calls Tryz.prog 219 #[Ah,.agg (zA6 bw)] w fun e w'=>∃v y L,e= .returned v/\zY Z w w'/\zAv e0 Z w' bw Ah n Cs Ct y/\J n y L/\zDk w' w.heap.size v L:=by
 by_cases hn0:0<n
 ·exact zFt hB hE h h0 hn hCs hCt hn0 hZ hgz
 ·obtain rfl:n=0:=by omega
  refine(zEv h).mono ?_;rintro e w' ⟨rfl,hb⟩;exact⟨_,x,[],rfl,zY.of Z hb,h.below hb,h0,zDk.nil _ _⟩
theorem zBe.weak{w:World}{a b:Nat}{v:Value}{xs:List Nat}(h:zBe w b v xs)(hab:a<=b):zBe w a v xs:=by
 obtain⟨h1,h2,h3⟩:=h;refine⟨h1,h2,?_⟩;rcases h3 with h3|⟨g,cap,cur,rfl,k1,k2⟩
 ·exact .inl h3
 ·exact .inr ⟨g,cap,cur,rfl,by omega,k2⟩
theorem zBe.nil(w:World)(base:Nat):zBe w base (.slice none 0 0) []:=⟨by simp,rfl,.inl ⟨rfl,rfl⟩⟩
theorem zMO{e0:Bool}{Z:Nat->Prop}{B:Nat}(hB:BSd B){bw n Cs Ct:Nat}{Ah:Value}{x:Bst}{w:World}{J J':Nat->Bst->List (Nat × Nat)->Prop}(hE:zOu B n Cs Ct J J')(h:zAv e0 Z w bw Ah n Cs Ct x)(h0:J 0 x [])
  (hn:n<=1000000) (hCs:Cs<=1000000) (hCt:Ct<=1000000) (hZ:∀b,Z b->b<w.heap.size) (hgz:∀g,Ah.ownBlock=some g->¬ Z g):
  Calls Tryz.prog 152 #[.pointer (some ⟨bw,0,none⟩)] w fun e w'=>∃v y L,e= .returned v/\zY Z w w'/\zAv e0 Z w' bw Ah n Cs Ct y/\J n y L/\zBe w' w.heap.size v (L.map (·.1)):=by
 obtain⟨Au,Av,hbw⟩:=h.blk;obtain⟨c1,c2,c3,c4,c5,c6⟩:=hbw.three;have HE:=xgv hE;have HJ0:=xgv h0;have HH:=xgv h;clear h hE h0;go_enter Tryz.func152,Tryz.ntmps152;go_wp2_with fail
 refine(zFs hB HE.out HH.out HJ0.out hn hCs hCt hZ hgz).mono ?_;rintro e w1 ⟨pv,y,Lp,rfl,hO,hz,hJ,hP⟩;obtain⟨hok,hL⟩:=HE.out.ok n y Lp hJ;have HL:=xgv hL;have hlen:Lp.length<=1000000:=Nat.le_trans hL.len hn;have HJ:=xgv hJ;have HP:=xgv hP;have HZ:=xgv hz;obtain⟨ao,lcap,rfl,hlc,hcap,hP0⟩:=hP.piv;have hP0:=xgv hP0;have hsz:=hO.bel.size;clear hJ hP hL hok hz HE HH HJ0 c1 c2 c3 c4 c5 c6 hbw;go_wp2;go_loopw [3,19] (fun u iv wr=>∃k:Nat,iv= .int .i64 k/\k<=Lp.length/\zBe wr w1.heap.size u ((Lp.take k).map (·.1))/\Below w1.heap.size w1 wr) (fun _ iv _=>Lp.length-(intOf iv).toNat)
 case atStart=>exact⟨0,rfl,by omega,zBe.nil _ _,Below.refl _ _⟩
 case round=>
  obtain⟨k,rfl,hk,ho,hb⟩:=hrel;by_cases hlt:k<Lp.length
  ·obtain⟨bp,_,rfl,-,-⟩:=hP0.out oM
   obtain⟨-,lbp,p1,p2⟩:=(HP.out.below hb).piv.cell hlt;obtain⟨r,hr⟩:∃r,(Lp.getD k (0,0)).1=r:=⟨_,rfl⟩;obtain⟨q,hq⟩:∃q,(Lp.getD k (0,0)).2=q:=⟨_,rfl⟩;have hrn:r<=1000000:=by have:=(HL.out.mem k hlt).1;omega
   rw[hr]at p1;rw[hq]at p2;have htk:(Lp.take (k+1)).map (·.1)=(Lp.take k).map (·.1)++ [r]:=by
    rw[List.take_add_one,List.map_append];congr 1;rw[xgb]at hr;cases hh:Lp[k]? with
    |none=>rw[List.getElem?_eq_none_iff]at hh;omega
    |some p=>rw[hh]at hr;simp at hr;simp[hr]
   have HTK:=xgv htk;have htl:((Lp.take k).map (·.1)).length=k:=by simp;omega
   clear hr hq htk;go_upto_region 5 with(fail)
   refine zB ?_;intro W7 hW7;obtain⟨hB7,T9,hs7⟩:=zK hW7;have T9:Blk W7 wr.heap.size zAl #[.int .i64 r,.int .i64 q]:=T9;have ho7:=ho.below hB7;have hb7:=hb.trans (hB7.mono hb.size);obtain⟨t1,t2,t3,t4⟩:=T9.two;have hys:∀w':World,zAy (w'.alloc (.cells #[.int .i64 r] tNn)) (some ⟨w'.heap.size,0,none⟩) [r]:=fun w'=>⟨by simp;omega,fun _=>⟨_,0,_,rfl,heap_alloc_new w' _,fun k x hk=>by
    match k with
    |0=>simp at hk;subst hk;rfl
    |k+1=>simp at hk⟩⟩
   have h7s:=hb7.size;clear hW7 p1 p2;go_wp2_with (at_builtin;refine zPw rfl _ _ rfl w1.heap.size u3 ((Lp.take k).map (·.1)) rfl (ho7.alloc _) (some ⟨W7.heap.size,0,none⟩) 1 1 [r] rfl (hys W7) rfl (by rw[htl];omega) (by simp;omega) ?_;intro v' w' hown hgr)
   have hgr:World.grownBy (W7.alloc (.cells #[.int .i64 r] tNn)) w' (Value.ownBlock u3):=hgr;have hB9:Below w1.heap.size w1 w':=(hb7.alloc hb7.size _).grown hgr (by simp;omega) (fun g hg=>(ho.own g hg).1);go_roundw
   case rel=>exact⟨k+1,by simp,by omega,by rw[HTK.out];exact hown,hB9⟩
   case measure=>simp[intOf];omega
  ·obtain rfl:k=Lp.length:=by omega
   go_wp2;go_ret;exact⟨_,y,Lp,rfl,hO.trans (zY.of Z hb),HZ.out.below hb,HJ.out,(by rw[List.take_length]at ho;exact ho.weak hsz)⟩

def okW(B R C Cu Cw:Nat)(z:W5):Prop:=okF B R C z.s/\okF B R Cu z.u/\okF B R Cu z.v/\okF B C Cw z.w/\okF B C Cw z.x
theorem zS.fresh{w:World}{base:Nat}{A:Value}{C:Nat}{bs:List Nat}{M:List (List Int)}(h:zS w base A C bs M){b:Nat}(hb:Zn A bs b):base<=b:=by
 rcases hb with hb|hb
 ·obtain⟨k,hk,e⟩:=List.getElem_of_mem hb
  exact(h.row k b (M[k]'(by rw[h.len];exact hk)) (by rw[xga hk,e]) (xga _)).1
 ·rcases h.own.2 with⟨rfl,-⟩|⟨g,cap,cur,rfl,h2,-⟩
  ·cases hb
  ·simp only[Value.ownBlock,Option.some.injEq]at hb
   omega
section
variable {w w':World} {base wb RS CS R C Cu Cw:Nat} {AS AU AV AW AX:Value} {bS bU bV bW bX:List Nat} {z:W5}
end
theorem Wri.shape{w:World}{A:Value}{R C:Nat}{bs:List Nat}{F:Nat->Nat->Int}(h:Wri w A R C bs F):∃o c,A= .slice o R c:=by
 obtain⟨so,sn,sc,rfl,s1,-⟩:=id (zS.rows h);obtain rfl:R=sn:=by rw[<-s1];simp[zX]
 exact⟨_,_,rfl⟩
theorem zEq.shape{w:World}{base:Nat}{v:Value}{zs:List Int}(h:zEq w base v zs):∃o c,v= .slice o zs.length c:=by
 obtain⟨cells,h1,-⟩:=h;rcases h1.2 with⟨rfl,h0⟩|⟨g,cap,cur,rfl,-⟩
 ·exact⟨none,0,by rw[h0]⟩
 ·exact⟨_,_,rfl⟩
abbrev tBo:TypeId:=4
def zRF(n:Nat)(g:Nat->Bool):Array Value:=((List.range n).map fun i=>Value.bool (g i)).toArray
def zQ1(g:Nat->Bool)(j:Nat):Nat->Bool:=fun t=>if t<j then g t else false
theorem zJb(v1 v2:Value)(z k:Int)(kb:Nat)(x y:Value)(w:World)(h1:zH w v1 z)(h2:∃z2,zH w v2 z2)(hk:Blk w kb tI #[x,y])(hkv:zH w (.agg #[x,y]) k)(s1:Sm z)(s2:Sm k):
  Calls Tryz.prog 256 #[v1,v2,.pointer (some ⟨kb,0,none⟩)] w (jL w (k*z)):=by
 obtain⟨neg1,ao1,n1,cap1,xs,rfl,i1⟩:=id h1;obtain⟨z2,h2⟩:=h2;obtain⟨neg2,ao2,n2,cap2,ys,rfl,i2⟩:=id h2;obtain⟨kn,ka,kl,kc,rfl,rfl⟩:=hkv.two;have HS1:=xgv s1;have HS2:=xgv s2;clear i1 i2 s1 s2 h2;go_enter Tryz.func256,Tryz.ntmps256;go_upto_region 1 with(fail)
 refine zB ?_;intro W0 hW0;obtain⟨hB0,bx1,bx2,br,hs0⟩:=yG hW0;obtain⟨c1,c2,c3,c4⟩:=bx1.two;obtain⟨d1,d2,d3,d4⟩:=(hk.below hB0).two;go_wp2_with fail
 refine(jM _ _ k z W0 (hkv.ext (lx hB0)).weak (h1.ext (lx hB0)).weak HS2.out HS1.out).mono ?_;rintro e w1 ⟨v,rfl,hv,hb1⟩;obtain⟨pn,pa,pl,pc,px,rfl,hpx⟩:=id hv;have HPX:=xgw hpx;have br:=br.below hb1;obtain⟨e1,e2,e3,e4⟩:=br.two;clear hpx;go_wp2;exact zW rfl rfl rfl (br.put2 _ _) (hv.ext (br.lext2 dE _ _)) (zT (zT (nx hB0 hb1) oM 0 _) oM 1 _)
theorem zKC(v1 v2:Value)(zs ys:List Int)(k:Int)(kb n:Nat)(x y:Value)(w:World)(h1:qT w v1 zs)(h2:qT w v2 ys)(hl1:zs.length=n)(hl2:ys.length=n)(hn:n<=1000000)(hk:Blk w kb tI #[x,y])(hkv:zH w (.agg #[x,y]) k)
  (hS:∀z∈zs,Sm z) (s2:Sm k):
  Calls Tryz.prog 298 #[v1,v2,.func (.func 256) #[] #[.pointer (some ⟨kb,0,none⟩)]] w fun e w'=>
   e= .returned (.slice (some ⟨w.heap.size,0,none⟩) n n)/\qC w' w.heap.size (zM n (fun j=>k*zs.getD j 0))/\Below w.heap.size w w':=by
 obtain⟨ao,n1,cap,rfl,e1,e3,e4,-⟩:=id h1;obtain⟨bo,n2,bcap,rfl,f1,f3,f4,-⟩:=id h2;obtain rfl:n=n1:=by omega
 obtain rfl:n=n2:=by omega
 have hmk:=fun W=>mkI (n:Int) n rfl oM W
 have HL1:=xgv hl1;have HL2:=xgv hl2;have HS:=xgv hS;have HK:=xgv s2;obtain⟨G,hG⟩:∃G:Nat->Int,(fun j=>k*zs.getD j 0)=G:=⟨_,rfl⟩;rw[hG];have HG:qF (∀t,G t=k*zs.getD t 0):=⟨fun t=>by rw[<-hG]⟩;clear hl1 hl2 e1 f1 hG hS s2;go_enter Tryz.func298,Tryz.ntmps298;go_upto_region 2 with(fail)
 refine zB ?_;intro W0 hW0;obtain⟨hB0,bA,hs0⟩:=zK hW0;have hA:qC W0 w.heap.size (zM n (qA G (fun _=>0) 0)):=by
  have h4:=zDC w n;have h5:List.replicate n (0:Int)=zM n (qA G (fun _=>0) 0):=by
   apply List.ext_getElem
   ·simp[zM]
   ·intro i h1 h2;simp[zM,qA]
  rw[h5]at h4;rw[hW0.out];exact h4
 clear hW0 hmk bA;go_wp2;go_loopw [14] (fun jv wr=>∃j:Nat,j<=n/\jv= .int .i64 j/\Below w.heap.size w wr/\qC wr w.heap.size (zM n (qA G (fun _=>0) j))) (fun jv _=>n-(intOf jv).toNat)
 case atStart=>exact⟨0,by omega,rfl,hB0,hA⟩
 case round=>
  obtain⟨j,hj,rfl,hb,hA⟩:=hrel;by_cases hlt:j<n
  ·obtain⟨b1,z1,s1,a1,l1,c1,rfl,hbl1,hz1,p1,p2,hv1⟩:=(h1.below hb).cell (k:=j) (by rw[HL1.out];exact hlt)
   obtain⟨b2,z2,s2,a2,l2,c2,rfl,hbl2,hz2,q1,q2,hv2⟩:=(h2.below hb).cell (k:=j) (by rw[HL2.out];exact hlt);have hgj:qF (k*z1=G j):=⟨by rw[HG.out,zBM hz1]⟩;have S1:qF (Sm z1):=⟨HS.out _ (xgd hz1)⟩;have hkr:=hk.below hb;have hkvr:=hkv.ext (lx hb);have lkb:=hkr.lt;clear hz1 hz2;have lA:=hA.lt;go_upto_region 5 with(fail)
   refine zC 13 rfl (RI wr (wr.heap.size) _ 35
     [VSl 0 17 w.heap.size n n,VN 1 18 j,E 2 19 (.func (.func 256) #[] #[.pointer (some ⟨kb,0,none⟩)]),VSl 3 20 b1 n cap,VN 4 21 j,VP 5 22 b1 (j*2),E 6 23 (.agg #[.bool s1,.slice a1 l1 c1]),VSl 7 24 b2 n bcap,VN 8 25 j,VP 9 26 b2 (j*2),E 10 27 (.agg #[.bool s2,.slice a2 l2 c2]),EI 11 28 (k*z1),VP 12 29 w.heap.size (j*2)] [] []) kR RI.start (RI.fin kR ?fin2) ?steps2
   case steps2=>
    refine⟨?_,?_,?_,?_,?_,?_,?_,?_,?_,?_,?_,?_,?_,trivial⟩<;>(intro L T wS hL hd hcl hI K hK;try refine zA rfl ?_)
    ·exact xgs (hI.k 7 rfl kR)
    ·exact xgs (hI.k 8 rfl kR)
    ·exact xgs (hI.k 2 rfl kR)
    ·exact xgs (hI.k 0 rfl kR)
    ·exact xgs (hI.k 8 rfl kR)
    ·exact xgt (hI.e mm3 (hd 3)) (hI.e mm4 (hd 4))
    ·have zt5:=hI.e mm5 (hd 5)
     have cc0:=hI.cell p1 oM nom;have cc1:=hI.cell p2 oM nom;exact xgu
    ·exact xgs (hI.k 1 rfl kR)
    ·exact xgs (hI.k 8 rfl kR)
    ·exact xgt (hI.e mm7 (hd 7)) (hI.e mm8 (hd 8))
    ·have zt9:=hI.e mm9 (hd 9)
     have cc0:=hI.cell q1 oM nom;have cc1:=hI.cell q2 oM nom;exact xgu
    ·have zt2:=hI.e mm2 (hd 2)
     have zt6:=hI.e mm6 (hd 6);have zt10:=hI.e zAC (hd 10);go_simp;refine(zJb _ _ z1 k kb x y _ (hv1.ext hI.lext) ⟨z2,hv2.ext hI.lext⟩ ((hI.old kb oM sI).trans hkr) (hkvr.ext hI.lext) S1.out HK.out).mono ?_;exact xgo
    ·exact xgt (hI.e mm0 (hd 0)) (hI.e mm1 (hd 1))
   intro w9 hlw9 hbw9 holdw9 T hT;simp only[Fin,E,EI,VP,VSl,VN,xgg,xgh,xgi,xgj]at hT;obtain⟨va11,ha11,rfl⟩:=hT;simp only[xgl,xgk];obtain⟨pn,pa,pl,pc,px,rfl,hpx⟩:=id ha11;have HPX:=xgw hpx;have hA:=hA.below hbw9;obtain⟨zs,za,zl,zc,z1,z2,z3,z4,-⟩:=hA.cell (zO hlt);have hset:=hA.set (k:=j) (by rw[zD];exact hlt) ha11;rw[zEE hgj.out]at hset;clear hpx p1 p2 q1 q2;go_wp2;go_roundw
   case rel=>exact⟨j+1,by omega,by simp,zT (zT (nx hb hbw9) (xgf _) _ _) (xgf _) _ _,hset.1⟩
   case measure=>simp[intOf];omega
  ·obtain rfl:j=n:=by omega
   have hq:zM j (qA G (fun _=>0) j)=zM j G:=zP fun t ht=>by unfold qA;rw[if_pos ht]
   rw[hq]at hA;go_wp2;go_ret;exact⟨rfl,hA,hb⟩
abbrev tF:TypeId:=152
def zDj(n0 C:Nat)(zs:List Int):World->Value->Prop:=fun w v=>∃g,v= .slice (some ⟨g,0,none⟩) C C/\n0<=g/\qC w g zs
theorem zJD(n0 C:Nat)(zs:List Int):qS (zDj n0 C zs):=fun _ _ _ e ⟨g,h1,h2,h3⟩=>⟨g,h1,h2,h3.below e⟩
theorem zKL(v1 v2:Value)(zs ys:List Int)(k:Int)(fb kb n:Nat)(x y:Value)(w:World)(h1:qT w v1 zs)(h2:qT w v2 ys)(hl1:zs.length=n)(hl2:ys.length=n)(hn:n<=1000000)
  (hf:Blk w fb tF #[.func (.func 256) #[] #[.pointer (some ⟨kb,0,none⟩)]]) (hk:Blk w kb tI #[x,y]) (hkv:zH w (.agg #[x,y]) k) (hS:∀z∈zs,Sm z) (s2:Sm k):
  Calls Tryz.prog 297 #[v1,v2,.pointer (some ⟨fb,0,none⟩)] w fun e w'=>∃v,e= .returned v/\zDj w.heap.size n (zM n (fun j=>k*zs.getD j 0)) w' v/\Below w.heap.size w w':=by
 have c1:=hf.cell 0;have HS:=xgv hS;have HK:=xgv s2;obtain⟨G,hG⟩:∃G:Nat->Int,(fun j=>k*zs.getD j 0)=G:=⟨_,rfl⟩;rw[hG];have HG:=xgv hG;clear hG hS s2;obtain⟨ao,n1,cap,rfl,-⟩:=id h1;obtain⟨bo,n2,bcap,rfl,-⟩:=id h2;go_enter Tryz.func297,Tryz.ntmps297;go_wp2_with fail
 refine(zKC _ _ zs ys k kb n x y w h1 h2 hl1 hl2 hn hk hkv HS.out HK.out).mono ?_;rintro e w1 ⟨rfl,hr,hb1⟩;rw[HG.out]at hr;go_wp2;go_ret;exact⟨_,rfl,⟨_,rfl,xgf _,hr⟩,hb1⟩
theorem zS.ofPart{w:World}{base g n C:Nat}{bs:List Nat}{M:List (List Int)}(hb:Blk w g tR (qZ n C bs))(hl:bs.length=n)(hnd:bs.Nodup)(hr:∀(t b:Nat),bs[t]?=some b->base<=b/\∃r:List Int,M[t]?=some r/\r.length=C/\qC w b r)
  (hM:M.length=n) (hg:base<=g) (hC:C<=1000000) (hn:n<=1000000):zS w base (.slice (some ⟨g,0,none⟩) n n) C bs M:=by
 have hpr:(qZ n C bs).toList=yB C bs:=by simp[qZ,hl]
 refine⟨⟨by simp[yB],.inr ⟨g,n,qZ n C bs,by rw[hl],hg,hb,by omega,by simp[maxLen];omega,by rw[zAX oM];omega,?_⟩⟩,by rw[hM,hl],?_,hnd,by omega⟩
 ·rw[hpr,hl,Nat.mul_one,List.take_of_length_le (by simp[yB,hl])]
 ·intro t b r ht hr'
  obtain⟨h1,r2,h2,h3,h4⟩:=hr t b ht;rw[h2]at hr';injection hr' with hr'
  subst hr';exact⟨h1,h3,h4⟩
theorem zKD(A:Value)(M:List (List Int))(R C:Nat)(k:Int)(fb kb:Nat)(x y:Value)(w:World)(h:zGN w A M)(hF:jK R C M)(hR:R<=1000000)(hC:C<=1000000)
  (hf:Blk w fb tF #[.func (.func 256) #[] #[.pointer (some ⟨kb,0,none⟩)]]) (hk:Blk w kb tI #[x,y]) (hkv:zH w (.agg #[x,y]) k) (hS:∀r∈M,∀z∈r,Sm z) (s2:Sm k):
  Calls Tryz.prog 296 #[A,A,.func (.func 297) #[] #[.pointer (some ⟨fb,0,none⟩)]] w fun e w'=>
   e= .returned (.slice (some ⟨w.heap.size,0,none⟩) R R)/\(∃bs,bs.length=R/\zS w' w.heap.size (.slice (some ⟨w.heap.size,0,none⟩) R R) C bs (zX R C (fun i j=>k*ent M i j)))/\Below w.heap.size w w':=by
 obtain⟨ao,n,cap,rfl,e1,e3,e4,-⟩:=id h;obtain rfl:R=n:=by rw[<-e1,hF.1]
 have hmk:=fun W=>mkR (R:Int) R rfl oM W
 have HF:=xgv hF;have HS:=xgv hS;have HK:=xgv s2;obtain⟨G,hG⟩:∃G:Nat->Nat->Int,(fun i j=>k*ent M i j)=G:=⟨_,rfl⟩;rw[hG];have HG:qF (∀i j,G i j=k*ent M i j):=⟨fun i j=>by rw[<-hG]⟩;clear hF hS s2 hG e1;go_enter Tryz.func296,Tryz.ntmps296;go_upto_region 2 with(fail)
 refine zB ?_;intro W0 hW0;obtain⟨hB0,bA,hs0⟩:=zK hW0;rw[zCW R C]at bA;clear hW0 hmk;go_wp2;go_loopw [14] (fun iv wr=>∃(i:Nat) (bs:List Nat),i<=R/\iv= .int .i64 i/\bs.length=i/\Below w.heap.size w wr/\Blk wr w.heap.size tR (qZ R C bs)/\qF (bs.Nodup/\∀t b,bs[t]?=some b->w.heap.size<b/\qC wr b (zM C (G t)))) (fun iv _=>R-(intOf iv).toNat)
 case atStart=>exact⟨0,[],by omega,rfl,rfl,hB0,bA,⟨⟨by simp,fun t b ht=>by simp at ht⟩⟩⟩
 case round=>
  obtain⟨i,bs,hi,rfl,hbl,hb,bA,hH⟩:=hrel;by_cases hlt:i<R
  ·obtain⟨b1,o1,ra,rn,rc,zs,rfl,hbl1,hz,p1,hv⟩:=(h.below hb).row (k:=i) (by rw[HF.out.1];exact hlt)
   have hzl:=HF.out.2 zs (xgd hz);have hrow:qF (zM C (fun j=>k*zs.getD j 0)=zM C (G i)):=⟨zP fun j hj=>by rw[HG.out];unfold ent;rw[zBM hz]⟩;have SZ:qF (∀z∈zs,Sm z):=⟨HS.out _ (xgd hz)⟩;have HZL:=xgv hzl;have hkr:=hk.below hb;have hkvr:=hkv.ext (lx hb);have hfr:=hf.below hb;have lA:=bA.lt;have hlast:=zJD wr.heap.size C (zM C (G i));have hsz:=hb.size;clear hz hzl;go_upto_region 5 with(fail)
   refine zC 13 rfl (RV wr _ [VSl 0 17 w.heap.size R R,VN 1 18 i,E 2 19 (.func (.func 297) #[] #[.pointer (some ⟨fb,0,none⟩)]),E 3 20 (.slice (some ⟨b1,o1,none⟩) R cap),VN 4 21 i,VP 5 22 b1 (o1+i),E 6 23 (.slice ra rn rc),E 7 24 (.slice (some ⟨b1,o1,none⟩) R cap),VN 8 25 i,VP 9 26 b1 (o1+i),E 10 27 (.slice ra rn rc),⟨11,28,zDj wr.heap.size C (zM C (G i))⟩,VP 12 29 w.heap.size i]) kR RV.start (RV.fin kR ?fin1) ?steps1
   case steps1=>
    refine⟨?_,?_,?_,?_,?_,?_,?_,?_,?_,?_,?_,?_,?_,trivial⟩<;>(intro L T wS hL hd hcl hI K hK;try refine zA rfl ?_)
    ·exact xgs (hI.k 7 rfl kR)
    ·exact xgs (hI.k 8 rfl kR)
    ·exact xgs (hI.k 2 rfl kR)
    ·exact xgs (hI.k 0 rfl kR)
    ·exact xgs (hI.k 8 rfl kR)
    ·exact xgt (hI.e mm3 (hd 3)) (hI.e mm4 (hd 4))
    ·have zt5:=hI.e mm5 (hd 5)
     have cc0:=hI.cell p1;exact xgu
    ·exact xgs (hI.k 1 rfl kR)
    ·exact xgs (hI.k 8 rfl kR)
    ·exact xgt (hI.e mm7 (hd 7)) (hI.e mm8 (hd 8))
    ·have zt9:=hI.e mm9 (hd 9)
     have cc0:=hI.cell p1;exact xgu
    ·have zt2:=hI.e mm2 (hd 2)
     have zt6:=hI.e mm6 (hd 6);have zt10:=hI.e zAC (hd 10);go_simp;refine(zKL _ _ zs zs k fb kb C x y _ (hv.below hI.bel) (hv.below hI.bel) HZL.out HZL.out hC (hfr.below hI.bel) (hkr.below hI.bel) (hkvr.ext (lx hI.bel)) SZ.out HK.out).mono ?_
     (rintro e wa ⟨v,rfl,⟨g,e1,e2,e3⟩,hba⟩;rw[hrow.out]at e3;have hv:zDj wr.heap.size C (zM C (G i)) wa v:=⟨g,e1,Nat.le_trans hI.bel.size e2,e3⟩)
     exact hK _ _ ((hI.world hba).y zAJ hv)
    ·exact xgt (hI.e mm0 (hd 0)) (hI.e mm1 (hd 1))
   intro w9 hbw9 T hT;simp only[Fin,E,EI,VP,VSl,VN,xgg,xgh,xgi,xgj]at hT;obtain⟨va11,ha11,rfl⟩:=hT;simp only[xgl,xgk];obtain⟨g,rfl,hg1,hg2⟩:zDj wr.heap.size C (zM C (G i)) w9 va11:=ha11;have bA:=bA.below hbw9;have f1:=bA.frozen i;obtain⟨u,f2⟩:∃u,w9.cell? ⟨w.heap.size,i,none⟩=some u:=by
    rw[bA.cell i];exact⟨_,Array.getElem?_eq_getElem (by rw[zAX oM];exact hlt)⟩
   have hset:=bA.set_ i (.slice (some ⟨g,0,none⟩) C C);rw[<-hbl,zDv oM,hbl]at hset;have hx1:=bA.lext dE i (.slice (some ⟨g,0,none⟩) C C);have HG2:=xgv hg2;have HH:=xgv hH.out;clear p1 hg2;go_wp2;go_roundw
   case rel=>
    refine⟨i+1,bs++ [g],by omega,by simp,by simp[hbl],zT (nx hb hbw9) (xgf _) _ _,hset,⟨⟨?_,?_⟩⟩⟩
    ·rw[List.nodup_append]
     refine⟨HH.out.1,by simp,fun x hx y hy=>?_⟩;simp at hy;subst hy;obtain⟨t,ht,e⟩:=List.getElem_of_mem hx;have:=(HH.out.2 t x (by rw[xga ht,e])).2.lt;omega
    ·intro t b ht
     by_cases e:t=i
     ·subst e
      rw[List.getElem?_append_right oM,hbl]at ht;simp at ht;subst ht;exact⟨by omega,HG2.out.old (zV _ _ _ _ _ oM) hx1⟩
     ·have htl:t<bs.length:=by
       have h5:=(xge.1 ht).1;simp at h5;omega
      rw[List.getElem?_append_left htl]at ht;obtain⟨h6,h7⟩:=HH.out.2 t b ht;exact⟨h6,(h7.below hbw9).old (zV _ _ _ _ _ oM) hx1⟩
   case measure=>simp[intOf];omega
  ·obtain rfl:i=R:=by omega
   have HH:=xgv hH.out;go_wp2;go_ret;refine⟨rfl,⟨bs,hbl,?_⟩,hb⟩;exact zS.ofPart bA hbl HH.out.1 (fun t b ht=>by
    obtain⟨h6,h7⟩:=HH.out.2 t b ht;have hti:t<i:=by have:=(xge.1 ht).1;omega
    exact⟨by omega,_,zAW i C G hti,by simp,h7⟩) (by simp[zX]) (xgf _) hC hR
end Go.Proofs.YtnbmaipobhppcaaGreat
