/- hermite: eliminate. Slices of int: their own rows, append; torsionref05.Range. -/
import Derived.Test.YtgnmdddaiefooaaGreatR03
import Derived.Test.YtgnmdddaiefooaaGreatR10
import Derived.Test.YtgnmdddaiefooaaGreatR26
set_option linter.unusedVariables false
set_option linter.unusedSimpArgs false
set_option linter.unusedSectionVars false
set_option maxHeartbeats 16000000
set_option maxRecDepth 100000
namespace Go.Proofs.YtgnmdddaiefooaaGreat
open Go.RowKit
structure LOk(n Cs m:Nat)(x:Bst)(L:List (Nat × Nat)):Prop where
 mem:∀k,k<L.length->(L.getD k (0,0)).1<m/\(L.getD k (0,0)).1<n/\(L.getD k (0,0)).2<Cs/\x.s (L.getD k (0,0)).1 (L.getD k (0,0)).2≠0
 inc:∀i j,i<j->j<L.length->(L.getD i (0,0)).2<(L.getD j (0,0)).2
 inj:∀i j,i<j->j<L.length->(L.getD i (0,0)).1≠(L.getD j (0,0)).1
 len:L.length<=n
structure zOK(B n Cs Ct:Nat)(J J':Nat->Bst->List (Nat × Nat)->Prop):Prop where
 ok:∀m x L,J m x L->okB B n Cs Ct x/\LOk n Cs m x L
 ok':∀m x L,m<n->J' m x L->okB B n Cs Ct x/\LOk n Cs (m+1) x L
 zero:∀m x L,m<n->J m x L->lead Cs x.s m<0->J' m x L
 join:∀(m:Nat) (x:Bst) (L:List (Nat × Nat)) (k c:Nat),m<n->J m x L->lead Cs x.s m=(c:Int)->k<L.length->(L.getD k (0,0)).2=c->
  (x.s m c%x.s (L.getD k (0,0)).1 c=0->zBx B n Cs Ct x m (L.getD k (0,0)).1 (-(x.s m c/x.s (L.getD k (0,0)).1 c)))∧
  (∀s t,Bez (x.s (L.getD k (0,0)).1 c) (x.s m c) s t->zKk B n Cs Ct x (L.getD k (0,0)).1 m s t (-(x.s m c/((Int.gcd (x.s (L.getD k (0,0)).1 c) (x.s m c):Nat):Int))) (x.s (L.getD k (0,0)).1 c/((Int.gcd (x.s (L.getD k (0,0)).1 c) (x.s m c):Nat):Int)))∧
  ∀y,zIq x (L.getD k (0,0)).1 m c y->J m y L/\(lead Cs y.s m<0∨(c:Int)<lead Cs y.s m)
 ins:∀(m:Nat) (x:Bst) (L:List (Nat × Nat)) (k c:Nat),m<n->J m x L->lead Cs x.s m=(c:Int)->k<=L.length->(∀i,i<k->(L.getD i (0,0)).2<c)->(∀i,k<=i->i<L.length->c<(L.getD i (0,0)).2)->
  J' m (if x.s m c<0 then x.neg m else x) (L.take k++(m,c)::L.drop k)
 red:∀m x L,m<n->J' m x L->∃y,zGx B n Cs Ct (fun k=>(L.getD k (0,0)).1) (fun k=>(L.getD k (0,0)).2) L.length L.length x=some y/\J (m+1) y L
theorem zAj.rowB{e:Bool}{Z:Nat->Prop}{w w':World}{bw g a cap n Cs Ct b:Nat}{x:Bst}(h:zAj e Z w' bw (.slice (some ⟨g,0,none⟩) a cap) n Cs Ct x){i:Nat}(hi:i<n)(hc:w.cell? ⟨g,i,none⟩=some (.slice (some ⟨b,0,none⟩) Cs Cs))(ho:w'.heap[g]?=w.heap[g]?):qF w' b (zQ Cs (x.s i)):=by
 obtain⟨b',o1,hr,-⟩:=h.row hi;have e1:w'.cell? ⟨g,i,none⟩=w.cell? ⟨g,i,none⟩:=by unfold World.cell?;rw[ho]
 rw[e1,hc]at o1;injection o1 with o1
 injection o1 with o1
 injection o1 with o1
 injection o1 with o1
 subst o1;exact hr
theorem zAA{C:Nat}{F:Nat->Nat->Int}{i c:Nat}(h:lead C F i=(c:Int)):c<C/\F i c≠0:=by
 rcases zAO C F i with⟨h1,-⟩|⟨j,h1,h2,h3,-⟩
 ·omega
 ·obtain rfl:j=c:=by omega
  exact⟨h2,h3⟩
theorem zFr{C:Nat}{F:Nat->Nat->Int}{i:Nat}:zAN 0 (zQ C (F i))=lead C F i:=rfl
theorem zPD{w:World}{A:Value}{R C:Nat}{bs:List Nat}{F:Nat->Nat->Int}(h:Wri w A R C bs F){b:Nat}{cs:Array Value}(hp:Blk w b zAf cs):¬ Zn A bs b:=by
 rintro(hb|hb)
 ·obtain⟨r,hr⟩:=h.blk hb
  exact zGU hp hr dE rfl
 ·rcases(zJ.own h).2 with⟨rfl,-⟩|⟨g,cap,cur,rfl,-,hh,-⟩
  ·cases hb
  ·simp only[Value.ownBlock,Option.some.injEq]at hb
   subst hb;have hh2:zAf=tR:=congrArg (fun o:Option Obj=>match o with|some (Obj.cells _ t _)=>t|_=>0) (hp.symm.trans hh);exact absurd hh2 dE
theorem zCa{w w':World}{P:Nat->Prop}{g:Nat}{t:TypeId}{cs:Array Value}(h:Blk w g t cs)(ht:¬ t=zAf)(ho:zM P w w')(hP:∀b,P b->∃cs,Blk w b zAf cs):Blk w' g t cs:=
 ho.blk h fun hg=>by
  obtain⟨cs',h'⟩:=hP g hg;exact ht (congrArg (fun o:Option Obj=>match o with|some (Obj.cells _ t _)=>t|_=>0) (h.symm.trans h'))
theorem zAj.pivs{e:Bool}{Z P:Nat->Prop}{w w':World}{bw n Cs Ct:Nat}{Ah:Value}{x:Bst}(h:zAj e Z w bw Ah n Cs Ct x)(ho:zM P w w')(hP:∀b,P b->∃cs,Blk w b zAf cs):zAj e Z w' bw Ah n Cs Ct x:=by
 have hk:∀{A:Value} {R C:Nat} {bs:List Nat} {F:Nat->Nat->Int},Wri w A R C bs F->Wri w' A R C bs F:=fun {A R C bs F} hw=>hw.keepZ ho fun b hb hp=>by
  obtain⟨cs,h1⟩:=hP b hp;exact zPD hw h1 hb
 have hn:∀{A:Value} {n:Nat},zBa w A n->zBa w' A n:=fun {A n} hw=>by
  obtain⟨g,cap,cs,h1,h2,h3,h4,h5⟩:=hw;exact⟨g,cap,cs,h1,h2,h3,zCa h4 dE ho hP,h5⟩
 unfold zAj at h ⊢
 split at h
 ·rename_i he
  rw[if_pos he];obtain⟨Au,Av,b1,b2,b3,h1,h2,h3⟩:=h;exact⟨Au,Av,b1,b2,b3,zCa h1 dE ho hP,⟨hk h2.s,hk h2.t,hk h2.i,h2.st,h2.si,h2.ti,h2.ast,h2.asi,h2.ati⟩,h3⟩
 ·rename_i he
  rw[if_neg he];obtain⟨h0,Au,Av,b1,h1,h2,h3,h4,h5⟩:=h;exact⟨h0,Au,Av,b1,zCa h1 dE ho hP,hk h2,hn h3,hn h4,h5⟩
theorem zDh.blk{w:World}{base:Nat}{v:Value}{L:List (Nat × Nat)}(h:zDh w base v L):∀g,v.ownBlock=some g->∃cs,Blk w g zAf cs:=by
 intro g hg;rcases h.2 with⟨rfl,h0⟩|⟨g',cap,cur,rfl,k1,k2,k3,k4,k5,k6⟩
 ·cases hg
 ·simp only[Value.ownBlock,Option.some.injEq]at hg
  subst hg;exact⟨cur,k2⟩
theorem yQ.z{S:List Nat}{w w':World}(h:yQ S w w'):zM (fun b=>b∈S) w w':=⟨h.bel,h.lext,fun k hk hn=>h.old k hk hn⟩
theorem zFn{e0:Bool}{Z:Nat->Prop}{B:Nat}(hB:BSd B){bw n Cs Ct:Nat}{Ah:Value}{x:Bst}{w:World}{J J':Nat->Bst->List (Nat × Nat)->Prop}(hE:zOK B n Cs Ct J J')(h:zAj e0 Z w bw Ah n Cs Ct x)(h0:J 0 x [])
  (hn:n<=1000000) (hCs:Cs<=1000000) (hCt:Ct<=1000000) (hn0:0<n) (hZ:∀b,Z b->b<w.heap.size) (hgz:∀g,Ah.ownBlock=some g->¬ Z g):
  Calls Tryz.prog 124 #[Ah,.agg (zAx bw)] w fun e w'=>∃v y Lp,e= .returned v/\zM Z w w'/\zAj e0 Z w' bw Ah n Cs Ct y/\J n y Lp/\zDh w' w.heap.size v Lp:=by
 have HE:=xgv hE;obtain⟨bss0,hw0,-⟩:=h.wri;obtain⟨so,sn,scap,rfl,s1,s2,s3,-⟩:=id (zJ.rows hw0);have e2:n=sn:=by rw[<-s1];simp[genM]
 subst e2;obtain⟨g,_,rfl,-⟩:=zJ.at_ hw0 (i:=0) (by rw[hw0.len];exact hn0);have hgz:=hgz g rfl;have HJ0:=xgv h0;clear s1 hw0 bss0 h0 hE;go_enter Tryz.func124,Tryz.ntmps124;go_upto_region 1 with(fail)
 refine zC ?_;intro W0 hW0;obtain⟨hB0,T3,hs0⟩:=zN hW0;have T3:Blk W0 w.heap.size 143 (zAx bw):=T3;have hO:=zM.of Z hB0;have hz:=h.below hB0;have HL:=xgv (zDh.nil W0 w.heap.size);clear hW0 h;go_wp2;go_loopw [5,12] (fun pv mv wr=>∃(m:Nat) (x:Bst) (Lp:List (Nat × Nat)),mv= .int .i64 m/\m<=n/\zM Z w wr/\Blk wr w.heap.size 143 (zAx bw)/\zAj e0 Z wr bw (.slice (some ⟨g,0,none⟩) n scap) n Cs Ct x/\qM (J m x Lp)/\qM (zDh wr w.heap.size pv Lp)) (fun _ mv _=>n-(intOf mv).toNat)
 case atStart=>exact⟨0,x,[],rfl,by omega,hO,T3,hz,HJ0,HL⟩
 case round=>
  clear hO T3 hz HL HJ0;obtain⟨m,x,Lp,rfl,hm,hO,T3,hz,HJ,HL⟩:=hrel;by_cases hlt:m<n
  ·obtain ⟨bm,o1,hrow,lg⟩:=hz.row hlt
   obtain⟨wc,hwc⟩:∃wc,wc=wr:=⟨_,rfl⟩;have oc:=o1;rw[<-hwc]at oc;have hgc:wr.heap[g]?=wc.heap[g]?:=by rw[hwc]
   have hVec:=hrow.vec (zE _ _) (xgf _) oM;go_wp2_with fail
   refine(zBs _ _ _ hVec).mono ?_;rintro e w1 ⟨rfl,hb1⟩;rw[zFr];have hz:=hz.below hb1;have T3:=T3.below hb1;have hO:=hO.trans (zM.of Z hb1);have HL:=xgv (HL.out.below hb1);have hgc:=(hb1.block g oM).trans hgc;clear o1 hrow hVec hwc;obtain⟨c0,hc0⟩:∃c0,lead Cs x.s m=c0:=⟨_,rfl⟩;have HC0:=xgw hc0;rw[hc0];clear hc0;obtain⟨pv0,hpv0⟩:∃p,p=u5:=⟨_,rfl⟩;subst hpv0;obtain⟨ao,lcap,rfl,hlc,hcap,hP0⟩:=id HL.out.piv;have hP0:=xgv hP0;go_wp2;go_loopw [5,8,9] (fun pv kv cv wt=>∃(x:Bst) (k:Nat) (c:Int),pv= .slice ao Lp.length lcap/\kv= .int .i64 k/\cv= .int .i64 c/\k<=Lp.length/\Hid (lead Cs x.s m=c)/\qM (∀i,i<k->((Lp.getD i (0,0)).2:Int)<c∨c<0)/\zM Z w wt/\Blk wt w.heap.size 143 (zAx bw)/\zAj e0 Z wt bw (.slice (some ⟨g,0,none⟩) n scap) n Cs Ct x/\qM (J m x Lp)/\qM (zDh wt w.heap.size (.slice ao Lp.length lcap) Lp)/\wt.heap[g]?=wc.heap[g]?) (fun _ _ cv _=>if intOf cv<0 then 0 else Cs-(intOf cv).toNat)
   case atStart=>exact⟨x,0,c0,rfl,rfl,rfl,Nat.zero_le _,HC0,⟨fun i hi=>by omega⟩,hO,T3,hz,HJ,HL,hgc⟩
   case round=>
    clear hO T3 hz HL HJ HC0 hgc;rename World=>wt
    obtain⟨x,k,c,rfl,rfl,rfl,hk,HC,HI,hO,T3,hz,HJ,HL,hgc⟩:=hrel;by_cases hc0:c<0
    ·have hge:¬ (0<=c):=by omega
     have HJ':=xgv (HE.out.zero m x Lp hlt HJ.out (by rw[HC.out];exact hc0));obtain⟨c1,c2,c3,c4,c5,c6⟩:=T3.three;go_wp2_with fail
     obtain⟨hokx,hLO⟩:=HE.out.ok' m x Lp hlt HJ'.out;obtain⟨y,hy,hJy⟩:=HE.out.red m x Lp hlt HJ'.out;have hown:=HL.out.own;refine(zAs hB hz hokx HL.out.piv (fun b hb hzb=>by have:=(hown b hb).1;have:=hZ b hzb;omega) (fun k hk=>(hLO.mem k hk).2.1) hLO.inj (fun k hk=>(hLO.mem k hk).2.2.1) hn hCs hCt hLO.len (fun b hb=>Nat.lt_of_lt_of_le (hZ b hb) hO.bel.size) hn0 hy).mono ?_;rintro e wz ⟨⟨uz,rfl⟩,hOz,hz,-⟩;have T3:=hOz.blk T3 (fun hh=>by have:=hZ _ hh;omega);have HL:=xgv (HL.out.old (fun g hg=>hOz.old g (hown g hg).2 (fun hzb=>by have:=(hown g hg).1;have:=hZ g hzb;omega)));have hO:=hO.trans hOz;have HJ:=xgv hJy;clear hokx hLO hy hJy hown c1 c2 c3 c4 c5 c6;go_wp2;go_roundw
     case rel=>exact⟨m+1,y,_,by simp,by omega,hO,T3,hz,HJ,HL⟩
     case measure=>simp[intOf];omega
    ·obtain⟨cn,rfl⟩:∃cn:Nat,c=(cn:Int):=⟨c.toNat,by omega⟩
     have hge:(0:Int)<=cn:=by omega
     go_wp2;go_loopw [8] (fun kv wv=>∃k:Nat,kv= .int .i64 k/\k<=Lp.length/\qM (∀i,i<k->(Lp.getD i (0,0)).2<cn)/\wv=wt) (fun kv _=>Lp.length-(intOf kv).toNat)
     case atStart=>exact⟨k,rfl,hk,⟨fun i hi=>by rcases HI.out i hi with h|h<;>omega⟩,rfl⟩
     case round=>
      obtain⟨k',rfl,hk',HI',hwv⟩:=hrel;have hwv:=hwv.symm;subst hwv;by_cases hkl:k'<Lp.length
      ·obtain⟨bp,_,rfl,-,-⟩:=hP0.out oM
       obtain⟨-,lbp,p1,p2⟩:=HL.out.piv.cell hkl;obtain⟨q,hq⟩:∃q,(Lp.getD k' (0,0)).2=q:=⟨_,rfl⟩;rw[hq]at p2;have HQ:=xgv hq;clear hq;by_cases hqc:q<cn
       ·go_wp2
        go_roundw
        case rel=>
         refine⟨k'+1,by simp,by omega,⟨?_⟩,trivial⟩;intro i hi;rcases Nat.lt_succ_iff_lt_or_eq.1 hi with h|rfl
         ·exact HI'.out i h
         ·rw[HQ.out];exact hqc
        case measure=>simp[intOf];omega
       ·by_cases hqe:q=cn
        ·subst hqe
         have hsn:=zAA HC.out;have hokx:=HE.out.ok m x Lp HJ.out;obtain⟨hj1,hj2,hj3⟩:=HE.out.join m x Lp k' q hlt HJ.out HC.out hkl HQ.out;obtain⟨m1,m2,m3,m4⟩:=hokx.2.mem k' hkl;rw[HQ.out]at m3 m4;obtain⟨c1,c2,c3,c4,c5,c6⟩:=T3.three;obtain⟨ρk,hρk⟩:∃r,(Lp.getD k' (0,0)).1=r:=⟨_,rfl⟩;rw[hρk]at p1 hj1 hj2 hj3 m1 m2 m4;have l3:=T3.lt;obtain⟨-,-,-,lg⟩:=hz.row hlt;have HOK:=xgv hokx.1;have HJ1:=xgv hj1;have HJ2:=xgv hj2;have HJ3:=xgv hj3;have HM4:=xgv m4;have hqC:=hsn.1;clear hsn hokx hj1 hj2 hj3 m4 hρk;go_upto_region 12 with(fail)
         refine zB 7 rfl (RI wt (wt.heap.size) _ 51
           [VSl 0 51 g n scap,E 1 52 (.slice (some ⟨bp,0,none⟩) Lp.length lcap),E 2 53 (.int .i64 k'),VP 3 54 bp (k'*2),E 4 55 (.agg #[.int .i64 ρk,.int .i64 q]),VN 5 56 m,E 6 57 (.agg (zAx bw))] [] []) kR RI.start (RI.fin kR ?fin1) ?steps1
         case steps1=>
          refine⟨?_,?_,?_,?_,?_,?_,?_,trivial⟩<;>(intro L T wS hL hd hcl hI K hK;try refine zA rfl ?_)
          ·exact xgs (hI.k 0 rfl kR)
          ·exact xgs (hI.k 5 rfl kR)
          ·exact xgs (hI.k 8 rfl kR)
          ·exact xgt (hI.e mm1 (hd 1)) (hI.e mm2 (hd 2))
          ·have zt3:=hI.e mm3 (hd 3)
           have cc0:=hI.cell p1 oM nom;have cc1:=hI.cell p2 oM nom;exact xgu
          ·exact xgs (hI.k 6 rfl kR)
          ·have zt:=hI.k 3 rfl kR
           have cc0:=hI.cell c1 oM nom;have cc1:=hI.cell c2 oM nom;have cc2:=hI.cell c3 oM nom;exact xgu
         intro w5 hlw5 hbw5 holdw5 T hT;simp only[Fin,E,EI,VP,VSl,VN,xgg,xgh,xgi,xgj]at hT;subst hT;simp only[xgl,xgk];have hz:=hz.below hbw5;have T3:=T3.below hbw5;have hO:=hO.trans (zM.of Z hbw5);have HL:=xgv (HL.out.below hbw5);have hgc:=(hbw5.block g lg).trans hgc;have lg:=Nat.lt_of_lt_of_le lg hbw5.size;clear p1 p2 c1 c2 c3 c4 c5 c6;go_wp2_with fail
         refine(zL7 hB hz HOK.out m2 hlt oM hqC HM4.out hn hCs hCt (fun b hb=>Nat.lt_of_lt_of_le (hZ b hb) hO.bel.size) HJ1.out HJ2.out).mono ?_;rintro e wj ⟨⟨uj,rfl⟩,hOj,y,hJR,hz⟩;obtain⟨hJy,hly⟩:=HJ3.out y hJR;have T3:=hOj.blk T3 (fun hh=>by have:=hZ _ hh;omega);have hown:=HL.out.own;have HL:=xgv (HL.out.old (fun g hg=>hOj.old g (hown g hg).2 (fun hzb=>by have:=(hown g hg).1;have:=hZ g hzb;omega)));have hO:=hO.trans hOj;have hgc:=(hOj.old g lg hgz).trans hgc;have HJY:=xgv hJy;have HLY:=xgv hly;clear hJR hJy hly hown;have hVec:=(hz.rowB hlt oc hgc).vec (zE _ _) (xgf _) oM;go_wp2_with fail
         refine(zBs _ _ _ hVec).mono ?_;rintro e wl ⟨rfl,hbl⟩;rw[zFr];obtain⟨-,-,-,lg⟩:=hz.row hlt;have hz:=hz.below hbl;have T3:=T3.below hbl;have hO:=hO.trans (zM.of Z hbl);have HL:=xgv (HL.out.below hbl);have hgc:=(hbl.block g lg).trans hgc;clear hVec;obtain⟨cy,hcy⟩:∃cy,lead Cs y.s m=cy:=⟨_,rfl⟩;have HCY:=xgw hcy;rw[hcy];rw[hcy]at HLY;clear hcy;go_wp2;go_roundw
         case rel=>
          refine⟨y,k',cy,rfl,rfl,rfl,hk',HCY,⟨fun i hi=>?_⟩,hO,T3,hz,HJY,HL,hgc⟩;have:=HI'.out i hi;rcases HLY.out with h|h
          ·exact .inr h
          ·left;omega
         case measure=>
          have:=HLY.out;have hg:(if cy<0 then 0 else Cs-cy.toNat)<(if(q:Int)<0 then 0 else Cs-((q:Int)).toNat):=by
           rw[if_neg (show ¬ ((q:Int)<0) by omega)];split<;>omega
          exact hg
        ·have hLO:=(HE.out.ok m x Lp HJ.out).2.inc
         have HG:∀i,k'<=i->i<Lp.length->cn<(Lp.getD i (0,0)).2:=by
          intro i h1 h2;rcases Nat.lt_or_eq_of_le h1 with h|rfl
          ·have:=hLO k' i h h2
           have:=HQ.out;omega
          ·have:=HQ.out
           omega
         clear hLO;have hsn:=zAA HC.out;have hrow:=hz.rowB hlt oc hgc;obtain⟨xs,xa,xl,xc,v1,v2,f1,f2,hx⟩:=hrow.cell (zW hsn.1);have hcC:=hsn.1;go_wp2_with fail
         refine(jE _ (x.s m cn) wt hx.weak).mono ?_;rintro e ws ⟨rfl,hbs⟩;have hz:=hz.below hbs;have T3:=T3.below hbs;have hO:=hO.trans (zM.of Z hbs);have HL:=xgv (HL.out.below hbs);have hsn2:=hsn.2;have HJ':=HE.out.ins m x Lp k' cn hlt HJ.out HC.out oM HI'.out HG;have hokx:=(HE.out.ok m x Lp HJ.out).1;have hlen:Lp.length<=1000000:=Nat.le_trans (HE.out.ok m x Lp HJ.out).2.len hn;clear hsn hrow v1 v2 f1 f2 hx HG;by_cases hneg:x.s m cn<0
         ·rw[if_pos hneg]at HJ'
          have HJ':=xgv HJ';rw[show qO (x.s m cn) 0=-1 by unfold qO;rw[if_pos hneg]];have HOK:=xgv hokx;clear hneg hsn2 hokx;obtain⟨c1,c2,c3,c4,c5,c6⟩:=T3.three;go_wp2_with fail
          refine(zQF hB.bsm hz HOK.out hlt hn hCs hCt).mono ?_;rintro e wn ⟨⟨un,rfl⟩,hOn,hz⟩;have T3:=hOn.blk T3 (fun hh=>by have:=hZ _ hh;omega);have hown:=HL.out.own;have HL:=xgv (HL.out.old (fun g hg=>hOn.old g (hown g hg).2 (fun hzb=>by have:=(hown g hg).1;have:=hZ g hzb;omega)));have hO:=hO.trans hOn;clear hown c1 c2 c3 c4 c5 c6;go_wp2_with fail
          obtain⟨wi,hwi⟩:∃wi,wi=wn.alloc (Obj.cells #[Value.int IntKind.i64 m,Value.int IntKind.i64 cn] 145):=⟨_,rfl⟩;rw[<-hwi];have hbi:Below wn.heap.size wn wi:=by rw[hwi];exact(Below.refl _ _).alloc (xgf _) _
          have hBk:Blk wi wn.heap.size zAf #[Value.int IntKind.i64 m,Value.int IntKind.i64 cn]:=by rw[hwi];exact Blk.new _ _ _
          have hown:=HL.out.own;have hz:=hz.below hbi;have T3:=T3.below hbi;have hO:=hO.trans (zM.of Z hbi);have HL:=HL.out.below hbi;clear hwi;refine(zCB w.heap.size _ Lp k' m cn wn.heap.size wi HL oM hBk (fun b hb=>Nat.ne_of_lt (hown b hb).2) hO.bel.size hlen).mono ?_;rintro e wk ⟨v',rfl,hv',hko⟩;have hPB:∀b,b∈(Value.ownBlock _).toList->∃cs,Blk wi b zAf cs:=fun b hb=>HL.blk b (by simpa using hb)
          have hz:=hz.pivs hko.z hPB;have T3:=zCa T3 dE hko.z hPB;have hO:zM Z w wk:=⟨hO.bel.trans hko.bel,hO.lext.trans hko.lext,fun b hb hn=>(hko.old b (Nat.lt_of_lt_of_le hb hO.bel.size) (fun hm=>by
           have:=(HL.own b (by simpa using hm)).1;omega)).trans (hO.old b hb hn)⟩
          have HL:=xgv hv';clear hown hv' hko hPB hBk;obtain⟨c1,c2,c3,c4,c5,c6⟩:=T3.three;go_wp2_with fail
          obtain⟨hokx,hLO⟩:=HE.out.ok' m (x.neg m) (Lp.take k'++(m,cn)::Lp.drop k') hlt HJ'.out;obtain⟨y,hy,hJy⟩:=HE.out.red m (x.neg m) (Lp.take k'++(m,cn)::Lp.drop k') hlt HJ'.out;have hown:=HL.out.own;refine(zAs hB hz hokx HL.out.piv (fun b hb hzb=>by have:=(hown b hb).1;have:=hZ b hzb;omega) (fun k hk=>(hLO.mem k hk).2.1) hLO.inj (fun k hk=>(hLO.mem k hk).2.2.1) hn hCs hCt hLO.len (fun b hb=>Nat.lt_of_lt_of_le (hZ b hb) hO.bel.size) hn0 hy).mono ?_;rintro e wz ⟨⟨uz,rfl⟩,hOz,hz,-⟩;have T3:=hOz.blk T3 (fun hh=>by have:=hZ _ hh;omega);have HL:=xgv (HL.out.old (fun g hg=>hOz.old g (hown g hg).2 (fun hzb=>by have:=(hown g hg).1;have:=hZ g hzb;omega)));have hO:=hO.trans hOz;have HJ:=xgv hJy;clear hokx hLO hy hJy hown c1 c2 c3 c4 c5 c6;go_wp2;go_roundw
          case rel=>exact⟨m+1,y,_,by simp,by omega,hO,T3,hz,HJ,HL⟩
          case measure=>simp[intOf];omega
         ·rw[if_neg hneg]at HJ'
          have HJ':=xgv HJ';rw[show qO (x.s m cn) 0=1 by unfold qO;rw[if_neg hneg,if_pos oM]];clear hneg hsn2 hokx;go_wp2_with fail
          obtain⟨wi,hwi⟩:∃wi,wi=ws.alloc (Obj.cells #[Value.int IntKind.i64 m,Value.int IntKind.i64 cn] 145):=⟨_,rfl⟩;rw[<-hwi];have hbi:Below ws.heap.size ws wi:=by rw[hwi];exact(Below.refl _ _).alloc (xgf _) _
          have hBk:Blk wi ws.heap.size zAf #[Value.int IntKind.i64 m,Value.int IntKind.i64 cn]:=by rw[hwi];exact Blk.new _ _ _
          have hown:=HL.out.own;have hz:=hz.below hbi;have T3:=T3.below hbi;have hO:=hO.trans (zM.of Z hbi);have HL:=HL.out.below hbi;clear hwi;refine(zCB w.heap.size _ Lp k' m cn ws.heap.size wi HL oM hBk (fun b hb=>Nat.ne_of_lt (hown b hb).2) hO.bel.size hlen).mono ?_;rintro e wk ⟨v',rfl,hv',hko⟩;have hPB:∀b,b∈(Value.ownBlock _).toList->∃cs,Blk wi b zAf cs:=fun b hb=>HL.blk b (by simpa using hb)
          have hz:=hz.pivs hko.z hPB;have T3:=zCa T3 dE hko.z hPB;have hO:zM Z w wk:=⟨hO.bel.trans hko.bel,hO.lext.trans hko.lext,fun b hb hn=>(hko.old b (Nat.lt_of_lt_of_le hb hO.bel.size) (fun hm=>by
           have:=(HL.own b (by simpa using hm)).1;omega)).trans (hO.old b hb hn)⟩
          have HL:=xgv hv';clear hown hv' hko hPB hBk;obtain⟨c1,c2,c3,c4,c5,c6⟩:=T3.three;go_wp2_with fail
          obtain⟨hokx,hLO⟩:=HE.out.ok' m x (Lp.take k'++(m,cn)::Lp.drop k') hlt HJ'.out;obtain⟨y,hy,hJy⟩:=HE.out.red m x (Lp.take k'++(m,cn)::Lp.drop k') hlt HJ'.out;have hown:=HL.out.own;refine(zAs hB hz hokx HL.out.piv (fun b hb hzb=>by have:=(hown b hb).1;have:=hZ b hzb;omega) (fun k hk=>(hLO.mem k hk).2.1) hLO.inj (fun k hk=>(hLO.mem k hk).2.2.1) hn hCs hCt hLO.len (fun b hb=>Nat.lt_of_lt_of_le (hZ b hb) hO.bel.size) hn0 hy).mono ?_;rintro e wz ⟨⟨uz,rfl⟩,hOz,hz,-⟩;have T3:=hOz.blk T3 (fun hh=>by have:=hZ _ hh;omega);have HL:=xgv (HL.out.old (fun g hg=>hOz.old g (hown g hg).2 (fun hzb=>by have:=(hown g hg).1;have:=hZ g hzb;omega)));have hO:=hO.trans hOz;have HJ:=xgv hJy;clear hokx hLO hy hJy hown c1 c2 c3 c4 c5 c6;go_wp2;go_roundw
          case rel=>exact⟨m+1,y,_,by simp,by omega,hO,T3,hz,HJ,HL⟩
          case measure=>simp[intOf];omega
      ·obtain rfl:k'=Lp.length:=by omega
       have HG:∀i,Lp.length<=i->i<Lp.length->cn<(Lp.getD i (0,0)).2:=fun i h1 h2=>by omega
       have hsn:=zAA HC.out;have hrow:=hz.rowB hlt oc hgc;obtain⟨xs,xa,xl,xc,v1,v2,f1,f2,hx⟩:=hrow.cell (zW hsn.1);have hcC:=hsn.1;go_wp2_with fail
       refine(jE _ (x.s m cn) wt hx.weak).mono ?_;rintro e ws ⟨rfl,hbs⟩;have hz:=hz.below hbs;have T3:=T3.below hbs;have hO:=hO.trans (zM.of Z hbs);have HL:=xgv (HL.out.below hbs);have hsn2:=hsn.2;have HJ':=HE.out.ins m x Lp Lp.length cn hlt HJ.out HC.out oM HI'.out HG;have hokx:=(HE.out.ok m x Lp HJ.out).1;have hlen:Lp.length<=1000000:=Nat.le_trans (HE.out.ok m x Lp HJ.out).2.len hn;clear hsn hrow v1 v2 f1 f2 hx HG;by_cases hneg:x.s m cn<0
       ·rw[if_pos hneg]at HJ'
        have HJ':=xgv HJ';rw[show qO (x.s m cn) 0=-1 by unfold qO;rw[if_pos hneg]];have HOK:=xgv hokx;clear hneg hsn2 hokx;obtain⟨c1,c2,c3,c4,c5,c6⟩:=T3.three;go_wp2_with fail
        refine(zQF hB.bsm hz HOK.out hlt hn hCs hCt).mono ?_;rintro e wn ⟨⟨un,rfl⟩,hOn,hz⟩;have T3:=hOn.blk T3 (fun hh=>by have:=hZ _ hh;omega);have hown:=HL.out.own;have HL:=xgv (HL.out.old (fun g hg=>hOn.old g (hown g hg).2 (fun hzb=>by have:=(hown g hg).1;have:=hZ g hzb;omega)));have hO:=hO.trans hOn;clear hown c1 c2 c3 c4 c5 c6;go_wp2_with fail
        obtain⟨wi,hwi⟩:∃wi,wi=wn.alloc (Obj.cells #[Value.int IntKind.i64 m,Value.int IntKind.i64 cn] 145):=⟨_,rfl⟩;rw[<-hwi];have hbi:Below wn.heap.size wn wi:=by rw[hwi];exact(Below.refl _ _).alloc (xgf _) _
        have hBk:Blk wi wn.heap.size zAf #[Value.int IntKind.i64 m,Value.int IntKind.i64 cn]:=by rw[hwi];exact Blk.new _ _ _
        have hown:=HL.out.own;have hz:=hz.below hbi;have T3:=T3.below hbi;have hO:=hO.trans (zM.of Z hbi);have HL:=HL.out.below hbi;clear hwi;refine(zCB w.heap.size _ Lp Lp.length m cn wn.heap.size wi HL oM hBk (fun b hb=>Nat.ne_of_lt (hown b hb).2) hO.bel.size hlen).mono ?_;rintro e wk ⟨v',rfl,hv',hko⟩;have hPB:∀b,b∈(Value.ownBlock _).toList->∃cs,Blk wi b zAf cs:=fun b hb=>HL.blk b (by simpa using hb)
        have hz:=hz.pivs hko.z hPB;have T3:=zCa T3 dE hko.z hPB;have hO:zM Z w wk:=⟨hO.bel.trans hko.bel,hO.lext.trans hko.lext,fun b hb hn=>(hko.old b (Nat.lt_of_lt_of_le hb hO.bel.size) (fun hm=>by
         have:=(HL.own b (by simpa using hm)).1;omega)).trans (hO.old b hb hn)⟩
        have HL:=xgv hv';clear hown hv' hko hPB hBk;obtain⟨c1,c2,c3,c4,c5,c6⟩:=T3.three;go_wp2_with fail
        obtain⟨hokx,hLO⟩:=HE.out.ok' m (x.neg m) (Lp.take Lp.length++(m,cn)::Lp.drop Lp.length) hlt HJ'.out;obtain⟨y,hy,hJy⟩:=HE.out.red m (x.neg m) (Lp.take Lp.length++(m,cn)::Lp.drop Lp.length) hlt HJ'.out;have hown:=HL.out.own;refine(zAs hB hz hokx HL.out.piv (fun b hb hzb=>by have:=(hown b hb).1;have:=hZ b hzb;omega) (fun k hk=>(hLO.mem k hk).2.1) hLO.inj (fun k hk=>(hLO.mem k hk).2.2.1) hn hCs hCt hLO.len (fun b hb=>Nat.lt_of_lt_of_le (hZ b hb) hO.bel.size) hn0 hy).mono ?_;rintro e wz ⟨⟨uz,rfl⟩,hOz,hz,-⟩;have T3:=hOz.blk T3 (fun hh=>by have:=hZ _ hh;omega);have HL:=xgv (HL.out.old (fun g hg=>hOz.old g (hown g hg).2 (fun hzb=>by have:=(hown g hg).1;have:=hZ g hzb;omega)));have hO:=hO.trans hOz;have HJ:=xgv hJy;clear hokx hLO hy hJy hown c1 c2 c3 c4 c5 c6;go_wp2;go_roundw
        case rel=>exact⟨m+1,y,_,by simp,by omega,hO,T3,hz,HJ,HL⟩
        case measure=>simp[intOf];omega
       ·rw[if_neg hneg]at HJ'
        have HJ':=xgv HJ';rw[show qO (x.s m cn) 0=1 by unfold qO;rw[if_neg hneg,if_pos oM]];clear hneg hsn2 hokx;go_wp2_with fail
        obtain⟨wi,hwi⟩:∃wi,wi=ws.alloc (Obj.cells #[Value.int IntKind.i64 m,Value.int IntKind.i64 cn] 145):=⟨_,rfl⟩;rw[<-hwi];have hbi:Below ws.heap.size ws wi:=by rw[hwi];exact(Below.refl _ _).alloc (xgf _) _
        have hBk:Blk wi ws.heap.size zAf #[Value.int IntKind.i64 m,Value.int IntKind.i64 cn]:=by rw[hwi];exact Blk.new _ _ _
        have hown:=HL.out.own;have hz:=hz.below hbi;have T3:=T3.below hbi;have hO:=hO.trans (zM.of Z hbi);have HL:=HL.out.below hbi;clear hwi;refine(zCB w.heap.size _ Lp Lp.length m cn ws.heap.size wi HL oM hBk (fun b hb=>Nat.ne_of_lt (hown b hb).2) hO.bel.size hlen).mono ?_;rintro e wk ⟨v',rfl,hv',hko⟩;have hPB:∀b,b∈(Value.ownBlock _).toList->∃cs,Blk wi b zAf cs:=fun b hb=>HL.blk b (by simpa using hb)
        have hz:=hz.pivs hko.z hPB;have T3:=zCa T3 dE hko.z hPB;have hO:zM Z w wk:=⟨hO.bel.trans hko.bel,hO.lext.trans hko.lext,fun b hb hn=>(hko.old b (Nat.lt_of_lt_of_le hb hO.bel.size) (fun hm=>by
         have:=(HL.own b (by simpa using hm)).1;omega)).trans (hO.old b hb hn)⟩
        have HL:=xgv hv';clear hown hv' hko hPB hBk;obtain⟨c1,c2,c3,c4,c5,c6⟩:=T3.three;go_wp2_with fail
        obtain⟨hokx,hLO⟩:=HE.out.ok' m x (Lp.take Lp.length++(m,cn)::Lp.drop Lp.length) hlt HJ'.out;obtain⟨y,hy,hJy⟩:=HE.out.red m x (Lp.take Lp.length++(m,cn)::Lp.drop Lp.length) hlt HJ'.out;have hown:=HL.out.own;refine(zAs hB hz hokx HL.out.piv (fun b hb hzb=>by have:=(hown b hb).1;have:=hZ b hzb;omega) (fun k hk=>(hLO.mem k hk).2.1) hLO.inj (fun k hk=>(hLO.mem k hk).2.2.1) hn hCs hCt hLO.len (fun b hb=>Nat.lt_of_lt_of_le (hZ b hb) hO.bel.size) hn0 hy).mono ?_;rintro e wz ⟨⟨uz,rfl⟩,hOz,hz,-⟩;have T3:=hOz.blk T3 (fun hh=>by have:=hZ _ hh;omega);have HL:=xgv (HL.out.old (fun g hg=>hOz.old g (hown g hg).2 (fun hzb=>by have:=(hown g hg).1;have:=hZ g hzb;omega)));have hO:=hO.trans hOz;have HJ:=xgv hJy;clear hokx hLO hy hJy hown c1 c2 c3 c4 c5 c6;go_wp2;go_roundw
        case rel=>exact⟨m+1,y,_,by simp,by omega,hO,T3,hz,HJ,HL⟩
        case measure=>simp[intOf];omega
  ·obtain rfl:m=n:=by omega
   go_wp2;go_ret;exact⟨_,x,Lp,rfl,hO,hz,HJ.out,HL.out⟩
abbrev tNn:TypeId:=3
theorem Tryz.infoNn:(Tryz.prog.info? tNn).map (fun i=>(i.zero,i.size,i.bytes))=some (some (.int .i64 0),1,8):=by kernel_rfl
def yZ(w:World)(ao:Option Addr)(xs:List Nat):Prop:=
 (∀x∈xs,x<=1000000)/\(xs≠ []->∃b off cs,ao=some ⟨b,off,none⟩/\w.heap[b]?=some (.cells cs tNn (0,0))/\∀k x,xs[k]?=some x->cs[off+k]?=some (.int .i64 (x:Nat)))
theorem yZ.nil(w:World)(ao:Option Addr):yZ w ao []:=⟨by simp,fun h=>absurd rfl h⟩
theorem yZ.block{w w':World}{ao:Option Addr}{xs:List Nat}(h:yZ w ao xs)(e:∀b off,ao=some ⟨b,off,none⟩->b<w.heap.size->w'.heap[b]?=w.heap[b]?):yZ w' ao xs:=
 ⟨h.1,fun hn=>by
  obtain⟨b,off,cs,h1,h2,h3⟩:=h.2 hn;exact⟨b,off,cs,h1,(e b off h1 (Array.getElem?_eq_some_iff.1 h2).1).trans h2,h3⟩⟩
theorem yZ.below{w w':World}{ao:Option Addr}{xs:List Nat}(h:yZ w ao xs)(e:Below w.heap.size w w'):yZ w' ao xs:=h.block fun b _ _ hb=>e.block b hb
theorem yZ.take{w:World}{ao:Option Addr}{xs:List Nat}(h:yZ w ao xs)(k:Nat):yZ w ao (xs.take k):=
 ⟨fun x hx=>h.1 x (List.mem_of_mem_take hx),fun hn=>by
  obtain⟨b,off,cs,h1,h2,h3⟩:=h.2 (by rintro rfl;simp at hn);refine⟨b,off,cs,h1,h2,fun j x hj=>h3 j x ?_⟩;rw[List.getElem?_take]at hj;split at hj
  ·exact hj
  ·cases hj⟩
theorem yZ.drop{w:World}{b off:Nat}{xs:List Nat}(h:yZ w (some ⟨b,off,none⟩) xs)(k:Nat):yZ w (some ⟨b,off+k,none⟩) (xs.drop k):=
 ⟨fun x hx=>h.1 x (List.mem_of_mem_drop hx),fun hn=>by
  obtain⟨b',off',cs,h1,h2,h3⟩:=h.2 (by rintro rfl;simp at hn);injection h1 with h1
  injection h1 with h1 h4
  subst h1;subst h4;refine⟨_,_,cs,rfl,h2,fun j x hj=>?_⟩;rw[List.getElem?_drop]at hj;rw[Nat.add_assoc];exact h3 _ x hj⟩
def zA3(w:World)(base:Nat)(v:Value)(xs:List Nat):Prop:=(∀x∈xs,x<=1000000)/\w.ownsRow base tNn 1 v xs.length (xs.map fun n=>Value.int .i64 (n:Nat))
theorem zA3.at_{w:World}{base:Nat}{v:Value}{xs:List Nat}(h:zA3 w base v xs):
  ∃ao cap,v= .slice ao xs.length cap/\xs.length<=cap/\cap<=9223372036854775807/\yZ w ao xs:=by
 obtain⟨hl,h1,h2⟩:=h;rcases h2 with⟨rfl,h0⟩|⟨g,cap,cur,rfl,hg,hh,hn,hc,hs,ht⟩
 ·have:xs= []:=List.eq_nil_of_length_eq_zero h0
  subst this;exact⟨none,0,rfl,by simp,by omega,yZ.nil _ _⟩
 ·refine⟨some ⟨g,0,none⟩,cap,rfl,hn,hc,hl,fun _=>⟨g,0,cur,rfl,hh,fun k x hk=>?_⟩⟩
  have hk':(xs.map fun n=>Value.int .i64 (n:Nat))[k]?=some (.int .i64 (x:Nat)):=by simp[hk]
  rw[<-ht,List.getElem?_take]at hk';split at hk'
  ·simpa using hk'
  ·cases hk'
theorem zA3.own{w:World}{base:Nat}{v:Value}{xs:List Nat}(h:zA3 w base v xs):∀g,v.ownBlock=some g->base<=g/\g<w.heap.size:=h.2.lt
theorem zA3.empty(w:World)(base:Nat)(h:base<=w.heap.size):zA3 (w.alloc (.cells #[] tNn)) base (.slice (some ⟨w.heap.size,0,none⟩) 0 0) []:=
 ⟨by simp,by simp,.inr ⟨w.heap.size,0,#[],rfl,h,heap_alloc_new w _,xgf _,by simp[maxLen],rfl,rfl⟩⟩
theorem zA3.alloc{w:World}{base:Nat}{v:Value}{xs:List Nat}(h:zA3 w base v xs)(o:Obj):zA3 (w.alloc o) base v xs:=⟨h.1,h.2.alloc o⟩
theorem zA3.below{w w':World}{base:Nat}{v:Value}{xs:List Nat}(h:zA3 w base v xs)(hb:Below w.heap.size w w'):zA3 w' base v xs:=
 ⟨h.1,h.2.kept (row:=none) ⟨hb.os,hb.tape,hb.output,hb.size,fun k hk _=>hb.block k hk⟩ (by cases hv:v.ownBlock<;>simp)⟩
theorem wpN{o:Oper}{a:Act}{K:Act->World->Prop}{Q:Exit->Act->World->Prop}{w:World}(s x:Operand)
  (ho:o.op= .call {callee:=.builtin .append,args:=#[s,x],argTypes:=#[107,107]})
  (base:Nat) (v:Value) (xs:List Nat) (hs:a.eval s=v) (hown:zA3 w base v xs) (ao:Option Addr) (m c:Nat) (ys:List Nat) (hx:a.eval x= .slice ao m c) (hy:yZ w ao ys) (hm:ys.length=m)
  (hlen:xs.length+m<=17592186044416) (hbase:base<=w.heap.size)
  (h:∀v' w',zA3 w' base v' (xs++ys)->w.grownBy w' v.ownBlock->K (a.put o.dst v') w'):Oper.wp Tryz.prog o a w K Q:=by
 obtain⟨i0,hi,hz0,hz1,hz2⟩:=info_parts Tryz.infoNn;have hall:∀x∈xs++ys,x<=1000000:=fun x hx=>(List.mem_append.1 hx).elim (hown.1 x) (hy.1 x)
 by_cases hy0:ys= []
 ·subst hy0
  simp at hm;subst hm;have hrun:(Builtin.append_ #[107,107] o.type #[v,.slice ao 0 c]).run Tryz.prog w= .ok v w:=by
   cases ao with
   |none=>
    rcases hown.2.2 with⟨rfl,h0⟩|⟨g,cap,cur,rfl,_,_,hnc,_⟩
    ·simp[Builtin.append_,run_underlying Tryz.underlying107,sizeOf,typeInfo,hi,Builtin.lenOf,Builtin.firstCells,h0]
    ·simp[Builtin.append_,run_underlying Tryz.underlying107,sizeOf,typeInfo,hi,Builtin.lenOf,Builtin.firstCells,hnc,storeCells]
   |some ad=>
    have hf:=run_firstCells_some (P:=Tryz.prog) w i0.size 0 ad 0 c [] sI sI;rcases hown.2.2 with⟨rfl,h0⟩|⟨g,cap,cur,rfl,_,_,hnc,_⟩
    ·simp[Builtin.append_,run_underlying Tryz.underlying107,sizeOf,typeInfo,hi,Builtin.lenOf,hf,h0]
    ·simp[Builtin.append_,run_underlying Tryz.underlying107,sizeOf,typeInfo,hi,Builtin.lenOf,hf,hnc,storeCells]
  unfold Oper.wp;simp only[execOp,ho,resolve,invoke,builtin,Sem.run_bind,Sem.run_pure,Result.andThen_ok,List.map_toArray,List.map_cons,List.map_nil,hs,hx,hrun];exact h v w (by simpa using hown) (World.grownBy.refl w _)
 ·obtain⟨b,off,cs,rfl,h2,h3⟩:=hy.2 hy0
  refine wp_append_own w s x 107 ho base tNn i0 _ 1 8 Tryz.underlying107 hi hz0 hz1 hz2 rfl oM v xs.length _ hs hown.2 ⟨b,off,none⟩ m c (ys.map fun n=>Value.int .i64 (n:Nat)) hx (by simp[hm]) ?_ ?_ (by simp[maxLen];omega) oM hbase ?_
  ·intro j u hj
   simp only[List.getElem?_map,Option.map_eq_some_iff]at hj;obtain⟨x',hj,rfl⟩:=hj;rw[Addr.add_lit,cell_of_row w b (off+j) cs tNn _ h2];exact h3 j x' hj
  ·intro u hu
   simp only[List.mem_map]at hu;obtain⟨x',_,rfl⟩:=hu;rfl
  ·intro v' w' h1 h2 _
   refine h v' w' ⟨hall,?_⟩ h2;simpa[hm]using h1
theorem zP9{w:World}{ops:Array Oper}{rest:List Oper}{o:Oper}{a:Act}{Q:Exit->Act->World->Prop}(hgd:o.guard=none)(s x:Operand)
  (ho:o.op= .call {callee:=.builtin .append,args:=#[s,x],argTypes:=#[107,107]})
  (base:Nat) (v:Value) (xs:List Nat) (hs:a.eval s=v) (hown:zA3 w base v xs) (ao:Option Addr) (m c:Nat) (ys:List Nat) (hx:a.eval x= .slice ao m c) (hy:yZ w ao ys) (hm:ys.length=m)
  (hlen:xs.length+m<=17592186044416) (hbase:base<=w.heap.size)
  (h:∀v' w',zA3 w' base v' (xs++ys)->w.grownBy w' v.ownBlock->wpList Tryz.prog ops Q rest (a.put o.dst v') w'):wpList Tryz.prog ops Q (o::rest) a w:=
 wpList_plain hgd fun _ hK=>wpN s x ho base v xs hs hown ao m c ys hx hy hm hlen hbase fun v' w' h1 h2=>hK _ _ (h v' w' h1 h2)
end Go.Proofs.YtgnmdddaiefooaaGreat
