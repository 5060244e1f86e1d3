/- matrix.Transpose. smith: the work under way; work.divide. hermite: join. hermite: the pivots; reduce. Lists of pivots: slices.Insert. The law for regions that draw, where two elements of rows are written: at the end, but for operations that may come behind the first store. The law for regions that draw, where one operation (an append) may write into blocks S that nothing else reads. slices.Insert at pivots. hermite: eliminate. Slices of int: their own rows, append; torsionref05.Range. -/
import Derived.Lib.AppendZeros
import Derived.Lib.AppendZerosOnto
import Derived.Lib.Overlaps
import Derived.Laws.CopyRow
import Derived.Laws.Externs
import Derived.Test.YtnbmaipobhppcaaGreatE01
import Derived.Test.YtnbmaipobhppcaaGreatE03
import Derived.Test.YtnbmaipobhppcaaGreatE04
import Derived.Test.YtnbmaipobhppcaaGreatE06
import Derived.Test.YtnbmaipobhppcaaGreatE07
set_option linter.unusedVariables false
set_option linter.unusedSimpArgs false
set_option linter.unusedSectionVars false
set_option maxHeartbeats 16000000
set_option maxRecDepth 100000
namespace Go.Proofs.YtnbmaipobhppcaaGreat
open Go.RowKit
def zKC(f:Nat->Nat->Int)(i j:Nat):Nat->Nat->Int:=fun a b=>if b<i∨(b=i/\a<j)then f a b else 0
theorem zJ1(R C:Nat)(f:Nat->Nat->Int):zAP R C=zY R C (zKC f 0 0):=by
 rw[zCQ];exact qM fun i _ j _=>by unfold zKC;rw[if_neg oM]
theorem zNY{R C:Nat}{f:Nat->Nat->Int}{i:Nat}:zY R C (zKC f i R)=zY R C (zKC f (i+1) 0):=
 qM fun a ha b hb=>by
  unfold zKC;by_cases h:b<i∨(b=i/\a<R)
  ·rw[if_pos h,if_pos oM]
  ·rw[if_neg h,if_neg oM]
theorem zNX{R C:Nat}{f:Nat->Nat->Int}:zY R C (zKC f C 0)=zY R C f:=
 qM fun a ha b hb=>by unfold zKC;rw[if_pos oM]
theorem zLt{R C:Nat}{f:Nat->Nat->Int}{i j:Nat}(hi:i<C)(hj:j<R):zLh (zY R C (zKC f i j)) j i (f j i)=zY R C (zKC f i (j+1)):=by
 rw[zCC _ hj hi];exact qM fun a _ b _=>by
  unfold zKC;by_cases h:a=j/\b=i
  ·obtain⟨rfl,rfl⟩:=h
   rw[if_pos ⟨rfl,rfl⟩,if_pos oM]
  ·rw[if_neg h]
   by_cases h2:b<i∨(b=i/\a<j)
   ·rw[if_pos h2,if_pos oM]
   ·rw[if_neg h2,if_neg oM]
theorem zCW(v:Value)(R C:Nat)(M:List (List Int))(w:World)(h:jE w v R C M)(hF:jT R C M)(hR:R<=1000000)(hC:C<=1000000)(hS:∀r∈M,∀z∈r,Sm z):
  Calls Tryz.prog 155 #[v] w (zBB w C R (zY C R (fun a b=>ent M b a))):=by
 have h0:=h;obtain⟨A,rfl,h⟩:=h;obtain⟨ao,n,cap,rfl,e2,e3,e4,-⟩:=id h;have HX:=xgw e2;have HS:=xgv hS;have HF:=xgv hF;obtain rfl:n=R:=by rw[<-e2,hF.1]
 have hdv:decide (qX n C M)=true:=decide_eq_true hF.valid;obtain⟨f,hf⟩:∃f:Nat->Nat->Int,(fun a b=>ent M b a)=f:=⟨_,rfl⟩;rw[hf];have hfe:∀i j,f i j=ent M j i:=fun i j=>by rw[<-hf]
 have HFE:=xgv hfe;clear hf hfe e2 hS hF;go_enter Tryz.func155,Tryz.ntmps155;go_upto_region 1 with(fail)
 refine zB ?_;intro W0 hW0;obtain⟨hB0,bx1,br,hs0⟩:=qH hW0;obtain⟨c1,c2,c3,c4,c5,c6⟩:=bx1.three;clear hW0;go_wp2_with fail
 refine(yF _ n C M W0 (h0.below hB0)).mono ?_;rintro e w1 ⟨rfl,hb1⟩;rw[hdv];have bx1:=bx1.below hb1;have br:=br.below hb1;clear c1 c2 c3 c4 c5 c6 hdv;obtain⟨c1,c2,c3,c4,c5,c6⟩:=bx1.three;go_wp2_with fail
 refine(zIr C n w1 hC hR).mono ?_;rintro e w2 ⟨u,bs,rfl,⟨hbl,A2,rfl,ho⟩,hb2⟩;obtain⟨oo,on,oc,rfl,hon,-,-,-⟩:=id ho.rows;obtain rfl:C=on:=by rw[<-hon];simp[zAP]
 clear hon;have hlts:=ho.lts;have hBt:=nx hB0 hb1;have hszt:=hBt.size;have hB0s:=hB0.size;have hb1s:=hb1.size;clear c1 c2 c3 c4 c5 c6;go_upto_region 4 with(fail)
 refine zB ?_;intro W3 hW3;obtain⟨hB3,T5,hs3⟩:=zK hW3;have bx1:=(bx1.below hb2).below hB3;have br:=(br.below hb2).below hB3;have ho:=ho.below hB3;rw[zJ1 C n f]at ho;have hBt:=nx (nx hBt hb2) hB3;have q2:=hb2.size;obtain⟨c1,c2,c3,c4,c5,c6⟩:=bx1.three;clear hW3;go_wp2;clear c1 c2 c3 c4 c5 c6;go_loopw [20] (fun iv wr=>∃i:Nat,i<=n/\iv= .int .i64 i/\Below w.heap.size w wr∧
  Blk wr (w.heap.size+1) 28 #[.int .i64 0,.int .i64 0,.slice none 0 0]/\Blk wr w2.heap.size 28 #[.int .i64 C,.int .i64 n,.slice oo C oc]/\zT wr w1.heap.size (.slice oo C oc) n bs (zY C n (zKC f i 0))) (fun iv _=>n-(intOf iv).toNat)
 case atStart=>exact⟨0,by omega,rfl,hBt,br,T5,ho⟩
 case round=>
  obtain⟨i,hi,rfl,hb,br,T5,ho⟩:=hrel;by_cases hlt:i<n
  ·obtain⟨b,ra,rn,rc,zs,rfl,hbl1,hz,p1,hv⟩:=h.row (k:=i) (by rw[HX.out];exact hlt)
   have hzl:=HF.out.2 zs (xgd hz);have hvl:=hv.len;obtain rfl:C=rn:=by omega
   have HZ:=xgv (And.intro hz hzl);have p1:=zI p1 hb;obtain⟨hvl1,hvl2,hvl3⟩:=hvl;clear hz hzl hvl1;go_wp2;clear p1;go_loopw [27] (fun jv wt=>∃j:Nat,j<=C/\jv= .int .i64 j/\Below w.heap.size w wt∧
    Blk wt (w.heap.size+1) 28 #[.int .i64 0,.int .i64 0,.slice none 0 0]/\Blk wt w2.heap.size 28 #[.int .i64 C,.int .i64 n,.slice oo C oc]/\zT wt w1.heap.size (.slice oo C oc) n bs (zY C n (zKC f i j))) (fun jv _=>C-(intOf jv).toNat)
   case atStart=>exact⟨0,by omega,rfl,hb,br,T5,ho⟩
   case round=>
    rename World=>wt
    obtain⟨j,hj,rfl,hb,br,T5,ho⟩:=hrel;by_cases hjc:j<C
    ·obtain⟨b',z,s,a,l,c,rfl,hbl',hzk,q1,q2',hzv⟩:=(hv.below hb).cell (k:=j) (by rw[HZ.out.2];exact hjc)
     have hent:=xgw ((HFE.out j i).trans (zBE HZ.out.1 hzk));have SZ:qE (Sm z):=⟨HS.out _ (xgd HZ.out.1) _ (xgd hzk)⟩;clear hzk;have lt2:=br.lt;have lt5:=T5.lt;have hbs:=hb.size;go_upto_region 10 with(fail)
     refine zB ?_;intro W6 hW6;obtain⟨hB6,T7,hs6⟩:=zK hW6;obtain⟨d1,d2,d3,d4⟩:=T7.two;have br:=br.below hB6;have T5:=T5.below hB6;have ho:=ho.below hB6;have hzv:=hzv.ext (lx hB6);have hb:=nx hb hB6;clear q1 q2' hW6;obtain⟨g,bo,rfl,hg,hbo,hbo2,o1,ho3⟩:=ho.at_ (i:=j) oM;obtain⟨f1,f2,f3,f4,f5,f6⟩:=T5.three;clear ho3;have lt5:=T5.lt;have lt7:=T7.lt;refine zC 9 rfl (RI W6 (W6.heap.size) _ 35
       [VP 0 32 w2.heap.size 2,VSl 1 33 g C oc,VN 2 34 j,VP 3 35 g j,VSl 4 36 bo n n,VN 5 37 i,E 6 38 (.agg #[.bool s,.slice a l c]),EI 7 39 (z),VP 8 40 bo (i*2)] [] []) kR RI.start (RI.fin kR ?fin1) ?steps1
     case steps1=>
      (repeat' constructor)<;>(intro L T wS hL hd hcl hI K hK;try refine zA rfl ?_)
      ·exact xgs (hI.k 3 rfl kR)
      ·have zt0:=hI.e mm0 (hd 0)
       have cc0:=hI.cell f3 oM nom;exact xgu
      ·exact xgs (hI.k 6 rfl kR)
      ·exact xgt (hI.e mm1 (hd 1)) (hI.e mm2 (hd 2))
      ·have zt3:=hI.e mm3 (hd 3)
       have cc0:=hI.cell o1 oM nom;exact xgu
      ·exact xgs (hI.k 4 rfl kR)
      ·have zt:=hI.k 7 rfl kR
       have cc0:=hI.cell d1 oM nom;have cc1:=hI.cell d2 oM nom;exact xgu
      ·have zt6:=hI.e mm6 (hd 6)
       go_simp;refine(zOr _ z _ (hzv.ext hI.lext) SZ.out).mono ?_;exact xgo
      ·exact xgt (hI.e mm4 (hd 4)) (hI.e mm5 (hd 5))
     intro w9 hlw9 hbw9 holdw9 T hT;simp only[Fin,E,EI,VP,VSl,VN,xgg,xgh,xgi,xgj]at hT;obtain⟨va7,ha7,rfl⟩:=hT;simp only[xgl,xgk];obtain⟨pn,pa,pl,pc,px,rfl,hpx⟩:=id ha7;have HPX:=xgw hpx;clear hpx;have ho9:=ho.below hbw9;obtain⟨sn,sa,sl,sc,z1,z2,z3,z4,-⟩:=ho9.cellAt hbo hlt;have hbolt:=hlts j bo hbo;have hset:=ho9.set hbo hlt ha7;have hbo9:=hset.2.2;go_wp2;go_roundw
     case rel=>
      have hq:z=f j i:=hent.out.symm;rw[hq,zLt hlt hjc]at hset;exact⟨j+1,by omega,by simp,zO (zO (nx hb hbw9) oM _ _) oM _ _,(zV _ _ _ _ _ _ _ oM).trans (br.below hbw9),(zV _ _ _ _ _ _ _ oM).trans (T5.below hbw9),hset.1⟩
     case measure=>simp[intOf];omega
    ·obtain rfl:j=C:=by omega
     rw[zNY]at ho;go_wp2;go_roundw
     case rel=>exact⟨i+1,by omega,by simp,hb,br,T5,ho⟩
     case measure=>simp[intOf];omega
  ·obtain rfl:i=n:=by omega
   rw[zNX]at ho;obtain⟨f1,f2,f3,f4,f5,f6⟩:=T5.three;obtain⟨r1,r2,r3,r4,r5,r6⟩:=br.three;go_wp2;refine yE rfl rfl rfl (br.put3 _ _ _) ⟨_,bs,rfl,⟨hbl,_,rfl,?_⟩,zO (zO (zO hb oM 0 _) oM 1 _) oM 2 _⟩;exact(ho.keep (fun k hk=>yY _ _ k _ _ _ oM) (br.lext3 dE _ _ _)).mono oM
def Zn(A:Value)(bs:List Nat)(b:Nat):Prop:=b∈bs∨A.ownBlock=some b
def Ap(A:Value)(bs:List Nat)(A':Value)(bs':List Nat):Prop:=∀b,Zn A bs b->¬ Zn A' bs' b
theorem Ap.far{A A':Value}{bs bs':List Nat}(h:Ap A bs A' bs'):Far bs bs':=fun b h1 h2=>h b (.inl h1) (.inl h2)
theorem Ap.own{A A':Value}{bs bs':List Nat}(h:Ap A bs A' bs'):∀g,A.ownBlock=some g->A'.ownBlock≠some g:=fun g h1 h2=>h g (.inr h1) (.inr h2)
theorem Wri.zlt{w:World}{A:Value}{R C:Nat}{bs:List Nat}{F:Nat->Nat->Int}(h:Wri w A R C bs F){b:Nat}(hb:Zn A bs b):b<w.heap.size:=by
 rcases hb with hb|hb
 ·exact(h.blk hb).elim fun r hr=>hr.lt
 ·rcases(zT.own h).2 with⟨rfl,-⟩|⟨g,cap,cur,rfl,-,hh,-⟩
  ·cases hb
  ·simp only[Value.ownBlock,Option.some.injEq]at hb
   subst hb;exact(Array.getElem?_eq_some_iff.1 hh).1
theorem Wri.keepZ{Z:Nat->Prop}{w w':World}{A:Value}{R C:Nat}{bs:List Nat}{F:Nat->Nat->Int}(h:Wri w A R C bs F)(ho:zX Z w w')(hz:∀b,Zn A bs b->¬ Z b):Wri w' A R C bs F:=
 zT.same h (fun b hb=>ho.old b (h.zlt (.inl hb)) (hz b (.inl hb))) (fun g hg=>ho.old g (h.zlt (.inr hg)) (hz g (.inr hg))) ho.lext
theorem Wri.rown{w:World}{A A':Value}{R C R' C':Nat}{bs bs':List Nat}{F F':Nat->Nat->Int}(h:Wri w A R C bs F)(h':Wri w A' R' C' bs' F'){b:Nat}(hb:b∈bs):A'.ownBlock≠some b:=by
 intro e;obtain⟨r,hr⟩:=h.blk hb;exact zDA (zT.own h') hr e.symm
structure BSd(B:Nat):Prop where
 smd:∀z:Int,z.natAbs<B->Smd z
theorem BSd.bsm{B:Nat}(h:BSd B):BSm B:=⟨fun z hz=>(h.smd z hz).sm⟩
def zPy(B C:Nat)(F:Nat->Nat->Int)(i j:Nat)(m0 m1 m2 m3:Int):Prop:=
 m0.natAbs<B/\m1.natAbs<B/\m2.natAbs<B/\m3.natAbs<B/\∀t,t<C->(F i t).natAbs<B/\(F j t).natAbs<B/\(m0*F i t).natAbs<B/\(m1*F j t).natAbs<B/\(m2*F i t).natAbs<B/\(m3*F j t).natAbs<B
structure zQr(B C Cu Cw:Nat)(z:W5)(i j:Nat):Prop where
 sz:(z.s i i).natAbs<B/\(z.s j j).natAbs<B
 g0:Int.gcd (z.s i i) (z.s j j)≠0
 all:∀g u v s t:Int,g=((Int.gcd (z.s i i) (z.s j j):Nat):Int)->u=z.s i i/g->v=z.s j j/g->Bez (z.s i i) (z.s j j) s t->
  (z.s i i*v).natAbs<B/\(t*v).natAbs<B/\zPy B Cu z.u i j s t (-v) u/\zPy B Cu z.v i j u v (-t) s/\zPy B Cw z.w i j 1 1 (-(t*v)) (1-t*v)/\zPy B Cw z.x i j (1-t*v) (t*v) (-1) 1
abbrev zAo:TypeId:=274
theorem zAx.row{e:Bool}{Z:Nat->Prop}{w:World}{bw g a cap n Cs Ct:Nat}{x:Bst}(h:zAx e Z w bw (.slice (some ⟨g,0,none⟩) a cap) n Cs Ct x){i:Nat}(hi:i<n):
  ∃b,w.cell? ⟨g,i,none⟩=some (.slice (some ⟨b,0,none⟩) Cs Cs)/\qC w b (zM Cs (x.s i))/\g<w.heap.size:=by
 obtain⟨bss,hw,-⟩:=h.wri;obtain⟨g1,b,eg,hg,hb,-,o1,-⟩:=zT.at_ hw (i:=i) (by rw[hw.len];exact hi);obtain rfl:g=g1:=by injection eg with eg;injection eg
 exact⟨b,o1,hw.rowAt hi hb,hg⟩
theorem zAx.only{e:Bool}{Z:Nat->Prop}{w w':World}{bw b n Cs Ct:Nat}{Ah:Value}{x:Bst}{cs:Array Value}(h:zAx e Z w bw Ah n Cs Ct x)(ho:qU [b] w w')(hz:¬ Z b)(hb:Blk w b 35 cs):zAx e Z w' bw Ah n Cs Ct x:=by
 have hr:qC w b []:=⟨cs,hb,fun k z hk=>by simp at hk⟩;unfold zAx at h ⊢
 split at h
 ·rename_i he
  rw[if_pos he];obtain⟨Au,Av,b1,b2,b3,h1,h2,h3⟩:=h;exact⟨Au,Av,b1,b2,b3,h1.row ho hr dE,⟨h2.s.only ho (fun hm=>hz (h3 _ (.inl hm))) hr,h2.t.only ho (fun hm=>hz (h3 _ (.inr (.inl hm)))) hr,h2.i.only ho (fun hm=>hz (h3 _ (.inr (.inr hm)))) hr,h2.st,h2.si,h2.ti,h2.ast,h2.asi,h2.ati⟩,h3⟩
 ·rename_i he
  rw[if_neg he];obtain⟨h0,Au,Av,b1,h1,h2,h3,h4,h5⟩:=h;exact⟨h0,Au,Av,b1,h1.row ho hr dE,h2.only ho (fun hm=>hz (h5 _ hm)) hr,h3.row ho hr,h4.row ho hr,h5⟩
theorem zIu{w:World}{b:Nat}{x y c0 c1:Value}(hb:Blk w b 35 #[c0,c1]):qU [b] w ((w.setCell ⟨b,0,none⟩ x).setCell ⟨b,1,none⟩ y):=
 ⟨zO (zO (Below.refl 0 _) (Nat.zero_le _) _ _) (Nat.zero_le _) _ _,hb.lext2 dE _ _,fun k _ hk=>zV _ _ _ _ _ _ _ (by simpa using hk)⟩
theorem zX.new{Z:Nat->Prop}{w w1 w2:World}{b:Nat}(h:zX Z w w1)(ho:qU [b] w1 w2)(hb:w.heap.size<=b):zX Z w w2:=
 ⟨h.bel.trans ho.bel,h.lext.trans ho.lext,fun k hk hn=>(ho.old k (Nat.lt_of_lt_of_le hk h.bel.size) (by simp;omega)).trans (h.old k hk hn)⟩
theorem zMp{e0:Bool}{Z:Nat->Prop}{B:Nat}(hB:BSd B){bw n Cs Ct r m c:Nat}{Ah:Value}{x:Bst}{w:World}(h:zAx e0 Z w bw Ah n Cs Ct x)(hok:okB B n Cs Ct x)(hr:r<n)(hm:m<n)(hrm:r≠m)(hc:c<Cs)(h0:x.s r c≠0)
  (hn:n<=1000000) (hCs:Cs<=1000000) (hCt:Ct<=1000000) (hZ:∀b,Z b->b<w.heap.size)
  (ha:x.s m c%x.s r c=0->zDe B n Cs Ct x m r (-(x.s m c/x.s r c)))
  (hx:∀s t,Bez (x.s r c) (x.s m c) s t->zLC B n Cs Ct x r m s t (-(x.s m c/((Int.gcd (x.s r c) (x.s m c):Nat):Int))) (x.s r c/((Int.gcd (x.s r c) (x.s m c):Nat):Int))):
  Calls Tryz.prog 258 #[Ah,.agg #[.int .i64 r,.int .i64 c],.int .i64 m,.agg (zA9 bw)] w fun e w'=>(∃u,e= .returned u)/\zX Z w w'/\∃y,zJJ x r m c y/\zAx e0 Z w' bw Ah n Cs Ct y:=by
 obtain⟨bss0,hw0,-⟩:=h.wri;obtain⟨so,sn,cap,rfl,s1,-⟩:=id (zT.rows hw0);have e2:n=sn:=by rw[<-s1];simp[zY]
 subst e2;obtain⟨g,_,rfl,-⟩:=zT.at_ hw0 (i:=r) (by rw[hw0.len];exact hr);clear s1 hw0 bss0;have HOK:=xgv hok;have HAD:=xgv ha;have HMX:=xgv hx;obtain⟨X,hX⟩:∃X,x.s r c=X:=⟨_,rfl⟩;obtain⟨Y,hY⟩:∃Y,x.s m c=Y:=⟨_,rfl⟩;have HXV:=xgw hX;have HYV:=xgw hY;have SX:qE (Smd X):=⟨by rw[<-hX];exact hB.smd _ (hok.1 r hr c hc)⟩;have SY:qE (Smd Y):=⟨by rw[<-hY];exact hB.smd _ (hok.1 m hm c hc)⟩;rw[hX]at h0 HAD HMX;rw[hY]at HAD HMX;have HH:=xgv h;obtain⟨br,o1,r1,hg⟩:=h.row hr;obtain⟨bm,o2,r2,-⟩:=h.row hm;obtain⟨xn,xa,xl,xc,q1,q2,-,-,hxv⟩:=r1.cell (zP hc);obtain⟨yn,ya,yl,yc,q3,q4,-,-,hyv⟩:=r2.cell (zP hc);rw[hX]at hxv;rw[hY]at hyv;have lr1:=r1.lt;have lr2:=r2.lt;clear hok ha hx hX hY h r1 r2;go_enter Tryz.func258,Tryz.ntmps258;go_upto_region 1 with(fail)
 refine zB ?_;intro W0 hW0;obtain⟨hB0,T5,T7,hs0⟩:=qH hW0;have T7:Blk W0 (w.heap.size+1) 272 (zA9 bw):=T7;have hO:=zX.of Z hB0;have HH:=xgv (HH.out.below hB0);have o1:=zI o1 hB0;have o2:=zI o2 hB0;have q1:=zI q1 hB0;have q2:=zI q2 hB0;have q3:=zI q3 hB0;have q4:=zI q4 hB0;have hxv:=hxv.ext (lx hB0);have hyv:=hyv.ext (lx hB0);obtain⟨p1,p2,p3,p4⟩:=T5.two;have l5:=T5.lt;have lz:=hB0.size;clear hW0;refine zE rfl (RI W0 (W0.heap.size) _ 35
   [VSl 0 16 g n cap,VP 1 17 w.heap.size 0,VN 2 18 r,VP 3 19 g r,VSl 4 20 br Cs Cs,VP 5 21 w.heap.size 1,VN 6 22 c,VP 7 23 br (c*2),EI 8 24 (X),VSl 9 25 g n cap,VN 10 26 m,VP 11 27 g m,VSl 12 28 bm Cs Cs,VP 13 29 w.heap.size 1,VN 14 30 c,VP 15 31 bm (c*2),EI 16 32 (Y)] [⟨17,8,19,fun w v=>zH w v (X)⟩,⟨18,9,20,fun w v=>zH w v (Y)⟩] []) kR RI.start ?fin1 ?steps1
 case steps1=>
  (repeat' constructor)<;>(intro L T wS hL hd hcl hI K hK;try refine zA rfl ?_)
  ·exact xgs (hI.k 0 rfl kR)
  ·exact xgs (hI.k 5 rfl kR)
  ·have zt1:=hI.e mm1 (hd 1)
   have cc0:=hI.cell p1 oM nom;exact xgu
  ·exact xgt (hI.e mm0 (hd 0)) (hI.e mm2 (hd 2))
  ·have zt3:=hI.e mm3 (hd 3)
   have cc0:=hI.cell o1 oM nom;exact xgu
  ·exact xgs (hI.k 5 rfl kR)
  ·have zt5:=hI.e mm5 (hd 5)
   have cc0:=hI.cell p2 oM nom;exact xgu
  ·exact xgt (hI.e mm4 (hd 4)) (hI.e mm6 (hd 6))
  ·have zt7:=hI.e mm7 (hd 7)
   have cc0:=hI.cell q1 oM nom;have cc1:=hI.cell q2 oM nom;go_simp;exact hK _ _ (hI.n mm8 (hxv.ext hI.lext))
  ·exact xgs (hI.k 0 rfl kR)
  ·exact xgs (hI.k 2 rfl kR)
  ·exact xgt (hI.e mm9 (hd 9)) (hI.e zAB (hd 10))
  ·have zt11:=hI.e zAG (hd 11)
   have cc0:=hI.cell o2 oM nom;exact xgu
  ·exact xgs (hI.k 5 rfl kR)
  ·have zt13:=hI.e zCS (hd 13)
   have cc0:=hI.cell p2 oM nom;exact xgu
  ·exact xgt (hI.e zAs (hd 12)) (hI.e zBq (hd 14))
  ·have zt15:=hI.e zCV (hd 15)
   have cc0:=hI.cell q3 oM nom;have cc1:=hI.cell q4 oM nom;go_simp;exact hK _ _ (hI.n zDy (hyv.ext hI.lext))
  ·go_simp
   exact hK _ _ (hI.alloc ⟨17,8,19,_⟩ mm0 rfl hL)
  ·go_simp
   exact hK _ _ (hI.alloc ⟨18,9,20,_⟩ mm1 rfl hL)
  ·obtain⟨v,t1,hv⟩:=hI.vi mm8 (hd 8)
   obtain⟨b,x,y,t2,hb1,hb2,-⟩:=hI.box _ mm0 (hd 17);obtain⟨vneg,vao,vlen,vcap,vls,rfl,hv'⟩:=id hv;have HT:=xgw t2;unfold ptr at t2;obtain⟨k1,k2,k3,k4⟩:=hb2.two;go_simp;exact hK _ _ (hI.store ⟨17,8,19,_⟩ mm0 rfl (hd 17) HT.out hv)
  ·obtain⟨v,t1,hv⟩:=hI.vi zDy (hd 16)
   obtain⟨b,x,y,t2,hb1,hb2,-⟩:=hI.box _ mm1 (hd 18);obtain⟨vneg,vao,vlen,vcap,vls,rfl,hv'⟩:=id hv;have HT:=xgw t2;unfold ptr at t2;obtain⟨k1,k2,k3,k4⟩:=hb2.two;go_simp;exact hK _ _ (hI.store ⟨18,9,20,_⟩ mm1 rfl (hd 18) HT.out hv)
 intro T w3 hI;have hT:=hI.finx kR kR;have hlw3:=hI.lext;have hbw3:=hI.bel (W0.heap.size) oM nom;have holdw3:=hI.old;clear hI;simp only[zEN,zD7,E,EI,ptr,xgm,List.not_mem_nil,false_implies,implies_true,and_true,true_and,xgg,xgh,xgi,xgj]at hT;obtain⟨va8,ha8,va16,ha16,ca17,xa17,ya17,ga17,ka17,ia17,ca18,xa18,ya18,ga18,ka18,ia18,na17_18,rfl⟩:=hT;have hO:=hO.trans (zX.of Z hbw3);have HH:=xgv (HH.out.below hbw3);have T5:=T5.below hbw3;have T7:=T7.below hbw3;have z8:=jU.mk ka17 ia17;have z9:=jU.mk ka18 ia18;have q3z:=hbw3.size;clear o1 o2 q1 q2 q3 q4 hxv hyv p1 p2 p3 p4 ka17 ka18 ia17 ia18 ha8 ha16;obtain⟨n8,a8,l8,c8,k8,i8⟩:=id z8;obtain⟨n9,a9,l9,c9,k9,i9⟩:=id z9;obtain⟨e1,e2,e3,e4⟩:=k8.two;obtain⟨f1,f2,f3,f4⟩:=k9.two;go_wp2_with fail
 refine(jV _ _ Y X w3 i9.weak i8.weak SY.out.sm SX.out.sm h0).mono ?_;rintro e w4 ⟨q0,r0,rfl,hq,hrr,hb4⟩;obtain⟨qn,qa,ql,qc,qx,rfl,hq'⟩:=id hq;obtain⟨rn,ra,rl,rc,rx,rfl,hr'⟩:=id hrr;have HQ':=xgw hq';have HR':=xgw hr';clear hq' hr' e1 e2 e3 e4 f1 f2 f3 f4 k8 k9 i8 i9;go_upto_region 3 with(fail)
 refine zB ?_;intro W5 hW5;obtain⟨hB5,T10,T11,hs5⟩:=qH hW5;have hb45:=nx hb4 hB5;have hO:=hO.trans (zX.of Z hb45);have HH:=xgv (HH.out.below hb45);have T5:=T5.below hb45;have T7:=T7.below hb45;have z8:=z8.below hb45;have z9:=z9.below hb45;have hq:=hq.ext (lx hB5);have hrr:=hrr.ext (lx hB5);have q5z:=hb45.size;clear hW5 hb45;obtain⟨e1,e2,e3,e4⟩:=T11.two;go_wp2_with fail
 refine(qV _ (Y%X) W5 hrr.weak).mono ?_;rintro e w6 ⟨rfl,hb6⟩;have hO:=hO.trans (zX.of Z hb6);have HH:=xgv (HH.out.below hb6);have T5:=T5.below hb6;have T7:=T7.below hb6;have T10:=T10.below hb6;have z8:=z8.below hb6;have z9:=z9.below hb6;have hq:=hq.ext (lx hb6);have q6z:=hb6.size;have q4z:=hb4.size;clear e1 e2 e3 e4 T11 hrr;by_cases hdiv:Y%X=0
 ·rw[zA3 hdiv]
  obtain⟨x1,x2,x3,x4,x5,x6⟩:=T7.three;obtain⟨p1,p2,p3,p4⟩:=T5.two;obtain⟨d1,d2,d3,d4⟩:=T10.two;have l5:=T5.lt;have l7:=T7.lt;have l10:=T10.lt;have hqs:qE (Sm (Y/X)):=⟨SY.out.sm.mono (Int.natAbs_ediv_le_natAbs Y X)⟩;go_upto_region 4 with(fail)
  refine zC 7 rfl (RI w6 (w6.heap.size) _ 35
    [VP 0 43 (w.heap.size+1) 0,E 1 44 (.func (.func 220) #[.pointer (some ⟨bw,0,none⟩)] #[]),VN 2 45 m,VP 3 46 w.heap.size 0,VN 4 47 r,E 5 48 (.agg #[.bool qn,.slice qa ql qc]),EI 6 49 (-(Y/X))] [] []) kR RI.start (RI.fin kR ?fin2) ?steps2
  case steps2=>
   (repeat' constructor)<;>(intro L T wS hL hd hcl hI K hK;try refine zA rfl ?_)
   ·exact xgs (hI.k 7 rfl kR)
   ·have zt0:=hI.e mm0 (hd 0)
    have cc0:=hI.cell x1 oM nom;exact xgu
   ·exact xgs (hI.k 2 rfl kR)
   ·exact xgs (hI.k 5 rfl kR)
   ·have zt3:=hI.e mm3 (hd 3)
    have cc0:=hI.cell p1 oM nom;exact xgu
   ·have zt:=hI.k 10 rfl kR
    have cc0:=hI.cell d1 oM nom;have cc1:=hI.cell d2 oM nom;exact xgu
   ·have zt5:=hI.e mm5 (hd 5)
    go_simp;refine(jP _ (Y/X) _ (hq.ext hI.lext).weak hqs.out).mono ?_;exact xgo
  intro w7 hlw7 hbw7 holdw7 T hT;simp only[Fin,E,EI,VP,VSl,VN,xgg,xgh,xgi,xgj]at hT;obtain⟨vb6,hb6,rfl⟩:=hT;simp only[xgl,xgk];have hb6':zH w7 vb6 (-(Y/X)):=hb6;have hO:=hO.trans (zX.of Z hbw7);have HH:=xgv (HH.out.below hbw7);have HAD':=xgv (HAD.out hdiv);clear x1 x2 x3 x4 x5 x6 p1 p2 p3 p4 d1 d2 d3 d4;go_wp2_with fail
  refine(zQc hB.bsm HH.out HOK.out hm hr (Ne.symm hrm) hb6' hn hCs hCt HAD'.out).mono ?_;rintro e w8 ⟨⟨uu,rfl⟩,ho8,hH8⟩;go_wp2;have hJ:zJJ x r m c (x.add m r (-(Y/X))):=by
   rw[<-HXV.out,<-HYV.out];exact .add (by rw[HXV.out,HYV.out];exact hdiv)
  exact bodyPost_ret (results_none rfl _ _ _) rfl ⟨⟨_,rfl⟩,hO.trans ho8,_,hJ,hH8⟩
 ·have hcne:=zCf hdiv
  obtain⟨k0,hk0⟩:∃k0,qJ (Y%X) 0=k0:=⟨_,rfl⟩;rw[hk0]at hcne ⊢
  have hcb:(k0==0)=false:=by simpa using hcne
  obtain⟨G,hG⟩:∃G:Int,((Int.gcd X Y:Nat):Int)=G:=⟨_,rfl⟩;have hG0:G≠0:=by
   rw[<-hG];intro hh;have:Int.gcd X Y=0:=by omega
   exact h0 (Int.eq_zero_of_gcd_eq_zero_left this)
  have SG:qE (Smd G):=⟨SX.out.mono (by rw[<-hG];exact Nat.le_of_dvd oM (by have:=Int.gcd_dvd_left X Y;exact Int.natAbs_dvd_natAbs.2 this))⟩;have HG:=xgw hG;rw[hG]at HMX;clear hG T10 hq;have lz8:=z8.lt;have lz9:=z9.lt;obtain⟨n8,a8,l8,c8,k8,i8⟩:=id z8;obtain⟨n9,a9,l9,c9,k9,i9⟩:=id z9;obtain⟨e1,e2,e3,e4⟩:=k8.two;obtain⟨f1,f2,f3,f4⟩:=k9.two;go_wp2_with fail
  refine(zON _ _ X Y w6 i8 i9 SX.out SY.out).mono ?_;rintro e w7 ⟨v1,v2,v3,s,t,rfl,hgv,hsv,htv,hbez,hsb,htb,hb7⟩;have HBZ:qE (Bez X Y s t):=⟨⟨hbez,hsb,htb⟩⟩;have HMM:=xgv (HMX.out s t HBZ.out);rw[HG.out]at hgv;obtain⟨gn,ga,gl,gc,gx,rfl,hg'⟩:=id hgv;obtain⟨sn,sa,sl,sc',sx,rfl,hs'⟩:=id hsv;obtain⟨tn,ta,tl,tc,tx,rfl,ht'⟩:=id htv;have HG':=xgw hg';have HS':=xgw hs';have HT':=xgw ht';clear hg' hs' ht' hbez hsb htb e1 e2 e3 e4 f1 f2 f3 f4 k8 k9 i8 i9;go_upto_region 6 with(fail)
  refine zB ?_;intro W8 hW8;obtain⟨hB8,T13,T14,T15,hs8⟩:=yO hW8;have hb78:=nx hb7 hB8;have hO:=hO.trans (zX.of Z hb78);have HH:=xgv (HH.out.below hb78);have T5:=T5.below hb78;have T7:=T7.below hb78;have z8:=z8.below hb78;have z9:=z9.below hb78;have z13:=jU.mk T13 (hgv.ext (lx hB8));have z14:=jU.mk T14 (hsv.ext (lx hB8));have z15:=jU.mk T15 (htv.ext (lx hB8));have q8z:=hb78.size;have q7z:=hb7.size;clear hW8 T13 T14 T15 hgv hsv htv;obtain⟨n8,a8,l8,c8,k8,i8⟩:=id z8;obtain⟨n13,a13,l13,c13,k13,i13⟩:=id z13;obtain⟨e1,e2,e3,e4⟩:=k8.two;obtain⟨f1,f2,f3,f4⟩:=k13.two;have lk8:=k8.lt;go_wp2_with fail
  refine(jV _ _ X G W8 i8.weak i13.weak SX.out.sm SG.out.sm hG0).mono ?_;rintro e w9 ⟨q0,r0,rfl,hq,hrr,hb9⟩;obtain⟨qn,qa,ql,qc,qx,rfl,hq'⟩:=id hq;have HQ':=xgw hq';clear hq' e1 e2 e3 e4 f1 f2 f3 f4 k13 i13;have k8:=k8.below hb9;obtain⟨e1,e2,e3,e4⟩:=k8.two;go_upto_region 7 with(fail)
  refine zB ?_;intro W10 hW10;have hon:qU [ca17] w9 W10:=by rw[hW10.out];exact zIu k8
  have hnz:¬ Z ca17:=fun h=>by have:=hZ _ h;omega
  have hO:=(hO.trans (zX.of Z hb9)).new hon oM;have HH:=xgv ((HH.out.below hb9).only hon hnz k8);have z8:jU W10 ca17 (X/G):=by rw[hW10.out];exact jU.put k8 hq
  have T5:Blk W10 w.heap.size zAo #[.int .i64 r,.int .i64 c]:=(hon.old _ (T5.below hb9).lt (by simp;omega)).trans (T5.below hb9);have T7:Blk W10 (w.heap.size+1) 272 (zA9 bw):=(hon.old _ (T7.below hb9).lt (by simp;omega)).trans (T7.below hb9);have z9:=(z9.below hb9).old (hon.old _ (z9.below hb9).lt (by simpa using Ne.symm na17_18)) hon.lext;have z13:=(z13.below hb9).old (hon.old _ (z13.below hb9).lt (by simp;omega)) hon.lext;have z14:=(z14.below hb9).old (hon.old _ (z14.below hb9).lt (by simp;omega)) hon.lext;have z15:=(z15.below hb9).old (hon.old _ (z15.below hb9).lt (by simp;omega)) hon.lext;have q10z:=hon.bel.size;have q9z:=hb9.size;clear hW10 hon e1 e2 e3 e4 k8 hq hrr i8;obtain⟨n9,a9,l9,c9,k9,i9⟩:=id z9;obtain⟨n13,a13,l13,c13,k13,i13⟩:=id z13;obtain⟨e1,e2,e3,e4⟩:=k9.two;obtain⟨f1,f2,f3,f4⟩:=k13.two;have lk9:=k9.lt;go_wp2_with fail
  refine(jV _ _ Y G W10 i9.weak i13.weak SY.out.sm SG.out.sm hG0).mono ?_;rintro e w11 ⟨q0,r0,rfl,hq,hrr,hb11⟩;obtain⟨qn,qa,ql,qc,qx,rfl,hq'⟩:=id hq;have HQ':=xgw hq';clear hq' e1 e2 e3 e4 f1 f2 f3 f4 k13 i13;have k9:=k9.below hb11;obtain⟨e1,e2,e3,e4⟩:=k9.two;go_upto_region 8 with(fail)
  refine zB ?_;intro W12 hW12;have hon:qU [ca18] w11 W12:=by rw[hW12.out];exact zIu k9
  have hnz:¬ Z ca18:=fun h=>by have:=hZ _ h;omega
  have hO:=(hO.trans (zX.of Z hb11)).new hon oM;have HH:=xgv ((HH.out.below hb11).only hon hnz k9);have z9:jU W12 ca18 (Y/G):=by rw[hW12.out];exact jU.put k9 hq
  have T5:Blk W12 w.heap.size zAo #[.int .i64 r,.int .i64 c]:=(hon.old _ (T5.below hb11).lt (by simp;omega)).trans (T5.below hb11);have T7:Blk W12 (w.heap.size+1) 272 (zA9 bw):=(hon.old _ (T7.below hb11).lt (by simp;omega)).trans (T7.below hb11);have z8:=(z8.below hb11).old (hon.old _ (z8.below hb11).lt (by simpa using na17_18)) hon.lext;have z14:=(z14.below hb11).old (hon.old _ (z14.below hb11).lt (by simp;omega)) hon.lext;have z15:=(z15.below hb11).old (hon.old _ (z15.below hb11).lt (by simp;omega)) hon.lext;clear hW12 hon e1 e2 e3 e4 k9 hq hrr i9 z13;have SYG:qE (Sm (Y/G)):=⟨SY.out.sm.mono (Int.natAbs_ediv_le_natAbs Y G)⟩;obtain⟨n8,a8,l8,c8,k8,i8⟩:=id z8;obtain⟨n9,a9,l9,c9,k9,i9⟩:=id z9;obtain⟨n14,a14,l14,c14,k14,i14⟩:=id z14;obtain⟨n15,a15,l15,c15,k15,i15⟩:=id z15;obtain⟨e1,e2,e3,e4⟩:=k8.two;obtain⟨f1,f2,f3,f4⟩:=k9.two;obtain⟨u1,u2,u3,u4⟩:=k14.two;obtain⟨v1,v2,v3,v4⟩:=k15.two;obtain⟨x1,x2,x3,x4,x5,x6⟩:=T7.three;obtain⟨p1,p2,p3,p4⟩:=T5.two;have l5:=T5.lt;have l7:=T7.lt;have l8':=k8.lt;have l9':=k9.lt;have l14':=k14.lt;have l15':=k15.lt;have hl2:=zCH s t;have hl3:=zCH (-(Y/G)) (X/G);have hl4:=zF6 s t (-(Y/G)) (X/G);refine zC 13 rfl (RI W12 (W12.heap.size) _ 35
    [VP 0 72 (w.heap.size+1) 1,E 1 73 (.func (.func 221) #[.pointer (some ⟨bw,0,none⟩)] #[]),VP 2 74 w.heap.size 0,VN 3 75 r,VN 4 76 m,E 5 77 (.agg #[.bool n14,.slice a14 l14 c14]),E 6 78 (.agg #[.bool n15,.slice a15 l15 c15]),⟨7,79,M2V s t⟩,E 8 80 (.agg #[.bool n9,.slice a9 l9 c9]),EI 9 81 (-(Y/G)),E 10 82 (.agg #[.bool n8,.slice a8 l8 c8]),⟨11,83,M2V (-(Y/G)) (X/G)⟩,⟨12,84,fun w v=>M4V w v s t (-(Y/G)) (X/G)⟩] [] []) kR RI.start (RI.fin kR ?fin3) ?steps3
  case steps3=>
   (repeat' constructor)<;>(intro L T wS hL hd hcl hI K hK;try refine zA rfl ?_)
   ·exact xgs (hI.k 7 rfl kR)
   ·have zt0:=hI.e mm0 (hd 0)
    have cc0:=hI.cell x2 oM nom;exact xgu
   ·exact xgs (hI.k 5 rfl kR)
   ·have zt2:=hI.e mm2 (hd 2)
    have cc0:=hI.cell p1 oM nom;exact xgu
   ·exact xgs (hI.k 2 rfl kR)
   ·have zt:=hI.k 14 rfl kR
    have cc0:=hI.cell u1 oM nom;have cc1:=hI.cell u2 oM nom;exact xgu
   ·have zt:=hI.k 15 rfl kR
    have cc0:=hI.cell v1 oM nom;have cc1:=hI.cell v2 oM nom;exact xgu
   ·have zt5:=hI.e mm5 (hd 5)
    have zt6:=hI.e mm6 (hd 6);skip;go_simp;exact hK _ _ (hI.y mm7 ⟨_,_,_,_,_,_,_,_,rfl,i14.ext hI.lext,i15.ext hI.lext⟩)
   ·have zt:=hI.k 9 rfl kR
    have cc0:=hI.cell f1 oM nom;have cc1:=hI.cell f2 oM nom;exact xgu
   ·have zt8:=hI.e mm8 (hd 8)
    go_simp;refine(jP _ (Y/G) _ (i9.ext hI.lext).weak SYG.out).mono ?_;exact xgo
   ·have zt:=hI.k 8 rfl kR
    have cc0:=hI.cell e1 oM nom;have cc1:=hI.cell e2 oM nom;exact xgu
   ·obtain⟨v9,zt9,h9⟩:=hI.vi mm9 (hd 9)
    have zt10:=hI.e zAB (hd 10);obtain⟨a19,b19,d19,e19,x19,rfl,y19⟩:=id h9;go_simp;exact hK _ _ (hI.y zAG ⟨_,_,_,_,_,_,_,_,rfl,h9,i8.ext hI.lext⟩)
   ·obtain⟨v7,zt7,h7⟩:=hI.v mm7 (hd 7)
    obtain⟨v11,zt11,h11⟩:=hI.v zAG (hd 11);obtain⟨p0,p1,p2,p3,p4,p5,p6,p7,rfl,p8,p9⟩:=h7;obtain⟨q0,q1,q2,q3,q4,q5,q6,q7,rfl,q8,q9⟩:=h11;go_simp;exact hK _ _ (hI.y zAs ⟨_,_,_,_,_,_,_,_,_,_,_,_,_,_,_,_,rfl,p8,p9,q8,q9⟩)
  intro w13 hlw13 hbw13 holdw13 T hT;simp only[Fin,E,EI,VP,VSl,VN,xgg,xgh,xgi,xgj]at hT;obtain⟨vb7,hb7,vb9,hb9,vb11,hb11,vb12,hb12,rfl⟩:=hT;simp only[xgl,xgk];have hm4:M4V w13 vb12 s t (-(Y/G)) (X/G):=hb12;have hO:=hO.trans (zX.of Z hbw13);have HH:=xgv (HH.out.below hbw13);clear e1 e2 e3 e4 f1 f2 f3 f4 u1 u2 u3 u4 v1 v2 v3 v4 x1 x2 x3 x4 x5 x6 p1 p2 p3 p4;go_wp2_with fail
  refine(zRE hB.bsm HH.out HOK.out hr hm hrm hm4 hn hCs hCt HMM.out).mono ?_;rintro e w14 ⟨⟨uu,rfl⟩,ho14,hH14⟩;go_wp2;have hJ:zJJ x r m c (x.mix r m s t (-(Y/G)) (X/G)):=by
   rw[<-HG.out,<-HXV.out,<-HYV.out];exact .mix s t (by rw[HXV.out,HYV.out];exact hdiv) (by rw[HXV.out,HYV.out];exact HBZ.out)
  exact bodyPost_end (results_none rfl _ _ _) rfl ⟨⟨_,rfl⟩,hO.trans ho14,_,hJ,hH14⟩
def zHd(w:World)(v:Value)(r:Nat)(ρ κ:Nat->Nat):Prop:=
 ∃ao cap,v= .slice ao r cap/\r<=cap/\cap<=9223372036854775807/\(0<r->∃b cs,ao=some ⟨b,0,none⟩/\Blk w b zAo cs/\∀k,k<r->cs[k*2]?=some (.int .i64 (ρ k))/\cs[k*2+1]?=some (.int .i64 (κ k)))
theorem zHd.old{w w':World}{v:Value}{r:Nat}{ρ κ:Nat->Nat}(h:zHd w v r ρ κ)(ho:∀b,v.ownBlock=some b->b<w.heap.size->w'.heap[b]?=w.heap[b]?):zHd w' v r ρ κ:=by
 obtain⟨ao,cap,rfl,h2,h3,h4⟩:=h;refine⟨ao,cap,rfl,h2,h3,fun hr=>?_⟩;obtain⟨b,cs,rfl,h5,h6⟩:=h4 hr;exact⟨b,cs,rfl,(ho b rfl h5.lt).trans h5,h6⟩
theorem zHd.below{w w':World}{v:Value}{r:Nat}{ρ κ:Nat->Nat}(h:zHd w v r ρ κ)(hb:Below w.heap.size w w'):zHd w' v r ρ κ:=h.old fun b _ hl=>hb.block b hl
theorem zHd.onlyZ{Z:Nat->Prop}{w w':World}{v:Value}{r:Nat}{ρ κ:Nat->Nat}(h:zHd w v r ρ κ)(ho:zX Z w w')(hz:∀b,v.ownBlock=some b->¬ Z b):zHd w' v r ρ κ:=h.old fun b hb hl=>ho.old b hl (hz b hb)
theorem zHd.cell{w:World}{b o r cap:Nat}{ρ κ:Nat->Nat}(h:zHd w (.slice (some ⟨b,o,none⟩) r cap) r ρ κ){k:Nat}(hk:k<r):o=0/\b<w.heap.size/\w.cell? ⟨b,k*2,none⟩=some (.int .i64 (ρ k))/\w.cell? ⟨b,k*2+1,none⟩=some (.int .i64 (κ k)):=by
 obtain⟨ao,cap',e,h2,h3,h4⟩:=h;obtain⟨b',cs,e1,h5,h6⟩:=h4 oM;injection e with e2 e3 e4
 rw[e1]at e2;injection e2 with e2
 injection e2 with e5 e6
 subst e5;obtain⟨c1,c2⟩:=h6 k hk;exact⟨e6,h5.lt,h5.cell _ ▸ c1,h5.cell _ ▸ c2⟩
def zEp(B n Cs Ct:Nat)(ρ κ:Nat->Nat)(i:Nat):Nat->Nat->Bst->Option Bst
 |0,_,x=>some x
 |m+1,j,x=>
  if x.s (ρ i) (κ j)=0 then zEp B n Cs Ct ρ κ i m (j+1) x
  else if x.s (ρ j) (κ j)=0 then none
  else if x.s (ρ i) (κ j)/x.s (ρ j) (κ j)=0 then zEp B n Cs Ct ρ κ i m (j+1) x
  else if zDe B n Cs Ct x (ρ i) (ρ j) (-(x.s (ρ i) (κ j)/x.s (ρ j) (κ j)))then zEp B n Cs Ct ρ κ i m (j+1) (x.add (ρ i) (ρ j) (-(x.s (ρ i) (κ j)/x.s (ρ j) (κ j))))
  else none
def zHE(B n Cs Ct:Nat)(ρ κ:Nat->Nat)(r:Nat):Nat->Bst->Option Bst
 |0,x=>some x
 |i+1,x=>(zEp B n Cs Ct ρ κ i (r-(i+1)) (i+1) x).bind (zHE B n Cs Ct ρ κ r i)
theorem zA7{e0:Bool}{Z:Nat->Prop}{B:Nat}(hB:BSd B){bw n Cs Ct r:Nat}{ρ κ:Nat->Nat}{Ah pv:Value}{x y:Bst}{w:World}(h:zAx e0 Z w bw Ah n Cs Ct x)(hok:okB B n Cs Ct x)(hp:zHd w pv r ρ κ)(hpz:∀b,pv.ownBlock=some b->¬ Z b)
  (hρ:∀k,k<r->ρ k<n) (hinj:∀i j,i<j->j<r->ρ i≠ρ j) (hκ:∀k,k<r->κ k<Cs) (hn:n<=1000000) (hCs:Cs<=1000000) (hCt:Ct<=1000000) (hrn:r<=n) (hZ:∀b,Z b->b<w.heap.size) (hn0:0<n)
  (hy:zHE B n Cs Ct ρ κ r r x=some y):
  Calls Tryz.prog 260 #[Ah,pv,.agg (zA9 bw)] w fun e w'=>(∃u,e= .returned u)/\zX Z w w'/\zAx e0 Z w' bw Ah n Cs Ct y/\okB B n Cs Ct y:=by
 obtain⟨bss0,hw0,-⟩:=h.wri;obtain⟨so,sn,scap,rfl,s1,-⟩:=id (zT.rows hw0);have e2:n=sn:=by rw[<-s1];simp[zY]
 subst e2;obtain⟨g,_,rfl,-⟩:=zT.at_ hw0 (i:=0) (by rw[hw0.len];exact hn0);obtain⟨ao,cap,rfl,hrc,hrc2,-⟩:=id hp;have HY:=xgv (And.intro hok hy);have HP:=xgv hp;have HPZ:=xgv hpz;have HRO:=xgv hρ;have HIN:=xgv hinj;have HKA:=xgv hκ;have hsh:0<r->∃pb,ao=some ⟨pb,0,none⟩:=fun hr=>by
  obtain⟨ao',cap',e,-,-,h4⟩:=hp;obtain⟨b,cs,e1,-⟩:=h4 hr;injection e with e2
  exact⟨b,e2.trans e1⟩
 clear s1 hw0 bss0 hok hy hp hpz hρ hinj hκ;go_enter Tryz.func260,Tryz.ntmps260;go_upto_region 1 with(fail)
 refine zB ?_;intro W0 hW0;obtain⟨hB0,T5,hs0⟩:=zK hW0;have T5:Blk W0 w.heap.size 272 (zA9 bw):=T5;have hO:=zX.of Z hB0;have hz:=h.below hB0;have HP:=xgv (HP.out.below hB0);clear hW0 h;go_wp2;go_loopw [6] (fun tv wr=>∃(i:Nat) (z:Int) (xi:Bst),tv= .int .i64 z/\z=(i:Int)-1/\i<=r/\zX Z w wr/\Blk wr w.heap.size 272 (zA9 bw)/\qE (zHd wr (.slice ao r cap) r ρ κ)/\zAx e0 Z wr bw (.slice (some ⟨g,0,none⟩) n scap) n Cs Ct xi/\qE (okB B n Cs Ct xi/\zHE B n Cs Ct ρ κ r i xi=some y)) (fun tv _=>(intOf tv+1).toNat)
 case atStart=>exact⟨r,(r:Int)-1,x,by simp,rfl,xgf _,hO,T5,HP,hz,HY⟩
 case round=>
  obtain⟨i,z,xi,rfl,hzi,hi,hO,T5,HP,hz,hx⟩:=hrel;cases i with
  |zero=>
   obtain rfl:z=-1:=by omega
   clear hzi;have h3:=hx.out.2;unfold zHE at h3;injection h3 with h3
   have H3:=xgv h3;clear h3;go_wp2;exact bodyPost_end (results_none rfl _ _ _) rfl ⟨⟨_,rfl⟩,hO,by rw[<-H3.out];exact hz,by rw[<-H3.out];exact hx.out.1⟩
  | succ i=>
   obtain rfl:z=(i:Int):=by omega
   clear hzi;have h3:=hx.out.2;unfold zHE at h3;rw[Option.bind_eq_some_iff]at h3;obtain⟨y1,h4,h5⟩:=h3;have HR:=xgv h5;have HJ:=xgv (And.intro hx.out.1 h4);clear h4 h5 hx;obtain⟨pb,rfl⟩:=hsh oM;obtain⟨-,lpb,k1,-⟩:=HP.out.cell (k:=i) oM;have hwi:IntKind.i64.wrap ((i:Int)+1)=(i:Int)+1:=IntWalk.i64_in _ oM;obtain⟨M,hM⟩:∃M,r-(i+1)=M:=⟨_,rfl⟩;by_cases hce:cap=i+1
   ·have hM0:M=0:=by omega
    have hir:(i:Int)+1<=(r:Int):=by omega
    subst hM0;go_wp2;try rw[hM]
    go_loopw [30] (fun uv wt=>uv= .int .i64 0/\wt=wr) (fun _ _=>0)
    case atStart=>exact⟨rfl,rfl⟩
    case round=>
     rename World=>wt
     obtain⟨rfl,hwt⟩:=hrel;have hwt:=hwt.symm;subst hwt;have h3:=HJ.out.2;rw[hM]at h3;unfold zEp at h3;injection h3 with h3
     have H3:=xgv h3;clear h3;go_wp2;go_roundw
     case rel=>exact⟨i,(i:Int)-1,xi,by simp,rfl,by omega,hO,T5,HP,hz,⟨⟨HJ.out.1,by rw[H3.out];exact HR.out⟩⟩⟩
     case measure=>simp[intOf]
   ·go_wp2
    try rw[hM]
    go_loopw [30] (fun uv wt=>∃(u:Nat) (xt:Bst),uv= .int .i64 u/\u<=M/\zX Z w wt/\Blk wt w.heap.size 272 (zA9 bw)/\qE (zHd wt (.slice (some ⟨pb,0,none⟩) r cap) r ρ κ)/\zAx e0 Z wt bw (.slice (some ⟨g,0,none⟩) n scap) n Cs Ct xt/\qE (okB B n Cs Ct xt/\zEp B n Cs Ct ρ κ i (M-u) (i+1+u) xt=some y1)) (fun uv _=>M-(intOf uv).toNat)
    case atStart=>exact⟨0,xi,rfl,by omega,hO,T5,HP,hz,⟨⟨HJ.out.1,by rw[<-hM];exact HJ.out.2⟩⟩⟩
    case round=>
     rename World=>wt
     clear hO T5 HP hz HJ k1 lpb;obtain⟨u,xt,rfl,huM,hO,T5,HP,hz,hx⟩:=hrel;by_cases hlt2:u<M
     ·obtain⟨j,hj⟩:∃j,j=i+1+u:=⟨_,rfl⟩
      obtain⟨m,hm⟩:∃m,M-u=m+1:=⟨M-u-1,by omega⟩;have hm2:M-(u+1)=m:=by omega
      have hj1:i+1+(u+1)=j+1:=by omega
      have h3:=hx.out.2;rw[hm,<-hj]at h3;unfold zEp at h3;have HOK:=xgv hx.out.1;have H3:=xgv h3;obtain⟨-,lpb,p1,p2⟩:=HP.out.cell (k:=j) oM;have hjo:j*2=(i+1)*2+u*2:=by omega
      rw[hjo]at p1 p2;have hjr:j<r:=by omega
      have hir:i<r:=by omega
      have hcC:=HKA.out j hjr;have hin:=HRO.out i hir;have htn:=HRO.out j hjr;have hne:=HIN.out i j oM hjr;obtain⟨ri,hri⟩:∃ri,ρ i=ri:=⟨_,rfl⟩;obtain⟨rj,hrj⟩:∃rj,ρ j=rj:=⟨_,rfl⟩;obtain⟨c,hc⟩:∃c,κ j=c:=⟨_,rfl⟩;rw[hri]at hin hne H3 ⊢
      rw[hrj]at htn hne H3 p1;rw[hc]at hcC H3 p2;clear h3 hx hj hjo hri hrj hc;go_upto_region 8 with(fail)
      refine zB ?_;intro W7 hW7;obtain⟨hB7,T9,hs7⟩:=zK hW7;have T9:Blk W7 wt.heap.size zAo #[.int .i64 rj,.int .i64 c]:=T9;have hO:=hO.trans (zX.of Z hB7);have T5:=T5.below hB7;have HP:=xgv (HP.out.below hB7);have hz:=hz.below hB7;have lt9:=hO.bel.size;have lwt:=T5.lt;clear hW7 p1 p2;obtain⟨bi,o1,hrow,lg⟩:=hz.row (i:=ri) hin;obtain⟨xs,xa,xl,xc,v1,v2,-,-,hx⟩:=hrow.cell (zP hcC);obtain⟨p1,p2,p3,p4⟩:=T9.two;have l1:=hrow.lt;have l9:=T9.lt;refine zC 8 rfl (RI W7 (W7.heap.size) _ 35
        [VSl 0 34 g n scap,VN 1 35 ri,VP 2 36 g ri,VSl 3 37 bi Cs Cs,VP 4 38 wt.heap.size 1,VN 5 39 c,VP 6 40 bi (c*2),E 7 41 (.agg #[.bool xs,.slice xa xl xc])] [] []) kR RI.start (RI.fin kR ?fin1) ?steps1
      case steps1=>
       (repeat' constructor)<;>(intro L T wS hL hd hcl hI K hK;try refine zA rfl ?_)
       ·exact xgs (hI.k 0 rfl kR)
       ·exact xgs (hI.k 7 rfl kR)
       ·exact xgt (hI.e mm0 (hd 0)) (hI.e mm1 (hd 1))
       ·have zt2:=hI.e mm2 (hd 2)
        have cc0:=hI.cell o1 oM nom;exact xgu
       ·exact xgs (hI.k 9 rfl kR)
       ·have zt4:=hI.e mm4 (hd 4)
        have cc0:=hI.cell p2 oM nom;exact xgu
       ·exact xgt (hI.e mm3 (hd 3)) (hI.e mm5 (hd 5))
       ·have zt6:=hI.e mm6 (hd 6)
        have cc0:=hI.cell v1 oM nom;have cc1:=hI.cell v2 oM nom;exact xgu
      intro w8 hlw8 hbw8 holdw8 T hT;simp only[Fin,E,EI,VP,VSl,VN,xgg,xgh,xgi,xgj]at hT;subst hT;simp only[xgl,xgk];go_wp2_with fail
      refine(qV _ (xt.s ri c) _ (hx.ext (lx hbw8)).weak).mono ?_;rintro e w1 ⟨rfl,hb1⟩;have hb81:=nx hbw8 hb1;have hz:=hz.below hb81;have T5:=T5.below hb81;have T9:=T9.below hb81;have HP:=xgv (HP.out.below hb81);have hO:=hO.trans (zX.of Z hb81);have h3:=H3.out;clear o1 hrow v1 v2 hx H3 p1 p2 p3 p4;by_cases hs0:xt.s ri c=0
      ·rw[if_pos hs0]at h3
       rw[zA3 hs0];have H3:=xgv h3;clear h3 hs0;go_wp2;go_roundw
       case rel=>exact⟨u+1,xt,by simp,by omega,hO,T5,HP,hz,⟨⟨HOK.out,by rw[hm2,hj1];exact H3.out⟩⟩⟩
       case measure=>simp[intOf];omega
      ·rw [if_neg hs0]at h3
       by_cases hne0:xt.s rj c=0
       ·rw[if_pos hne0]at h3
        cases h3
       ·rw[if_neg hne0]at h3
        have hcn:=zCf hs0;obtain⟨k0,hk0⟩:∃k0,qJ (xt.s ri c) 0=k0:=⟨_,rfl⟩;rw[hk0]at hcn ⊢
        have HNE:=xgv hne0;have H3:=xgv h3;have SX:qE (Sm (xt.s ri c)):=⟨hB.bsm.sm _ (HOK.out.1 ri hin c hcC)⟩;have SY:qE (Sm (xt.s rj c)):=⟨hB.bsm.sm _ (HOK.out.1 rj htn c hcC)⟩;clear h3 hne0 hs0 hk0;obtain⟨bi,o1,hrow,lg⟩:=hz.row (i:=ri) hin;obtain⟨bk,o2,hrowk,-⟩:=hz.row (i:=rj) htn;obtain⟨xs,xa,xl,xc,v1,v2,-,-,hx⟩:=hrow.cell (zP hcC);obtain⟨ys,ya,yl,yc,r1,r2,-,-,hy⟩:=hrowk.cell (zP hcC);obtain⟨p1,p2,p3,p4⟩:=T9.two;have hlast:=zMr (xt.s ri c) (xt.s rj c);have l9:=T9.lt;have l5:=T5.lt;have l1:=hrow.lt;have l2:=hrowk.lt;go_upto_region 9 with(fail)
        refine zE rfl (RI w1 (w1.heap.size) _ 35
          [VSl 0 45 g n scap,VN 1 46 ri,VP 2 47 g ri,VSl 3 48 bi Cs Cs,VP 4 49 wt.heap.size 1,VN 5 50 c,VP 6 51 bi (c*2),E 7 52 (.agg #[.bool xs,.slice xa xl xc]),VSl 8 53 g n scap,VP 9 54 wt.heap.size 0,VN 10 55 rj,VP 11 56 g rj,VSl 12 57 bk Cs Cs,VP 13 58 wt.heap.size 1,VN 14 59 c,VP 15 60 bk (c*2),E 16 61 (.agg #[.bool ys,.slice ya yl yc]),⟨17,62,DMV (xt.s ri c) (xt.s rj c)⟩,⟨18,44,DMV (xt.s ri c) (xt.s rj c)⟩,EI 19 63 (xt.s ri c/xt.s rj c),EI 20 64 (xt.s ri c%xt.s rj c),VN 21 65 0,VN 26 12 0] [⟨22,10,24,fun w v=>zH w v (xt.s ri c/xt.s rj c)⟩,⟨23,11,25,fun w v=>zH w v (xt.s ri c%xt.s rj c)⟩] []) kR RI.start ?fin2 ?steps2
        case steps2=>
         (repeat' constructor)<;>(intro L T wS hL hd hcl hI K hK;try refine zA rfl ?_)
         ·exact xgs (hI.k 0 rfl kR)
         ·exact xgs (hI.k 7 rfl kR)
         ·exact xgt (hI.e mm0 (hd 0)) (hI.e mm1 (hd 1))
         ·have zt2:=hI.e mm2 (hd 2)
          have cc0:=hI.cell o1 oM nom;exact xgu
         ·exact xgs (hI.k 9 rfl kR)
         ·have zt4:=hI.e mm4 (hd 4)
          have cc0:=hI.cell p2 oM nom;exact xgu
         ·exact xgt (hI.e mm3 (hd 3)) (hI.e mm5 (hd 5))
         ·have zt6:=hI.e mm6 (hd 6)
          have cc0:=hI.cell v1 oM nom;have cc1:=hI.cell v2 oM nom;exact xgu
         ·exact xgs (hI.k 0 rfl kR)
         ·exact xgs (hI.k 9 rfl kR)
         ·have zt9:=hI.e mm9 (hd 9)
          have cc0:=hI.cell p1 oM nom;exact xgu
         ·exact xgt (hI.e mm8 (hd 8)) (hI.e zAB (hd 10))
         ·have zt11:=hI.e zAG (hd 11)
          have cc0:=hI.cell o2 oM nom;exact xgu
         ·exact xgs (hI.k 9 rfl kR)
         ·have zt13:=hI.e zCS (hd 13)
          have cc0:=hI.cell p2 oM nom;exact xgu
         ·exact xgt (hI.e zAs (hd 12)) (hI.e zBq (hd 14))
         ·have zt15:=hI.e zCV (hd 15)
          have cc0:=hI.cell r1 oM nom;have cc1:=hI.cell r2 oM nom;exact xgu
         ·have zt7:=hI.e mm7 (hd 7)
          have zt16:=hI.e zDy (hd 16);go_simp;refine(zHn _ _ (xt.s ri c) (xt.s rj c) _ (hx.ext hI.lext).weak (hy.ext hI.lext).weak SX.out SY.out HNE.out).mono ?_;rintro e wa ⟨v,rfl,hv,hba⟩;exact hK _ _ ((hI.world hba).y zEy hv)
         ·obtain⟨v17,zt17,h17⟩:=hI.v zEy (hd 17)
          go_simp;exact hK _ _ (hI.y zCl h17)
         ·obtain⟨v18,zt18,h18⟩:=hI.v zCl (hd 18)
          obtain⟨q,r,rfl,hq,hr⟩:=h18;go_simp;exact hK _ _ (hI.n zE5 hq)
         ·obtain⟨v18,zt18,h18⟩:=hI.v zCl (hd 18)
          obtain⟨q,r,rfl,hq,hr⟩:=h18;go_simp;exact hK _ _ (hI.n zEz hr)
         ·obtain⟨v18,zt18,h18⟩:=hI.v zCl (hd 18)
          obtain⟨q,r,rfl,hq,hr⟩:=h18;exact xgu
         ·go_simp
          exact hK _ _ (hI.alloc ⟨22,10,24,_⟩ mm0 rfl hL)
         ·go_simp
          exact hK _ _ (hI.alloc ⟨23,11,25,_⟩ mm1 rfl hL)
         ·obtain⟨v,t1,hv⟩:=hI.vi zE5 (hd 19)
          obtain⟨b,x,y,t2,hb1,hb2,-⟩:=hI.box _ mm0 (hd 22);obtain⟨vneg,vao,vlen,vcap,vls,rfl,hv'⟩:=id hv;have HT:=xgw t2;unfold ptr at t2;obtain⟨k1,k2,k3,k4⟩:=hb2.two;go_simp;exact hK _ _ (hI.store ⟨22,10,24,_⟩ mm0 rfl (hd 22) HT.out hv)
         ·obtain⟨v,t1,hv⟩:=hI.vi zEz (hd 20)
          obtain⟨b,x,y,t2,hb1,hb2,-⟩:=hI.box _ mm1 (hd 23);obtain⟨vneg,vao,vlen,vcap,vls,rfl,hv'⟩:=id hv;have HT:=xgw t2;unfold ptr at t2;obtain⟨k1,k2,k3,k4⟩:=hb2.two;go_simp;exact hK _ _ (hI.store ⟨23,11,25,_⟩ mm1 rfl (hd 23) HT.out hv)
         ·exact xgs (hI.e zE0 (hd 21))
        intro T w9 hI;have hT:=hI.finx kR kR;have hlw9:=hI.lext;have hbw9:=hI.bel (w1.heap.size) oM nom;have holdw9:=hI.old;clear hI;simp only[zEN,zD7,E,EI,ptr,xgm,List.not_mem_nil,false_implies,implies_true,and_true,true_and,xgg,xgh,xgi,xgj]at hT;obtain⟨vb17,hb17,vb18,hb18,vb19,hb19,vb20,hb20,cb22,xb22,yb22,gb22,kb22,ib22,cb23,xb23,yb23,gb23,kb23,ib23,nb22_23,rfl⟩:=hT;obtain⟨qs,qa,ql,qc,rfl,rfl⟩:=ib22.two;have hz:=hz.below hbw9;have T5:=T5.below hbw9;have T9:=T9.below hbw9;have HP:=xgv (HP.out.below hbw9);have hO:=hO.trans (zX.of Z hbw9);have lq:=kb22.lt;clear o1 o2 v1 v2 r1 r2 p1 p2 p3 p4;obtain⟨d1,d2,d3,d4⟩:=kb22.two;go_wp2_with fail
        refine(qV _ (xt.s ri c/xt.s rj c) _ ib22.weak).mono ?_;rintro e w10 ⟨rfl,hb10⟩;have hz:=hz.below hb10;have T5:=T5.below hb10;have T9:=T9.below hb10;have HP:=xgv (HP.out.below hb10);have hO:=hO.trans (zX.of Z hb10);have kq:=kb22.below hb10;have iq:=ib22.ext (lx hb10);have h3:=H3.out;clear d1 d2 d3 d4 H3 kb22 ib22;by_cases hq0:xt.s ri c/xt.s rj c=0
        ·rw[if_pos hq0]at h3
         rw[zA3 hq0];have H3:=xgv h3;clear h3 hq0;go_wp2;go_roundw
         case rel=>exact⟨u+1,xt,by simp,by omega,hO,T5,HP,hz,⟨⟨HOK.out,by rw[hm2,hj1];exact H3.out⟩⟩⟩
         case measure=>simp[intOf];omega
        ·rw [if_neg hq0]at h3
         by_cases hadd:zDe B n Cs Ct xt ri rj (-(xt.s ri c/xt.s rj c))
         ·rw[if_pos hadd]at h3
          have hcq:=zCf hq0;obtain⟨k1,hk1⟩:∃k1,qJ (xt.s ri c/xt.s rj c) 0=k1:=⟨_,rfl⟩;rw[hk1]at hcq ⊢
          have H3:=xgv h3;have HADD:=xgv hadd;have SQ:qE (Sm (xt.s ri c/xt.s rj c)):=⟨hB.bsm.sm _ (by have:=hadd.1;rwa[Int.natAbs_neg]at this)⟩;clear h3 hadd hq0 hk1;obtain⟨c1,c2,c3,c4,c5,c6⟩:=T5.three;obtain⟨d1,d2,d3,d4⟩:=kq.two;obtain⟨p1,p2,p3,p4⟩:=T9.two;have lq:=kq.lt;have l0:=T5.lt;have l9:=T9.lt;go_upto_region 11 with(fail)
          refine zC 7 rfl (RI w10 (w10.heap.size) _ 35
            [VP 0 69 w.heap.size 0,E 1 70 (.func (.func 220) #[.pointer (some ⟨bw,0,none⟩)] #[]),VN 2 71 ri,VP 3 72 wt.heap.size 0,VN 4 73 rj,E 5 74 (.agg #[.bool qs,.slice qa ql qc]),EI 6 75 (-(xt.s ri c/xt.s rj c))] [] []) kR RI.start (RI.fin kR ?fin3) ?steps3
          case steps3=>
           (repeat' constructor)<;>(intro L T wS hL hd hcl hI K hK;try refine zA rfl ?_)
           ·exact xgs (hI.k 5 rfl kR)
           ·have zt0:=hI.e mm0 (hd 0)
            have cc0:=hI.cell c1 oM nom;exact xgu
           ·exact xgs (hI.k 7 rfl kR)
           ·exact xgs (hI.k 9 rfl kR)
           ·have zt3:=hI.e mm3 (hd 3)
            have cc0:=hI.cell p1 oM nom;exact xgu
           ·have zt:=hI.k 10 rfl kR
            have cc0:=hI.cell d1 oM nom;have cc1:=hI.cell d2 oM nom;exact xgu
           ·have zt5:=hI.e mm5 (hd 5)
            go_simp;refine(jP _ (xt.s ri c/xt.s rj c) _ (iq.ext hI.lext).weak SQ.out).mono ?_;exact xgo
          intro w11 hlw11 hbw11 holdw11 T hT;simp only[Fin,E,EI,VP,VSl,VN,xgg,xgh,xgi,xgj]at hT;obtain⟨vy6,hy6,rfl⟩:=hT;simp only[xgl,xgk];have hz:=hz.below hbw11;have T5:=T5.below hbw11;have HP:=xgv (HP.out.below hbw11);have hO:=hO.trans (zX.of Z hbw11);clear c1 c2 c3 c4 c5 c6 d1 d2 d3 d4 p1 p2 p3 p4;go_wp2_with fail
          refine(zQc hB.bsm hz HOK.out hin htn hne hy6 hn hCs hCt HADD.out).mono ?_;rintro e w12 ⟨⟨uu12,rfl⟩,hO12,hz⟩;have hok:=HADD.out.ok;have hO:=hO.trans hO12;have T5:=hO12.blk T5 (fun hh=>by have:=hZ _ hh;omega);have HP:=xgv (HP.out.onlyZ hO12 HPZ.out);have HOK2:=xgv hok;clear hok;go_wp2;go_roundw
          case rel=>exact⟨u+1,_,by simp,by omega,hO,T5,HP,hz,⟨⟨HOK2.out,by rw[hm2,hj1];exact H3.out⟩⟩⟩
          case measure=>simp[intOf];omega
         ·rw[if_neg hadd]at h3
          cases h3
     ·obtain rfl:u=M:=by omega
      have h3:=hx.out.2;rw[Nat.sub_self]at h3;unfold zEp at h3;injection h3 with h3
      have H3:=xgv h3;have HOK:=xgv hx.out.1;clear h3 hx;go_wp2;go_roundw
      case rel=>exact⟨i,(i:Int)-1,xt,by simp,rfl,by omega,hO,T5,HP,hz,⟨⟨HOK.out,by rw[H3.out];exact HR.out⟩⟩⟩
      case measure=>simp[intOf]
theorem Tryz.infoPiv:(Tryz.prog.info? zAo).map (fun i=>(i.zero,i.size,i.bytes))=some (some (.agg #[.int .i64 0,.int .i64 0]),2,16):=by kernel_rfl
def pc(L:List (Nat × Nat)):List Value:=L.flatMap fun p=>[.int .i64 (p.1:Nat),.int .i64 (p.2:Nat)]
theorem zLL:pc []= []:=rfl
theorem zDg(p:Nat × Nat)(L:List (Nat × Nat)):pc (p::L)= .int .i64 (p.1:Nat):: .int .i64 (p.2:Nat)::pc L:=rfl
theorem zLJ(L M:List (Nat × Nat)):pc (L++M)=pc L++pc M:=by unfold pc;rw[List.flatMap_append]
theorem zEh(L:List (Nat × Nat)):(pc L).length=L.length*2:=by
 induction L with
 |nil=>rfl
 |cons p L ih=>rw[zDg];simp[ih];omega
theorem zLM(L:List (Nat × Nat))(k:Nat):(pc L).take (k*2)=pc (L.take k):=by
 induction L generalizing k with
 |nil=>simp[zLL]
 |cons p L ih=>
  cases k with
  |zero=>simp[zLL]
  |succ k=>rw[List.take_succ_cons,zDg,zDg,show(k+1)*2=k*2+1+1 by omega,List.take_succ_cons,List.take_succ_cons,ih]
theorem zLK(L:List (Nat × Nat))(k:Nat):(pc L).drop (k*2)=pc (L.drop k):=by
 induction L generalizing k with
 |nil=>simp[zLL]
 |cons p L ih=>
  cases k with
  |zero=>simp
  |succ k=>rw[xgl,zDg,show(k+1)*2=k*2+1+1 by omega,xgl,xgl,ih]
theorem zPk{L:List (Nat × Nat)}{k:Nat}{p:Nat × Nat}(h:L[k]?=some p):(pc L)[k*2]?=some (.int .i64 (p.1:Nat))/\(pc L)[k*2+1]?=some (.int .i64 (p.2:Nat)):=by
 induction L generalizing k with
 |nil=>simp at h
 | cons q L ih=>
  cases k with
  |zero=>simp at h;subst h;exact⟨rfl,rfl⟩
  |succ k=>
   rw[List.getElem?_cons_succ]at h;obtain⟨h1,h2⟩:=ih h;rw[zDg,show(k+1)*2=k*2+1+1 by omega];exact⟨h1,h2⟩
theorem zIz(L:List (Nat × Nat)):∀u∈pc L,u.oneCell'=true:=by
 induction L with
 |nil=>intro u hu;cases hu
 | cons p L ih=>
  intro u hu;rw[zDg]at hu;rcases List.mem_cons.1 hu with rfl|hu
  ·rfl
  ·rcases List.mem_cons.1 hu with rfl|hu
   ·rfl
   ·exact ih u hu
def zDq(w:World)(base:Nat)(v:Value)(L:List (Nat × Nat)):Prop:=w.ownsRow base zAo 2 v L.length (pc L)
theorem zDq.piv{w:World}{base:Nat}{v:Value}{L:List (Nat × Nat)}(h:zDq w base v L):zHd w v L.length (fun k=>(L.getD k (0,0)).1) (fun k=>(L.getD k (0,0)).2):=by
 rcases h.2 with⟨rfl,h0⟩|⟨g,cap,cur,rfl,k1,k2,k3,k4,k5,k6⟩
 ·exact⟨none,0,by rw[h0],by omega,by omega,fun h=>by omega⟩
 ·refine⟨_,cap,rfl,k3,k4,fun _=>⟨g,cur,rfl,k2,fun k hk=>?_⟩⟩
  have hx:=xga hk;obtain⟨c1,c2⟩:=zPk hx;have hg:L.getD k (0,0)=L[k]:=by rw[xgb,hx];rfl
  show cur[k*2]?=some (Value.int .i64 (((L.getD k (0,0)).1:Nat):Int))/\cur[k*2+1]?=some (Value.int .i64 (((L.getD k (0,0)).2:Nat):Int));rw[hg];rw[<-k6,List.getElem?_take]at c1 c2;constructor
  ·split at c1
   ·simpa using c1
   ·cases c1
  ·split at c2
   ·simpa using c2
   ·cases c2
theorem zDq.below{w w':World}{base:Nat}{v:Value}{L:List (Nat × Nat)}(h:zDq w base v L)(hb:Below w.heap.size w w'):zDq w' base v L:=
 World.ownsRow.kept h (row:=none) ⟨hb.os,hb.tape,hb.output,hb.size,fun k hk _=>hb.block k hk⟩ (by cases hv:v.ownBlock<;>simp)
theorem zDq.own{w:World}{base:Nat}{v:Value}{L:List (Nat × Nat)}(h:zDq w base v L):∀g,v.ownBlock=some g->base<=g/\g<w.heap.size:=World.ownsRow.lt h
theorem zDq.old{w w':World}{base:Nat}{v:Value}{L:List (Nat × Nat)}(h:zDq w base v L)(ho:∀g,v.ownBlock=some g->w'.heap[g]?=w.heap[g]?):zDq w' base v L:=by
 obtain⟨h1,h2⟩:=h;refine⟨h1,?_⟩;rcases h2 with h2|⟨g,cap,cur,rfl,k1,k2,r⟩
 ·exact .inl h2
 ·exact .inr ⟨g,cap,cur,rfl,k1,(ho g rfl).trans k2,r⟩
theorem zDq.nil(w:World)(base:Nat):zDq w base (.slice none 0 0) []:=⟨rfl,.inl ⟨rfl,rfl⟩⟩
theorem zCP{w:World}{ops:Array Oper}{rest:List Oper}{o:Oper}{a:Act}{Q:Exit->Act->World->Prop}(hgd:o.guard=none)(d s:Operand)(t t':TypeId)
  (ho:o.op= .call {callee:=.builtin .copy,args:=#[d,s],argTypes:=#[t,t']}) (v u:Value) (hd:a.eval d=v) (hs:a.eval s=u) {v':Value} {w':World}
  (hr:(Builtin.copy_ #[t,t'] o.type #[v,u]).run Tryz.prog w= .ok v' w') (h:wpList Tryz.prog ops Q rest (a.put o.dst v') w'):wpList Tryz.prog ops Q (o::rest) a w:=by
 refine wpList_plain hgd fun K hK=>?_
 unfold Oper.wp execOp;simp only[ho,resolve,invoke,builtin,Sem.run_bind,Sem.run_pure,Result.andThen_ok,List.map_toArray,List.map_cons,List.map_nil,hd,hs,hr];exact hK _ _ h
theorem zDF(w:World)(ty:TypeId)(g o dLen dCap:Nat)(a:Addr)(sLen sCap:Nat)(cur:Array Value)(t:TypeId)(cs:List Value)
  (hg:w.heap[g]?=some (.cells cur t (0,0))) (hn:cs.length=Nat.min sLen dLen*2)
  (hsrc:∀j v,cs[j]?=some v->w.cell? (a.add j)=some v) (hfit:o+cs.length<=cur.size) (h1:∀v∈cs,v.oneCell'=true):
  ∃v,(Builtin.copy_ #[266,266] ty #[.slice (some ⟨g,o,none⟩) dLen dCap,.slice (some a) sLen sCap]).run Tryz.prog w=
   .ok v (w.setRow g (cur.toList.take o++cs++cur.toList.drop (o+cs.length)).toArray):=by
 obtain⟨i0,hi,hz0,hz1,hz2⟩:=info_parts Tryz.infoPiv;have hl:=run_loadCells_list (P:=Tryz.prog) w a cs hsrc;have hst:=run_storeCells_at Tryz.prog g o t cs 0 cur w hg (by simpa using hfit) h1;have hu:=Tryz.underlying266;refine⟨goInt (Nat.min sLen dLen),?_⟩;simp[Builtin.copy_,run_underlying hu,Builtin.lenOf,Builtin.firstCells,sizeOf,typeInfo,hi,hz1,<-hn,hl,hst]
section
variable {P:Program} {ops:Array Oper} {Q:Exit->Act->World->Prop}
def zD6(ops:Array Oper):Nat->Nat->Nat->Bool
 |0,j,k=>j==k
 |f+1,j,k=>j==k||((ops[j]?).map (fun o=>o.after.any fun e=>Region.binds .any e && zD6 ops f e.on k)).getD false
theorem zAg{L:Array Bool}(hcl:zAQ ops L):∀{f j k:Nat},zD6 ops f j k=true->L[j]?=some true->L[k]?=some true:=by
 intro f;induction f with
 |zero=>
  intro j k h hj;unfold zD6 at h;rw[<-(beq_iff_eq.1 h)];exact hj
 | succ f ih=>
  intro j k h hj;unfold zD6 at h;rw[Bool.or_eq_true]at h;rcases h with h|h
  ·rw[<-(beq_iff_eq.1 h)]
   exact hj
  ·cases ho:ops[j]? with
   |none=>rw[ho]at h;simp at h
   |some o=>
    rw[ho]at h;simp only[Option.map_some,Option.getD_some]at h;rw[<-Array.any_toList,List.any_eq_true]at h;obtain⟨e,he,h2⟩:=h;rw[Bool.and_eq_true]at h2;refine ih h2.2 (hcl j o ho hj e.on ?_);unfold zGT;rw[<-Array.any_toList,List.any_eq_true];exact⟨e,he,by simp[h2.1]⟩
variable {W:World} {n0:Nat} {T0:Array Value} {tB:TypeId} {vs:List VS} {bs:List BS} {es:List ES} {L:Array Bool} {T:Array Value} {w w':World}
theorem RI.skip{k:Nat}(h:RI W n0 T0 tB vs bs es L T w)(h1:∀s∈vs,s.op≠k)(h2:∀s∈bs,s.al≠k/\s.st≠k)(h3:∀s∈es,s.st≠k):RI W n0 T0 tB vs bs es (L.setIfInBounds k true) T w:=
 ⟨h.wf,h.tb,h.lv,h.lb,h.le,h.eb,h.ed,h.size,h.keep,h.bel0,h.old,h.lext,h.ge,
  fun s hs hl=>yG (h.sto s hs (zL hl (Ne.symm (h2 s hs).2))),
  fun s hs hl=>h.val s hs (zL hl (Ne.symm (h1 s hs))),
  fun s hs hl=>by
   obtain⟨b,x,y,e1,e2,e3,e4⟩:=h.box s hs (zL hl (Ne.symm (h2 s hs).1));exact⟨b,x,y,e1,e2,e3,fun hh=>e4 (zL hh (Ne.symm (h2 s hs).2))⟩,
  fun s hs t ht hne l1 l2 b c e1 e2=>h.far s hs t ht hne (zL l1 (Ne.symm (h2 s hs).1)) (zL l2 (Ne.symm (h2 t ht).1)) b c e1 e2,
  fun s hs=>by
   obtain⟨⟨x,y,e1,e2⟩,e3⟩:=h.ex s hs;exact⟨⟨x,y,e1,fun hh=>e2 (zL hh (Ne.symm (h3 s hs)))⟩,fun hh=>e3 (zEq hh)⟩⟩
theorem zHp{w W:World}{b o:Nat}(h:w.heap[b]?=W.heap[b]?):w.frozen? ⟨b,o,none⟩=W.frozen? ⟨b,o,none⟩:=by
 simp only[World.frozen?,h]
theorem zKR{w W:World}{b o:Nat}(h:w.heap[b]?=W.heap[b]?):w.cell? ⟨b,o,none⟩=W.cell? ⟨b,o,none⟩:=by
 simp only[World.cell?,h]
def zNl(T:Array Value)(sl k:Nat):Value:=match T[sl]? with
 |some (.agg cs)=>cs.getD k undef
 |_=>undef
def zQk(sl b o:Nat):Array Value->World->World:=fun T w=>(w.setCell ⟨b,o,none⟩ (zNl T sl 0)).setCell ⟨b,o+1,none⟩ (zNl T sl 1)
structure RIS(W:World)(n0:Nat)(T0:Array Value)(tB:TypeId)(vs:List VS)(bs:List BS)(es:List ES)(k1 k2:Nat)(p1:World->World)(p2:Array Value->World->World)(L:Array Bool)(T:Array Value)(w:World):Prop where
 ex:∃w0,RI W n0 T0 tB vs bs es L T w0/\(L[k1]?≠some true->w=w0)/\(L[k1]?=some true->L[k2]?≠some true->w=p1 w0)/\(L[k2]?=some true->w=p2 T (p1 w0))
variable {n k1 k2:Nat} {p1:World->World} {p2:Array Value->World->World}
theorem RIS.start(h:RI W n0 T0 tB vs bs es (Array.replicate n false) T w):RIS W n0 T0 tB vs bs es k1 k2 p1 p2 (Array.replicate n false) T w:=by
 have hf:∀k:Nat,(Array.replicate n false)[k]?≠some true:=by
  intro k h;rw[Array.getElem?_replicate]at h;split at h<;>simp at h
 exact⟨w,h,fun _=>rfl,fun h1=>absurd h1 (hf _),fun h1=>absurd h1 (hf _)⟩
theorem zF.lift{ds:List Deferred}{k:Nat}{o:Oper}(hr1:zD6 ops 9 k1 k=true)(hr2:zD6 ops 9 k2 k1=true)(hk:k≠k1/\k≠k2)(h:zF P ops Q ds (RI W n0 T0 tB vs bs es) k o):zF P ops Q ds (RIS W n0 T0 tB vs bs es k1 k2 p1 p2) k o:=by
 intro L T w hL hd hcl hI K hK;obtain⟨w0,hri,h1,h2,h3⟩:=hI.ex;have hn:L[k1]?≠some true:=fun hh=>by
  have:=zAg hcl hr1 hh;rw[hL]at this;cases this
 have hn2:L[k2]?≠some true:=fun hh=>hn (zAg hcl hr2 hh)
 obtain rfl:=h1 hn;exact h L T w hL @hd hcl hri K (fun T' w' hI'=>hK T' w' ⟨w',hI',fun _=>rfl,fun hh=>absurd (zL hh hk.1) hn,fun hh=>absurd (zL hh hk.2) hn2⟩)
theorem RIS.value{k:Nat}{v:Value}(h:RIS W n0 T0 tB vs bs es k1 k2 p1 p2 L T w)(hcl:zAQ ops L)(hr2:zD6 ops 9 k2 k=true)(hL:L[k]?=some false)(hk:k≠k1/\k≠k2)(s:VS)(hs:s∈vs)(hsk:s.op=k)(hP:∀w,s.P w v):
  RIS W n0 T0 tB vs bs es k1 k2 p1 p2 (L.setIfInBounds k true) (T.setIfInBounds s.slot v) w:=by
 obtain⟨w0,hri,h1,h2,h3⟩:=h.ex;have hn2:L[k2]?≠some true:=fun hh=>by
  have:=zAg hcl hr2 hh;rw[hL]at this;cases this
 exact⟨w0,hri.value s hs hsk (hP w0),fun hh=>h1 (zEq hh),fun hh hh2=>h2 (zL hh hk.1) (zEq hh2),fun hh=>absurd (zL hh hk.2) hn2⟩
theorem RIS.val{s:VS}(h:RIS W n0 T0 tB vs bs es k1 k2 p1 p2 L T w)(hs:s∈vs)(hl:L[s.op]?=some true)(hP:∀w w' v,s.P w v->s.P w' v):∃v,T[s.slot]?=some v/\∀w,s.P w v:=by
 obtain⟨w0,hri,-⟩:=h.ex;obtain⟨v,e1,e2⟩:=hri.val s hs hl;exact⟨v,e1,fun w=>hP _ _ _ e2⟩
theorem RIS.keep{j:Nat}(h:RIS W n0 T0 tB vs bs es k1 k2 p1 p2 L T w)(h1:∀s∈vs,s.slot≠j)(h2:∀s∈bs,s.slot≠j):T[j]?=T0[j]?:=by
 obtain⟨w0,hri,-⟩:=h.ex;exact hri.keep j h1 h2
theorem RIS.first(h:RIS W n0 T0 tB vs bs es k1 k2 p1 p2 L T w)(hcl:zAQ ops L)(hr2:zD6 ops 9 k2 k1=true)(hL:L[k1]?=some false)(hne:k1≠k2)(h1:∀s∈vs,s.op≠k1)(h2:∀s∈bs,s.al≠k1/\s.st≠k1)(h3:∀s∈es,s.st≠k1):
  RI W n0 T0 tB vs bs es L T w/\RIS W n0 T0 tB vs bs es k1 k2 p1 p2 (L.setIfInBounds k1 true) T (p1 w):=by
 obtain⟨w0,hri,g1,g2,g3⟩:=h.ex;have hn:L[k1]?≠some true:=by rw[hL];simp
 have hn2:L[k2]?≠some true:=fun hh=>hn (zAg hcl hr2 hh)
 have hw:w=w0:=g1 hn;subst hw;refine⟨hri,⟨w,hri.skip h1 h2 h3,fun hh=>absurd (Array.getElem?_setIfInBounds_self_of_lt (Array.getElem?_eq_some_iff.1 hL).1) hh,fun _ _=>rfl,fun hh=>absurd (zL hh hne) hn2⟩⟩
theorem RIS.second(h:RIS W n0 T0 tB vs bs es k1 k2 p1 p2 L T w)(hl1:L[k1]?=some true)(hL:L[k2]?=some false)(h1:∀s∈vs,s.op≠k2)(h2:∀s∈bs,s.al≠k2/\s.st≠k2)(h3:∀s∈es,s.st≠k2):
  ∃w0,w=p1 w0/\RI W n0 T0 tB vs bs es L T w0/\RIS W n0 T0 tB vs bs es k1 k2 p1 p2 (L.setIfInBounds k2 true) T (p2 T (p1 w0)):=by
 obtain⟨w0,hri,g1,g2,g3⟩:=h.ex;have hn2:L[k2]?≠some true:=by rw[hL];simp
 refine⟨w0,g2 hl1 hn2,hri,⟨w0,hri.skip h1 h2 h3,fun hh=>absurd (yG hl1) hh,fun _ hh=>absurd (Array.getElem?_setIfInBounds_self_of_lt (Array.getElem?_eq_some_iff.1 hL).1) hh,fun _=>rfl⟩⟩
theorem RIS.fin(h:RIS W n0 T0 tB vs bs es k1 k2 p1 p2 (Array.replicate n true) T w)(hk:k2<n):∃w0,RI W n0 T0 tB vs bs es (Array.replicate n true) T w0/\w=p2 T (p1 w0):=by
 obtain⟨w0,hri,g1,g2,g3⟩:=h.ex;exact⟨w0,hri,g3 (by simp[hk])⟩
end
structure RA(S:List Nat)(k:Nat)(W:World)(T0:Array Value)(vs:List VS)(L:Array Bool)(T:Array Value)(w:World):Prop where
 wf:zCc T0.size vs=true
 lv:∀s∈vs,qK s.P
 size:T.size=T0.size
 keep:∀j,(∀s∈vs,s.slot≠j)->T[j]?=T0[j]?
 onl:qU S W w
 bef:L[k]?=some false->Below W.heap.size W w
 val:∀s∈vs,L[s.op]?=some true->∃v,T[s.slot]?=some v/\s.P w v
section
variable {S:List Nat} {p:Nat} {W:World} {T0:Array Value} {vs:List VS} {L:Array Bool} {T:Array Value} {w w':World}
theorem RA.start(hwf:zCc T0.size vs=true)(hv:∀s∈vs,qK s.P){n:Nat}:RA S p W T0 vs (Array.replicate n false) T0 W.drew:=
 ⟨hwf,hv,rfl,fun _ _=>rfl,qU.of S (dr _),fun _=>dr _,fun s _ h=>by
  rw[Array.getElem?_replicate]at h;split at h<;>simp at h⟩
theorem RA.world(h:RA S p W T0 vs L T w)(hb:Below w.heap.size w w'):RA S p W T0 vs L T w':=
 ⟨h.wf,h.lv,h.size,h.keep,h.onl.trans (qU.of S hb),fun hp=>nx (h.bef hp) hb,fun s hs hl=>by
  obtain⟨v,h1,h2⟩:=h.val s hs hl;exact⟨v,h1,h.lv s hs _ _ _ hb h2⟩⟩
theorem RA.value{k:Nat}{v:Value}(h:RA S p W T0 vs L T w)(s:VS)(hs:s∈vs)(hk:s.op=k)(hP:s.P w v):RA S p W T0 vs (L.setIfInBounds k true) (T.setIfInBounds s.slot v) w:=by
 subst hk;have hwf:=h.wf;unfold zCc at hwf;simp only[Bool.and_eq_true,decide_eq_true_eq,List.all_eq_true]at hwf;obtain⟨⟨w1,w2⟩,w3⟩:=hwf;have hslot:s.slot<T0.size:=w3 _ (List.mem_map.2 ⟨s,hs,rfl⟩);refine⟨h.wf,h.lv,by simp[h.size],fun j h1=>by rw[xgc (h1 s hs)];exact h.keep j h1,h.onl,fun hp=>h.bef ?_,?_⟩
 ·by_cases he:s.op=p
  ·subst he
   rw[Array.getElem?_setIfInBounds]at hp;split at hp
   ·split at hp<;>cases hp
   ·exact hp
  ·rwa[xgc he]at hp
 intro t ht hl;by_cases he:t=s
 ·subst he
  exact⟨v,by rw[Array.getElem?_setIfInBounds_self_of_lt (by rw[h.size];exact hslot)],hP⟩
 ·have n1:t.op≠s.op:=fun e=>he (zN w2 ht hs e)
  have n2:t.slot≠s.slot:=fun e=>he (zN w1 ht hs e)
  obtain⟨u,h1,h2⟩:=h.val t ht (zL hl (Ne.symm n1));exact⟨u,by rw[xgc (Ne.symm n2)];exact h1,h2⟩
theorem RA.turn{v:Value}(h:RA S p W T0 vs L T w)(s:VS)(hs:s∈vs)(hk:s.op=p)(hL:p<L.size)(ho:qU S w w')(hq:∀t∈vs,t≠s->L[t.op]?=some true->∀v,t.P w v->t.P w' v)(hP:s.P w' v):RA S p W T0 vs (L.setIfInBounds p true) (T.setIfInBounds s.slot v) w':=by
 subst hk;have hwf:=h.wf;unfold zCc at hwf;simp only[Bool.and_eq_true,decide_eq_true_eq,List.all_eq_true]at hwf;obtain⟨⟨w1,w2⟩,w3⟩:=hwf;have hslot:s.slot<T0.size:=w3 _ (List.mem_map.2 ⟨s,hs,rfl⟩);refine⟨h.wf,h.lv,by simp[h.size],fun j h1=>by rw[xgc (h1 s hs)];exact h.keep j h1,h.onl.trans ho,fun hp=>?_,?_⟩
 ·rw[Array.getElem?_setIfInBounds_self_of_lt hL]at hp
  cases hp
 intro t ht hl;by_cases he:t=s
 ·subst he
  exact⟨v,by rw[Array.getElem?_setIfInBounds_self_of_lt (by rw[h.size];exact hslot)],hP⟩
 ·have n1:t.op≠s.op:=fun e=>he (zN w2 ht hs e)
  have n2:t.slot≠s.slot:=fun e=>he (zN w1 ht hs e)
  have hl':=zL hl (Ne.symm n1);obtain⟨u,h1,h2⟩:=h.val t ht hl';exact⟨u,by rw[xgc (Ne.symm n2)];exact h1,hq t ht he hl' u h2⟩
theorem RA.v{s:VS}(h:RA S p W T0 vs L T w)(hs:s∈vs)(hl:L[s.op]?=some true):∃v,T[s.slot]?=some v/\s.P w v:=h.val s hs hl
theorem RA.y{k:Nat}{v:Value}(h:RA S p W T0 vs L T w){s:VS}(hs:s∈vs)(hP:s.P w v)(hk:s.op=k:=by rfl):RA S p W T0 vs (L.setIfInBounds k true) (T.setIfInBounds s.slot v) w:=h.value s hs hk hP
theorem RA.cell{b o:Nat}{v:Value}(h:RA S p W T0 vs L T w)(hb:b ∉ S)(hlt:b<W.heap.size)(hc:W.cell? ⟨b,o,none⟩=some v):w.cell? ⟨b,o,none⟩=some v:=by
 have:=h.onl.old b hlt hb;unfold World.cell? at hc ⊢
 rw[this];exact hc
end
def RAS(S:List Nat)(p:Nat)(W:World)(T0:Array Value)(vs:List VS)(q:Nat)(st:Array Value->World->World)(L:Array Bool)(T:Array Value)(w:World):Prop:=
 ∃w0,RA S p W T0 vs L T w0/\(L[q]?≠some true->w=w0)/\(L[q]?=some true->w=st T w0)
section
variable {S:List Nat} {p:Nat} {W:World} {T0:Array Value} {vs:List VS} {L:Array Bool} {T:Array Value} {w w':World} {q:Nat} {st:Array Value->World->World}
theorem RAS.start{n:Nat}(h:RA S p W T0 vs (Array.replicate n false) T0 W.drew):RAS S p W T0 vs q st (Array.replicate n false) T0 W.drew:=
 ⟨_,h,fun _=>rfl,fun hh=>by
  rw[Array.getElem?_replicate]at hh;split at hh<;>simp at hh⟩
theorem RA.mark(h:RA S p W T0 vs L T w)(hq:∀s∈vs,s.op≠q)(hp:q≠p):RA S p W T0 vs (L.setIfInBounds q true) T w:=
 ⟨h.wf,h.lv,h.size,h.keep,h.onl,fun hh=>h.bef (by rwa[xgc hp]at hh),fun s hs hl=>h.val s hs (zL hl (Ne.symm (hq s hs)))⟩
theorem zF.liftA{P:Program}{ops:Array Oper}{Q:Exit->Act->World->Prop}{ds:List Deferred}{i:Nat}{o:Oper}(hq:zD6 ops 5 q i=true)(hne:i≠q)
  (h:zF P ops Q ds (RA S p W T0 vs) i o):zF P ops Q ds (RAS S p W T0 vs q st) i o:=by
 intro L T w hL hd hcl hI K hK;obtain⟨w0,h0,h1,h2⟩:=hI;have hLq:L[q]?≠some true:=fun hh=>by
  have:=zAg hcl hq hh;rw[hL]at this;cases this
 obtain rfl:=h1 hLq;exact h L T w hL @hd hcl h0 K (fun T' w' h'=>hK T' w' ⟨w',h',fun _=>rfl,fun hh=>absurd (zL hh hne) hLq⟩)
theorem RAS.pure{k:Nat}{v:Value}(h:RAS S p W T0 vs q st L T w)(s:VS)(hs:s∈vs)(hk:s.op=k)(hP:∀w,s.P w v)(hne:k≠q)(hst:∀w,st (T.setIfInBounds s.slot v) w=st T w):RAS S p W T0 vs q st (L.setIfInBounds k true) (T.setIfInBounds s.slot v) w:=by
 obtain⟨w0,h0,h1,h2⟩:=h;exact⟨w0,h0.value s hs hk (hP w0),fun hn=>h1 fun hh=>hn (yG hh),fun hh=>(h2 (zL hh hne)).trans (hst w0).symm⟩
theorem RAS.store(h:RA S p W T0 vs L T w)(hL:L[q]?=some false)(hq:∀s∈vs,s.op≠q)(hp:q≠p)(hw:w'=st T w):RAS S p W T0 vs q st (L.setIfInBounds q true) T w':=
 ⟨w,h.mark hq hp,fun hn=>absurd (Array.getElem?_setIfInBounds_self_of_lt (Array.getElem?_eq_some_iff.1 hL).1) hn,fun _=>hw⟩
theorem RAS.here(h:RAS S p W T0 vs q st L T w)(hL:L[q]?=some false):RA S p W T0 vs L T w:=by
 obtain⟨w0,h0,h1,-⟩:=h;obtain rfl:=h1 (by rw[hL];simp);exact h0
end
def put3(a b:Nat)(T:Array Value)(w:World):World:=
 match T[a]?,T[b]? with
 |some (.pointer (some ⟨g,0,none⟩)),some (.agg #[x,y,z])=>((w.setCell ⟨g,0,none⟩ x).setCell ⟨g,1,none⟩ y).setCell ⟨g,2,none⟩ z
 |_,_=>w
theorem zB6{a b g:Nat}{T:Array Value}{w:World}{x y z:Value}(h1:T[a]?=some (.pointer (some ⟨g,0,none⟩)))(h2:T[b]?=some (.agg #[x,y,z])):put3 a b T w=((w.setCell ⟨g,0,none⟩ x).setCell ⟨g,1,none⟩ y).setCell ⟨g,2,none⟩ z:=by
 unfold put3;rw[h1,h2];rfl
theorem zEE{a b c:Nat}{T:Array Value}{w:World}{v:Value}(h1:c≠a)(h2:c≠b):put3 a b (T.setIfInBounds c v) w=put3 a b T w:=by
 unfold put3;rw[xgc h1,xgc h2]
theorem zFc{w w':World}{v:Value}(hg:w.grownBy w' v.ownBlock)(hx:yI w w'):qU v.ownBlock.toList w w':=
 ⟨(Below.refl 0 w).grown hg (Nat.zero_le _) (fun g _=>Nat.zero_le g),hx,fun k hk hn=>hg.block k hk (fun e=>hn (by rw[<-e];simp))⟩
theorem Below.only{B:Nat}{S:List Nat}{w0 w w':World}(h:Below B w0 w)(ho:qU S w w')(hB:B<=w0.heap.size)(hS:∀b∈S,B<=b):Below B w0 w':=
 h.trans ⟨ho.bel.os,ho.bel.tape,ho.bel.output,ho.bel.size,fun k hk=>ho.old k (Nat.lt_of_lt_of_le hk (Nat.le_trans hB h.size)) fun hm=>absurd (hS k hm) (by omega)⟩
theorem Blk.only{S:List Nat}{w w':World}{b:Nat}{t:TypeId}{cs:Array Value}(h:Blk w b t cs)(ho:qU S w w')(hb:b ∉ S):Blk w' b t cs:=(ho.old b h.lt hb).trans h
theorem zM5{w w':World}{g:Nat}{t:TypeId}{cs:Array Value}(hb:Blk w g t cs)(ht:t≠tU)(hbel:Below 0 w w')(ho:∀k,k≠g->w'.heap[k]?=w.heap[k]?):qU [g] w w':=
 ⟨hbel,fun b cs' fz hh=>(ho b (by
  rintro rfl
  have h1:w.heap[b]?=some (.cells cs t (0,0)):=hb
  rw[h1]at hh
  injection hh with hh
  injection hh with _ e
  exact ht e)).trans hh,fun k _ hk=>ho k (by simpa using hk)⟩
theorem zBC(w:World)(g:Nat)(cs:Array Value):Below 0 w (w.setRow g cs):=⟨rfl,rfl,rfl,by unfold World.setRow;simp,fun k hk=>by omega⟩
theorem zHK{w:World}{g:Nat}{t:TypeId}{cs:Array Value}(h:Blk w g t cs):w.shape? g=some (t,cs.size):=by
 have h1:w.heap[g]?=some (.cells cs t (0,0)):=h;unfold World.shape?;rw[h1]
theorem zFS{w:World}{g o:Nat}{t:TypeId}{cs:Array Value}(h:Blk w g t cs):w.frozen? ⟨g,o,none⟩=false:=by
 have h1:w.heap[g]?=some (.cells cs t (0,0)):=h;unfold World.frozen?;rw[h1];simp
theorem zKw{cur:List Value}{L:List (Nat × Nat)}{n k:Nat}(hn:L.length=n)(hk:k<=n)(hc:cur.take (n*2)=pc L)(hs:n*2+2<=cur.length)(r c:Nat):
  (((cur.take ((k+1)*2)++pc (L.drop k)++cur.drop ((k+1)*2+(pc (L.drop k)).length)).take (k*2)++pc [(r,c)]++(cur.take ((k+1)*2)++pc (L.drop k)++cur.drop ((k+1)*2+(pc (L.drop k)).length)).drop (k*2+(pc [(r,c)]).length)).take ((n+1)*2))=pc (L.take k++(r,c)::L.drop k):=by
 have l1:(pc (L.drop k)).length=(n-k)*2:=by rw[zEh,List.length_drop,hn]
 have l2:(pc [(r,c)]).length=2:=rfl;have l3:(cur.take ((k+1)*2)).length=(k+1)*2:=by rw[List.length_take];omega
 have t1:(cur.take ((k+1)*2)++pc (L.drop k)++cur.drop ((k+1)*2+(pc (L.drop k)).length)).take (k*2)=pc (L.take k):=by
  rw[List.append_assoc,List.take_append_of_le_length oM,List.take_take,Nat.min_eq_left oM,<-zLM,<-hc,List.take_take,Nat.min_eq_left oM]
 have t2:(cur.take ((k+1)*2)++pc (L.drop k)++cur.drop ((k+1)*2+(pc (L.drop k)).length)).drop (k*2+(pc [(r,c)]).length)=pc (L.drop k)++cur.drop ((k+1)*2+(pc (L.drop k)).length):=by
  rw[List.append_assoc,List.drop_append_of_le_length oM,l2,List.drop_eq_nil_of_le oM,List.nil_append]
 rw[t1,t2,zLJ,show pc ((r,c)::L.drop k)=pc [(r,c)]++pc (L.drop k) from rfl,<-List.append_assoc,<-List.append_assoc];have l4:(pc (L.take k)++pc [(r,c)]++pc (L.drop k)).length=(n+1)*2:=by
  rw[List.length_append,List.length_append,l1,l2,zEh,List.length_take];omega
 rw[<-l4,List.take_left]
theorem zCG(base:Nat)(v:Value)(L:List (Nat × Nat))(k r c xb:Nat)(w:World)(h:zDq w base v L)(hk:k<=L.length)(hx:Blk w xb zAo #[.int .i64 r,.int .i64 c])(hne:∀g,v.ownBlock=some g->g≠xb)(hb:base<=w.heap.size)(hL:L.length<=1000000):
  Calls Tryz.prog 259 #[v,.int .i64 k,.slice (some ⟨xb,0,none⟩) 1 1] w fun e w'=>∃v',e= .returned v'/\zDq w' base v' (L.take k++(r,c)::L.drop k)/\qU v.ownBlock.toList w w':=by
 obtain⟨i0,hi,hz0,hz1,hz2⟩:=info_parts Tryz.infoPiv;have hown:=h;obtain⟨c0,c1,-,-⟩:=hx.two;have hnews:∀(j:Nat) (u:Value),[Value.int .i64 (r:Nat),Value.int .i64 (c:Nat)][j]?=some u->w.cell? ((⟨xb,0,none⟩:Addr).add j)=some u:=by
  intro j u hj;rw[Addr.add_lit];match j with
  |0=>simp at hj;subst hj;exact c0
  |1=>simp at hj;subst hj;exact c1
  |j+2=>simp at hj
 have hone:∀u∈ [Value.int .i64 (r:Nat),Value.int .i64 (c:Nat)],u.oneCell'=true:=by
  intro u hu;simp at hu;rcases hu with rfl|rfl<;>rfl
 have hend:∀v' w',w'.ownsRow base zAo 2 v' (L.length+1) (pc L++ [.int .i64 (r:Nat),.int .i64 (c:Nat)])->w.grownBy w' v.ownBlock->k=L.length->zDq w' base v' (L.take k++(r,c)::L.drop k)/\qU v.ownBlock.toList w w':=fun v' w' h1 h2 hkn=>by
  subst hkn;refine⟨?_,zFc h2 (zAO hown dE h2)⟩;unfold zDq;rw[List.take_length,List.drop_length,zLJ,List.length_append];exact h1
 rcases h.2 with⟨rfl,h0⟩|⟨g,cap,cur,rfl,k1,k2,k3,k4,k5,k6⟩
 ·obtain rfl:k=0:=by omega
  have hl0:L= []:=List.eq_nil_of_length_eq_zero h0;subst hl0;go_enter Tryz.func259,Tryz.ntmps259;go_wp2_with (at_builtin;refine wpList_append_own w rfl _ _ 266 rfl base zAo i0 _ 2 16 Tryz.underlying266 hi hz0 hz1 hz2 rfl oM (.slice none 0 0) 0 (pc []) rfl hown ⟨xb,0,none⟩ 1 1 [.int .i64 (r:Nat),.int .i64 (c:Nat)] rfl rfl hnews hone (by simp[maxLen]) oM hb ?_;intro v' w' h1 h2 _)
  go_ret;exact⟨_,rfl,hend _ _ h1 h2 rfl⟩
 ·have hcap63:cap<=9223372036854775807:=k4
  by_cases hkn:k=L.length
  ·obtain⟨n,hn⟩:∃n,L.length=n:=⟨_,rfl⟩
   rw[hn]at hkn hk hL hown k3 k6 ⊢
   subst hkn;by_cases hck:cap=k;all_goals
    go_enter Tryz.func259,Tryz.ntmps259;go_wp2_with (at_builtin;refine wpList_append_own w rfl _ _ 266 rfl base zAo i0 _ 2 16 Tryz.underlying266 hi hz0 hz1 hz2 rfl oM (.slice (some ⟨g,0,none⟩) k cap) k (pc L) rfl (hn ▸ h) ⟨xb,0,none⟩ 1 1 [.int .i64 (r:Nat),.int .i64 (c:Nat)] rfl rfl hnews hone (by simp[maxLen];omega) oM hb ?_;intro v' w' h1 h2 _)
    go_ret;exact⟨_,rfl,hend _ _ (hn ▸ h1) h2 hn.symm⟩
  ·have hkl:k<L.length:=by omega
   obtain⟨n,hn⟩:∃n,L.length=n:=⟨_,rfl⟩;have HN:=xgw hn;rw[hn]at hkn hk hL k3 k6 hkl ⊢
   have hck:¬ cap=k:=by omega
   have hkn':((k:Int)==(n:Int))=false:=by simp;omega
   have hw1:IntKind.i64.wrap ((n:Int)+1)=(n:Int)+1:=IntWalk.i64_in _ oM;have hw2:IntKind.i64.wrap ((k:Int)+1)=(k:Int)+1:=IntWalk.i64_in _ oM;have hcs:(pc (L.drop k)).length=(n-k)*2:=by rw[zEh,List.length_drop,HN.out]
   by_cases hroom:n+1<=cap
   ·have hck1:¬ cap=k+1:=by omega
    have hnr:¬ ((cap:Int)<(n:Int)+1):=by omega
    have hkn1:(k:Int)<=(n:Int)+1:=by omega
    have hgx:g≠xb:=hne g rfl;have hG:Blk w g zAo cur:=k2;have hsz:∀w:World,(sizeOf zAo).run Tryz.prog w= .ok 2 w:=fun w=>by simp[sizeOf,typeInfo,hi,hz1]
    have hov:∀lb cb,(callFunc 300 #[.slice (some ⟨xb,0,none⟩) 1 1,.slice (some ⟨g,(k+1)*2,none⟩) lb cb]).run Tryz.prog w= .ok (.value (.bool false)) w:=fun lb cb=>by
     rw[run_callFunc_extern Tryz.func300 kR kR kR (e:=Extern.SlicesOverlaps.overlaps #[266,266] #[4]) kR,
      Lib.run_overlaps_apart w 266 4 zAo Tryz.underlying266 2 hsz ⟨xb,0,none⟩ ⟨g,(k+1)*2,none⟩ 1 1 lb cb (Ne.symm hgx) zAo zAo 2 cur.size (zHK hx) (zHK hG) oM (zFS hx) (zFS hx)]
     rfl
    go_enter Tryz.func259,Tryz.ntmps259;go_upto_region 15 with(simp only[hov])
    refine zC 8 rfl (RV w _ [E 0 69 (.slice (some ⟨g,0,none⟩) (n+1) cap),VN 1 70 k,VN 2 71 1,E 3 72 (.int .i64 (k+1)),E 4 73 (.slice (some ⟨g,(k+1)*2,none⟩) (n-k) (cap-(k+1))),E 5 74 (.slice (some ⟨g,0,none⟩) (n+1) cap),VN 6 75 k,E 7 76 (.slice (some ⟨g,k*2,none⟩) (n+1-k) (cap-k))]) kR RV.start (RV.fin kR ?fin1) ?steps1
    case steps1=>
     (repeat' constructor)<;>(intro L T wS hL hd hcl hI K hK;try refine zA rfl ?_)
     ·exact xgs (hI.k 0 rfl kR)
     ·exact xgs (hI.k 1 rfl kR)
     ·exact xgs (hI.k 7 rfl kR)
     ·exact xgt (hI.e mm1 (hd 1)) (hI.e mm2 (hd 2))
     ·exact xgt (hI.e mm0 (hd 0)) (hI.e mm3 (hd 3))
     ·exact xgs (hI.k 0 rfl kR)
     ·exact xgs (hI.k 1 rfl kR)
     ·exact xgt (hI.e mm5 (hd 5)) (hI.e mm6 (hd 6))
    intro w1 hbw1 T hT;simp only[Fin,E,EI,VP,VSl,VN,xgg,xgh,xgi,xgj]at hT;subst hT;simp only[xgl,xgk];have hG1:=hG.below hbw1;have hX1:=hx.below hbw1;obtain⟨v1,hr1⟩:=zDF w1 3 g ((k+1)*2) (n-k) (cap-(k+1)) ⟨g,k*2,none⟩ (n+1-k) (cap-k) cur zAo (pc (L.drop k)) hG1 (by rw[hcs];congr 1;simp only[Nat.min_def];split<;>omega)
     (fun j u hj=>by
      rw[Addr.add_lit,hG1.cell];rw[<-zLK,<-k6,List.getElem?_drop,List.getElem?_take]at hj;split at hj
      ·rw[<-hj,Array.getElem?_toList]
      ·cases hj) (by rw[hcs];omega) (zIz _)
    obtain⟨R1,hR1⟩:∃R1:Array Value,(cur.toList.take ((k+1)*2)++pc (L.drop k)++cur.toList.drop ((k+1)*2+(pc (L.drop k)).length)).toArray=R1:=⟨_,rfl⟩;rw[hR1]at hr1;have hR1s:R1.size=cap*2:=by
     rw[<-hR1];simp[hcs];omega
    have hG2:Blk (w1.setRow g R1) g zAo R1:=setRow_heap w1 g cur R1 zAo (0,0) hG1;have hX2:Blk (w1.setRow g R1) xb zAo #[.int .i64 r,.int .i64 c]:=(setRow_other w1 g xb R1 (Ne.symm hgx)).trans hX1;obtain⟨d0,d1,-,-⟩:=hX2.two;obtain⟨v2,hr2⟩:=zDF (w1.setRow g R1) 3 g (k*2) (n+1-k) (cap-k) ⟨xb,0,none⟩ 1 1 R1 zAo (pc [(r,c)]) hG2 (by show 2=_;simp only[Nat.min_def];split<;>omega)
     (fun j u hj=>by
      rw[Addr.add_lit];match j with
      |0=>simp[pc]at hj;subst hj;exact d0
      |1=>simp[pc]at hj;subst hj;exact d1
      |j+2=>simp[pc]at hj) (by show k*2+2<=_;omega) (zIz _)
    obtain⟨R2,hR2⟩:∃R2:Array Value,(R1.toList.take (k*2)++pc [(r,c)]++R1.toList.drop (k*2+(pc [(r,c)]).length)).toArray=R2:=⟨_,rfl⟩;rw[hR2]at hr2;have hfin:zDq ((w1.setRow g R1).setRow g R2) base (.slice (some ⟨g,0,none⟩) (n+1) cap) (L.take k++(r,c)::L.drop k)/\qU [g] w ((w1.setRow g R1).setRow g R2):=by
     have hl:(L.take k++(r,c)::L.drop k).length=n+1:=by simp[HN.out];omega
     refine⟨⟨zEh _,.inr ⟨g,cap,R2,by rw[hl],k1,setRow_heap _ g R1 R2 zAo (0,0) hG2,by omega,k4,?_,?_⟩⟩,?_⟩
     ·rw[<-hR2]
      have:(pc [(r,c)]).length=2:=rfl;simp[this];omega
     ·rw[hl,<-hR2,<-hR1]
      exact zKw HN.out oM (HN.out ▸ k6) (by simp;omega) r c
     ·refine(qU.of [g] hbw1).trans (zM5 hG1 dE ((zBC _ _ _).trans (zBC _ _ _)) fun k hk=>(setRow_other _ g k R2 hk).trans (setRow_other _ g k R1 hk))
    clear hR1 hR2;go_wp2_with (first
     |(at_builtin;refine zCP rfl _ _ 266 266 rfl _ _ rfl rfl hr1 ?_)
     |(at_builtin;refine zCP rfl _ _ 266 266 rfl _ _ rfl rfl hr2 ?_))
    go_ret;exact⟨_,rfl,hfin⟩
   ·obtain rfl:cap=n:=by omega
    have hnr:((cap:Int)<(cap:Int)+1):=by omega
    have hG:Blk w g zAo cur:=k2;have hgx:g≠xb:=hne g rfl;have lg:=hG.lt;have lxb:=hx.lt;obtain⟨N,hN⟩:∃N,w.heap.size=N:=⟨_,rfl⟩;have hold:(Builtin.firstCells i0.size k (.slice (some ⟨g,0,none⟩) k cap)).run Tryz.prog w.drew= .ok (pc (L.take k)).toArray w.drew:=by
     rw[hz1];exact run_firstCells_some w.drew 2 k ⟨g,0,none⟩ k cap (pc (L.take k)) (by rw[zEh,List.length_take,HN.out];omega) (fun j u hj=>by
      rw[Addr.add_lit];show w.cell? _=_;rw[hG.cell,Nat.zero_add];rw[<-zLM,<-k6,List.getElem?_take,List.getElem?_take]at hj;split at hj
      ·split at hj
       ·rw[<-hj,Array.getElem?_toList]
       ·cases hj
      ·cases hj)
    have hik:k+(cap+1-k)=cap+1:=by omega
    obtain⟨G,hGc⟩:∃G,grownCap w (cap+1) cap zAo=G:=⟨_,rfl⟩;have hGn:cap+1<=G:=by rw[<-hGc];exact grownCap_ge w _ _ _
    have hG63:G<=9223372036854775807:=by
     have:=grownCap_le_maxLen w (cap+1) cap zAo (by unfold maxLen;omega);rw[hGc]at this;unfold maxLen at this;omega
    obtain⟨ROW,hROW⟩:∃ROW:Array Value,(pc (L.take k)).toArray++Builtin.zeroCells (Value.agg #[.int .i64 0,.int .i64 0]).cells (cap+1-k)++Builtin.zeroCells (Value.agg #[.int .i64 0,.int .i64 0]).cells (G-(cap+1))=ROW:=⟨_,rfl⟩;have hrz:∀ty,(Builtin.append_ #[266,3] ty #[.slice (some ⟨g,0,none⟩) k cap,.int .i64 ((cap:Int)+1-(k:Int))]).run Tryz.prog w= .ok (.slice (some ⟨N,0,none⟩) (cap+1) G) (w.drew.alloc (.cells ROW zAo)):=fun ty=>by
     have h:=Lib.run_append_grow_zeros w 266 3 ty zAo i0 _ .i64 .i64 Tryz.underlying266 Tryz.underlying3 hi hz0 (some ⟨g,0,none⟩) k cap (pc (L.take k)) hold (cap+1-k) oM oM oM oM (by rw[hz2];omega) (by rw[hz2,hik];exact growslice_fits oM oM);rw[hik,hGc,hROW,hN]at h;rw[show(cap:Int)+1-(k:Int)=((cap+1-k:Nat):Int) by omega];exact h
    have hlt:(pc (L.take k)).length=k*2:=by rw[zEh,List.length_take,HN.out];omega
    have hRs:ROW.size=G*2:=by
     rw[<-hROW];simp[Builtin.zeroCells,Value.cells,hlt];omega
    have hRt:ROW.toList.take (k*2)=pc (L.take k):=by
     rw[<-hROW];simp only[Array.toList_append,List.append_assoc];rw[<-hlt,List.take_left]
    have hG1:Blk ((w.alloc (.cells ROW zAo)).drew) N zAo ROW:=by rw[<-hN];exact Blk.new w.drew zAo ROW
    have hBa:Below w.heap.size w ((w.alloc (.cells ROW zAo)).drew):=((Below.refl _ _).alloc (xgf _) _).drew;have hX1:=hx.below hBa;obtain⟨d0,d1,-,-⟩:=hX1.two;obtain⟨v2,hr2⟩:=zDF ((w.alloc (.cells ROW zAo)).drew) 3 N (k*2) (cap+1-k) (G-k) ⟨xb,0,none⟩ 1 1 ROW zAo (pc [(r,c)]) hG1 (by show 2=_;simp only[Nat.min_def];split<;>omega)
     (fun j u hj=>by
      rw[Addr.add_lit];match j with
      |0=>simp[pc]at hj;subst hj;exact d0
      |1=>simp[pc]at hj;subst hj;exact d1
      |j+2=>simp[pc]at hj) (by show k*2+2<=_;omega) (zIz _)
    obtain⟨R1,hR1⟩:∃R1:Array Value,(ROW.toList.take (k*2)++pc [(r,c)]++ROW.toList.drop (k*2+(pc [(r,c)]).length)).toArray=R1:=⟨_,rfl⟩;rw[hR1]at hr2;have l2:(pc [(r,c)]).length=2:=rfl;have hR1s:R1.size=G*2:=by
     rw[<-hR1];simp[l2];omega
    have hR1t:R1.toList.take ((k+1)*2)=pc (L.take k)++pc [(r,c)]:=by
     rw[<-hR1];show List.take _ (_++_++_)=_;rw[hRt,<-(show(pc (L.take k)++pc [(r,c)]).length=(k+1)*2 by rw[List.length_append,hlt,l2];omega),List.take_left]
    obtain⟨W2,hW2⟩:∃W2,((w.alloc (.cells ROW zAo)).drew).setRow N R1=W2:=⟨_,rfl⟩;have hG2:Blk W2 N zAo R1:=by rw[<-hW2];exact setRow_heap _ N ROW R1 zAo (0,0) hG1
    have hB2:Below w.heap.size w W2:=by
     rw[<-hW2];exact⟨hBa.os,hBa.tape,hBa.output,by have:=(zBC ((w.alloc (.cells ROW zAo)).drew) N R1).size;have:=hBa.size;omega,fun k hk=>(setRow_other _ N k R1 oM).trans (hBa.block k hk)⟩
    rw[hW2]at hr2;have hck1:¬ G=k+1:=by omega
    have hck2:¬ G=k:=by omega
    have hkn1:(k:Int)<=(cap:Int)+1:=by omega
    go_enter Tryz.func259,Tryz.ntmps259;go_upto_region 11 with(first
     |(at_builtin;refine Lib.wpList_append_run _ rfl _ _ _ _ rfl _ _ rfl rfl _ _ (hrz _) ?_)
     |(at_builtin;refine zCP rfl _ _ 266 266 rfl _ _ rfl rfl hr2 ?_))
    refine zC 8 rfl (RV W2 _ [E 0 46 (.slice (some ⟨N,0,none⟩) (cap+1) G),VN 1 47 k,VN 2 48 1,E 3 49 (.int .i64 (k+1)),E 4 50 (.slice (some ⟨N,(k+1)*2,none⟩) (cap-k) (G-(k+1))),VSl 5 51 g cap cap,VN 6 52 k,E 7 53 (.slice (some ⟨g,k*2,none⟩) (cap-k) (cap-k))]) kR RV.start (RV.fin kR ?fin2) ?steps2
    case steps2=>
     (repeat' constructor)<;>(intro L T wS hL hd hcl hI K hK;try refine zA rfl ?_)
     ·exact xgs (hI.k 9 rfl kR)
     ·exact xgs (hI.k 1 rfl kR)
     ·exact xgs (hI.k 7 rfl kR)
     ·exact xgt (hI.e mm1 (hd 1)) (hI.e mm2 (hd 2))
     ·exact xgt (hI.e mm0 (hd 0)) (hI.e mm3 (hd 3))
     ·exact xgs (hI.k 0 rfl kR)
     ·exact xgs (hI.k 1 rfl kR)
     ·exact xgt (hI.e mm5 (hd 5)) (hI.e mm6 (hd 6))
    intro w3 hbw3 T hT;simp only[Fin,E,EI,VP,VSl,VN,xgg,xgh,xgi,xgj]at hT;subst hT;simp only[xgl,xgk];have hG3:=hG2.below hbw3;have hO3:=(hG.below hB2).below hbw3;obtain⟨v3,hr3⟩:=zDF w3 3 N ((k+1)*2) (cap-k) (G-(k+1)) ⟨g,k*2,none⟩ (cap-k) (cap-k) R1 zAo (pc (L.drop k)) hG3 (by rw[hcs];congr 1;simp only[Nat.min_def];split<;>omega)
     (fun j u hj=>by
      rw[Addr.add_lit,hO3.cell];rw[<-zLK,<-k6,List.getElem?_drop,List.getElem?_take]at hj;split at hj
      ·rw[<-hj,Array.getElem?_toList]
      ·cases hj) (by rw[hcs];omega) (zIz _)
    obtain⟨R2,hR2⟩:∃R2:Array Value,(R1.toList.take ((k+1)*2)++pc (L.drop k)++R1.toList.drop ((k+1)*2+(pc (L.drop k)).length)).toArray=R2:=⟨_,rfl⟩;rw[hR2]at hr3;have hfin:zDq (w3.setRow N R2) base (.slice (some ⟨N,0,none⟩) (cap+1) G) (L.take k++(r,c)::L.drop k)/\qU [g] w (w3.setRow N R2):=by
     have hl:(L.take k++(r,c)::L.drop k).length=cap+1:=by simp[HN.out];omega
     refine⟨⟨zEh _,.inr ⟨N,G,R2,by rw[hl],by omega,setRow_heap _ N R1 R2 zAo (0,0) hG3,by omega,hG63,?_,?_⟩⟩,?_⟩
     ·rw[<-hR2]
      simp[hcs];omega
     ·rw[hl,<-hR2]
      show List.take _ (_++_++_)=_;rw[hR1t,zLJ,show pc ((r,c)::L.drop k)=pc [(r,c)]++pc (L.drop k) from rfl,<-List.append_assoc];rw[<-(show(pc (L.take k)++pc [(r,c)]++pc (L.drop k)).length=(cap+1)*2 by rw[List.length_append,List.length_append,hcs,hlt,l2];omega),List.take_left]
     ·refine qU.of [g] ?_
      have hb3:=hB2.trans (hbw3.mono hB2.size);exact⟨hb3.os,hb3.tape,hb3.output,by have:=(zBC w3 N R2).size;have:=hb3.size;omega,fun k hk=>(setRow_other _ N k R2 oM).trans (hb3.block k hk)⟩
    clear hR1 hR2;go_wp2_with (at_builtin;refine zCP rfl _ _ 266 266 rfl _ _ rfl rfl hr3 ?_)
    go_ret;exact⟨_,rfl,hfin⟩
structure LOk(n Cs m:Nat)(x:Bst)(L:List (Nat × Nat)):Prop where
 mem:∀k,k<L.length->(L.getD k (0,0)).1<m/\(L.getD k (0,0)).1<n/\(L.getD k (0,0)).2<Cs/\x.s (L.getD k (0,0)).1 (L.getD k (0,0)).2≠0
 inc:∀i j,i<j->j<L.length->(L.getD i (0,0)).2<(L.getD j (0,0)).2
 inj:∀i j,i<j->j<L.length->(L.getD i (0,0)).1≠(L.getD j (0,0)).1
 len:L.length<=n
structure zPE(B n Cs Ct:Nat)(J J':Nat->Bst->List (Nat × Nat)->Prop):Prop where
 ok:∀m x L,J m x L->okB B n Cs Ct x/\LOk n Cs m x L
 ok':∀m x L,m<n->J' m x L->okB B n Cs Ct x/\LOk n Cs (m+1) x L
 zero:∀m x L,m<n->J m x L->lead Cs x.s m<0->J' m x L
 join:∀(m:Nat) (x:Bst) (L:List (Nat × Nat)) (k c:Nat),m<n->J m x L->lead Cs x.s m=(c:Int)->k<L.length->(L.getD k (0,0)).2=c->
  (x.s m c%x.s (L.getD k (0,0)).1 c=0->zDe B n Cs Ct x m (L.getD k (0,0)).1 (-(x.s m c/x.s (L.getD k (0,0)).1 c)))∧
  (∀s t,Bez (x.s (L.getD k (0,0)).1 c) (x.s m c) s t->zLC B n Cs Ct x (L.getD k (0,0)).1 m s t (-(x.s m c/((Int.gcd (x.s (L.getD k (0,0)).1 c) (x.s m c):Nat):Int))) (x.s (L.getD k (0,0)).1 c/((Int.gcd (x.s (L.getD k (0,0)).1 c) (x.s m c):Nat):Int)))∧
  ∀y,zJJ x (L.getD k (0,0)).1 m c y->J m y L/\(lead Cs y.s m<0∨(c:Int)<lead Cs y.s m)
 ins:∀(m:Nat) (x:Bst) (L:List (Nat × Nat)) (k c:Nat),m<n->J m x L->lead Cs x.s m=(c:Int)->k<=L.length->(∀i,i<k->(L.getD i (0,0)).2<c)->(∀i,k<=i->i<L.length->c<(L.getD i (0,0)).2)->
  J' m (if x.s m c<0 then x.neg m else x) (L.take k++(m,c)::L.drop k)
 red:∀m x L,m<n->J' m x L->∃y,zHE B n Cs Ct (fun k=>(L.getD k (0,0)).1) (fun k=>(L.getD k (0,0)).2) L.length L.length x=some y/\J (m+1) y L
theorem zAx.rowB{e:Bool}{Z:Nat->Prop}{w w':World}{bw g a cap n Cs Ct b:Nat}{x:Bst}(h:zAx e Z w' bw (.slice (some ⟨g,0,none⟩) a cap) n Cs Ct x){i:Nat}(hi:i<n)(hc:w.cell? ⟨g,i,none⟩=some (.slice (some ⟨b,0,none⟩) Cs Cs))(ho:w'.heap[g]?=w.heap[g]?):qC w' b (zM Cs (x.s i)):=by
 obtain⟨b',o1,hr,-⟩:=h.row hi;have e1:w'.cell? ⟨g,i,none⟩=w.cell? ⟨g,i,none⟩:=by unfold World.cell?;rw[ho]
 rw[e1,hc]at o1;injection o1 with o1
 injection o1 with o1
 injection o1 with o1
 injection o1 with o1
 subst o1;exact hr
theorem zBJ{C:Nat}{F:Nat->Nat->Int}{i c:Nat}(h:lead C F i=(c:Int)):c<C/\F i c≠0:=by
 rcases zAn C F i with⟨h1,-⟩|⟨j,h1,h2,h3,-⟩
 ·omega
 ·obtain rfl:j=c:=by omega
  exact⟨h2,h3⟩
theorem zF7{C:Nat}{F:Nat->Nat->Int}{i:Nat}:zBn 0 (zM C (F i))=lead C F i:=rfl
theorem zPv{w:World}{A:Value}{R C:Nat}{bs:List Nat}{F:Nat->Nat->Int}(h:Wri w A R C bs F){b:Nat}{cs:Array Value}(hp:Blk w b zAo cs):¬ Zn A bs b:=by
 rintro(hb|hb)
 ·obtain⟨r,hr⟩:=h.blk hb
  exact zGg hp hr dE rfl
 ·rcases(zT.own h).2 with⟨rfl,-⟩|⟨g,cap,cur,rfl,-,hh,-⟩
  ·cases hb
  ·simp only[Value.ownBlock,Option.some.injEq]at hb
   subst hb;have hh2:zAo=tR:=congrArg (fun o:Option Obj=>match o with|some (Obj.cells _ t _)=>t|_=>0) (hp.symm.trans hh);exact absurd hh2 dE
theorem zCe{w w':World}{P:Nat->Prop}{g:Nat}{t:TypeId}{cs:Array Value}(h:Blk w g t cs)(ht:¬ t=zAo)(ho:zX P w w')(hP:∀b,P b->∃cs,Blk w b zAo cs):Blk w' g t cs:=
 ho.blk h fun hg=>by
  obtain⟨cs',h'⟩:=hP g hg;exact ht (congrArg (fun o:Option Obj=>match o with|some (Obj.cells _ t _)=>t|_=>0) (h.symm.trans h'))
theorem zAx.pivs{e:Bool}{Z P:Nat->Prop}{w w':World}{bw n Cs Ct:Nat}{Ah:Value}{x:Bst}(h:zAx e Z w bw Ah n Cs Ct x)(ho:zX P w w')(hP:∀b,P b->∃cs,Blk w b zAo cs):zAx e Z w' bw Ah n Cs Ct x:=by
 have hk:∀{A:Value} {R C:Nat} {bs:List Nat} {F:Nat->Nat->Int},Wri w A R C bs F->Wri w' A R C bs F:=fun {A R C bs F} hw=>hw.keepZ ho fun b hb hp=>by
  obtain⟨cs,h1⟩:=hP b hp;exact zPv hw h1 hb
 have hn:∀{A:Value} {n:Nat},zBf w A n->zBf w' A n:=fun {A n} hw=>by
  obtain⟨g,cap,cs,h1,h2,h3,h4,h5⟩:=hw;exact⟨g,cap,cs,h1,h2,h3,zCe h4 dE ho hP,h5⟩
 unfold zAx at h ⊢
 split at h
 ·rename_i he
  rw[if_pos he];obtain⟨Au,Av,b1,b2,b3,h1,h2,h3⟩:=h;exact⟨Au,Av,b1,b2,b3,zCe h1 dE ho hP,⟨hk h2.s,hk h2.t,hk h2.i,h2.st,h2.si,h2.ti,h2.ast,h2.asi,h2.ati⟩,h3⟩
 ·rename_i he
  rw[if_neg he];obtain⟨h0,Au,Av,b1,h1,h2,h3,h4,h5⟩:=h;exact⟨h0,Au,Av,b1,zCe h1 dE ho hP,hk h2,hn h3,hn h4,h5⟩
theorem zDq.blk{w:World}{base:Nat}{v:Value}{L:List (Nat × Nat)}(h:zDq w base v L):∀g,v.ownBlock=some g->∃cs,Blk w g zAo cs:=by
 intro g hg;rcases h.2 with⟨rfl,h0⟩|⟨g',cap,cur,rfl,k1,k2,k3,k4,k5,k6⟩
 ·cases hg
 ·simp only[Value.ownBlock,Option.some.injEq]at hg
  subst hg;exact⟨cur,k2⟩
theorem qU.z{S:List Nat}{w w':World}(h:qU S w w'):zX (fun b=>b∈S) w w':=⟨h.bel,h.lext,fun k hk hn=>h.old k hk hn⟩
theorem zF1{e0:Bool}{Z:Nat->Prop}{B:Nat}(hB:BSd B){bw n Cs Ct:Nat}{Ah:Value}{x:Bst}{w:World}{J J':Nat->Bst->List (Nat × Nat)->Prop}(hE:zPE B n Cs Ct J J')(h:zAx e0 Z w bw Ah n Cs Ct x)(h0:J 0 x [])
  (hn:n<=1000000) (hCs:Cs<=1000000) (hCt:Ct<=1000000) (hn0:0<n) (hZ:∀b,Z b->b<w.heap.size) (hgz:∀g,Ah.ownBlock=some g->¬ Z g):
  Calls Tryz.prog 219 #[Ah,.agg (zA9 bw)] w fun e w'=>∃v y Lp,e= .returned v/\zX Z w w'/\zAx e0 Z w' bw Ah n Cs Ct y/\J n y Lp/\zDq w' w.heap.size v Lp:=by
 have HE:=xgv hE;obtain⟨bss0,hw0,-⟩:=h.wri;obtain⟨so,sn,scap,rfl,s1,s2,s3,-⟩:=id (zT.rows hw0);have e2:n=sn:=by rw[<-s1];simp[zY]
 subst e2;obtain⟨g,_,rfl,-⟩:=zT.at_ hw0 (i:=0) (by rw[hw0.len];exact hn0);have hgz:=hgz g rfl;have HJ0:=xgv h0;clear s1 hw0 bss0 h0 hE;go_enter Tryz.func219,Tryz.ntmps219;go_upto_region 1 with(fail)
 refine zB ?_;intro W0 hW0;obtain⟨hB0,T3,hs0⟩:=zK hW0;have T3:Blk W0 w.heap.size 272 (zA9 bw):=T3;have hO:=zX.of Z hB0;have hz:=h.below hB0;have HL:=xgv (zDq.nil W0 w.heap.size);clear hW0 h;go_wp2;go_loopw [5,12] (fun pv mv wr=>∃(m:Nat) (x:Bst) (Lp:List (Nat × Nat)),mv= .int .i64 m/\m<=n/\zX Z w wr/\Blk wr w.heap.size 272 (zA9 bw)/\zAx e0 Z wr bw (.slice (some ⟨g,0,none⟩) n scap) n Cs Ct x/\qE (J m x Lp)/\qE (zDq wr w.heap.size pv Lp)) (fun _ mv _=>n-(intOf mv).toNat)
 case atStart=>exact⟨0,x,[],rfl,by omega,hO,T3,hz,HJ0,HL⟩
 case round=>
  clear hO T3 hz HL HJ0;obtain⟨m,x,Lp,rfl,hm,hO,T3,hz,HJ,HL⟩:=hrel;by_cases hlt:m<n
  ·obtain ⟨bm,o1,hrow,lg⟩:=hz.row hlt
   obtain⟨wc,hwc⟩:∃wc,wc=wr:=⟨_,rfl⟩;have oc:=o1;rw[<-hwc]at oc;have hgc:wr.heap[g]?=wc.heap[g]?:=by rw[hwc]
   have hVec:=hrow.vec (zD _ _) (xgf _) oM;go_wp2_with fail
   refine(zBI _ _ _ hVec).mono ?_;rintro e w1 ⟨rfl,hb1⟩;rw[zF7];have hz:=hz.below hb1;have T3:=T3.below hb1;have hO:=hO.trans (zX.of Z hb1);have HL:=xgv (HL.out.below hb1);have hgc:=(hb1.block g oM).trans hgc;clear o1 hrow hVec hwc;obtain⟨c0,hc0⟩:∃c0,lead Cs x.s m=c0:=⟨_,rfl⟩;have HC0:=xgw hc0;rw[hc0];clear hc0;obtain⟨pv0,hpv0⟩:∃p,p=u5:=⟨_,rfl⟩;subst hpv0;obtain⟨ao,lcap,rfl,hlc,hcap,hP0⟩:=id HL.out.piv;have hP0:=xgv hP0;go_wp2;go_loopw [5,8,9] (fun pv kv cv wt=>∃(x:Bst) (k:Nat) (c:Int),pv= .slice ao Lp.length lcap/\kv= .int .i64 k/\cv= .int .i64 c/\k<=Lp.length/\Hid (lead Cs x.s m=c)/\qE (∀i,i<k->((Lp.getD i (0,0)).2:Int)<c∨c<0)/\zX Z w wt/\Blk wt w.heap.size 272 (zA9 bw)/\zAx e0 Z wt bw (.slice (some ⟨g,0,none⟩) n scap) n Cs Ct x/\qE (J m x Lp)/\qE (zDq wt w.heap.size (.slice ao Lp.length lcap) Lp)/\wt.heap[g]?=wc.heap[g]?) (fun _ _ cv _=>if intOf cv<0 then 0 else Cs-(intOf cv).toNat)
   case atStart=>exact⟨x,0,c0,rfl,rfl,rfl,Nat.zero_le _,HC0,⟨fun i hi=>by omega⟩,hO,T3,hz,HJ,HL,hgc⟩
   case round=>
    clear hO T3 hz HL HJ HC0 hgc;rename World=>wt
    obtain⟨x,k,c,rfl,rfl,rfl,hk,HC,HI,hO,T3,hz,HJ,HL,hgc⟩:=hrel;by_cases hc0:c<0
    ·have hge:¬ (0<=c):=by omega
     have HJ':=xgv (HE.out.zero m x Lp hlt HJ.out (by rw[HC.out];exact hc0));obtain⟨c1,c2,c3,c4,c5,c6⟩:=T3.three;go_wp2_with fail
     obtain⟨hokx,hLO⟩:=HE.out.ok' m x Lp hlt HJ'.out;obtain⟨y,hy,hJy⟩:=HE.out.red m x Lp hlt HJ'.out;have hown:=HL.out.own;refine(zA7 hB hz hokx HL.out.piv (fun b hb hzb=>by have:=(hown b hb).1;have:=hZ b hzb;omega) (fun k hk=>(hLO.mem k hk).2.1) hLO.inj (fun k hk=>(hLO.mem k hk).2.2.1) hn hCs hCt hLO.len (fun b hb=>Nat.lt_of_lt_of_le (hZ b hb) hO.bel.size) hn0 hy).mono ?_;rintro e wz ⟨⟨uz,rfl⟩,hOz,hz,-⟩;have T3:=hOz.blk T3 (fun hh=>by have:=hZ _ hh;omega);have HL:=xgv (HL.out.old (fun g hg=>hOz.old g (hown g hg).2 (fun hzb=>by have:=(hown g hg).1;have:=hZ g hzb;omega)));have hO:=hO.trans hOz;have HJ:=xgv hJy;clear hokx hLO hy hJy hown c1 c2 c3 c4 c5 c6;go_wp2;go_roundw
     case rel=>exact⟨m+1,y,_,by simp,by omega,hO,T3,hz,HJ,HL⟩
     case measure=>simp[intOf];omega
    ·obtain⟨cn,rfl⟩:∃cn:Nat,c=(cn:Int):=⟨c.toNat,by omega⟩
     have hge:(0:Int)<=cn:=by omega
     go_wp2;go_loopw [8] (fun kv wv=>∃k:Nat,kv= .int .i64 k/\k<=Lp.length/\qE (∀i,i<k->(Lp.getD i (0,0)).2<cn)/\wv=wt) (fun kv _=>Lp.length-(intOf kv).toNat)
     case atStart=>exact⟨k,rfl,hk,⟨fun i hi=>by rcases HI.out i hi with h|h<;>omega⟩,rfl⟩
     case round=>
      obtain⟨k',rfl,hk',HI',hwv⟩:=hrel;have hwv:=hwv.symm;subst hwv;by_cases hkl:k'<Lp.length
      ·obtain⟨bp,_,rfl,-,-⟩:=hP0.out oM
       obtain⟨-,lbp,p1,p2⟩:=HL.out.piv.cell hkl;obtain⟨q,hq⟩:∃q,(Lp.getD k' (0,0)).2=q:=⟨_,rfl⟩;rw[hq]at p2;have HQ:=xgv hq;clear hq;by_cases hqc:q<cn
       ·go_wp2
        go_roundw
        case rel=>
         refine⟨k'+1,by simp,by omega,⟨?_⟩,trivial⟩;intro i hi;rcases Nat.lt_succ_iff_lt_or_eq.1 hi with h|rfl
         ·exact HI'.out i h
         ·rw[HQ.out];exact hqc
        case measure=>simp[intOf];omega
       ·by_cases hqe:q=cn
        ·subst hqe
         have hsn:=zBJ HC.out;have hokx:=HE.out.ok m x Lp HJ.out;obtain⟨hj1,hj2,hj3⟩:=HE.out.join m x Lp k' q hlt HJ.out HC.out hkl HQ.out;obtain⟨m1,m2,m3,m4⟩:=hokx.2.mem k' hkl;rw[HQ.out]at m3 m4;obtain⟨c1,c2,c3,c4,c5,c6⟩:=T3.three;obtain⟨ρk,hρk⟩:∃r,(Lp.getD k' (0,0)).1=r:=⟨_,rfl⟩;rw[hρk]at p1 hj1 hj2 hj3 m1 m2 m4;have l3:=T3.lt;obtain⟨-,-,-,lg⟩:=hz.row hlt;have HOK:=xgv hokx.1;have HJ1:=xgv hj1;have HJ2:=xgv hj2;have HJ3:=xgv hj3;have HM4:=xgv m4;have hqC:=hsn.1;clear hsn hokx hj1 hj2 hj3 m4 hρk;go_upto_region 12 with(fail)
         refine zC 7 rfl (RI wt (wt.heap.size) _ 35
           [VSl 0 51 g n scap,E 1 52 (.slice (some ⟨bp,0,none⟩) Lp.length lcap),E 2 53 (.int .i64 k'),VP 3 54 bp (k'*2),E 4 55 (.agg #[.int .i64 ρk,.int .i64 q]),VN 5 56 m,E 6 57 (.agg (zA9 bw))] [] []) kR RI.start (RI.fin kR ?fin1) ?steps1
         case steps1=>
          (repeat' constructor)<;>(intro L T wS hL hd hcl hI K hK;try refine zA rfl ?_)
          ·exact xgs (hI.k 0 rfl kR)
          ·exact xgs (hI.k 5 rfl kR)
          ·exact xgs (hI.k 8 rfl kR)
          ·exact xgt (hI.e mm1 (hd 1)) (hI.e mm2 (hd 2))
          ·have zt3:=hI.e mm3 (hd 3)
           have cc0:=hI.cell p1 oM nom;have cc1:=hI.cell p2 oM nom;exact xgu
          ·exact xgs (hI.k 6 rfl kR)
          ·have zt:=hI.k 3 rfl kR
           have cc0:=hI.cell c1 oM nom;have cc1:=hI.cell c2 oM nom;have cc2:=hI.cell c3 oM nom;exact xgu
         intro w5 hlw5 hbw5 holdw5 T hT;simp only[Fin,E,EI,VP,VSl,VN,xgg,xgh,xgi,xgj]at hT;subst hT;simp only[xgl,xgk];have hz:=hz.below hbw5;have T3:=T3.below hbw5;have hO:=hO.trans (zX.of Z hbw5);have HL:=xgv (HL.out.below hbw5);have hgc:=(hbw5.block g lg).trans hgc;have lg:=Nat.lt_of_lt_of_le lg hbw5.size;clear p1 p2 c1 c2 c3 c4 c5 c6;go_wp2_with fail
         refine(zMp hB hz HOK.out m2 hlt oM hqC HM4.out hn hCs hCt (fun b hb=>Nat.lt_of_lt_of_le (hZ b hb) hO.bel.size) HJ1.out HJ2.out).mono ?_;rintro e wj ⟨⟨uj,rfl⟩,hOj,y,hJR,hz⟩;obtain⟨hJy,hly⟩:=HJ3.out y hJR;have T3:=hOj.blk T3 (fun hh=>by have:=hZ _ hh;omega);have hown:=HL.out.own;have HL:=xgv (HL.out.old (fun g hg=>hOj.old g (hown g hg).2 (fun hzb=>by have:=(hown g hg).1;have:=hZ g hzb;omega)));have hO:=hO.trans hOj;have hgc:=(hOj.old g lg hgz).trans hgc;have HJY:=xgv hJy;have HLY:=xgv hly;clear hJR hJy hly hown;have hVec:=(hz.rowB hlt oc hgc).vec (zD _ _) (xgf _) oM;go_wp2_with fail
         refine(zBI _ _ _ hVec).mono ?_;rintro e wl ⟨rfl,hbl⟩;rw[zF7];obtain⟨-,-,-,lg⟩:=hz.row hlt;have hz:=hz.below hbl;have T3:=T3.below hbl;have hO:=hO.trans (zX.of Z hbl);have HL:=xgv (HL.out.below hbl);have hgc:=(hbl.block g lg).trans hgc;clear hVec;obtain⟨cy,hcy⟩:∃cy,lead Cs y.s m=cy:=⟨_,rfl⟩;have HCY:=xgw hcy;rw[hcy];rw[hcy]at HLY;clear hcy;go_wp2;go_roundw
         case rel=>
          refine⟨y,k',cy,rfl,rfl,rfl,hk',HCY,⟨fun i hi=>?_⟩,hO,T3,hz,HJY,HL,hgc⟩;have:=HI'.out i hi;rcases HLY.out with h|h
          ·exact .inr h
          ·left;omega
         case measure=>
          have:=HLY.out;have hg:(if cy<0 then 0 else Cs-cy.toNat)<(if(q:Int)<0 then 0 else Cs-((q:Int)).toNat):=by
           rw[if_neg (show ¬ ((q:Int)<0) by omega)];split<;>omega
          exact hg
        ·have hLO:=(HE.out.ok m x Lp HJ.out).2.inc
         have HG:∀i,k'<=i->i<Lp.length->cn<(Lp.getD i (0,0)).2:=by
          intro i h1 h2;rcases Nat.lt_or_eq_of_le h1 with h|rfl
          ·have:=hLO k' i h h2
           have:=HQ.out;omega
          ·have:=HQ.out
           omega
         clear hLO;have hsn:=zBJ HC.out;have hrow:=hz.rowB hlt oc hgc;obtain⟨xs,xa,xl,xc,v1,v2,f1,f2,hx⟩:=hrow.cell (zP hsn.1);have hcC:=hsn.1;go_wp2_with fail
         refine(qV _ (x.s m cn) wt hx.weak).mono ?_;rintro e ws ⟨rfl,hbs⟩;have hz:=hz.below hbs;have T3:=T3.below hbs;have hO:=hO.trans (zX.of Z hbs);have HL:=xgv (HL.out.below hbs);have hsn2:=hsn.2;have HJ':=HE.out.ins m x Lp k' cn hlt HJ.out HC.out oM HI'.out HG;have hokx:=(HE.out.ok m x Lp HJ.out).1;have hlen:Lp.length<=1000000:=Nat.le_trans (HE.out.ok m x Lp HJ.out).2.len hn;clear hsn hrow v1 v2 f1 f2 hx HG;by_cases hneg:x.s m cn<0
         ·rw[if_pos hneg]at HJ'
          have HJ':=xgv HJ';rw[show qJ (x.s m cn) 0=-1 by unfold qJ;rw[if_pos hneg]];have HOK:=xgv hokx;clear hneg hsn2 hokx;obtain⟨c1,c2,c3,c4,c5,c6⟩:=T3.three;go_wp2_with fail
          refine(zQh hB.bsm hz HOK.out hlt hn hCs hCt).mono ?_;rintro e wn ⟨⟨un,rfl⟩,hOn,hz⟩;have T3:=hOn.blk T3 (fun hh=>by have:=hZ _ hh;omega);have hown:=HL.out.own;have HL:=xgv (HL.out.old (fun g hg=>hOn.old g (hown g hg).2 (fun hzb=>by have:=(hown g hg).1;have:=hZ g hzb;omega)));have hO:=hO.trans hOn;clear hown c1 c2 c3 c4 c5 c6;go_wp2_with fail
          obtain⟨wi,hwi⟩:∃wi,wi=wn.alloc (Obj.cells #[Value.int IntKind.i64 m,Value.int IntKind.i64 cn] 274):=⟨_,rfl⟩;rw[<-hwi];have hbi:Below wn.heap.size wn wi:=by rw[hwi];exact(Below.refl _ _).alloc (xgf _) _
          have hBk:Blk wi wn.heap.size zAo #[Value.int IntKind.i64 m,Value.int IntKind.i64 cn]:=by rw[hwi];exact Blk.new _ _ _
          have hown:=HL.out.own;have hz:=hz.below hbi;have T3:=T3.below hbi;have hO:=hO.trans (zX.of Z hbi);have HL:=HL.out.below hbi;clear hwi;refine(zCG w.heap.size _ Lp k' m cn wn.heap.size wi HL oM hBk (fun b hb=>Nat.ne_of_lt (hown b hb).2) hO.bel.size hlen).mono ?_;rintro e wk ⟨v',rfl,hv',hko⟩;have hPB:∀b,b∈(Value.ownBlock _).toList->∃cs,Blk wi b zAo cs:=fun b hb=>HL.blk b (by simpa using hb)
          have hz:=hz.pivs hko.z hPB;have T3:=zCe T3 dE hko.z hPB;have hO:zX Z w wk:=⟨hO.bel.trans hko.bel,hO.lext.trans hko.lext,fun b hb hn=>(hko.old b (Nat.lt_of_lt_of_le hb hO.bel.size) (fun hm=>by
           have:=(HL.own b (by simpa using hm)).1;omega)).trans (hO.old b hb hn)⟩
          have HL:=xgv hv';clear hown hv' hko hPB hBk;obtain⟨c1,c2,c3,c4,c5,c6⟩:=T3.three;go_wp2_with fail
          obtain⟨hokx,hLO⟩:=HE.out.ok' m (x.neg m) (Lp.take k'++(m,cn)::Lp.drop k') hlt HJ'.out;obtain⟨y,hy,hJy⟩:=HE.out.red m (x.neg m) (Lp.take k'++(m,cn)::Lp.drop k') hlt HJ'.out;have hown:=HL.out.own;refine(zA7 hB hz hokx HL.out.piv (fun b hb hzb=>by have:=(hown b hb).1;have:=hZ b hzb;omega) (fun k hk=>(hLO.mem k hk).2.1) hLO.inj (fun k hk=>(hLO.mem k hk).2.2.1) hn hCs hCt hLO.len (fun b hb=>Nat.lt_of_lt_of_le (hZ b hb) hO.bel.size) hn0 hy).mono ?_;rintro e wz ⟨⟨uz,rfl⟩,hOz,hz,-⟩;have T3:=hOz.blk T3 (fun hh=>by have:=hZ _ hh;omega);have HL:=xgv (HL.out.old (fun g hg=>hOz.old g (hown g hg).2 (fun hzb=>by have:=(hown g hg).1;have:=hZ g hzb;omega)));have hO:=hO.trans hOz;have HJ:=xgv hJy;clear hokx hLO hy hJy hown c1 c2 c3 c4 c5 c6;go_wp2;go_roundw
          case rel=>exact⟨m+1,y,_,by simp,by omega,hO,T3,hz,HJ,HL⟩
          case measure=>simp[intOf];omega
         ·rw[if_neg hneg]at HJ'
          have HJ':=xgv HJ';rw[show qJ (x.s m cn) 0=1 by unfold qJ;rw[if_neg hneg,if_pos oM]];clear hneg hsn2 hokx;go_wp2_with fail
          obtain⟨wi,hwi⟩:∃wi,wi=ws.alloc (Obj.cells #[Value.int IntKind.i64 m,Value.int IntKind.i64 cn] 274):=⟨_,rfl⟩;rw[<-hwi];have hbi:Below ws.heap.size ws wi:=by rw[hwi];exact(Below.refl _ _).alloc (xgf _) _
          have hBk:Blk wi ws.heap.size zAo #[Value.int IntKind.i64 m,Value.int IntKind.i64 cn]:=by rw[hwi];exact Blk.new _ _ _
          have hown:=HL.out.own;have hz:=hz.below hbi;have T3:=T3.below hbi;have hO:=hO.trans (zX.of Z hbi);have HL:=HL.out.below hbi;clear hwi;refine(zCG w.heap.size _ Lp k' m cn ws.heap.size wi HL oM hBk (fun b hb=>Nat.ne_of_lt (hown b hb).2) hO.bel.size hlen).mono ?_;rintro e wk ⟨v',rfl,hv',hko⟩;have hPB:∀b,b∈(Value.ownBlock _).toList->∃cs,Blk wi b zAo cs:=fun b hb=>HL.blk b (by simpa using hb)
          have hz:=hz.pivs hko.z hPB;have T3:=zCe T3 dE hko.z hPB;have hO:zX Z w wk:=⟨hO.bel.trans hko.bel,hO.lext.trans hko.lext,fun b hb hn=>(hko.old b (Nat.lt_of_lt_of_le hb hO.bel.size) (fun hm=>by
           have:=(HL.own b (by simpa using hm)).1;omega)).trans (hO.old b hb hn)⟩
          have HL:=xgv hv';clear hown hv' hko hPB hBk;obtain⟨c1,c2,c3,c4,c5,c6⟩:=T3.three;go_wp2_with fail
          obtain⟨hokx,hLO⟩:=HE.out.ok' m x (Lp.take k'++(m,cn)::Lp.drop k') hlt HJ'.out;obtain⟨y,hy,hJy⟩:=HE.out.red m x (Lp.take k'++(m,cn)::Lp.drop k') hlt HJ'.out;have hown:=HL.out.own;refine(zA7 hB hz hokx HL.out.piv (fun b hb hzb=>by have:=(hown b hb).1;have:=hZ b hzb;omega) (fun k hk=>(hLO.mem k hk).2.1) hLO.inj (fun k hk=>(hLO.mem k hk).2.2.1) hn hCs hCt hLO.len (fun b hb=>Nat.lt_of_lt_of_le (hZ b hb) hO.bel.size) hn0 hy).mono ?_;rintro e wz ⟨⟨uz,rfl⟩,hOz,hz,-⟩;have T3:=hOz.blk T3 (fun hh=>by have:=hZ _ hh;omega);have HL:=xgv (HL.out.old (fun g hg=>hOz.old g (hown g hg).2 (fun hzb=>by have:=(hown g hg).1;have:=hZ g hzb;omega)));have hO:=hO.trans hOz;have HJ:=xgv hJy;clear hokx hLO hy hJy hown c1 c2 c3 c4 c5 c6;go_wp2;go_roundw
          case rel=>exact⟨m+1,y,_,by simp,by omega,hO,T3,hz,HJ,HL⟩
          case measure=>simp[intOf];omega
      ·obtain rfl:k'=Lp.length:=by omega
       have HG:∀i,Lp.length<=i->i<Lp.length->cn<(Lp.getD i (0,0)).2:=fun i h1 h2=>by omega
       have hsn:=zBJ HC.out;have hrow:=hz.rowB hlt oc hgc;obtain⟨xs,xa,xl,xc,v1,v2,f1,f2,hx⟩:=hrow.cell (zP hsn.1);have hcC:=hsn.1;go_wp2_with fail
       refine(qV _ (x.s m cn) wt hx.weak).mono ?_;rintro e ws ⟨rfl,hbs⟩;have hz:=hz.below hbs;have T3:=T3.below hbs;have hO:=hO.trans (zX.of Z hbs);have HL:=xgv (HL.out.below hbs);have hsn2:=hsn.2;have HJ':=HE.out.ins m x Lp Lp.length cn hlt HJ.out HC.out oM HI'.out HG;have hokx:=(HE.out.ok m x Lp HJ.out).1;have hlen:Lp.length<=1000000:=Nat.le_trans (HE.out.ok m x Lp HJ.out).2.len hn;clear hsn hrow v1 v2 f1 f2 hx HG;by_cases hneg:x.s m cn<0
       ·rw[if_pos hneg]at HJ'
        have HJ':=xgv HJ';rw[show qJ (x.s m cn) 0=-1 by unfold qJ;rw[if_pos hneg]];have HOK:=xgv hokx;clear hneg hsn2 hokx;obtain⟨c1,c2,c3,c4,c5,c6⟩:=T3.three;go_wp2_with fail
        refine(zQh hB.bsm hz HOK.out hlt hn hCs hCt).mono ?_;rintro e wn ⟨⟨un,rfl⟩,hOn,hz⟩;have T3:=hOn.blk T3 (fun hh=>by have:=hZ _ hh;omega);have hown:=HL.out.own;have HL:=xgv (HL.out.old (fun g hg=>hOn.old g (hown g hg).2 (fun hzb=>by have:=(hown g hg).1;have:=hZ g hzb;omega)));have hO:=hO.trans hOn;clear hown c1 c2 c3 c4 c5 c6;go_wp2_with fail
        obtain⟨wi,hwi⟩:∃wi,wi=wn.alloc (Obj.cells #[Value.int IntKind.i64 m,Value.int IntKind.i64 cn] 274):=⟨_,rfl⟩;rw[<-hwi];have hbi:Below wn.heap.size wn wi:=by rw[hwi];exact(Below.refl _ _).alloc (xgf _) _
        have hBk:Blk wi wn.heap.size zAo #[Value.int IntKind.i64 m,Value.int IntKind.i64 cn]:=by rw[hwi];exact Blk.new _ _ _
        have hown:=HL.out.own;have hz:=hz.below hbi;have T3:=T3.below hbi;have hO:=hO.trans (zX.of Z hbi);have HL:=HL.out.below hbi;clear hwi;refine(zCG w.heap.size _ Lp Lp.length m cn wn.heap.size wi HL oM hBk (fun b hb=>Nat.ne_of_lt (hown b hb).2) hO.bel.size hlen).mono ?_;rintro e wk ⟨v',rfl,hv',hko⟩;have hPB:∀b,b∈(Value.ownBlock _).toList->∃cs,Blk wi b zAo cs:=fun b hb=>HL.blk b (by simpa using hb)
        have hz:=hz.pivs hko.z hPB;have T3:=zCe T3 dE hko.z hPB;have hO:zX Z w wk:=⟨hO.bel.trans hko.bel,hO.lext.trans hko.lext,fun b hb hn=>(hko.old b (Nat.lt_of_lt_of_le hb hO.bel.size) (fun hm=>by
         have:=(HL.own b (by simpa using hm)).1;omega)).trans (hO.old b hb hn)⟩
        have HL:=xgv hv';clear hown hv' hko hPB hBk;obtain⟨c1,c2,c3,c4,c5,c6⟩:=T3.three;go_wp2_with fail
        obtain⟨hokx,hLO⟩:=HE.out.ok' m (x.neg m) (Lp.take Lp.length++(m,cn)::Lp.drop Lp.length) hlt HJ'.out;obtain⟨y,hy,hJy⟩:=HE.out.red m (x.neg m) (Lp.take Lp.length++(m,cn)::Lp.drop Lp.length) hlt HJ'.out;have hown:=HL.out.own;refine(zA7 hB hz hokx HL.out.piv (fun b hb hzb=>by have:=(hown b hb).1;have:=hZ b hzb;omega) (fun k hk=>(hLO.mem k hk).2.1) hLO.inj (fun k hk=>(hLO.mem k hk).2.2.1) hn hCs hCt hLO.len (fun b hb=>Nat.lt_of_lt_of_le (hZ b hb) hO.bel.size) hn0 hy).mono ?_;rintro e wz ⟨⟨uz,rfl⟩,hOz,hz,-⟩;have T3:=hOz.blk T3 (fun hh=>by have:=hZ _ hh;omega);have HL:=xgv (HL.out.old (fun g hg=>hOz.old g (hown g hg).2 (fun hzb=>by have:=(hown g hg).1;have:=hZ g hzb;omega)));have hO:=hO.trans hOz;have HJ:=xgv hJy;clear hokx hLO hy hJy hown c1 c2 c3 c4 c5 c6;go_wp2;go_roundw
        case rel=>exact⟨m+1,y,_,by simp,by omega,hO,T3,hz,HJ,HL⟩
        case measure=>simp[intOf];omega
       ·rw[if_neg hneg]at HJ'
        have HJ':=xgv HJ';rw[show qJ (x.s m cn) 0=1 by unfold qJ;rw[if_neg hneg,if_pos oM]];clear hneg hsn2 hokx;go_wp2_with fail
        obtain⟨wi,hwi⟩:∃wi,wi=ws.alloc (Obj.cells #[Value.int IntKind.i64 m,Value.int IntKind.i64 cn] 274):=⟨_,rfl⟩;rw[<-hwi];have hbi:Below ws.heap.size ws wi:=by rw[hwi];exact(Below.refl _ _).alloc (xgf _) _
        have hBk:Blk wi ws.heap.size zAo #[Value.int IntKind.i64 m,Value.int IntKind.i64 cn]:=by rw[hwi];exact Blk.new _ _ _
        have hown:=HL.out.own;have hz:=hz.below hbi;have T3:=T3.below hbi;have hO:=hO.trans (zX.of Z hbi);have HL:=HL.out.below hbi;clear hwi;refine(zCG w.heap.size _ Lp Lp.length m cn ws.heap.size wi HL oM hBk (fun b hb=>Nat.ne_of_lt (hown b hb).2) hO.bel.size hlen).mono ?_;rintro e wk ⟨v',rfl,hv',hko⟩;have hPB:∀b,b∈(Value.ownBlock _).toList->∃cs,Blk wi b zAo cs:=fun b hb=>HL.blk b (by simpa using hb)
        have hz:=hz.pivs hko.z hPB;have T3:=zCe T3 dE hko.z hPB;have hO:zX Z w wk:=⟨hO.bel.trans hko.bel,hO.lext.trans hko.lext,fun b hb hn=>(hko.old b (Nat.lt_of_lt_of_le hb hO.bel.size) (fun hm=>by
         have:=(HL.own b (by simpa using hm)).1;omega)).trans (hO.old b hb hn)⟩
        have HL:=xgv hv';clear hown hv' hko hPB hBk;obtain⟨c1,c2,c3,c4,c5,c6⟩:=T3.three;go_wp2_with fail
        obtain⟨hokx,hLO⟩:=HE.out.ok' m x (Lp.take Lp.length++(m,cn)::Lp.drop Lp.length) hlt HJ'.out;obtain⟨y,hy,hJy⟩:=HE.out.red m x (Lp.take Lp.length++(m,cn)::Lp.drop Lp.length) hlt HJ'.out;have hown:=HL.out.own;refine(zA7 hB hz hokx HL.out.piv (fun b hb hzb=>by have:=(hown b hb).1;have:=hZ b hzb;omega) (fun k hk=>(hLO.mem k hk).2.1) hLO.inj (fun k hk=>(hLO.mem k hk).2.2.1) hn hCs hCt hLO.len (fun b hb=>Nat.lt_of_lt_of_le (hZ b hb) hO.bel.size) hn0 hy).mono ?_;rintro e wz ⟨⟨uz,rfl⟩,hOz,hz,-⟩;have T3:=hOz.blk T3 (fun hh=>by have:=hZ _ hh;omega);have HL:=xgv (HL.out.old (fun g hg=>hOz.old g (hown g hg).2 (fun hzb=>by have:=(hown g hg).1;have:=hZ g hzb;omega)));have hO:=hO.trans hOz;have HJ:=xgv hJy;clear hokx hLO hy hJy hown c1 c2 c3 c4 c5 c6;go_wp2;go_roundw
        case rel=>exact⟨m+1,y,_,by simp,by omega,hO,T3,hz,HJ,HL⟩
        case measure=>simp[intOf];omega
  ·obtain rfl:m=n:=by omega
   go_wp2;go_ret;exact⟨_,x,Lp,rfl,hO,hz,HJ.out,HL.out⟩
abbrev tNn:TypeId:=3
theorem Tryz.infoNn:(Tryz.prog.info? tNn).map (fun i=>(i.zero,i.size,i.bytes))=some (some (.int .i64 0),1,8):=by kernel_rfl
def zA1(w:World)(ao:Option Addr)(xs:List Nat):Prop:=
 (∀x∈xs,x<=1000000)/\(xs≠ []->∃b off cs,ao=some ⟨b,off,none⟩/\w.heap[b]?=some (.cells cs tNn (0,0))/\∀k x,xs[k]?=some x->cs[off+k]?=some (.int .i64 (x:Nat)))
theorem zA1.nil(w:World)(ao:Option Addr):zA1 w ao []:=⟨by simp,fun h=>absurd rfl h⟩
theorem zA1.block{w w':World}{ao:Option Addr}{xs:List Nat}(h:zA1 w ao xs)(e:∀b off,ao=some ⟨b,off,none⟩->b<w.heap.size->w'.heap[b]?=w.heap[b]?):zA1 w' ao xs:=
 ⟨h.1,fun hn=>by
  obtain⟨b,off,cs,h1,h2,h3⟩:=h.2 hn;exact⟨b,off,cs,h1,(e b off h1 (Array.getElem?_eq_some_iff.1 h2).1).trans h2,h3⟩⟩
theorem zA1.below{w w':World}{ao:Option Addr}{xs:List Nat}(h:zA1 w ao xs)(e:Below w.heap.size w w'):zA1 w' ao xs:=h.block fun b _ _ hb=>e.block b hb
def zBd(w:World)(base:Nat)(v:Value)(xs:List Nat):Prop:=(∀x∈xs,x<=1000000)/\w.ownsRow base tNn 1 v xs.length (xs.map fun n=>Value.int .i64 (n:Nat))
theorem zBd.at_{w:World}{base:Nat}{v:Value}{xs:List Nat}(h:zBd w base v xs):
  ∃ao cap,v= .slice ao xs.length cap/\xs.length<=cap/\cap<=9223372036854775807/\zA1 w ao xs:=by
 obtain⟨hl,h1,h2⟩:=h;rcases h2 with⟨rfl,h0⟩|⟨g,cap,cur,rfl,hg,hh,hn,hc,hs,ht⟩
 ·have:xs= []:=List.eq_nil_of_length_eq_zero h0
  subst this;exact⟨none,0,rfl,by simp,by omega,zA1.nil _ _⟩
 ·refine⟨some ⟨g,0,none⟩,cap,rfl,hn,hc,hl,fun _=>⟨g,0,cur,rfl,hh,fun k x hk=>?_⟩⟩
  have hk':(xs.map fun n=>Value.int .i64 (n:Nat))[k]?=some (.int .i64 (x:Nat)):=by simp[hk]
  rw[<-ht,List.getElem?_take]at hk';split at hk'
  ·simpa using hk'
  ·cases hk'
theorem zBd.own{w:World}{base:Nat}{v:Value}{xs:List Nat}(h:zBd w base v xs):∀g,v.ownBlock=some g->base<=g/\g<w.heap.size:=h.2.lt
theorem zBd.alloc{w:World}{base:Nat}{v:Value}{xs:List Nat}(h:zBd w base v xs)(o:Obj):zBd (w.alloc o) base v xs:=⟨h.1,h.2.alloc o⟩
theorem zBd.below{w w':World}{base:Nat}{v:Value}{xs:List Nat}(h:zBd w base v xs)(hb:Below w.heap.size w w'):zBd w' base v xs:=
 ⟨h.1,h.2.kept (row:=none) ⟨hb.os,hb.tape,hb.output,hb.size,fun k hk _=>hb.block k hk⟩ (by cases hv:v.ownBlock<;>simp)⟩
theorem wpN{o:Oper}{a:Act}{K:Act->World->Prop}{Q:Exit->Act->World->Prop}{w:World}(s x:Operand)
  (ho:o.op= .call {callee:=.builtin .append,args:=#[s,x],argTypes:=#[52,52]})
  (base:Nat) (v:Value) (xs:List Nat) (hs:a.eval s=v) (hown:zBd w base v xs) (ao:Option Addr) (m c:Nat) (ys:List Nat) (hx:a.eval x= .slice ao m c) (hy:zA1 w ao ys) (hm:ys.length=m)
  (hlen:xs.length+m<=17592186044416) (hbase:base<=w.heap.size)
  (h:∀v' w',zBd w' base v' (xs++ys)->w.grownBy w' v.ownBlock->K (a.put o.dst v') w'):Oper.wp Tryz.prog o a w K Q:=by
 obtain⟨i0,hi,hz0,hz1,hz2⟩:=info_parts Tryz.infoNn;have hall:∀x∈xs++ys,x<=1000000:=fun x hx=>(List.mem_append.1 hx).elim (hown.1 x) (hy.1 x)
 by_cases hy0:ys= []
 ·subst hy0
  simp at hm;subst hm;have hrun:(Builtin.append_ #[52,52] o.type #[v,.slice ao 0 c]).run Tryz.prog w= .ok v w:=by
   cases ao with
   |none=>
    rcases hown.2.2 with⟨rfl,h0⟩|⟨g,cap,cur,rfl,_,_,hnc,_⟩
    ·simp[Builtin.append_,run_underlying Tryz.underlying52,sizeOf,typeInfo,hi,Builtin.lenOf,Builtin.firstCells,h0]
    ·simp[Builtin.append_,run_underlying Tryz.underlying52,sizeOf,typeInfo,hi,Builtin.lenOf,Builtin.firstCells,hnc,storeCells]
   |some ad=>
    have hf:=run_firstCells_some (P:=Tryz.prog) w i0.size 0 ad 0 c [] sI sI;rcases hown.2.2 with⟨rfl,h0⟩|⟨g,cap,cur,rfl,_,_,hnc,_⟩
    ·simp[Builtin.append_,run_underlying Tryz.underlying52,sizeOf,typeInfo,hi,Builtin.lenOf,hf,h0]
    ·simp[Builtin.append_,run_underlying Tryz.underlying52,sizeOf,typeInfo,hi,Builtin.lenOf,hf,hnc,storeCells]
  unfold Oper.wp;simp only[execOp,ho,resolve,invoke,builtin,Sem.run_bind,Sem.run_pure,Result.andThen_ok,List.map_toArray,List.map_cons,List.map_nil,hs,hx,hrun];exact h v w (by simpa using hown) (World.grownBy.refl w _)
 ·obtain⟨b,off,cs,rfl,h2,h3⟩:=hy.2 hy0
  refine wp_append_own w s x 52 ho base tNn i0 _ 1 8 Tryz.underlying52 hi hz0 hz1 hz2 rfl oM v xs.length _ hs hown.2 ⟨b,off,none⟩ m c (ys.map fun n=>Value.int .i64 (n:Nat)) hx (by simp[hm]) ?_ ?_ (by simp[maxLen];omega) oM hbase ?_
  ·intro j u hj
   simp only[List.getElem?_map,Option.map_eq_some_iff]at hj;obtain⟨x',hj,rfl⟩:=hj;rw[Addr.add_lit,cell_of_row w b (off+j) cs tNn _ h2];exact h3 j x' hj
  ·intro u hu
   simp only[List.mem_map]at hu;obtain⟨x',_,rfl⟩:=hu;rfl
  ·intro v' w' h1 h2 _
   refine h v' w' ⟨hall,?_⟩ h2;simpa[hm]using h1
theorem zQE{w:World}{ops:Array Oper}{rest:List Oper}{o:Oper}{a:Act}{Q:Exit->Act->World->Prop}(hgd:o.guard=none)(s x:Operand)
  (ho:o.op= .call {callee:=.builtin .append,args:=#[s,x],argTypes:=#[52,52]})
  (base:Nat) (v:Value) (xs:List Nat) (hs:a.eval s=v) (hown:zBd w base v xs) (ao:Option Addr) (m c:Nat) (ys:List Nat) (hx:a.eval x= .slice ao m c) (hy:zA1 w ao ys) (hm:ys.length=m)
  (hlen:xs.length+m<=17592186044416) (hbase:base<=w.heap.size)
  (h:∀v' w',zBd w' base v' (xs++ys)->w.grownBy w' v.ownBlock->wpList Tryz.prog ops Q rest (a.put o.dst v') w'):wpList Tryz.prog ops Q (o::rest) a w:=
 wpList_plain hgd fun _ hK=>wpN s x ho base v xs hs hown ao m c ys hx hy hm hlen hbase fun v' w' h1 h2=>hK _ _ (h v' w' h1 h2)
end Go.Proofs.YtnbmaipobhppcaaGreat
