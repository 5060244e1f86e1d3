/- Rational numbers, plain: bounds by bits, lowest terms. torsionref05: ValidVec. Matrices whose rows' slice begins somewhere in a block, for reading. torsionref05: Same, Valid, Sized. Divides of both packages; torsionref05.Sized. torsionref13.Is. matrix.Valid; smith.diagonal. smith.diagonal. append on rows of integers; smith.elements. The law for regions that draw, where nothing is written: values that last behind new memory. smith.elements. smith.Is. Matrices that a call itself made. Pairs of integers and rational numbers as values; lists of them; append. -/
import Derived.StillTailTactics
import Derived.BigQuiet
import Derived.Deep.QuietTactic
import Derived.Test.YtnbmaipobhppcaaGreatD08
set_option linter.unusedVariables false
set_option linter.unusedSimpArgs false
set_option linter.unusedSectionVars false
set_option maxHeartbeats 16000000
set_option maxRecDepth 100000
namespace Go.Proofs.YtnbmaipobhppcaaGreat
open Go.RowKit
def HQ(e:Nat)(q:Rat):Prop:=q.num.natAbs<2^e/\q.den<2^e
theorem HQ.mono{a b:Nat}{q:Rat}(h:HQ a q)(hab:a<=b):HQ b q:=⟨Nat.lt_of_lt_of_le h.1 (Nat.pow_le_pow_right dE hab),Nat.lt_of_lt_of_le h.2 (Nat.pow_le_pow_right dE hab)⟩
theorem zEx(a b:Int):(a/b).natAbs<=a.natAbs∨b.natAbs=0∨¬ b∣a:=by
 by_cases hb:b=0
 ·exact .inr (.inl oM)
 ·by_cases hd:b∣a
  ·left
   obtain⟨c,rfl⟩:=hd;rw[Int.mul_ediv_cancel_left _ hb,Int.natAbs_mul];exact Nat.le_mul_of_pos_left _ (Int.natAbs_pos.2 hb)
  ·exact .inr (.inr hd)
theorem zFC(q:Rat):(q.den:Int)≠0:=by have:=q.den_nz;omega
theorem zGd{n d:Int}(h0:d≠0):(Rat.divInt n d).num.natAbs<=n.natAbs/\(Rat.divInt n d).den<=d.natAbs:=by
 have hg:0<d.gcd n:=Int.gcd_pos_iff.2 (.inl h0);refine⟨?_,?_⟩
 ·rw[Rat.num_divInt]
  have hd:((d.gcd n:Nat):Int)∣d.sign*n:=Int.dvd_trans (Int.gcd_dvd_right ..) (Int.dvd_mul_left _ _);rcases zEx (d.sign*n) (d.gcd n)with h|h|h
  ·refine Nat.le_trans h ?_
   rw[Int.natAbs_mul,Int.natAbs_sign_of_ne_zero h0,Nat.one_mul];exact xgf _
  ·omega
  ·exact absurd hd h
 ·rw[Rat.den_divInt,if_neg h0]
  exact Nat.div_le_self _ _
theorem HQ.divInt{n d:Int}{e:Nat}(hn:n.natAbs<2^e)(hd:d.natAbs<2^e)(h0:d≠0):HQ e (Rat.divInt n d):=
 ⟨Nat.lt_of_le_of_lt (zGd h0).1 hn,Nat.lt_of_le_of_lt (zGd h0).2 hd⟩
theorem zDO(p q:Rat):p+q=Rat.divInt (p.num*q.den+q.num*p.den) ((p.den:Int)*q.den):=by
 rw[<-Rat.divInt_add_divInt _ _ (zFC p) (zFC q),Rat.num_divInt_den,Rat.num_divInt_den]
theorem zDY(p q:Rat):p*q=Rat.divInt (p.num*q.num) ((p.den:Int)*q.den):=by
 rw[<-Rat.divInt_mul_divInt,Rat.num_divInt_den,Rat.num_divInt_den]
theorem zFE(p q:Rat):p/q=Rat.divInt (p.num*q.den) ((p.den:Int)*q.num):=by
 rw[Rat.div_def,Rat.inv_def,<-Rat.divInt_mul_divInt,Rat.num_divInt_den]
theorem zMi{a b:Nat}{x y:Int}(hx:x.natAbs<2^a)(hy:y.natAbs<2^b):(x*y).natAbs<2^(a+b):=by
 rw[Int.natAbs_mul,Nat.pow_add];exact Nat.mul_lt_mul_of_lt_of_le hx (Nat.le_of_lt hy) (Nat.pow_pos dE)
theorem zPv{a:Nat}{x y:Int}(hx:x.natAbs<2^a)(hy:y.natAbs<2^a):(x+y).natAbs<2^(a+1):=by
 have:=Int.natAbs_add_le x y;rw[Nat.pow_succ];omega
theorem zQ0{a:Nat}{x y:Int}(hx:x.natAbs<2^a)(hy:y.natAbs<2^a):(x-y).natAbs<2^(a+1):=by
 have:=Int.natAbs_sub_le x y;rw[Nat.pow_succ];omega
theorem HQ.ints{a b:Nat}{p q:Rat}(hp:HQ a p)(hq:HQ b q):(p.num*q.den).natAbs<2^(a+b)/\(q.num*p.den).natAbs<2^(a+b)/\(p.num*q.num).natAbs<2^(a+b)/\((p.den:Int)*q.den).natAbs<2^(a+b)/\((p.den:Int)*q.num).natAbs<2^(a+b):=by
 have h1:((p.den:Int)).natAbs<2^a:=by rw[Int.natAbs_natCast];exact hp.2
 have h2:((q.den:Int)).natAbs<2^b:=by rw[Int.natAbs_natCast];exact hq.2
 exact⟨zMi hp.1 h2,Nat.add_comm a b ▸ zMi hq.1 h1,zMi hp.1 hq.1,zMi h1 h2,zMi h1 hq.1⟩
theorem zQP{a:Nat}{x:Nat}(h:x<2^a):x<2^(a+1):=Nat.lt_of_lt_of_le h (Nat.pow_le_pow_right dE oM)
theorem zDP(p q:Rat):(p.den:Int)*q.den≠0:=Int.mul_ne_zero (zFC p) (zFC q)
theorem zKt{q:Rat}(h:q≠0):q.num≠0:=fun e=>h (Rat.num_eq_zero.1 e)
theorem HQ.add{a b:Nat}{p q:Rat}(hp:HQ a p)(hq:HQ b q):HQ (a+b+1) (p+q):=by
 obtain⟨h1,h2,h3,h4,-⟩:=HQ.ints hp hq;rw[zDO];exact .divInt (zPv h1 h2) (zQP h4) (zDP p q)
theorem HQ.mul{a b:Nat}{p q:Rat}(hp:HQ a p)(hq:HQ b q):HQ (a+b) (p*q):=by
 obtain⟨h1,h2,h3,h4,-⟩:=HQ.ints hp hq;rw[zDY];exact .divInt h3 h4 (zDP p q)
theorem HQ.div{a b:Nat}{p q:Rat}(hp:HQ a p)(hq:HQ b q)(h0:q≠0):HQ (a+b) (p/q):=by
 obtain⟨h1,h2,h3,h4,h5⟩:=HQ.ints hp hq;rw[zFE];exact .divInt h1 h5 (Int.mul_ne_zero (zFC p) (zKt h0))
theorem HQ.int{a:Nat}{z:Int}(h:z.natAbs<2^a)(ha:1<=a):HQ a (z:Rat):=⟨by rw[Rat.num_intCast];exact h,by rw[Rat.den_intCast];exact Nat.lt_of_lt_of_le dE (Nat.pow_le_pow_right dE ha:2^1<=2^a)⟩
def zHm(n d:Int):Int:=if d<0 then-((Int.gcd n d:Nat):Int)else((Int.gcd n d:Nat):Int)
theorem zKm{n d:Int}(h:d≠0):zHm n d≠0:=by
 have hg:0<Int.gcd n d:=Int.gcd_pos_iff.2 (.inr h);unfold zHm;split<;>omega
theorem zHo{n d:Int}(h:d≠0):n/zHm n d=(Rat.divInt n d).num:=by
 rw[Rat.num_divInt,Int.gcd_comm d n];unfold zHm;rcases Int.lt_or_gt_of_ne h with h1|h1
 ·rw[if_pos h1,Int.sign_eq_neg_one_of_neg h1,Int.ediv_neg,Int.neg_mul,Int.one_mul]
  obtain⟨c,hc⟩:=Int.gcd_dvd_left (a:=n) (b:=d);have hg:((Int.gcd n d:Nat):Int)≠0:=by have:0<Int.gcd n d:=Int.gcd_pos_iff.2 (.inr h);omega
  generalize ((Int.gcd n d:Nat):Int)=g at hc hg;subst hc;rw[Int.mul_ediv_cancel_left _ hg,show-(g*c)=g*(-c) by rw[Int.mul_neg],Int.mul_ediv_cancel_left _ hg]
 ·rw[if_neg oM,Int.sign_eq_one_of_pos h1,Int.one_mul]
theorem zHn{n d:Int}(h:d≠0):d/zHm n d=((Rat.divInt n d).den:Int):=by
 rw[Rat.den_divInt,if_neg h,Int.gcd_comm d n];obtain⟨c,hc⟩:=Int.gcd_dvd_right (a:=n) (b:=d);have hg:0<Int.gcd n d:=Int.gcd_pos_iff.2 (.inr h);unfold zHm;generalize Int.gcd n d=g at hc hg;rcases Int.lt_or_gt_of_ne h with h1|h1
 ·rw[if_pos h1,Int.ediv_neg,Int.natCast_ediv,Int.ofNat_natAbs_of_nonpos oM,hc,Int.mul_ediv_cancel_left _ oM,show-((g:Int)*c)=g*(-c) by rw[Int.mul_neg],Int.mul_ediv_cancel_left _ oM]
 ·rw[if_neg oM,Int.natCast_ediv,Int.natAbs_of_nonneg oM]
theorem zMg{n d:Int}(hd:0<d)(hg:Int.gcd n d=1):(Rat.divInt n d).num=n/\((Rat.divInt n d).den:Int)=d:=by
 rw[<-zHo oM,<-zHn oM];unfold zHm;rw[if_neg oM,hg];exact⟨Int.ediv_one _,Int.ediv_one _⟩
theorem zOd(q:Rat):Int.gcd q.num q.den=1:=by
 have:=q.reduced;unfold Nat.Coprime at this;unfold Int.gcd;rwa[Int.natAbs_natCast]
theorem zL4(q:Rat):(0:Int)<q.den:=by have:=q.den_nz;omega
def isZ(q:Rat):Bool:=decide ((q.den:Int)=1)
theorem zCf{q:Rat}:isZ q=true↔∃z:Int,q=z:=by
 unfold isZ;rw[decide_eq_true_eq];constructor
 ·intro h
  exact⟨q.num,Rat.ext (by rw[Rat.num_intCast]) (by rw[Rat.den_intCast];omega)⟩
 ·rintro⟨z,rfl⟩
  rw[Rat.den_intCast];rfl
theorem zBJ(v:Value)(zs:List Int)(w:World)(h:qT w v zs):
  Calls Tryz.prog 75 #[v] w fun e w'=>e= .returned (.bool true)/\Below w.heap.size w w':=by
 obtain⟨ao,n,cap,rfl,h2,h3,h4,h5⟩:=id h;have HL:=xgw h2;clear h2 h5;go_enter Tryz.func75,Tryz.ntmps75;go_wp2;go_loopw [3] (fun i wr=>∃k:Nat,k<=n/\i= .int .i64 k/\Below w.heap.size w wr) (fun i _=>n-(intOf i).toNat)
 case atStart=>exact⟨0,by omega,rfl,Below.refl _ _⟩
 case round=>
  obtain⟨k,hk,rfl,hb⟩:=hrel;by_cases hlt:k<n
  ·obtain⟨b,z,s,a,l,c,rfl,hbl,-,c1,c2,hv⟩:=(h.below hb).cell (k:=k) (by rw[HL.out];exact hlt)
   go_wp2_with fail
   refine(zCm _ _ wr hv).mono ?_;rintro e w1 ⟨rfl,hb1⟩;go_wp2;go_roundw
   case rel=>exact⟨k+1,by omega,by simp,nx hb hb1⟩
   case measure=>simp[intOf];omega
  ·obtain rfl:k=n:=by omega
   go_wp2;go_ret;exact⟨rfl,hb⟩
theorem zEo{α:Type}{xs ys:List α}{k:Nat}{x y:α}(h:xs.take k=ys.take k)(hx:xs[k]?=some x)(hy:ys[k]?=some y)(e:x=y):xs.take (k+1)=ys.take (k+1):=by
 rw[List.take_add_one,List.take_add_one,hx,hy,h,e]
theorem zCq{α:Type}{xs ys:List α}{k:Nat}{x y:α}(hx:xs[k]?=some x)(hy:ys[k]?=some y)(e:x≠y):xs≠ys:=by
 rintro rfl;rw[hx]at hy;injection hy with hy
 exact e hy
theorem zCp(v1 v2:Value)(xs ys:List Int)(w:World)(h1:qT w v1 xs)(h2:qT w v2 ys):
  Calls Tryz.prog 65 #[v1,v2] w fun e w'=>e= .returned (.bool (decide (xs=ys)))/\Below w.heap.size w w':=by
 obtain⟨ao,n,cap,rfl,e2,e3,e4,e5⟩:=id h1;obtain⟨bo,m,bcap,rfl,f2,f3,f4,f5⟩:=id h2;have HX:=xgw e2;have HY:=xgw f2;clear e2 e5 f2 f5;by_cases hlen:n=m
 ·subst hlen
  go_enter Tryz.func65,Tryz.ntmps65;go_wp2;go_loopw [5] (fun i wr=>∃k:Nat,k<=n/\i= .int .i64 k/\Below w.heap.size w wr/\Hid (xs.take k=ys.take k)) (fun i _=>n-(intOf i).toNat)
  case atStart=>exact⟨0,by omega,rfl,Below.refl _ _,by rw[List.take_zero,List.take_zero];exact xgw rfl⟩
  case round=>
   obtain⟨k,hk,rfl,hb,hsame⟩:=hrel;by_cases hlt:k<n
   ·obtain⟨b,z,s,a,l,c,rfl,hbl,hz,c1,c2,hv⟩:=(h1.below hb).cell (k:=k) (by rw[HX.out];exact hlt)
    obtain⟨b',z',s',a',l',c',rfl,hbl',hz',d1,d2,hv'⟩:=(h2.below hb).cell (k:=k) (by rw[HY.out];exact hlt);have HZ:=xgw hz;have HZ':=xgw hz';clear hz hz';have c1':=yH c1;have c2':=yH c2;have d1':=yH d1;have d2':=yH d2;go_upto_region 6 with(fail)
    go_still_tail 8,kR;change wpList _ _ _ _ _ wr.drew;go_wp2_with fail
    refine(zJT _ _ z z' _ (hv.ext (lx (dr _))) (hv'.ext (lx (dr _)))).mono ?_;rintro e w1 ⟨rfl,hb1⟩;by_cases he:z=z'
    ·rw[decide_eq_true he]
     go_wp2;go_roundw
     case rel=>exact⟨k+1,by omega,by simp,nx (nx hb (dr _)) hb1,xgw (zEo hsame.out HZ.out HZ'.out he)⟩
     case measure=>simp[intOf];omega
    ·rw[decide_eq_false he]
     go_wp2;go_ret;exact⟨by rw[decide_eq_false (zCq HZ.out HZ'.out he)];rfl,nx (nx hb (dr _)) hb1⟩
   ·obtain rfl:k=n:=by omega
    go_wp2;go_ret;refine⟨?_,hb⟩;have:=hsame.out;rw[<-HX.out,List.take_length,HX.out,<-HY.out,List.take_length]at this;rw[decide_eq_true this];rfl
 ·have hne:xs≠ys:=by rintro rfl;exact hlen (HX.out.symm.trans HY.out)
  have hd:=decide_eq_false hne;rw[hd];have hi:¬ (n:Int)=(m:Int):=by omega
  go_enter Tryz.func65,Tryz.ntmps65;go_wp2;go_ret;exact⟨rfl,Below.refl _ _⟩
def zGN(w:World)(v:Value)(M:List (List Int)):Prop:=
 ∃ao n cap,v= .slice ao n cap/\M.length=n/\n<=cap/\cap<=9223372036854775807/\(M≠ []->∃(b o:Nat) (cs:Array Value),ao=some ⟨b,o,none⟩/\w.heap[b]?=some (.cells cs 30 (0,0))/\∀(k:Nat) (zs:List Int),M[k]?=some zs->∃rv,cs[o+k]?=some rv/\qT w rv zs)
theorem jB.off0{w:World}{v:Value}{M:List (List Int)}(h:jB w v M):zGN w v M:=by
 obtain⟨ao,n,cap,h1,h2,h3,h4,h5⟩:=h;refine⟨ao,n,cap,h1,h2,h3,h4,fun hn=>?_⟩;obtain⟨b,cs,e1,e2,e3⟩:=h5 hn;exact⟨b,0,cs,e1,e2,fun k zs hk=>by rw[Nat.zero_add];exact e3 k zs hk⟩
theorem zGN.below{w w':World}{v:Value}{M:List (List Int)}(h:zGN w v M)(hb:Below w.heap.size w w'):zGN w' v M:=by
 obtain⟨ao,n,cap,h1,h2,h3,h4,h5⟩:=h;refine⟨ao,n,cap,h1,h2,h3,h4,fun hn=>?_⟩;obtain⟨b,o,cs,e1,e2,e3⟩:=h5 hn;refine⟨b,o,cs,e1,(hb.block _ (Array.getElem?_eq_some_iff.1 e2).1).trans e2,fun k zs hk=>?_⟩;obtain⟨rv,e4,e5⟩:=e3 k zs hk;exact⟨rv,e4,e5.below hb⟩
theorem zGN.row{w:World}{ao:Option Addr}{n cap:Nat}{M:List (List Int)}(h:zGN w (.slice ao n cap) M){k:Nat}(hk:k<M.length):
  ∃b o ra rn rc zs,ao=some ⟨b,o,none⟩/\b<w.heap.size/\M[k]?=some zs/\w.cell? ⟨b,o+k,none⟩=some (.slice ra rn rc)/\qT w (.slice ra rn rc) zs:=by
 obtain⟨ao',n',cap',h1,h2,h3,h4,h5⟩:=h;injection h1 with e1 e2 e3
 subst e1;obtain⟨b,o,cs,e,hr,hc⟩:=h5 (by rintro rfl;simp at hk);obtain⟨rv,c1,c2⟩:=hc k _ (xga hk);obtain⟨ra,rn,rc,rfl,c3⟩:=id c2;exact⟨b,o,ra,rn,rc,_,e,(Array.getElem?_eq_some_iff.1 hr).1,xga hk,(cell_of_row w b _ cs _ _ hr).trans c1,c2⟩
def zHP(w:World)(v:Value)(R C:Int)(M:List (List Int)):Prop:=∃A,v= .agg #[.int .i64 R,.int .i64 C,A]/\zGN w A M
theorem yP.off{w:World}{v:Value}{R C:Int}{M:List (List Int)}(h:yP w v R C M):zHP w v R C M:=by
 obtain⟨A,h1,h2⟩:=h;exact⟨A,h1,h2.off0⟩
theorem zHP.below{w w':World}{v:Value}{R C:Int}{M:List (List Int)}(h:zHP w v R C M)(hb:Below w.heap.size w w'):zHP w' v R C M:=by
 obtain⟨A,h1,h2⟩:=h;exact⟨A,h1,h2.below hb⟩
theorem zPj(v1 v2:Value)(R1 C1 R2 C2:Int)(M1 M2:List (List Int))(w:World)(h1:yP w v1 R1 C1 M1)(h2:yP w v2 R2 C2 M2):
  Calls Tryz.prog 41 #[v1,v2] w fun e w'=>e= .returned (.bool (decide (R1=R2/\C1=C2/\M1=M2)))/\Below w.heap.size w w':=by
 obtain⟨A1,rfl,h1⟩:=h1;obtain⟨A2,rfl,h2⟩:=h2;obtain⟨ao,n,cap,rfl,e2,e3,e4,-⟩:=id h1;obtain⟨bo,m,bcap,rfl,f2,f3,f4,-⟩:=id h2;have HX:=xgw e2;have HY:=xgw f2;clear e2 f2;by_cases hall:R1=R2/\C1=C2/\n=m
 ·obtain⟨rfl,rfl,rfl⟩:=hall
  have hd:decide (R1=R1/\C1=C1/\M1=M2)=decide (M1=M2):=by simp
  rw[hd];clear hd;go_enter Tryz.func41,Tryz.ntmps41;go_upto_region 1 with(fail)
  refine zB ?_;intro W0 hW0;obtain⟨hB0,bx1,bx2,hs0⟩:=qI hW0;obtain⟨c1,c2,c3,c4,c5,c6⟩:=bx1.three;obtain⟨d1,d2,d3,d4,d5,d6⟩:=bx2.three;have h1:=h1.below hB0;have h2:=h2.below hB0;go_wp2;go_loopw [5] (fun i wr=>∃k:Nat,k<=n/\i= .int .i64 k/\Below w.heap.size w wr/\Below W0.heap.size W0 wr/\Hid (M1.take k=M2.take k)) (fun i _=>n-(intOf i).toNat)
  case atStart=>exact⟨0,by omega,rfl,hB0,Below.refl _ _,by rw[List.take_zero,List.take_zero];exact xgw rfl⟩
  case round=>
   obtain⟨k,hk,rfl,hb,hb0,hsame⟩:=hrel;have bx1:=bx1.below hb0;have bx2:=bx2.below hb0;clear c1 c2 c3 c4 c5 c6 d1 d2 d3 d4 d5 d6;obtain⟨c1,c2,c3,c4,c5,c6⟩:=bx1.three;obtain⟨d1,d2,d3,d4,d5,d6⟩:=bx2.three;by_cases hlt:k<n
   ·obtain⟨b,ra,rn,rc,zs,rfl,hbl,hz,p1,hv⟩:=(h1.below hb0).row (k:=k) (by rw[HX.out];exact hlt)
    obtain⟨b',ra',rn',rc',zs',rfl,hbl',hz',q1,hv'⟩:=(h2.below hb0).row (k:=k) (by rw[HY.out];exact hlt);have HZ:=xgw hz;have HZ':=xgw hz';clear hz hz';have c3':=yH c3;have d3':=yH d3;have p1':=yH p1;have q1':=yH q1;go_upto_region 6 with(fail)
    go_still_tail 10,kR;change wpList _ _ _ _ _ wr.drew;go_wp2_with fail
    refine(zCp _ _ zs zs' _ (hv.below (dr _)) (hv'.below (dr _))).mono ?_;rintro e w1 ⟨rfl,hb1⟩;by_cases he:zs=zs'
    ·rw[decide_eq_true he]
     go_wp2;go_roundw
     case rel=>exact⟨k+1,by omega,by simp,nx (nx hb (dr _)) hb1,nx (nx hb0 (dr _)) hb1,xgw (zEo hsame.out HZ.out HZ'.out he)⟩
     case measure=>simp[intOf];omega
    ·rw[decide_eq_false he]
     go_wp2;go_ret;exact⟨by rw[decide_eq_false (zCq HZ.out HZ'.out he)];rfl,nx (nx hb (dr _)) hb1⟩
   ·obtain rfl:k=n:=by omega
    go_wp2;go_ret;refine⟨?_,hb⟩;have:=hsame.out;rw[<-HX.out,List.take_length,HX.out,<-HY.out,List.take_length]at this;rw[decide_eq_true this];rfl
 ·have hne:¬ (R1=R2/\C1=C2/\M1=M2):=by
   rintro⟨a,b,c⟩;subst c;exact hall ⟨a,b,HX.out.symm.trans HY.out⟩
  rw[decide_eq_false hne];clear hne;by_cases hR:R1=R2
  ·by_cases hC:C1=C2
   ·have hn:¬ (n:Int)=(m:Int):=fun h=>hall ⟨hR,hC,by omega⟩
    clear hall;go_enter Tryz.func41,Tryz.ntmps41;go_upto_region 1 with(fail)
    refine zB ?_;intro W0 hW0;obtain⟨hB0,bx1,bx2,hs0⟩:=qI hW0;obtain⟨c1,c2,c3,c4,c5,c6⟩:=bx1.three;obtain⟨d1,d2,d3,d4,d5,d6⟩:=bx2.three;go_wp2;go_ret;exact⟨rfl,hB0⟩
   ·clear hall
    go_enter Tryz.func41,Tryz.ntmps41;go_upto_region 1 with(fail)
    refine zB ?_;intro W0 hW0;obtain⟨hB0,bx1,bx2,hs0⟩:=qI hW0;obtain⟨c1,c2,c3,c4,c5,c6⟩:=bx1.three;obtain⟨d1,d2,d3,d4,d5,d6⟩:=bx2.three;go_wp2;go_ret;exact⟨rfl,hB0⟩
  ·clear hall
   go_enter Tryz.func41,Tryz.ntmps41;go_upto_region 1 with(fail)
   refine zB ?_;intro W0 hW0;obtain⟨hB0,bx1,bx2,hs0⟩:=qI hW0;obtain⟨c1,c2,c3,c4,c5,c6⟩:=bx1.three;obtain⟨d1,d2,d3,d4,d5,d6⟩:=bx2.three;go_wp2;go_ret;exact⟨rfl,hB0⟩
def qX(R C:Int)(M:List (List Int)):Prop:=0<=R/\0<=C/\(M.length:Int)=R/\∀r∈M,(r.length:Int)=C
instance (R C:Int) (M:List (List Int)):Decidable (qX R C M):=inferInstanceAs (Decidable (_/\_))
theorem zH1(v:Value)(R C:Int)(M:List (List Int))(w:World)(h:zHP w v R C M):
  Calls Tryz.prog 74 #[v] w fun e w'=>e= .returned (.bool (decide (qX R C M)))/\Below w.heap.size w w':=by
 obtain⟨A,rfl,h⟩:=h;obtain⟨ao,n,cap,rfl,e2,e3,e4,-⟩:=id h;have HX:=xgw e2;clear e2;by_cases hall:0<=R/\0<=C/\(n:Int)=R
 ·obtain⟨h0,h1,rfl⟩:=hall
  have hd:decide (qX n C M)=decide (∀r∈M,(r.length:Int)=C):=decide_eq_decide.2 ⟨fun h=>h.2.2.2,fun h=>⟨h0,h1,by rw[HX.out],h⟩⟩;rw[hd];clear hd;go_enter Tryz.func74,Tryz.ntmps74;go_upto_region 1 with(fail)
  refine zB ?_;intro W0 hW0;obtain⟨hB0,bx1,hs0⟩:=zK hW0;obtain⟨c1,c2,c3,c4,c5,c6⟩:=bx1.three;have h:=h.below hB0;go_wp2;go_loopw [3] (fun i wr=>∃k:Nat,k<=n/\i= .int .i64 k/\Below w.heap.size w wr/\Below W0.heap.size W0 wr/\Hid (∀r∈M.take k,(r.length:Int)=C)) (fun i _=>n-(intOf i).toNat)
  case atStart=>exact⟨0,by omega,rfl,hB0,Below.refl _ _,by rw[List.take_zero];exact xgw (fun r hr=>by cases hr)⟩
  case round=>
   obtain⟨k,hk,rfl,hb,hb0,hall⟩:=hrel;have bx1:=bx1.below hb0;clear c1 c2 c3 c4 c5 c6;obtain⟨c1,c2,c3,c4,c5,c6⟩:=bx1.three;by_cases hlt:k<n
   ·obtain⟨b,o,ra,rn,rc,zs,rfl,hbl,hz,p1,hv⟩:=(h.below hb0).row (k:=k) (by rw[HX.out];exact hlt)
    have HZ:=xgw hz;have HL:=xgw hv.len.1;clear hz;have c2':=yH c2;have c3':=yH c3;have p1':=yH p1;go_upto_region 6 with(fail)
    by_cases hrc:(rn:Int)=C
    ·go_still_tail 15,kR
     change wpList _ _ _ _ _ wr.drew;go_wp2_with fail
     refine(zBJ _ zs _ (hv.below (dr _))).mono ?_;rintro e w1 ⟨rfl,hb1⟩;go_wp2;go_roundw
     case rel=>
      refine⟨k+1,by omega,by simp,nx (nx hb (dr _)) hb1,nx (nx hb0 (dr _)) hb1,xgw ?_⟩;rw[List.take_add_one,HZ.out];intro r hr;rcases List.mem_append.1 hr with hr|hr
      ·exact hall.out r hr
      ·simp at hr
       rw[hr,HL.out,hrc]
     case measure=>simp[intOf];omega
    ·go_quiet (fail)
     go_wp2;go_ret;refine⟨?_,nx hb (drN _ _)⟩;have hbad:¬ ∀r∈M,(r.length:Int)=C:=fun hh=>hrc (by rw[<-HL.out];exact hh zs (xgd HZ.out))
     rw[decide_eq_false hbad];rfl
   ·obtain rfl:k=n:=by omega
    go_wp2;go_ret;refine⟨?_,hb⟩;have:=hall.out;rw[<-HX.out,List.take_length]at this;rw[decide_eq_true this];rfl
 ·have hne:¬ qX R C M:=by
   rintro⟨a,b,c,-⟩;exact hall ⟨a,b,by rw[<-HX.out];exact c⟩
  rw[decide_eq_false hne];clear hne;by_cases hR:0<=R
  ·have hR':¬ R<0:=by omega
   by_cases hC:0<=C
   ·have hn:¬ (n:Int)=R:=fun h=>hall ⟨hR,hC,h⟩
    have hC':¬ C<0:=by omega
    clear hall;go_enter Tryz.func74,Tryz.ntmps74;go_upto_region 1 with(fail)
    refine zB ?_;intro W0 hW0;obtain⟨hB0,bx1,hs0⟩:=zK hW0;obtain⟨c1,c2,c3,c4,c5,c6⟩:=bx1.three;go_wp2;go_ret;exact⟨rfl,hB0⟩
   ·have hC':C<0:=by omega
    clear hall;go_enter Tryz.func74,Tryz.ntmps74;go_upto_region 1 with(fail)
    refine zB ?_;intro W0 hW0;obtain⟨hB0,bx1,hs0⟩:=zK hW0;obtain⟨c1,c2,c3,c4,c5,c6⟩:=bx1.three;go_wp2;go_ret;exact⟨rfl,hB0⟩
  ·have hR':R<0:=by omega
   clear hall;go_enter Tryz.func74,Tryz.ntmps74;go_upto_region 1 with(fail)
   refine zB ?_;intro W0 hW0;obtain⟨hB0,bx1,hs0⟩:=zK hW0;obtain⟨c1,c2,c3,c4,c5,c6⟩:=bx1.three;go_wp2;go_ret;exact⟨rfl,hB0⟩
theorem zH0(v:Value)(R C:Int)(M:List (List Int))(w:World)(h:yP w v R C M):
  Calls Tryz.prog 74 #[v] w fun e w'=>e= .returned (.bool (decide (qX R C M)))/\Below w.heap.size w w':=zH1 v R C M w h.off
theorem zA0{z:Int}(h:z=0):qJ z 0=0:=by subst h;rfl
theorem zCc{z:Int}(h:z≠0):qJ z 0≠0:=by unfold qJ;split<;>(try split)<;>omega
def zHQ(i C:Nat)(r:List Int):Prop:=∀k,k<C->k≠i->r.getD k 0=0
instance (i C:Nat) (r:List Int):Decidable (zHQ i C r):=inferInstanceAs (Decidable (∀k,k<C->_))
def zP1(C:Nat):Nat->Int->List (List Int)->Bool
 |_,_,[]=>true
 |i,last,r::rs=>decide (zHQ i C r) && (if i<C then decide (0<=r.getD i 0) && decide (last∣r.getD i 0) && zP1 C (i+1) (r.getD i 0) rs else zP1 C (i+1) last rs)
def IsM(R C:Int)(M:List (List Int)):Bool:=decide (qX R C M) && zP1 C.toNat 0 1 M
theorem zGg{α:Type}{l:List α}{k:Nat}{x:α}(h:l[k]?=some x):l.drop k=x::l.drop (k+1):=by
 obtain⟨h1,h2⟩:=xge.1 h;rw[List.drop_eq_getElem_cons h1,h2]
theorem zBM{α:Type}{l:List α}{k:Nat}{x d:α}(h:l[k]?=some x):l.getD k d=x:=by simp[xgb,h]
theorem Smd.one{z:Int}(h:z.natAbs<=1):Smd z:=⟨Nat.lt_of_le_of_lt h (by
 have h1:=zE2 0 zJx (by rw[zAP];omega)
 rw[Nat.pow_zero]at h1
 exact h1)⟩
theorem zDZ(v:Value)(R C:Int)(M:List (List Int))(w:World)(h:zHP w v R C M):
  Calls Tryz.prog 68 #[v] w fun e w'=>e= .returned (.bool (decide (qX R C M)))/\Below w.heap.size w w':=by
 obtain⟨A,rfl,h⟩:=h;obtain⟨ao,n,cap,rfl,e2,e3,e4,-⟩:=id h;have HX:=xgw e2;clear e2;by_cases hall:0<=R/\0<=C/\(n:Int)=R
 ·obtain ⟨h0,h1,rfl⟩:=hall
  have hd:decide (qX n C M)=decide (∀r∈M,(r.length:Int)=C):=decide_eq_decide.2 ⟨fun h=>h.2.2.2,fun h=>⟨h0,h1,by rw[HX.out],h⟩⟩;rw[hd];clear hd;go_enter Tryz.func68,Tryz.ntmps68;go_upto_region 1 with(fail)
  refine zB ?_;intro W0 hW0;obtain⟨hB0,bx1,hs0⟩:=zK hW0;obtain⟨c1,c2,c3,c4,c5,c6⟩:=bx1.three;go_wp2;clear c1 c2 c3 c4 c5 c6;go_loopw [26] (fun i wr=>∃k:Nat,k<=n/\i= .int .i64 k/\Below w.heap.size w wr/\Blk wr w.heap.size 28 #[.int .i64 n,.int .i64 C,.slice ao n cap]/\Hid (∀r∈M.take k,(r.length:Int)=C)) (fun i _=>n-(intOf i).toNat)
  case atStart=>exact⟨0,by omega,rfl,hB0,bx1,by rw[List.take_zero];exact xgw (fun r hr=>by cases hr)⟩
  case round=>
   obtain⟨k,hk,rfl,hb,bx1,hall⟩:=hrel;obtain⟨c1,c2,c3,c4,c5,c6⟩:=bx1.three;by_cases hlt:k<n
   ·obtain⟨b,o,ra,rn,rc,zs,rfl,hbl,hz,p1,hv⟩:=(h.below hb).row (k:=k) (by rw[HX.out];exact hlt)
    have HZ:=xgw hz;have hvl:=hv.len;have HL:=xgw hvl.1;obtain⟨-,hl2,hl3⟩:=hvl;clear hz;by_cases hrc:(rn:Int)=C
    ·go_wp2
     clear c1 c2 c3 c4 c5 c6;go_loopw [37] (fun j wr'=>∃m:Nat,m<=rn/\j= .int .i64 m/\Below wr.heap.size wr wr') (fun j _=>rn-(intOf j).toNat)
     case atStart=>exact⟨0,by omega,rfl,Below.refl _ _⟩
     case round=>
      rename World=>wr'
      obtain⟨m,hm,rfl,hb'⟩:=hrel;by_cases hmr:m<rn
      ·obtain⟨b',z,s,a,l,c,rfl,hbl',hzk,q1,q2,hzv⟩:=(hv.below hb').cell (k:=m) (by rw[HL.out];exact hmr)
       clear hzk;go_upto_region 11 with(fail)
       refine zB ?_;intro W6 hW6;obtain⟨hB6,T6,hs6⟩:=zK hW6;obtain⟨d1,d2,d3,d4⟩:=T6.two;clear q1 q2 hW6;go_wp2_with fail
       refine(zDL _ z W6 (hzv.ext (lx hB6))).mono ?_;rintro e w7 ⟨rfl,hb7⟩;go_wp2;go_roundw
       case rel=>exact⟨m+1,by omega,by simp,nx (nx hb' hB6) hb7⟩
       case measure=>simp[intOf];omega
      ·obtain rfl:m=rn:=by omega
       have bx1:=bx1.below hb';go_wp2;go_roundw
       case rel=>
        refine⟨k+1,by omega,by simp,nx hb hb',bx1,xgw ?_⟩;rw[List.take_add_one,HZ.out];intro r hr;rcases List.mem_append.1 hr with hr|hr
        ·exact hall.out r hr
        ·simp at hr
         rw[hr,HL.out,hrc]
       case measure=>simp[intOf];omega
    ·go_wp2
     go_ret;refine⟨?_,hb⟩;have hbad:¬ ∀r∈M,(r.length:Int)=C:=fun hh=>hrc (by rw[<-HL.out];exact hh zs (xgd HZ.out))
     rw[decide_eq_false hbad];rfl
   ·obtain rfl:k=n:=by omega
    go_wp2;go_ret;refine⟨?_,hb⟩;have:=hall.out;rw[<-HX.out,List.take_length]at this;rw[decide_eq_true this];rfl
 ·have hne:¬ qX R C M:=by
   rintro⟨a,b,c,-⟩;exact hall ⟨a,b,by rw[<-HX.out];exact c⟩
  rw[decide_eq_false hne];clear hne;by_cases hR:0<=R
  ·have hR':¬ R<0:=by omega
   by_cases hC:0<=C
   ·have hn:¬ (n:Int)=R:=fun h=>hall ⟨hR,hC,h⟩
    have hC':¬ C<0:=by omega
    clear hall;go_enter Tryz.func68,Tryz.ntmps68;go_upto_region 1 with(fail)
    refine zB ?_;intro W0 hW0;obtain⟨hB0,bx1,hs0⟩:=zK hW0;obtain⟨c1,c2,c3,c4,c5,c6⟩:=bx1.three;go_wp2;go_ret;exact⟨rfl,hB0⟩
   ·have hC':C<0:=by omega
    clear hall;go_enter Tryz.func68,Tryz.ntmps68;go_upto_region 1 with(fail)
    refine zB ?_;intro W0 hW0;obtain⟨hB0,bx1,hs0⟩:=zK hW0;obtain⟨c1,c2,c3,c4,c5,c6⟩:=bx1.three;go_wp2;go_ret;exact⟨rfl,hB0⟩
  ·have hR':R<0:=by omega
   clear hall;go_enter Tryz.func68,Tryz.ntmps68;go_upto_region 1 with(fail)
   refine zB ?_;intro W0 hW0;obtain⟨hB0,bx1,hs0⟩:=zK hW0;obtain⟨c1,c2,c3,c4,c5,c6⟩:=bx1.three;go_wp2;go_ret;exact⟨rfl,hB0⟩
theorem yK(v:Value)(R C:Int)(M:List (List Int))(w:World)(h:yP w v R C M):
  Calls Tryz.prog 68 #[v] w fun e w'=>e= .returned (.bool (decide (qX R C M)))/\Below w.heap.size w w':=zDZ v R C M w h.off
def zNT:Nat->List (List Int)->Bool
 |_,[]=>true
 |i,r::rs=>decide (zHQ i r.length r) && zNT (i+1) rs
theorem Tryz.infoI:(Tryz.prog.info? tI).map (fun i=>(i.zero,i.size,i.bytes))=some (some (.agg #[.bool false,.slice none 0 0]),2,32):=by kernel_rfl
def zBR(w:World)(cells:List Value)(zs:List Int):Prop:=
 ∀(k:Nat) (z:Int),zs[k]?=some z->∃s a l c,cells[k*2]?=some (.bool s)/\cells[k*2+1]?=some (.slice a l c)/\zH w (.agg #[.bool s,.slice a l c]) z
def zEq(w:World)(base:Nat)(v:Value)(zs:List Int):Prop:=∃cells,w.ownsRow base tI 2 v zs.length cells/\zBR w cells zs
theorem zEq.below{w w':World}{base:Nat}{v:Value}{zs:List Int}(h:zEq w base v zs)(hb:Below w.heap.size w w'):zEq w' base v zs:=by
 obtain⟨cells,h1,h2⟩:=h;refine⟨cells,h1.kept (row:=none) ⟨hb.os,hb.tape,hb.output,hb.size,fun k hk _=>hb.block k hk⟩ (by cases hv:v.ownBlock<;>simp),fun k z hk=>?_⟩;obtain⟨s,a,l,c,e1,e2,e3⟩:=h2 k z hk;exact⟨s,a,l,c,e1,e2,e3.ext (lx hb)⟩
theorem zEq.vec{w:World}{base:Nat}{v:Value}{zs:List Int}(h:zEq w base v zs):qT w v zs:=by
 obtain⟨cells,⟨h0,h1⟩,h2⟩:=h;rcases h1 with⟨rfl,hn⟩|⟨g,cap,cur,rfl,hg,hh,hnc,hc,hs,ht⟩
 ·have:zs= []:=List.eq_nil_of_length_eq_zero hn
  subst this;exact qT.nil w
 ·refine⟨some ⟨g,0,none⟩,zs.length,cap,rfl,rfl,hnc,hc,fun _=>⟨g,rfl,cur,hh,fun k z hk=>?_⟩⟩
  obtain⟨s,a,l,c,e1,e2,e3⟩:=h2 k z hk;have hk':k<zs.length:=(xge.1 hk).1;rw[<-ht,List.getElem?_take_of_lt oM]at e1 e2;exact⟨s,a,l,c,by simpa using e1,by simpa using e2,e3⟩
theorem zEq.len{w:World}{base:Nat}{v:Value}{zs:List Int}(h:zEq w base v zs):∃ao cap,v= .slice ao zs.length cap/\zs.length<=cap/\cap<=9223372036854775807:=by
 obtain⟨ao,n,cap,h1,h2,h3,h4,-⟩:=h.vec;subst h2;exact⟨ao,cap,h1,h3,h4⟩
theorem zAM{w w':World}{base:Nat}{v:Value}{n:Nat}{xs:List Value}{e:TypeId}{size:Nat}(h:w.ownsRow base e size v n xs)(he:e≠tU)(hg:w.grownBy w' v.ownBlock):yO w w':=by
 intro b cs fz hb;have hlt:=(Array.getElem?_eq_some_iff.1 hb).1;by_cases hv:v.ownBlock=some b
 ·exfalso
  rcases h.2 with⟨rfl,-⟩|⟨g,cap,cur,rfl,-,hh,-⟩
  ·cases hv
  ·simp only[Value.ownBlock,Option.some.injEq]at hv
   subst hv;rw[hh]at hb;injection hb with hb
   injection hb with _ ht
   exact he ht
 ·have hne:∀k,v.ownBlock=some k->b≠k:=fun k hk e=>hv (by rw[hk,e])
  rw[hg.block b hlt (by
   intro hh;exact hv hh.symm)]
  exact hb
def qS(P:World->Value->Prop):Prop:=∀w w' v,Below w.heap.size w w'->P w v->P w' v
theorem yJ(z:Int):qS (fun w v=>zH w v z):=fun _ _ _ e h=>h.ext (lx e)
theorem jD(x:Value):qS (fun _ v=>v=x):=fun _ _ _ _ h=>h
theorem yR(R C:Int)(M:List (List Int)):qS (fun w v=>yP w v R C M):=fun _ _ _ e h=>h.below e
theorem qW(zs:List Int):qS (fun w v=>qT w v zs):=fun _ _ _ e h=>h.below e
def zCZ(N:Nat)(vs:List VS):Bool:=decide (vs.map (·.slot)).Nodup && decide (vs.map (·.op)).Nodup && (vs.map (·.slot)).all (fun s=>decide (s<N))
structure RV(W:World)(T0:Array Value)(vs:List VS)(L:Array Bool)(T:Array Value)(w:World):Prop where
 wf:zCZ T0.size vs=true
 lv:∀s∈vs,qS s.P
 size:T.size=T0.size
 keep:∀j,(∀s∈vs,s.slot≠j)->T[j]?=T0[j]?
 bel:Below W.heap.size W w
 val:∀s∈vs,L[s.op]?=some true->∃v,T[s.slot]?=some v/\s.P w v
section
variable {W:World} {T0:Array Value} {vs:List VS} {L:Array Bool} {T:Array Value} {w w':World}
theorem RV.start(hwf:zCZ T0.size vs=true:=by kernel_rfl)(hv:∀s∈vs,qS s.P:=by repeat' (first|exact yJ _|exact jD _|exact yR _ _ _|exact qW _|assumption|refine xgm.2 ⟨?_,?_⟩|exact xgn _)){n:Nat}:RV W T0 vs (Array.replicate n false) T0 W.drew:=
 ⟨hwf,hv,rfl,fun _ _=>rfl,dr _,fun s _ h=>by
  rw[Array.getElem?_replicate]at h;split at h<;>simp at h⟩
theorem RV.world(h:RV W T0 vs L T w)(hb:Below w.heap.size w w'):RV W T0 vs L T w':=
 ⟨h.wf,h.lv,h.size,h.keep,nx h.bel hb,fun s hs hl=>by
  obtain⟨v,h1,h2⟩:=h.val s hs hl;exact⟨v,h1,h.lv s hs _ _ _ hb h2⟩⟩
theorem RV.value{k:Nat}{v:Value}(h:RV W T0 vs L T w)(s:VS)(hs:s∈vs)(hk:s.op=k)(hP:s.P w v):RV W T0 vs (L.setIfInBounds k true) (T.setIfInBounds s.slot v) w:=by
 subst hk;have hwf:=h.wf;unfold zCZ at hwf;simp only[Bool.and_eq_true,decide_eq_true_eq,List.all_eq_true]at hwf;obtain⟨⟨w1,w2⟩,w3⟩:=hwf;have hslot:s.slot<T0.size:=w3 _ (List.mem_map.2 ⟨s,hs,rfl⟩);refine⟨h.wf,h.lv,by simp[h.size],fun j h1=>by rw[xgc (h1 s hs)];exact h.keep j h1,h.bel,?_⟩;intro t ht hl;by_cases he:t=s
 ·subst he
  exact⟨v,by rw[Array.getElem?_setIfInBounds_self_of_lt (by rw[h.size];exact hslot)],hP⟩
 ·have n1:t.op≠s.op:=fun e=>he (zN w2 ht hs e)
  have n2:t.slot≠s.slot:=fun e=>he (zN w1 ht hs e)
  obtain⟨u,h1,h2⟩:=h.val t ht (zL hl (Ne.symm n1));exact⟨u,by rw[xgc (Ne.symm n2)];exact h1,h2⟩
theorem RV.v{s:VS}(h:RV W T0 vs L T w)(hs:s∈vs)(hl:L[s.op]?=some true):∃v,T[s.slot]?=some v/\s.P w v:=h.val s hs hl
theorem RV.y{k:Nat}{v:Value}(h:RV W T0 vs L T w){s:VS}(hs:s∈vs)(hP:s.P w v)(hk:s.op=k:=by rfl):RV W T0 vs (L.setIfInBounds k true) (T.setIfInBounds s.slot v) w:=h.value s hs hk hP
theorem RV.cell{b o:Nat}{v:Value}(h:RV W T0 vs L T w)(hc:W.cell? ⟨b,o,none⟩=some v):w.cell? ⟨b,o,none⟩=some v:=zI hc h.bel
theorem RV.e{i s:Nat}{x:Value}(h:RV W T0 vs L T w)(hm:E i s x∈vs)(hl:L[i]?=some true):T[s]?=some x:=by
 obtain⟨v,h1,rfl⟩:=h.val _ hm hl;exact h1
theorem RV.vi{i s:Nat}{z:Int}(h:RV W T0 vs L T w)(hm:EI i s z∈vs)(hl:L[i]?=some true):∃v,T[s]?=some v/\zH w v z:=h.val _ hm hl
theorem RV.k{x:Value}(h:RV W T0 vs L T w)(j:Nat)(h2:T0[j]?=some x)(h1:(vs.all fun s=>!(s.slot==j))=true):T[j]?=some x:=
 (h.keep j (fun s hs e=>by have:=List.all_eq_true.1 h1 s hs;simp[e]at this)).trans h2
theorem RV.q{i s:Nat}{x:Value}(h:RV W T0 vs L T w)(hm:E i s x∈vs):RV W T0 vs (L.setIfInBounds i true) (T.setIfInBounds s x) w:=h.value _ hm rfl rfl
theorem RV.n{i s:Nat}{z:Int}{v:Value}(h:RV W T0 vs L T w)(hm:EI i s z∈vs)(hv:zH w v z):RV W T0 vs (L.setIfInBounds i true) (T.setIfInBounds s v) w:=h.value _ hm rfl hv
theorem RV.fin{G:Array Value->World->Prop}(hL:(vs.all fun s=>L[s.op]?==some true)=true)(h:∀w,Below W.heap.size W w->∀T,Fin w vs T0 T->G T w)(T:Array Value)(w:World)(hI:RV W T0 vs L T w):G T w:=by
 refine h w hI.bel T (zKR vs (fun j hj=>hI.keep j hj) (fun s hs=>hI.val s hs ?_) hI.size ?_)
 ·have:=List.all_eq_true.1 hL s hs
  simpa using this
 ·have hw:=hI.wf
  unfold zCZ at hw;simp only[Bool.and_eq_true,decide_eq_true_eq]at hw;exact hw.1.1
end
theorem zEq.own{w:World}{base:Nat}{v:Value}{zs:List Int}(h:zEq w base v zs):∀g,v.ownBlock=some g->base<=g:=by
 intro g hg;obtain⟨cells,⟨h0,h1⟩,h2⟩:=h;rcases h1 with⟨rfl,hn⟩|⟨g',cap,cur,rfl,hg',-⟩
 ·cases hg
 ·simp only[Value.ownBlock,Option.some.injEq]at hg
  omega
def zPy(M:List (List Int))(n:Nat):List Int:=(List.range n).map fun k=>(M.getD k []).getD k 0
def zKA:Int->List Int->Bool
 |_,[]=>true
 |last,d::ds=>decide (0<=d) && decide (last∣d) && zKA d ds
def zQc(R C:Int)(M:List (List Int)):Bool:=decide (qX R C M) && (zNT 0 M && zKA 1 (zPy M (min R.toNat C.toNat)))
abbrev tR:TypeId:=30
theorem Tryz.infoR:(Tryz.prog.info? tR).map (fun i=>(i.zero,i.size,i.bytes))=some (some (.slice none 0 0),1,24):=by kernel_rfl
def zeroCells(n:Nat):Array Value:=madeCells (Value.agg #[.bool false,.slice none 0 0]).cells (n*2)
theorem mkI(m:Int)(n:Nat)(hm:m=n)(h:n<=1099511627776)(W:World):
  (Instr.makeSlice 30 (.int .i64 m) (.int .i64 m)).run Tryz.prog W= .ok (.slice (some ⟨W.heap.size,0,none⟩) n n) (W.alloc (.cells (zeroCells n) tI)):=by
 subst hm;obtain⟨i0,hi,hz0,hz1,hz2⟩:=info_parts Tryz.infoI;have:=zAa (P:=Tryz.prog) 30 tI i0 _ Tryz.underlying30 hi hz0 .i64 .i64 n n (xgf _) (by rw[hz2];omega) oM W;rw[this,hz1];rfl
theorem zDC(w:World)(n:Nat):qC (w.alloc (.cells (zeroCells n) tI)) w.heap.size (List.replicate n 0):=by
 refine⟨zeroCells n,heap_alloc_new w _,fun k z hk=>?_⟩;have hk':=(xge.1 hk);obtain⟨h1,h2⟩:=hk';rw[List.length_replicate]at h1;rw[List.getElem_replicate]at h2;subst h2;refine⟨false,none,0,0,?_,?_,zAA _⟩
 ·unfold zeroCells madeCells
  rw[Array.getElem?_eq_getElem (by simp;omega)];simp[Value.cells]
 ·unfold zeroCells madeCells
  rw[Array.getElem?_eq_getElem (by simp;omega)];have:(k*2+1)%2=1:=by omega
  simp[Value.cells,this]
def yB(C:Nat)(bs:List Nat):List Value:=bs.map fun b=>.slice (some ⟨b,0,none⟩) C C
structure zS(w:World)(base:Nat)(A:Value)(C:Nat)(bs:List Nat)(M:List (List Int)):Prop where
 own:w.ownsRow base tR 1 A bs.length (yB C bs)
 len:M.length=bs.length
 row:∀(k:Nat) (b:Nat) (r:List Int),bs[k]?=some b->M[k]?=some r->base<=b/\r.length=C/\qC w b r
 nodup:bs.Nodup
 cb:C<=1099511627776
theorem zS.below{w w':World}{base:Nat}{A:Value}{C:Nat}{bs:List Nat}{M:List (List Int)}(h:zS w base A C bs M)(hb:Below w.heap.size w w'):zS w' base A C bs M:=
 ⟨h.own.kept (row:=none) ⟨hb.os,hb.tape,hb.output,hb.size,fun k hk _=>hb.block k hk⟩ (by cases hv:A.ownBlock<;>simp),h.len,fun k b r h1 h2=>by
  obtain⟨e1,e2,e3⟩:=h.row k b r h1 h2;exact⟨e1,e2,e3.below hb⟩,h.nodup,h.cb⟩
theorem zS.keep{w w':World}{base:Nat}{A:Value}{C:Nat}{bs:List Nat}{M:List (List Int)}(h:zS w base A C bs M)(e:∀k,base<=k->w'.heap[k]?=w.heap[k]?)(x:yO w w'):zS w' base A C bs M:=by
 refine⟨⟨h.own.1,?_⟩,h.len,fun k b r h1 h2=>by
  obtain⟨e1,e2,e3⟩:=h.row k b r h1 h2;exact⟨e1,e2,e3.old (e _ e1) x⟩,h.nodup,h.cb⟩
 rcases h.own.2 with h1|⟨g,cap,cur,e1,e2,e3⟩
 ·exact .inl h1
 ·exact .inr ⟨g,cap,cur,e1,e2,(e _ e2).trans e3.1,e3.2⟩
theorem Blk.put3{w:World}{r:Nat}{T:TypeId}{c0 c1 c2:Value}(h:Blk w r T #[c0,c1,c2])(x y z:Value):Blk (((w.setCell ⟨r,0,none⟩ x).setCell ⟨r,1,none⟩ y).setCell ⟨r,2,none⟩ z) r T #[x,y,z]:=by
 simpa using((h.set_ 0 x).set_ 1 y).set_ 2 z
theorem Blk.lext3{w:World}{r:Nat}{T:TypeId}{cs:Array Value}(h:Blk w r T cs)(hne:T≠tU)(x y z:Value):yO w (((w.setCell ⟨r,0,none⟩ x).setCell ⟨r,1,none⟩ y).setCell ⟨r,2,none⟩ z):=
 ((h.lext hne 0 _).trans ((h.set_ 0 _).lext hne 1 _)).trans (((h.set_ 0 _).set_ 1 _).lext hne 2 _)
theorem yN(w:World)(b k:Nat)(x y z:Value)(h:k≠b):(((w.setCell ⟨b,0,none⟩ x).setCell ⟨b,1,none⟩ y).setCell ⟨b,2,none⟩ z).heap[k]?=w.heap[k]?:=
 (zV _ b 2 k z h).trans (zR w b 0 1 k x y h)
theorem zS.mono{w:World}{base base':Nat}{A:Value}{C:Nat}{bs:List Nat}{M:List (List Int)}(h:zS w base A C bs M)(hb:base'<=base):zS w base' A C bs M:=by
 refine⟨⟨h.own.1,?_⟩,h.len,fun k b r h1 h2=>by
  obtain⟨e1,e2,e3⟩:=h.row k b r h1 h2;exact⟨by omega,e2,e3⟩,h.nodup,h.cb⟩
 rcases h.own.2 with h1|⟨g,cap,cur,e1,e2,e3⟩
 ·exact .inl h1
 ·exact .inr ⟨g,cap,cur,e1,Nat.le_trans hb e2,e3⟩
theorem zS.fits{w:World}{base:Nat}{A:Value}{C:Nat}{bs:List Nat}{M:List (List Int)}(h:zS w base A C bs M):jK bs.length C M:=by
 refine⟨h.len,fun r hr=>?_⟩;obtain⟨k,hk,e⟩:=List.getElem_of_mem hr;have hk':k<bs.length:=by have:=h.len;omega
 exact(h.row k bs[k] r (xga hk') (by rw[xga hk,e])).2.1
theorem zS.rows{w:World}{base:Nat}{A:Value}{C:Nat}{bs:List Nat}{M:List (List Int)}(h:zS w base A C bs M):jB w A M:=by
 rcases h.own.2 with⟨rfl,h0⟩|⟨g,cap,cur,rfl,e2,e3,e4,e5,e6,e7⟩
 ·have:M= []:=List.eq_nil_of_length_eq_zero (by rw[h.len];exact h0)
  subst this;exact jB.nil w
 ·refine⟨some ⟨g,0,none⟩,bs.length,cap,rfl,h.len,e4,e5,fun _=>⟨g,cur,rfl,e3,fun k zs hk=>?_⟩⟩
  have hkM:=(xge.1 hk).1;have hkb:k<bs.length:=by have:=h.len;omega
  obtain⟨f1,f2,f3⟩:=h.row k bs[k] zs (xga hkb) hk;refine⟨.slice (some ⟨bs[k],0,none⟩) C C,?_,some ⟨bs[k],0,none⟩,C,C,rfl,f2,xgf _,by have:=h.cb;omega,fun _=>⟨_,rfl,f3⟩⟩;have:(yB C bs)[k]?=some (.slice (some ⟨bs[k],0,none⟩) C C):=by simp[yB,hkb]
  rw[<-e7,List.getElem?_take_of_lt oM]at this;simpa using this
def zOv(w:World)(base:Nat)(v:Value)(R C:Nat)(bs:List Nat)(M:List (List Int)):Prop:=bs.length=R/\∃A,v= .agg #[.int .i64 R,.int .i64 C,A]/\zS w base A C bs M
theorem zOv.mat{w:World}{base:Nat}{v:Value}{R C:Nat}{bs:List Nat}{M:List (List Int)}(h:zOv w base v R C bs M):yP w v R C M/\jK R C M:=by
 obtain⟨rfl,A,rfl,h⟩:=h;exact⟨⟨A,rfl,h.rows⟩,h.fits⟩
theorem jK.valid{R C:Nat}{M:List (List Int)}(h:jK R C M):qX R C M:=⟨by omega,by omega,by rw[h.1],fun r hr=>by rw[h.2 r hr]⟩
def zAs(w:World)(R C:Nat)(M:List (List Int))(e:Ending)(w':World):Prop:=∃v bs,e= .returned v/\zOv w' w.heap.size v R C bs M/\Below w.heap.size w w'
theorem Tryz.sizeM:(Tryz.prog.info? 28).map (·.size)=some 3:=by kernel_rfl
theorem qY{fn:Func}{a:Act}{W:World}{Q:Ending->World->Prop}{r:Nat}{x y z:Value}{p:Tmp}(h:fn.results=#[.cell p 28])(hd:a.defers= [])
  (hp:a.tmps.getD p undef= .pointer (some ⟨r,0,none⟩)) (hb:Blk W r 28 #[x,y,z]) (hQ:Q (.returned (.agg #[x,y,z])) W):bodyPost Tryz.prog fn Q .ret a W:=
 bodyPost_ret (results_cell_row h _ W r _ _ _ _ hp hb Tryz.underlying28 rfl (by rw[Tryz.sizeM];rfl)) hd hQ
theorem zDA{w:World}{base:Nat}{v:Value}{n:Nat}{xs:List Value}{b:Nat}{r:List Int}(h:w.ownsRow base tR 1 v n xs)(hr:qC w b r):some b≠v.ownBlock:=by
 intro e;rcases h.2 with⟨rfl,-⟩|⟨g,cap,cur,rfl,-,hh,-⟩
 ·cases e
 ·simp only[Value.ownBlock,Option.some.injEq]at e
  subst e;obtain⟨cs,h1,-⟩:=hr;rw[hh]at h1;injection h1 with h1
  injection h1 with _ ht
  exact absurd ht dE
theorem zQl{w:World}{ops:Array Oper}{rest:List Oper}{o:Oper}{a:Act}{Q:Exit->Act->World->Prop}(hgd:o.guard=none)(s x:Operand)
  (ho:o.op= .call {callee:=.builtin .append,args:=#[s,x],argTypes:=#[26,26]})
  (base:Nat) (v:Value) (C:Nat) (bs:List Nat) (M:List (List Int)) (hs:a.eval s=v) (hown:zS w base v C bs M) (b c nb:Nat) (r:List Int) (hx:a.eval x= .slice (some ⟨b,0,none⟩) 1 c)
  (hb:Blk w b tR #[.slice (some ⟨nb,0,none⟩) C C]) (hr:qC w nb r) (hrl:r.length=C) (hnb:base<=nb) (hfr:∀g∈bs,g≠nb)
  (hlen:bs.length+1<=1099511627776) (hbase:base<=w.heap.size)
  (h:∀v' w',zS w' base v' C (bs++ [nb]) (M++ [r])->w.grownBy w' v.ownBlock->yO w w'->wpList Tryz.prog ops Q rest (a.put o.dst v') w'):wpList Tryz.prog ops Q (o::rest) a w:=by
 obtain⟨i0,hi,hz0,hz1,hz2⟩:=info_parts Tryz.infoR;have c0:=hb.cell 0;refine wpList_append_own w hgd s x 26 ho base tR i0 _ 1 24 Tryz.underlying26 hi hz0 hz1 hz2 rfl oM v bs.length _ hs hown.own ⟨b,0,none⟩ 1 c [.slice (some ⟨nb,0,none⟩) C C] hx rfl ?_ ?_ (by simp[maxLen];omega) oM hbase ?_
 ·intro j u hj
  rw[Addr.add_lit];match j with
  |0=>simp at hj;subst hj;exact c0
  |j+1=>simp at hj
 ·intro u hu
  simp at hu;subst hu;rfl
 ·intro v' w' k1 k2 _
  have hx:=zAM hown.own dE k2;have hkeep:∀g q,qC w g q->qC w' g q:=fun g q hq=>hq.old (k2.block g hq.lt (zDA hown.own hq)) hx
  refine h v' w' ⟨?_,by simp[hown.len],?_,?_,hown.cb⟩ k2 hx
  ·have:yB C (bs++ [nb])=yB C bs++ [.slice (some ⟨nb,0,none⟩) C C]:=by simp[yB]
   rw[this];simpa using k1
  ·intro k g q hg hq
   rcases Nat.lt_or_ge k bs.length with hlt|hge
   ·rw[List.getElem?_append_left hlt]at hg
    rw[List.getElem?_append_left (by rw[hown.len];exact hlt)]at hq;obtain⟨f1,f2,f3⟩:=hown.row k g q hg hq;exact⟨f1,f2,hkeep _ _ f3⟩
   ·rw[List.getElem?_append_right hge]at hg
    rw[List.getElem?_append_right (by rw[hown.len];exact hge),hown.len]at hq;have hk0:k-bs.length=0:=by
     have:=(xge.1 hg).1;simp at this;omega
    rw[hk0]at hg hq;simp at hg hq;subst hg;subst hq;exact⟨hnb,hrl,hkeep _ _ hr⟩
  ·rw[List.nodup_append]
   refine⟨hown.nodup,by simp,fun x hx y hy=>?_⟩;simp at hy;subst hy;exact hfr x hx
theorem qL{z:Int}{e:Nat}(h:z.natAbs<2^e)(he:e<=1000000):Sm z:=Sm.of_pow (k:=e) (Nat.lt_of_lt_of_le h (Nat.pow_le_pow_left dE e)) (by rw[qV];omega)
abbrev tQ:TypeId:=121
def jS(w:World)(v:Value)(p:Int × Int):Prop:=∃s a l c s' a' l' c',v= .agg #[.bool s,.slice a l c,.bool s',.slice a' l' c']/\zH w (.agg #[.bool s,.slice a l c]) p.1/\zH w (.agg #[.bool s',.slice a' l' c']) p.2
def jW(w:World)(v:Value)(q:Rat):Prop:=jS w v (q.num,(q.den:Int))
theorem jS.ext{w w':World}{v:Value}{p:Int × Int}(h:jS w v p)(x:yO w w'):jS w' v p:=by
 obtain⟨s,a,l,c,s',a',l',c',h1,h2,h3⟩:=h;exact⟨s,a,l,c,s',a',l',c',h1,h2.ext x,h3.ext x⟩
theorem jS.below{w w':World}{v:Value}{p:Int × Int}(h:jS w v p)(hb:Below w.heap.size w w'):jS w' v p:=h.ext (lx hb)
theorem jW.ext{w w':World}{v:Value}{q:Rat}(h:jW w v q)(x:yO w w'):jW w' v q:=jS.ext h x
theorem jW.below{w w':World}{v:Value}{q:Rat}(h:jW w v q)(hb:Below w.heap.size w w'):jW w' v q:=jS.below h hb
def zDN(w:World)(p:Int × Int)(e:Ending)(w':World):Prop:=∃v,e= .returned v/\jS w' v p/\Below w.heap.size w w'
def zAR(w:World)(q:Rat)(e:Ending)(w':World):Prop:=∃v,e= .returned v/\jW w' v q/\Below w.heap.size w w'
theorem zH.parts{w:World}{v:Value}{z:Int}(h:zH w v z):∃s a l c,v= .agg #[.bool s,.slice a l c]:=by
 obtain⟨s,a,l,c,xs,rfl,-⟩:=h;exact⟨s,a,l,c,rfl⟩
theorem yD(q:Rat):qS (fun w v=>jW w v q):=fun _ _ _ e h=>h.below e
def zGL(w:World)(cells:List Value)(ps:List (Int × Int)):Prop:=
 ∀(k:Nat) (p:Int × Int),ps[k]?=some p->∃s a l c s' a' l' c',cells[k*4]?=some (.bool s)/\cells[k*4+1]?=some (.slice a l c)/\cells[k*4+2]?=some (.bool s')/\cells[k*4+3]?=some (.slice a' l' c')∧
  zH w (.agg #[.bool s,.slice a l c]) p.1/\zH w (.agg #[.bool s',.slice a' l' c']) p.2
theorem zGL.ext{w w':World}{c:List Value}{ps:List (Int × Int)}(h:zGL w c ps)(x:yO w w'):zGL w' c ps:=fun k p hk=>by
 obtain⟨s,a,l,c,s',a',l',c',h1,h2,h3,h4,h5,h6⟩:=h k p hk;exact⟨s,a,l,c,s',a',l',c',h1,h2,h3,h4,h5.ext x,h6.ext x⟩
def zAQ(w:World)(b:Nat)(ps:List (Int × Int)):Prop:=∃cs:Array Value,w.heap[b]?=some (.cells cs tQ (0,0))/\zGL w cs.toList ps
theorem zAQ.lt{w:World}{b:Nat}{ps:List (Int × Int)}(h:zAQ w b ps):b<w.heap.size:=by
 obtain⟨cs,h1,-⟩:=h;exact(Array.getElem?_eq_some_iff.1 h1).1
theorem zAQ.old{w w':World}{b:Nat}{ps:List (Int × Int)}(h:zAQ w b ps)(e:w'.heap[b]?=w.heap[b]?)(x:yO w w'):zAQ w' b ps:=by
 obtain⟨cs,h1,h2⟩:=h;exact⟨cs,e.trans h1,h2.ext x⟩
theorem zAQ.below{w w':World}{b:Nat}{ps:List (Int × Int)}(h:zAQ w b ps)(hb:Below w.heap.size w w'):zAQ w' b ps:=h.old (hb.block _ h.lt) (lx hb)
theorem zAQ.cell{w:World}{b:Nat}{ps:List (Int × Int)}(h:zAQ w b ps){k:Nat}{p:Int × Int}(hk:ps[k]?=some p):
  ∃s a l c s' a' l' c',w.cell? ⟨b,k*4,none⟩=some (.bool s)/\w.cell? ⟨b,k*4+1,none⟩=some (.slice a l c)/\w.cell? ⟨b,k*4+2,none⟩=some (.bool s')/\w.cell? ⟨b,k*4+3,none⟩=some (.slice a' l' c')∧
   (∀i,w.frozen? ⟨b,i,none⟩=false)/\zH w (.agg #[.bool s,.slice a l c]) p.1/\zH w (.agg #[.bool s',.slice a' l' c']) p.2:=by
 obtain⟨cs,h1,h2⟩:=h;obtain⟨s,a,l,c,s',a',l',c',e1,e2,e3,e4,e5,e6⟩:=h2 k p hk;refine⟨s,a,l,c,s',a',l',c',?_,?_,?_,?_,fun i=>frozen_of_row w b _ cs tQ h1,e5,e6⟩
 ·exact(cell_of_row w b _ cs tQ _ h1).trans (by simpa using e1)
 ·exact(cell_of_row w b _ cs tQ _ h1).trans (by simpa using e2)
 ·exact(cell_of_row w b _ cs tQ _ h1).trans (by simpa using e3)
 ·exact(cell_of_row w b _ cs tQ _ h1).trans (by simpa using e4)
def zAn(w:World)(v:Value)(ps:List (Int × Int)):Prop:=
 ∃ao n cap,v= .slice ao n cap/\ps.length=n/\n<=cap/\cap<=9223372036854775807/\(ps≠ []->∃b,ao=some ⟨b,0,none⟩/\zAQ w b ps)
theorem zAn.nil(w:World):zAn w (.slice none 0 0) []:=⟨none,0,0,rfl,rfl,xgf _,by omega,fun h=>absurd rfl h⟩
theorem zAn.below{w w':World}{v:Value}{ps:List (Int × Int)}(h:zAn w v ps)(hb:Below w.heap.size w w'):zAn w' v ps:=by
 obtain⟨ao,n,cap,h1,h2,h3,h4,h5⟩:=h;exact⟨ao,n,cap,h1,h2,h3,h4,fun hn=>(h5 hn).elim fun b h=>⟨b,h.1,h.2.below hb⟩⟩
theorem zAn.cell{w:World}{ao:Option Addr}{n cap:Nat}{ps:List (Int × Int)}(h:zAn w (.slice ao n cap) ps){k:Nat}(hk:k<ps.length):
  ∃b p s a l c s' a' l' c',ao=some ⟨b,0,none⟩/\b<w.heap.size/\ps[k]?=some p/\w.cell? ⟨b,k*4,none⟩=some (.bool s)/\w.cell? ⟨b,k*4+1,none⟩=some (.slice a l c)/\w.cell? ⟨b,k*4+2,none⟩=some (.bool s')/\w.cell? ⟨b,k*4+3,none⟩=some (.slice a' l' c')∧
   zH w (.agg #[.bool s,.slice a l c]) p.1/\zH w (.agg #[.bool s',.slice a' l' c']) p.2:=by
 obtain⟨ao',n',cap',h1,h2,h3,h4,h5⟩:=h;injection h1 with e1 e2 e3
 subst e1;obtain⟨b,e,hr⟩:=h5 (by rintro rfl;simp at hk);obtain⟨s,a,l,c,s',a',l',c',c1,c2,c3,c4,-,c5,c6⟩:=hr.cell (xga hk);exact⟨b,_,s,a,l,c,s',a',l',c',e,hr.lt,xga hk,c1,c2,c3,c4,c5,c6⟩
def zQg(w:World)(v:Value)(qs:List Rat):Prop:=zAn w v (qs.map fun q=>(q.num,(q.den:Int)))
theorem Tryz.infoQ:(Tryz.prog.info? tQ).map (fun i=>(i.zero,i.size,i.bytes))=some (some (.agg #[.bool false,.slice none 0 0,.bool false,.slice none 0 0]),4,64):=by kernel_rfl
def zHK(w:World)(base:Nat)(v:Value)(ps:List (Int × Int)):Prop:=∃cells,w.ownsRow base tQ 4 v ps.length cells/\zGL w cells ps
theorem zHK.made(w:World){base:Nat}(hb:base<=w.heap.size):zHK (w.alloc (.cells #[] tQ)) base (.slice (some ⟨w.heap.size,0,none⟩) 0 0) []:=
 ⟨[],World.ownsRow_made w #[] 0 hb (Nat.zero_le _) rfl,fun k _ h=>by simp at h⟩
theorem zHK.below{w w':World}{base:Nat}{v:Value}{ps:List (Int × Int)}(h:zHK w base v ps)(hb:Below w.heap.size w w'):zHK w' base v ps:=by
 obtain⟨cells,h1,h2⟩:=h;exact⟨cells,h1.kept (row:=none) ⟨hb.os,hb.tape,hb.output,hb.size,fun k hk _=>hb.block k hk⟩ (by cases hv:v.ownBlock<;>simp),h2.ext (lx hb)⟩
theorem zHK.prs{w:World}{base:Nat}{v:Value}{ps:List (Int × Int)}(h:zHK w base v ps):zAn w v ps:=by
 obtain⟨cells,⟨h0,h1⟩,h2⟩:=h;rcases h1 with⟨rfl,hn⟩|⟨g,cap,cur,rfl,hg,hh,hnc,hc,hs,ht⟩
 ·have:ps= []:=List.eq_nil_of_length_eq_zero hn
  subst this;exact zAn.nil w
 ·refine⟨some ⟨g,0,none⟩,ps.length,cap,rfl,rfl,hnc,hc,fun _=>⟨g,rfl,cur,hh,fun k p hk=>?_⟩⟩
  obtain⟨s,a,l,c,s',a',l',c',e1,e2,e3,e4,e5,e6⟩:=h2 k p hk;have hk':k<ps.length:=(xge.1 hk).1;rw[<-ht,List.getElem?_take_of_lt oM]at e1 e2 e3 e4;exact⟨s,a,l,c,s',a',l',c',e1,e2,e3,e4,e5,e6⟩
theorem zHK.shape{w:World}{base:Nat}{v:Value}{ps:List (Int × Int)}(h:zHK w base v ps):∃ao cap,v= .slice ao ps.length cap/\ps.length<=cap/\cap<=9223372036854775807:=by
 obtain⟨ao,n,cap,h1,h2,h3,h4,-⟩:=h.prs;subst h2;exact⟨ao,cap,h1,h3,h4⟩
theorem zHK.own{w:World}{base:Nat}{v:Value}{ps:List (Int × Int)}(h:zHK w base v ps):∀g,v.ownBlock=some g->base<=g/\g<w.heap.size:=by
 obtain⟨cells,h1,-⟩:=h;exact World.ownsRow.lt h1
theorem zQk{w:World}{ops:Array Oper}{rest:List Oper}{o:Oper}{a:Act}{Q:Exit->Act->World->Prop}(hgd:o.guard=none)(s x:Operand)
  (ho:o.op= .call {callee:=.builtin .append,args:=#[s,x],argTypes:=#[37,37]})
  (base:Nat) (v:Value) (ps:List (Int × Int)) (hs:a.eval s=v) (hown:zHK w base v ps) (b:Nat) (c:Nat) (s1:Bool) (a1:Option Addr) (l1 c1:Nat) (s2:Bool) (a2:Option Addr) (l2 c2:Nat) (p:Int × Int) (hx:a.eval x= .slice (some ⟨b,0,none⟩) 1 c)
  (hb:Blk w b tQ #[.bool s1,.slice a1 l1 c1,.bool s2,.slice a2 l2 c2]) (hz1:zH w (.agg #[.bool s1,.slice a1 l1 c1]) p.1) (hz2:zH w (.agg #[.bool s2,.slice a2 l2 c2]) p.2)
  (hlen:ps.length+1<=1099511627776) (hbase:base<=w.heap.size)
  (h:∀v' w',zHK w' base v' (ps++ [p])->w.grownBy w' v.ownBlock->yO w w'->wpList Tryz.prog ops Q rest (a.put o.dst v') w'):wpList Tryz.prog ops Q (o::rest) a w:=by
 obtain⟨i0,hi,hy0,hy1,hy2⟩:=info_parts Tryz.infoQ;obtain⟨cells,h1,h2⟩:=hown;have hcl:cells.length=ps.length*4:=h1.1;have q0:=hb.cell 0;have q1:=hb.cell 1;have q2:=hb.cell 2;have q3:=hb.cell 3;refine wpList_append_own w hgd s x 37 ho base tQ i0 _ 4 64 Tryz.underlying37 hi hy0 hy1 hy2 rfl oM v ps.length cells hs h1 ⟨b,0,none⟩ 1 c [.bool s1,.slice a1 l1 c1,.bool s2,.slice a2 l2 c2] hx rfl ?_ ?_ (by simp[maxLen];omega) oM hbase ?_
 ·intro j u hj
  rw[Addr.add_lit];match j with
  |0=>simp at hj;subst hj;exact q0
  |1=>simp at hj;subst hj;exact q1
  |2=>simp at hj;subst hj;exact q2
  |3=>simp at hj;subst hj;exact q3
  |j+4=>simp at hj
 ·intro u hu
  simp at hu;rcases hu with rfl|rfl|rfl|rfl<;>rfl
 ·intro v' w' k1 k2 _
  have hx:=zAM h1 dE k2;refine h v' w' ⟨cells++ [.bool s1,.slice a1 l1 c1,.bool s2,.slice a2 l2 c2],by simpa using k1,?_⟩ k2 hx;intro k y hk;rcases Nat.lt_or_ge k ps.length with hlt|hge
  ·rw[List.getElem?_append_left hlt]at hk
   obtain⟨s,a,l,c,s',a',l',c',e1,e2,e3,e4,e5,e6⟩:=h2 k y hk;refine⟨s,a,l,c,s',a',l',c',?_,?_,?_,?_,e5.ext hx,e6.ext hx⟩<;>(rw[List.getElem?_append_left oM];assumption)
  ·rw[List.getElem?_append_right hge]at hk
   have hk0:k=ps.length:=by
    have:=(xge.1 hk).1;simp at this;omega
   subst hk0;simp at hk;subst hk;refine⟨s1,a1,l1,c1,s2,a2,l2,c2,?_,?_,?_,?_,hz1.ext hx,hz2.ext hx⟩
   ·rw[List.getElem?_append_right oM,hcl];simp
   ·rw[List.getElem?_append_right oM,hcl,show ps.length*4+1-ps.length*4=1 by omega];rfl
   ·rw[List.getElem?_append_right oM,hcl,show ps.length*4+2-ps.length*4=2 by omega];rfl
   ·rw[List.getElem?_append_right oM,hcl,show ps.length*4+3-ps.length*4=3 by omega];rfl
section
variable {w:World} {g:Nat} {t:TypeId} {c0 c1 c2 c3:Value}
theorem Blk.four(h:Blk w g t #[c0,c1,c2,c3]):w.cell? ⟨g,0,none⟩=some c0/\w.cell? ⟨g,1,none⟩=some c1/\w.cell? ⟨g,2,none⟩=some c2/\w.cell? ⟨g,3,none⟩=some c3/\w.frozen? ⟨g,0,none⟩=false/\w.frozen? ⟨g,1,none⟩=false/\w.frozen? ⟨g,2,none⟩=false/\w.frozen? ⟨g,3,none⟩=false:=
 ⟨h.cell 0,h.cell 1,h.cell 2,h.cell 3,h.frozen 0,h.frozen 1,h.frozen 2,h.frozen 3⟩
theorem Blk.put4(h:Blk w g t #[c0,c1,c2,c3])(x0 x1 x2 x3:Value):Blk ((((w.setCell ⟨g,0,none⟩ x0).setCell ⟨g,1,none⟩ x1).setCell ⟨g,2,none⟩ x2).setCell ⟨g,3,none⟩ x3) g t #[x0,x1,x2,x3]:=by
 simpa using(((h.set_ 0 x0).set_ 1 x1).set_ 2 x2).set_ 3 x3
theorem Blk.lext4{cs:Array Value}(h:Blk w g t cs)(hne:t≠tU)(i:Nat)(x0 x1 x2 x3:Value):yO w ((((w.setCell ⟨g,i,none⟩ x0).setCell ⟨g,i+1,none⟩ x1).setCell ⟨g,i+2,none⟩ x2).setCell ⟨g,i+3,none⟩ x3):=
 (((h.lext hne i _).trans ((h.set_ i _).lext hne (i+1) _)).trans (((h.set_ i _).set_ (i+1) _).lext hne (i+2) _)).trans ((((h.set_ i _).set_ (i+1) _).set_ (i+2) _).lext hne (i+3) _)
theorem zEA(w:World)(b i k:Nat)(x y z u:Value)(h:k≠b):((((w.setCell ⟨b,i,none⟩ x).setCell ⟨b,i+1,none⟩ y).setCell ⟨b,i+2,none⟩ z).setCell ⟨b,i+3,none⟩ u).heap[k]?=w.heap[k]?:=
 (zV _ b _ k u h).trans ((zV _ b _ k z h).trans (zR w b i (i+1) k x y h))
theorem jC{B:Nat}{a:World}(h:Below B a w)(hp:B<=g)(i:Nat)(x y z u:Value):Below B a ((((w.setCell ⟨g,i,none⟩ x).setCell ⟨g,i+1,none⟩ y).setCell ⟨g,i+2,none⟩ z).setCell ⟨g,i+3,none⟩ u):=zT (zT (zT (zT h hp _ _) hp _ _) hp _ _) hp _ _
end
theorem Tryz.sizeQ:(Tryz.prog.info? tQ).map (·.size)=some 4:=by kernel_rfl
theorem qN{fn:Func}{a:Act}{w W:World}{q:Int × Int}{r:Nat}{x0 x1 x2 x3:Value}{p:Tmp}(h:fn.results=#[.cell p tQ])(hd:a.defers= [])
  (hp:a.tmps.getD p undef= .pointer (some ⟨r,0,none⟩)) (hb:Blk W r tQ #[x0,x1,x2,x3]) (hv:jS W (.agg #[x0,x1,x2,x3]) q) (hbel:Below w.heap.size w W):bodyPost Tryz.prog fn (zDN w q) .ret a W:=
 bodyPost_ret (results_cell_row h _ W r _ _ _ _ hp hb Tryz.underlying121 rfl (by rw[Tryz.sizeQ];rfl)) hd ⟨_,rfl,hv,hbel⟩
theorem zLP{W:World}{r:Nat}{v:Array Value}(hb:Blk W r tQ v)(h4:v.size=4):(loadVar tQ ⟨r,0,none⟩).run Tryz.prog W= .ok (.agg v) W:=
 run_loadVar_row W r _ _ v _ _ hb Tryz.underlying121 rfl (by rw[Tryz.sizeQ,h4])
theorem zCJ{fn:Func}{p u:Tmp}(h:fn.results=#[.cell p tQ,.tmp u])(tmps:Array Value){W:World}{r:Nat}{v:Array Value}
  (hp:tmps.getD p undef= .pointer (some ⟨r,0,none⟩)) (hb:Blk W r tQ v) (h4:v.size=4):
  (results fn tmps).run Tryz.prog W= .ok (.tuple #[.agg v,tmps.getD u undef]) W:=by
 have hp':tmps[p]?.getD undef= .pointer (some ⟨r,0,none⟩):=by simpa using hp
 simp[results,h,hp',asAddr,zLP hb h4]
end Go.Proofs.YtnbmaipobhppcaaGreat
