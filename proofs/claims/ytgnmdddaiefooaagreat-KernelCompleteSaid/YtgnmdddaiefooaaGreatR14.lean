/- Rows and matrices of integers in memory. torsionref05: ValidVec. Matrices whose rows' slice begins somewhere in a block, for reading. torsionref05: Same, Valid, Sized. Divides of both packages; torsionref05.Sized. torsionref13.Is. matrix.Valid; smith.diagonal. smith.diagonal. append on rows of integers; smith.elements. smith.elements. smith.Is. -/
import Derived.StillTailTactics
import Derived.BigQuiet
import Derived.Deep.QuietTactic
import Derived.Test.YtgnmdddaiefooaaGreatR13
set_option linter.unusedVariables false
set_option linter.unusedSimpArgs false
set_option linter.unusedSectionVars false
set_option maxHeartbeats 16000000
set_option maxRecDepth 100000
namespace Go.Proofs.YtgnmdddaiefooaaGreat
open Go.RowKit
abbrev tI:TypeId:=51
def qF(w:World)(b:Nat)(zs:List Int):Prop:=
 ∃cs:Array Value,w.heap[b]?=some (.cells cs tI (0,0))/\∀k z,zs[k]?=some z->∃s a l c,cs[k*2]?=some (.bool s)/\cs[k*2+1]?=some (.slice a l c)/\zR w (.agg #[.bool s,.slice a l c]) z
theorem qF.lt{w:World}{b:Nat}{zs:List Int}(h:qF w b zs):b<w.heap.size:=by
 obtain⟨cs,h1,-⟩:=h;exact(Array.getElem?_eq_some_iff.1 h1).1
theorem qF.old{w w':World}{b:Nat}{zs:List Int}(h:qF w b zs)(e:w'.heap[b]?=w.heap[b]?)(x:yI w w'):qF w' b zs:=by
 obtain⟨cs,h1,h2⟩:=h;refine⟨cs,e.trans h1,fun k z hk=>?_⟩;obtain⟨s,a,l,c,e1,e2,e3⟩:=h2 k z hk;exact⟨s,a,l,c,e1,e2,e3.ext x⟩
theorem qF.below{w w':World}{b:Nat}{zs:List Int}(h:qF w b zs)(hb:Below w.heap.size w w'):qF w' b zs:=h.old (hb.block _ h.lt) (lx hb)
theorem qF.cell{w:World}{b:Nat}{zs:List Int}(h:qF w b zs){k:Nat}{z:Int}(hk:zs[k]?=some z):
  ∃s a l c,w.cell? ⟨b,k*2,none⟩=some (.bool s)/\w.cell? ⟨b,k*2+1,none⟩=some (.slice a l c)/\w.frozen? ⟨b,k*2,none⟩=false/\w.frozen? ⟨b,k*2+1,none⟩=false/\zR w (.agg #[.bool s,.slice a l c]) z:=by
 obtain⟨cs,h1,h2⟩:=h;obtain⟨s,a,l,c,e1,e2,e3⟩:=h2 k z hk;exact⟨s,a,l,c,(cell_of_row w b _ cs tI _ h1).trans e1,(cell_of_row w b _ cs tI _ h1).trans e2,frozen_of_row w b _ cs tI h1,frozen_of_row w b _ cs tI h1,e3⟩
theorem qF.lext{w:World}{b:Nat}{zs:List Int}(h:qF w b zs)(i:Nat)(u:Value):yI w (w.setCell ⟨b,i,none⟩ u):=by
 obtain⟨cs,h1,-⟩:=h;exact Blk.lext (show Blk w b tI cs from h1) dE i u
theorem zT(w:World)(b i k:Nat)(u:Value)(h:k≠b):(w.setCell ⟨b,i,none⟩ u).heap[k]?=w.heap[k]?:=Below.heap_setCell w ⟨b,i,none⟩ u k h
theorem qH(w:World)(b i j k:Nat)(u v:Value)(h:k≠b):((w.setCell ⟨b,i,none⟩ u).setCell ⟨b,j,none⟩ v).heap[k]?=w.heap[k]?:=
 (zT _ b j k v h).trans (zT _ b i k u h)
theorem qF.set{w:World}{b:Nat}{zs:List Int}(h:qF w b zs){k:Nat}(hk:k<zs.length){s:Bool}{a:Option Addr}{l c:Nat}{z:Int}(hv:zR w (.agg #[.bool s,.slice a l c]) z):
  qF ((w.setCell ⟨b,k*2,none⟩ (.bool s)).setCell ⟨b,k*2+1,none⟩ (.slice a l c)) b (zs.set k z)/\yI w ((w.setCell ⟨b,k*2,none⟩ (.bool s)).setCell ⟨b,k*2+1,none⟩ (.slice a l c)):=by
 obtain⟨cs,h1,h2⟩:=h;have hB:Blk w b tI cs:=h1;have hx:yI w ((w.setCell ⟨b,k*2,none⟩ (.bool s)).setCell ⟨b,k*2+1,none⟩ (.slice a l c)):=(hB.lext dE _ _).trans ((hB.set_ _ _).lext dE _ _);refine⟨⟨(cs.setIfInBounds (k*2) (.bool s)).setIfInBounds (k*2+1) (.slice a l c),(hB.set_ _ _).set_ _ _,?_⟩,hx⟩;intro j y hj;by_cases e:j=k
 ·subst e
  rw[List.getElem?_set_self hk]at hj;injection hj with hj
  subst hj;obtain⟨s0,a0,l0,c0,e1,e2,-⟩:=h2 j zs[j] (xga hk);have l1:=(Array.getElem?_eq_some_iff.1 e1).1;have l2:=(Array.getElem?_eq_some_iff.1 e2).1;refine⟨s,a,l,c,?_,?_,hv.ext hx⟩
  ·rw[xgc oM,Array.getElem?_setIfInBounds_self_of_lt l1]
  ·rw[Array.getElem?_setIfInBounds_self_of_lt (by simpa using l2)]
 ·rw[List.getElem?_set_ne (Ne.symm e)]at hj
  obtain⟨s0,a0,l0,c0,e1,e2,e3⟩:=h2 j y hj;refine⟨s0,a0,l0,c0,?_,?_,e3.ext hx⟩
  ·rw[xgc oM,xgc oM];exact e1
  ·rw[xgc oM,xgc oM];exact e2
def zAZ(w:World)(v:Value)(zs:List Int):Prop:=
 ∃ao n cap,v= .slice ao n cap/\zs.length=n/\n<=cap/\cap<=9223372036854775807/\(zs≠ []->∃b,ao=some ⟨b,0,none⟩/\qF w b zs)
theorem zAZ.nil(w:World):zAZ w (.slice none 0 0) []:=⟨none,0,0,rfl,rfl,xgf _,by omega,fun h=>absurd rfl h⟩
theorem zAZ.below{w w':World}{v:Value}{zs:List Int}(h:zAZ w v zs)(hb:Below w.heap.size w w'):zAZ w' v zs:=by
 obtain⟨ao,n,cap,h1,h2,h3,h4,h5⟩:=h;exact⟨ao,n,cap,h1,h2,h3,h4,fun hn=>(h5 hn).elim fun b h=>⟨b,h.1,h.2.below hb⟩⟩
theorem zAZ.cell{w:World}{ao:Option Addr}{n cap:Nat}{zs:List Int}(h:zAZ w (.slice ao n cap) zs){k:Nat}(hk:k<zs.length):
  ∃b z s a l c,ao=some ⟨b,0,none⟩/\b<w.heap.size/\zs[k]?=some z/\w.cell? ⟨b,k*2,none⟩=some (.bool s)/\w.cell? ⟨b,k*2+1,none⟩=some (.slice a l c)/\zR w (.agg #[.bool s,.slice a l c]) z:=by
 obtain⟨ao',n',cap',h1,h2,h3,h4,h5⟩:=h;injection h1 with e1 e2 e3
 subst e1;obtain⟨b,e,hr⟩:=h5 (by rintro rfl;simp at hk);obtain⟨s,a,l,c,c1,c2,-,-,c5⟩:=hr.cell (xga hk);exact⟨b,_,s,a,l,c,e,hr.lt,xga hk,c1,c2,c5⟩
theorem zAZ.len{w:World}{ao:Option Addr}{n cap:Nat}{zs:List Int}(h:zAZ w (.slice ao n cap) zs):zs.length=n/\n<=cap/\cap<=9223372036854775807:=by
 obtain⟨ao',n',cap',h1,h2,h3,h4,h5⟩:=h;injection h1 with e1 e2 e3
 omega
def qX(w:World)(v:Value)(M:List (List Int)):Prop:=
 ∃ao n cap,v= .slice ao n cap/\M.length=n/\n<=cap/\cap<=9223372036854775807/\(M≠ []->∃(b:Nat) (cs:Array Value),ao=some ⟨b,0,none⟩/\w.heap[b]?=some (.cells cs 37 (0,0))/\∀(k:Nat) (zs:List Int),M[k]?=some zs->∃rv,cs[k]?=some rv/\zAZ w rv zs)
theorem qX.nil(w:World):qX w (.slice none 0 0) []:=⟨none,0,0,rfl,rfl,xgf _,by omega,fun h=>absurd rfl h⟩
theorem qX.below{w w':World}{v:Value}{M:List (List Int)}(h:qX w v M)(hb:Below w.heap.size w w'):qX w' v M:=by
 obtain⟨ao,n,cap,h1,h2,h3,h4,h5⟩:=h;refine⟨ao,n,cap,h1,h2,h3,h4,fun hn=>?_⟩;obtain⟨b,cs,e1,e2,e3⟩:=h5 hn;refine⟨b,cs,e1,(hb.block _ (Array.getElem?_eq_some_iff.1 e2).1).trans e2,fun k zs hk=>?_⟩;obtain⟨rv,e4,e5⟩:=e3 k zs hk;exact⟨rv,e4,e5.below hb⟩
theorem qX.row{w:World}{ao:Option Addr}{n cap:Nat}{M:List (List Int)}(h:qX w (.slice ao n cap) M){k:Nat}(hk:k<M.length):
  ∃b ra rn rc zs,ao=some ⟨b,0,none⟩/\b<w.heap.size/\M[k]?=some zs/\w.cell? ⟨b,k,none⟩=some (.slice ra rn rc)/\zAZ w (.slice ra rn rc) zs:=by
 obtain⟨ao',n',cap',h1,h2,h3,h4,h5⟩:=h;injection h1 with e1 e2 e3
 subst e1;obtain⟨b,cs,e,hr,hc⟩:=h5 (by rintro rfl;simp at hk);obtain⟨rv,c1,c2⟩:=hc k _ (xga hk);obtain⟨ra,rn,rc,rfl,c3⟩:=id c2;exact⟨b,ra,rn,rc,_,e,(Array.getElem?_eq_some_iff.1 hr).1,xga hk,(cell_of_row w b k cs _ _ hr).trans c1,c2⟩
theorem qX.len{w:World}{ao:Option Addr}{n cap:Nat}{M:List (List Int)}(h:qX w (.slice ao n cap) M):M.length=n/\n<=cap/\cap<=9223372036854775807:=by
 obtain⟨ao',n',cap',h1,h2,h3,h4,h5⟩:=h;injection h1 with e1 e2 e3
 omega
def qL(w:World)(v:Value)(R C:Int)(M:List (List Int)):Prop:=∃A,v= .agg #[.int .i64 R,.int .i64 C,A]/\qX w A M
theorem qL.below{w w':World}{v:Value}{R C:Int}{M:List (List Int)}(h:qL w v R C M)(hb:Below w.heap.size w w'):qL w' v R C M:=by
 obtain⟨A,h1,h2⟩:=h;exact⟨A,h1,h2.below hb⟩
def yG(R C:Nat)(M:List (List Int)):Prop:=M.length=R/\∀r∈M,r.length=C
theorem zHB(v:Value)(zs:List Int)(w:World)(h:zAZ w v zs):
  Calls Tryz.prog 122 #[v] w fun e w'=>e= .returned (.bool true)/\Below w.heap.size w w':=by
 obtain⟨ao,n,cap,rfl,h2,h3,h4,h5⟩:=id h;have HL:=xgw h2;clear h2 h5;go_enter Tryz.func122,Tryz.ntmps122;go_wp2;go_loopw [3] (fun i wr=>∃k:Nat,k<=n/\i= .int .i64 k/\Below w.heap.size w wr) (fun i _=>n-(intOf i).toNat)
 case atStart=>exact⟨0,by omega,rfl,Below.refl _ _⟩
 case round=>
  obtain⟨k,hk,rfl,hb⟩:=hrel;by_cases hlt:k<n
  ·obtain⟨b,z,s,a,l,c,rfl,hbl,-,c1,c2,hv⟩:=(h.below hb).cell (k:=k) (by rw[HL.out];exact hlt)
   go_wp2_with fail
   refine(zHq _ _ wr hv).mono ?_;rintro e w1 ⟨rfl,hb1⟩;go_wp2;go_roundw
   case rel=>exact⟨k+1,by omega,by simp,nx hb hb1⟩
   case measure=>simp[intOf];omega
  ·obtain rfl:k=n:=by omega
   go_wp2;go_ret;exact⟨rfl,hb⟩
theorem zEv{α:Type}{xs ys:List α}{k:Nat}{x y:α}(h:xs.take k=ys.take k)(hx:xs[k]?=some x)(hy:ys[k]?=some y)(e:x=y):xs.take (k+1)=ys.take (k+1):=by
 rw[List.take_add_one,List.take_add_one,hx,hy,h,e]
theorem zCn{α:Type}{xs ys:List α}{k:Nat}{x y:α}(hx:xs[k]?=some x)(hy:ys[k]?=some y)(e:x≠y):xs≠ys:=by
 rintro rfl;rw[hx]at hy;injection hy with hy
 exact e hy
theorem zHz(v1 v2:Value)(xs ys:List Int)(w:World)(h1:zAZ w v1 xs)(h2:zAZ w v2 ys):
  Calls Tryz.prog 49 #[v1,v2] w fun e w'=>e= .returned (.bool (decide (xs=ys)))/\Below w.heap.size w w':=by
 obtain⟨ao,n,cap,rfl,e2,e3,e4,e5⟩:=id h1;obtain⟨bo,m,bcap,rfl,f2,f3,f4,f5⟩:=id h2;have HX:=xgw e2;have HY:=xgw f2;clear e2 e5 f2 f5;by_cases hlen:n=m
 ·subst hlen
  go_enter Tryz.func49,Tryz.ntmps49;go_wp2;go_loopw [5] (fun i wr=>∃k:Nat,k<=n/\i= .int .i64 k/\Below w.heap.size w wr/\Hid (xs.take k=ys.take k)) (fun i _=>n-(intOf i).toNat)
  case atStart=>exact⟨0,by omega,rfl,Below.refl _ _,by rw[List.take_zero,List.take_zero];exact xgw rfl⟩
  case round=>
   obtain⟨k,hk,rfl,hb,hsame⟩:=hrel;by_cases hlt:k<n
   ·obtain⟨b,z,s,a,l,c,rfl,hbl,hz,c1,c2,hv⟩:=(h1.below hb).cell (k:=k) (by rw[HX.out];exact hlt)
    obtain⟨b',z',s',a',l',c',rfl,hbl',hz',d1,d2,hv'⟩:=(h2.below hb).cell (k:=k) (by rw[HY.out];exact hlt);have HZ:=xgw hz;have HZ':=xgw hz';clear hz hz';have c1':=yF c1;have c2':=yF c2;have d1':=yF d1;have d2':=yF d2;go_upto_region 6 with(fail)
    go_still_tail 8,kR;change wpList _ _ _ _ _ wr.drew;go_wp2_with fail
    refine(zJP _ _ z z' _ (hv.ext (lx (dr _))) (hv'.ext (lx (dr _)))).mono ?_;rintro e w1 ⟨rfl,hb1⟩;by_cases he:z=z'
    ·rw[decide_eq_true he]
     go_wp2;go_roundw
     case rel=>exact⟨k+1,by omega,by simp,nx (nx hb (dr _)) hb1,xgw (zEv hsame.out HZ.out HZ'.out he)⟩
     case measure=>simp[intOf];omega
    ·rw[decide_eq_false he]
     go_wp2;go_ret;exact⟨by rw[decide_eq_false (zCn HZ.out HZ'.out he)];rfl,nx (nx hb (dr _)) hb1⟩
   ·obtain rfl:k=n:=by omega
    go_wp2;go_ret;refine⟨?_,hb⟩;have:=hsame.out;rw[<-HX.out,List.take_length,HX.out,<-HY.out,List.take_length]at this;rw[decide_eq_true this];rfl
 ·have hne:xs≠ys:=by rintro rfl;exact hlen (HX.out.symm.trans HY.out)
  have hd:=decide_eq_false hne;rw[hd];have hi:¬ (n:Int)=(m:Int):=by omega
  go_enter Tryz.func49,Tryz.ntmps49;go_wp2;go_ret;exact⟨rfl,Below.refl _ _⟩
def zCZ(w:World)(v:Value)(M:List (List Int)):Prop:=
 ∃ao n cap,v= .slice ao n cap/\M.length=n/\n<=cap/\cap<=9223372036854775807/\(M≠ []->∃(b o:Nat) (cs:Array Value),ao=some ⟨b,o,none⟩/\w.heap[b]?=some (.cells cs 37 (0,0))/\∀(k:Nat) (zs:List Int),M[k]?=some zs->∃rv,cs[o+k]?=some rv/\zAZ w rv zs)
theorem qX.off0{w:World}{v:Value}{M:List (List Int)}(h:qX w v M):zCZ w v M:=by
 obtain⟨ao,n,cap,h1,h2,h3,h4,h5⟩:=h;refine⟨ao,n,cap,h1,h2,h3,h4,fun hn=>?_⟩;obtain⟨b,cs,e1,e2,e3⟩:=h5 hn;exact⟨b,0,cs,e1,e2,fun k zs hk=>by rw[Nat.zero_add];exact e3 k zs hk⟩
theorem zCZ.below{w w':World}{v:Value}{M:List (List Int)}(h:zCZ w v M)(hb:Below w.heap.size w w'):zCZ w' v M:=by
 obtain⟨ao,n,cap,h1,h2,h3,h4,h5⟩:=h;refine⟨ao,n,cap,h1,h2,h3,h4,fun hn=>?_⟩;obtain⟨b,o,cs,e1,e2,e3⟩:=h5 hn;refine⟨b,o,cs,e1,(hb.block _ (Array.getElem?_eq_some_iff.1 e2).1).trans e2,fun k zs hk=>?_⟩;obtain⟨rv,e4,e5⟩:=e3 k zs hk;exact⟨rv,e4,e5.below hb⟩
theorem zCZ.row{w:World}{ao:Option Addr}{n cap:Nat}{M:List (List Int)}(h:zCZ w (.slice ao n cap) M){k:Nat}(hk:k<M.length):
  ∃b o ra rn rc zs,ao=some ⟨b,o,none⟩/\b<w.heap.size/\M[k]?=some zs/\w.cell? ⟨b,o+k,none⟩=some (.slice ra rn rc)/\zAZ w (.slice ra rn rc) zs:=by
 obtain⟨ao',n',cap',h1,h2,h3,h4,h5⟩:=h;injection h1 with e1 e2 e3
 subst e1;obtain⟨b,o,cs,e,hr,hc⟩:=h5 (by rintro rfl;simp at hk);obtain⟨rv,c1,c2⟩:=hc k _ (xga hk);obtain⟨ra,rn,rc,rfl,c3⟩:=id c2;exact⟨b,o,ra,rn,rc,_,e,(Array.getElem?_eq_some_iff.1 hr).1,xga hk,(cell_of_row w b _ cs _ _ hr).trans c1,c2⟩
def zBm(w:World)(v:Value)(R C:Int)(M:List (List Int)):Prop:=∃A,v= .agg #[.int .i64 R,.int .i64 C,A]/\zCZ w A M
theorem qL.off{w:World}{v:Value}{R C:Int}{M:List (List Int)}(h:qL w v R C M):zBm w v R C M:=by
 obtain⟨A,h1,h2⟩:=h;exact⟨A,h1,h2.off0⟩
theorem zBm.below{w w':World}{v:Value}{R C:Int}{M:List (List Int)}(h:zBm w v R C M)(hb:Below w.heap.size w w'):zBm w' v R C M:=by
 obtain⟨A,h1,h2⟩:=h;exact⟨A,h1,h2.below hb⟩
theorem zMW(v1 v2:Value)(R1 C1 R2 C2:Int)(M1 M2:List (List Int))(w:World)(h1:qL w v1 R1 C1 M1)(h2:qL w v2 R2 C2 M2):
  Calls Tryz.prog 17 #[v1,v2] w fun e w'=>e= .returned (.bool (decide (R1=R2/\C1=C2/\M1=M2)))/\Below w.heap.size w w':=by
 obtain⟨A1,rfl,h1⟩:=h1;obtain⟨A2,rfl,h2⟩:=h2;obtain⟨ao,n,cap,rfl,e2,e3,e4,-⟩:=id h1;obtain⟨bo,m,bcap,rfl,f2,f3,f4,-⟩:=id h2;have HX:=xgw e2;have HY:=xgw f2;clear e2 f2;by_cases hall:R1=R2/\C1=C2/\n=m
 ·obtain⟨rfl,rfl,rfl⟩:=hall
  have hd:decide (R1=R1/\C1=C1/\M1=M2)=decide (M1=M2):=by simp
  rw[hd];clear hd;go_enter Tryz.func17,Tryz.ntmps17;go_upto_region 1 with(fail)
  refine zC ?_;intro W0 hW0;obtain⟨hB0,bx1,bx2,hs0⟩:=qK hW0;obtain⟨c1,c2,c3,c4,c5,c6⟩:=bx1.three;obtain⟨d1,d2,d3,d4,d5,d6⟩:=bx2.three;have h1:=h1.below hB0;have h2:=h2.below hB0;go_wp2;go_loopw [5] (fun i wr=>∃k:Nat,k<=n/\i= .int .i64 k/\Below w.heap.size w wr/\Below W0.heap.size W0 wr/\Hid (M1.take k=M2.take k)) (fun i _=>n-(intOf i).toNat)
  case atStart=>exact⟨0,by omega,rfl,hB0,Below.refl _ _,by rw[List.take_zero,List.take_zero];exact xgw rfl⟩
  case round=>
   obtain⟨k,hk,rfl,hb,hb0,hsame⟩:=hrel;have bx1:=bx1.below hb0;have bx2:=bx2.below hb0;clear c1 c2 c3 c4 c5 c6 d1 d2 d3 d4 d5 d6;obtain⟨c1,c2,c3,c4,c5,c6⟩:=bx1.three;obtain⟨d1,d2,d3,d4,d5,d6⟩:=bx2.three;by_cases hlt:k<n
   ·obtain⟨b,ra,rn,rc,zs,rfl,hbl,hz,p1,hv⟩:=(h1.below hb0).row (k:=k) (by rw[HX.out];exact hlt)
    obtain⟨b',ra',rn',rc',zs',rfl,hbl',hz',q1,hv'⟩:=(h2.below hb0).row (k:=k) (by rw[HY.out];exact hlt);have HZ:=xgw hz;have HZ':=xgw hz';clear hz hz';have c3':=yF c3;have d3':=yF d3;have p1':=yF p1;have q1':=yF q1;go_upto_region 6 with(fail)
    go_still_tail 10,kR;change wpList _ _ _ _ _ wr.drew;go_wp2_with fail
    refine(zHz _ _ zs zs' _ (hv.below (dr _)) (hv'.below (dr _))).mono ?_;rintro e w1 ⟨rfl,hb1⟩;by_cases he:zs=zs'
    ·rw[decide_eq_true he]
     go_wp2;go_roundw
     case rel=>exact⟨k+1,by omega,by simp,nx (nx hb (dr _)) hb1,nx (nx hb0 (dr _)) hb1,xgw (zEv hsame.out HZ.out HZ'.out he)⟩
     case measure=>simp[intOf];omega
    ·rw[decide_eq_false he]
     go_wp2;go_ret;exact⟨by rw[decide_eq_false (zCn HZ.out HZ'.out he)];rfl,nx (nx hb (dr _)) hb1⟩
   ·obtain rfl:k=n:=by omega
    go_wp2;go_ret;refine⟨?_,hb⟩;have:=hsame.out;rw[<-HX.out,List.take_length,HX.out,<-HY.out,List.take_length]at this;rw[decide_eq_true this];rfl
 ·have hne:¬ (R1=R2/\C1=C2/\M1=M2):=by
   rintro⟨a,b,c⟩;subst c;exact hall ⟨a,b,HX.out.symm.trans HY.out⟩
  rw[decide_eq_false hne];clear hne;by_cases hR:R1=R2
  ·by_cases hC:C1=C2
   ·have hn:¬ (n:Int)=(m:Int):=fun h=>hall ⟨hR,hC,by omega⟩
    clear hall;go_enter Tryz.func17,Tryz.ntmps17;go_upto_region 1 with(fail)
    refine zC ?_;intro W0 hW0;obtain⟨hB0,bx1,bx2,hs0⟩:=qK hW0;obtain⟨c1,c2,c3,c4,c5,c6⟩:=bx1.three;obtain⟨d1,d2,d3,d4,d5,d6⟩:=bx2.three;go_wp2;go_ret;exact⟨rfl,hB0⟩
   ·clear hall
    go_enter Tryz.func17,Tryz.ntmps17;go_upto_region 1 with(fail)
    refine zC ?_;intro W0 hW0;obtain⟨hB0,bx1,bx2,hs0⟩:=qK hW0;obtain⟨c1,c2,c3,c4,c5,c6⟩:=bx1.three;obtain⟨d1,d2,d3,d4,d5,d6⟩:=bx2.three;go_wp2;go_ret;exact⟨rfl,hB0⟩
  ·clear hall
   go_enter Tryz.func17,Tryz.ntmps17;go_upto_region 1 with(fail)
   refine zC ?_;intro W0 hW0;obtain⟨hB0,bx1,bx2,hs0⟩:=qK hW0;obtain⟨c1,c2,c3,c4,c5,c6⟩:=bx1.three;obtain⟨d1,d2,d3,d4,d5,d6⟩:=bx2.three;go_wp2;go_ret;exact⟨rfl,hB0⟩
def qR(R C:Int)(M:List (List Int)):Prop:=0<=R/\0<=C/\(M.length:Int)=R/\∀r∈M,(r.length:Int)=C
instance (R C:Int) (M:List (List Int)):Decidable (qR R C M):=inferInstanceAs (Decidable (_/\_))
theorem zEq(v:Value)(R C:Int)(M:List (List Int))(w:World)(h:zBm w v R C M):
  Calls Tryz.prog 72 #[v] w fun e w'=>e= .returned (.bool (decide (qR R C M)))/\Below w.heap.size w w':=by
 obtain⟨A,rfl,h⟩:=h;obtain⟨ao,n,cap,rfl,e2,e3,e4,-⟩:=id h;have HX:=xgw e2;clear e2;by_cases hall:0<=R/\0<=C/\(n:Int)=R
 ·obtain⟨h0,h1,rfl⟩:=hall
  have hd:decide (qR n C M)=decide (∀r∈M,(r.length:Int)=C):=decide_eq_decide.2 ⟨fun h=>h.2.2.2,fun h=>⟨h0,h1,by rw[HX.out],h⟩⟩;rw[hd];clear hd;go_enter Tryz.func72,Tryz.ntmps72;go_upto_region 1 with(fail)
  refine zC ?_;intro W0 hW0;obtain⟨hB0,bx1,hs0⟩:=zN hW0;obtain⟨c1,c2,c3,c4,c5,c6⟩:=bx1.three;have h:=h.below hB0;go_wp2;go_loopw [3] (fun i wr=>∃k:Nat,k<=n/\i= .int .i64 k/\Below w.heap.size w wr/\Below W0.heap.size W0 wr/\Hid (∀r∈M.take k,(r.length:Int)=C)) (fun i _=>n-(intOf i).toNat)
  case atStart=>exact⟨0,by omega,rfl,hB0,Below.refl _ _,by rw[List.take_zero];exact xgw (fun r hr=>by cases hr)⟩
  case round=>
   obtain⟨k,hk,rfl,hb,hb0,hall⟩:=hrel;have bx1:=bx1.below hb0;clear c1 c2 c3 c4 c5 c6;obtain⟨c1,c2,c3,c4,c5,c6⟩:=bx1.three;by_cases hlt:k<n
   ·obtain⟨b,o,ra,rn,rc,zs,rfl,hbl,hz,p1,hv⟩:=(h.below hb0).row (k:=k) (by rw[HX.out];exact hlt)
    have HZ:=xgw hz;have HL:=xgw hv.len.1;clear hz;have c2':=yF c2;have c3':=yF c3;have p1':=yF p1;go_upto_region 6 with(fail)
    by_cases hrc:(rn:Int)=C
    ·go_still_tail 15,kR
     change wpList _ _ _ _ _ wr.drew;go_wp2_with fail
     refine(zHB _ zs _ (hv.below (dr _))).mono ?_;rintro e w1 ⟨rfl,hb1⟩;go_wp2;go_roundw
     case rel=>
      refine⟨k+1,by omega,by simp,nx (nx hb (dr _)) hb1,nx (nx hb0 (dr _)) hb1,xgw ?_⟩;rw[List.take_add_one,HZ.out];intro r hr;rcases List.mem_append.1 hr with hr|hr
      ·exact hall.out r hr
      ·simp at hr
       rw[hr,HL.out,hrc]
     case measure=>simp[intOf];omega
    ·go_quiet (fail)
     go_wp2;go_ret;refine⟨?_,nx hb (drN _ _)⟩;have hbad:¬ ∀r∈M,(r.length:Int)=C:=fun hh=>hrc (by rw[<-HL.out];exact hh zs (xgd HZ.out))
     rw[decide_eq_false hbad];rfl
   ·obtain rfl:k=n:=by omega
    go_wp2;go_ret;refine⟨?_,hb⟩;have:=hall.out;rw[<-HX.out,List.take_length]at this;rw[decide_eq_true this];rfl
 ·have hne:¬ qR R C M:=by
   rintro⟨a,b,c,-⟩;exact hall ⟨a,b,by rw[<-HX.out];exact c⟩
  rw[decide_eq_false hne];clear hne;by_cases hR:0<=R
  ·have hR':¬ R<0:=by omega
   by_cases hC:0<=C
   ·have hn:¬ (n:Int)=R:=fun h=>hall ⟨hR,hC,h⟩
    have hC':¬ C<0:=by omega
    clear hall;go_enter Tryz.func72,Tryz.ntmps72;go_upto_region 1 with(fail)
    refine zC ?_;intro W0 hW0;obtain⟨hB0,bx1,hs0⟩:=zN hW0;obtain⟨c1,c2,c3,c4,c5,c6⟩:=bx1.three;go_wp2;go_ret;exact⟨rfl,hB0⟩
   ·have hC':C<0:=by omega
    clear hall;go_enter Tryz.func72,Tryz.ntmps72;go_upto_region 1 with(fail)
    refine zC ?_;intro W0 hW0;obtain⟨hB0,bx1,hs0⟩:=zN hW0;obtain⟨c1,c2,c3,c4,c5,c6⟩:=bx1.three;go_wp2;go_ret;exact⟨rfl,hB0⟩
  ·have hR':R<0:=by omega
   clear hall;go_enter Tryz.func72,Tryz.ntmps72;go_upto_region 1 with(fail)
   refine zC ?_;intro W0 hW0;obtain⟨hB0,bx1,hs0⟩:=zN hW0;obtain⟨c1,c2,c3,c4,c5,c6⟩:=bx1.three;go_wp2;go_ret;exact⟨rfl,hB0⟩
theorem zBh(v:Value)(R C:Int)(M:List (List Int))(w:World)(h:qL w v R C M):
  Calls Tryz.prog 72 #[v] w fun e w'=>e= .returned (.bool (decide (qR R C M)))/\Below w.heap.size w w':=zEq v R C M w h.off
theorem jT{z:Int}(h:z=0):qO z 0=0:=by subst h;rfl
theorem zBp{z:Int}(h:z≠0):qO z 0≠0:=by unfold qO;split<;>(try split)<;>omega
def zFe(i C:Nat)(r:List Int):Prop:=∀k,k<C->k≠i->r.getD k 0=0
instance (i C:Nat) (r:List Int):Decidable (zFe i C r):=inferInstanceAs (Decidable (∀k,k<C->_))
def zPa(C:Nat):Nat->Int->List (List Int)->Bool
 |_,_,[]=>true
 |i,last,r::rs=>decide (zFe i C r) && (if i<C then decide (0<=r.getD i 0) && decide (last∣r.getD i 0) && zPa C (i+1) (r.getD i 0) rs else zPa C (i+1) last rs)
def IsM(R C:Int)(M:List (List Int)):Bool:=decide (qR R C M) && zPa C.toNat 0 1 M
theorem zBL{α:Type}{l:List α}{k:Nat}{x:α}(h:l[k]?=some x):l.drop k=x::l.drop (k+1):=by
 obtain⟨h1,h2⟩:=xge.1 h;rw[List.drop_eq_getElem_cons h1,h2]
theorem jP{α:Type}{l:List α}{k:Nat}{x d:α}(h:l[k]?=some x):l.getD k d=x:=by simp[xgb,h]
theorem Smd.one{z:Int}(h:z.natAbs<=1):Smd z:=⟨Nat.lt_of_le_of_lt h (by
 have h1:=zDI 0 zHE (by rw[jB];omega)
 rw[Nat.pow_zero]at h1
 exact h1)⟩
theorem zCG(v:Value)(R C:Int)(M:List (List Int))(w:World)(h:zBm w v R C M):
  Calls Tryz.prog 62 #[v] w fun e w'=>e= .returned (.bool (decide (qR R C M)))/\Below w.heap.size w w':=by
 obtain⟨A,rfl,h⟩:=h;obtain⟨ao,n,cap,rfl,e2,e3,e4,-⟩:=id h;have HX:=xgw e2;clear e2;by_cases hall:0<=R/\0<=C/\(n:Int)=R
 ·obtain ⟨h0,h1,rfl⟩:=hall
  have hd:decide (qR n C M)=decide (∀r∈M,(r.length:Int)=C):=decide_eq_decide.2 ⟨fun h=>h.2.2.2,fun h=>⟨h0,h1,by rw[HX.out],h⟩⟩;rw[hd];clear hd;go_enter Tryz.func62,Tryz.ntmps62;go_upto_region 1 with(fail)
  refine zC ?_;intro W0 hW0;obtain⟨hB0,bx1,hs0⟩:=zN hW0;obtain⟨c1,c2,c3,c4,c5,c6⟩:=bx1.three;go_wp2;clear c1 c2 c3 c4 c5 c6;go_loopw [26] (fun i wr=>∃k:Nat,k<=n/\i= .int .i64 k/\Below w.heap.size w wr/\Blk wr w.heap.size 28 #[.int .i64 n,.int .i64 C,.slice ao n cap]/\Hid (∀r∈M.take k,(r.length:Int)=C)) (fun i _=>n-(intOf i).toNat)
  case atStart=>exact⟨0,by omega,rfl,hB0,bx1,by rw[List.take_zero];exact xgw (fun r hr=>by cases hr)⟩
  case round=>
   obtain⟨k,hk,rfl,hb,bx1,hall⟩:=hrel;obtain⟨c1,c2,c3,c4,c5,c6⟩:=bx1.three;by_cases hlt:k<n
   ·obtain⟨b,o,ra,rn,rc,zs,rfl,hbl,hz,p1,hv⟩:=(h.below hb).row (k:=k) (by rw[HX.out];exact hlt)
    have HZ:=xgw hz;have hvl:=hv.len;have HL:=xgw hvl.1;obtain⟨-,hl2,hl3⟩:=hvl;clear hz;by_cases hrc:(rn:Int)=C
    ·go_wp2
     clear c1 c2 c3 c4 c5 c6;go_loopw [37] (fun j wr'=>∃m:Nat,m<=rn/\j= .int .i64 m/\Below wr.heap.size wr wr') (fun j _=>rn-(intOf j).toNat)
     case atStart=>exact⟨0,by omega,rfl,Below.refl _ _⟩
     case round=>
      rename World=>wr'
      obtain⟨m,hm,rfl,hb'⟩:=hrel;by_cases hmr:m<rn
      ·obtain⟨b',z,s,a,l,c,rfl,hbl',hzk,q1,q2,hzv⟩:=(hv.below hb').cell (k:=m) (by rw[HL.out];exact hmr)
       clear hzk;go_upto_region 11 with(fail)
       refine zC ?_;intro W6 hW6;obtain⟨hB6,T6,hs6⟩:=zN hW6;obtain⟨d1,d2,d3,d4⟩:=T6.two;clear q1 q2 hW6;go_wp2_with fail
       refine(zLe _ z W6 (hzv.ext (lx hB6))).mono ?_;rintro e w7 ⟨rfl,hb7⟩;go_wp2;go_roundw
       case rel=>exact⟨m+1,by omega,by simp,nx (nx hb' hB6) hb7⟩
       case measure=>simp[intOf];omega
      ·obtain rfl:m=rn:=by omega
       have bx1:=bx1.below hb';go_wp2;go_roundw
       case rel=>
        refine⟨k+1,by omega,by simp,nx hb hb',bx1,xgw ?_⟩;rw[List.take_add_one,HZ.out];intro r hr;rcases List.mem_append.1 hr with hr|hr
        ·exact hall.out r hr
        ·simp at hr
         rw[hr,HL.out,hrc]
       case measure=>simp[intOf];omega
    ·go_wp2
     go_ret;refine⟨?_,hb⟩;have hbad:¬ ∀r∈M,(r.length:Int)=C:=fun hh=>hrc (by rw[<-HL.out];exact hh zs (xgd HZ.out))
     rw[decide_eq_false hbad];rfl
   ·obtain rfl:k=n:=by omega
    go_wp2;go_ret;refine⟨?_,hb⟩;have:=hall.out;rw[<-HX.out,List.take_length]at this;rw[decide_eq_true this];rfl
 ·have hne:¬ qR R C M:=by
   rintro⟨a,b,c,-⟩;exact hall ⟨a,b,by rw[<-HX.out];exact c⟩
  rw[decide_eq_false hne];clear hne;by_cases hR:0<=R
  ·have hR':¬ R<0:=by omega
   by_cases hC:0<=C
   ·have hn:¬ (n:Int)=R:=fun h=>hall ⟨hR,hC,h⟩
    have hC':¬ C<0:=by omega
    clear hall;go_enter Tryz.func62,Tryz.ntmps62;go_upto_region 1 with(fail)
    refine zC ?_;intro W0 hW0;obtain⟨hB0,bx1,hs0⟩:=zN hW0;obtain⟨c1,c2,c3,c4,c5,c6⟩:=bx1.three;go_wp2;go_ret;exact⟨rfl,hB0⟩
   ·have hC':C<0:=by omega
    clear hall;go_enter Tryz.func62,Tryz.ntmps62;go_upto_region 1 with(fail)
    refine zC ?_;intro W0 hW0;obtain⟨hB0,bx1,hs0⟩:=zN hW0;obtain⟨c1,c2,c3,c4,c5,c6⟩:=bx1.three;go_wp2;go_ret;exact⟨rfl,hB0⟩
  ·have hR':R<0:=by omega
   clear hall;go_enter Tryz.func62,Tryz.ntmps62;go_upto_region 1 with(fail)
   refine zC ?_;intro W0 hW0;obtain⟨hB0,bx1,hs0⟩:=zN hW0;obtain⟨c1,c2,c3,c4,c5,c6⟩:=bx1.three;go_wp2;go_ret;exact⟨rfl,hB0⟩
theorem zAn(v:Value)(R C:Int)(M:List (List Int))(w:World)(h:qL w v R C M):
  Calls Tryz.prog 62 #[v] w fun e w'=>e= .returned (.bool (decide (qR R C M)))/\Below w.heap.size w w':=zCG v R C M w h.off
def zFH:Nat->List (List Int)->Bool
 |_,[]=>true
 |i,r::rs=>decide (zFe i r.length r) && zFH (i+1) rs
theorem zHK{i:Nat}{r:List Int}{rs:List (List Int)}(h:zFe i r.length r):zFH i (r::rs)=zFH (i+1) rs:=by
 conv=>lhs;unfold zFH
 rw[decide_eq_true h,Bool.true_and]
theorem Tryz.infoI:(Tryz.prog.info? tI).map (fun i=>(i.zero,i.size,i.bytes))=some (some (.agg #[.bool false,.slice none 0 0]),2,32):=by kernel_rfl
def zA2(w:World)(cells:List Value)(zs:List Int):Prop:=
 ∀(k:Nat) (z:Int),zs[k]?=some z->∃s a l c,cells[k*2]?=some (.bool s)/\cells[k*2+1]?=some (.slice a l c)/\zR w (.agg #[.bool s,.slice a l c]) z
def zBo(w:World)(base:Nat)(v:Value)(zs:List Int):Prop:=∃cells,w.ownsRow base tI 2 v zs.length cells/\zA2 w cells zs
theorem zBo.nil(w:World)(base:Nat):zBo w base (.slice none 0 0) []:=⟨[],World.ownsRow_nil _ _ _ _,fun k z h=>by simp at h⟩
theorem zBo.below{w w':World}{base:Nat}{v:Value}{zs:List Int}(h:zBo w base v zs)(hb:Below w.heap.size w w'):zBo w' base v zs:=by
 obtain⟨cells,h1,h2⟩:=h;refine⟨cells,h1.kept (row:=none) ⟨hb.os,hb.tape,hb.output,hb.size,fun k hk _=>hb.block k hk⟩ (by cases hv:v.ownBlock<;>simp),fun k z hk=>?_⟩;obtain⟨s,a,l,c,e1,e2,e3⟩:=h2 k z hk;exact⟨s,a,l,c,e1,e2,e3.ext (lx hb)⟩
theorem zBo.vec{w:World}{base:Nat}{v:Value}{zs:List Int}(h:zBo w base v zs):zAZ w v zs:=by
 obtain⟨cells,⟨h0,h1⟩,h2⟩:=h;rcases h1 with⟨rfl,hn⟩|⟨g,cap,cur,rfl,hg,hh,hnc,hc,hs,ht⟩
 ·have:zs= []:=List.eq_nil_of_length_eq_zero hn
  subst this;exact zAZ.nil w
 ·refine⟨some ⟨g,0,none⟩,zs.length,cap,rfl,rfl,hnc,hc,fun _=>⟨g,rfl,cur,hh,fun k z hk=>?_⟩⟩
  obtain⟨s,a,l,c,e1,e2,e3⟩:=h2 k z hk;have hk':k<zs.length:=(xge.1 hk).1;rw[<-ht,List.getElem?_take_of_lt oM]at e1 e2;exact⟨s,a,l,c,by simpa using e1,by simpa using e2,e3⟩
theorem zBo.len{w:World}{base:Nat}{v:Value}{zs:List Int}(h:zBo w base v zs):∃ao cap,v= .slice ao zs.length cap/\zs.length<=cap/\cap<=9223372036854775807:=by
 obtain⟨ao,n,cap,h1,h2,h3,h4,-⟩:=h.vec;subst h2;exact⟨ao,cap,h1,h3,h4⟩
theorem zAm{w w':World}{base:Nat}{v:Value}{n:Nat}{xs:List Value}{e:TypeId}{size:Nat}(h:w.ownsRow base e size v n xs)(he:e≠tU)(hg:w.grownBy w' v.ownBlock):yI w w':=by
 intro b cs fz hb;have hlt:=(Array.getElem?_eq_some_iff.1 hb).1;by_cases hv:v.ownBlock=some b
 ·exfalso
  rcases h.2 with⟨rfl,-⟩|⟨g,cap,cur,rfl,-,hh,-⟩
  ·cases hv
  ·simp only[Value.ownBlock,Option.some.injEq]at hv
   subst hv;rw[hh]at hb;injection hb with hb
   injection hb with _ ht
   exact he ht
 ·have hne:∀k,v.ownBlock=some k->b≠k:=fun k hk e=>hv (by rw[hk,e])
  rw[hg.block b hlt (by
   intro hh;exact hv hh.symm)]
  exact hb
theorem zBo.own{w:World}{base:Nat}{v:Value}{zs:List Int}(h:zBo w base v zs):∀g,v.ownBlock=some g->base<=g:=by
 intro g hg;obtain⟨cells,⟨h0,h1⟩,h2⟩:=h;rcases h1 with⟨rfl,hn⟩|⟨g',cap,cur,rfl,hg',-⟩
 ·cases hg
 ·simp only[Value.ownBlock,Option.some.injEq]at hg
  omega
theorem zBo.mono{w:World}{base base':Nat}{v:Value}{zs:List Int}(h:zBo w base v zs)(hb:base'<=base):zBo w base' v zs:=by
 obtain⟨cells,⟨h0,h1⟩,h2⟩:=h;refine⟨cells,⟨h0,?_⟩,h2⟩;rcases h1 with h1|⟨g,cap,cur,e1,e2,e3⟩
 ·exact .inl h1
 ·exact .inr ⟨g,cap,cur,e1,Nat.le_trans hb e2,e3⟩
def zNU(M:List (List Int))(n:Nat):List Int:=(List.range n).map fun k=>(M.getD k []).getD k 0
def zDL:Int->List Int->Bool
 |_,[]=>true
 |last,d::ds=>decide (0<=d) && decide (last∣d) && zDL d ds
theorem zGV{last d:Int}{ds:List Int}(h0:0<=d)(h:last∣d):zDL last (d::ds)=zDL d ds:=by
 conv=>lhs;unfold zDL
 rw[decide_eq_true h,decide_eq_true h0];simp
def zPO(R C:Int)(M:List (List Int)):Bool:=decide (qR R C M) && (zFH 0 M && zDL 1 (zNU M (min R.toNat C.toNat)))
end Go.Proofs.YtgnmdddaiefooaaGreat
