/- Elimination over an echelon form, plain: by rows and by columns every division is exact; how large the numbers become. What bareiss.Solve answers, plain. smith: band.take. smith: band.reduce. smith: band.echelon. smith: band.twist. hermite: leading; rows of length 0. hermite: work.add. hermite: work.mix. -/
import Derived.ScopeJumps
import Derived.WalkMore
import Derived.Test.YtnbmaipobhppcaaGreatD11
import Derived.Test.YtnbmaipobhppcaaGreatD13
set_option linter.unusedVariables false
set_option linter.unusedSimpArgs false
set_option linter.unusedSectionVars false
set_option maxHeartbeats 16000000
set_option maxRecDepth 100000
namespace Go.Proofs.YtnbmaipobhppcaaGreat
open Go.RowKit
def zGK(h:Nat->Nat->Int)(pc:Nat->Nat):Nat->Int
 |0=>1
 |k+1=>zGK h pc k*h k (pc k)
theorem zHs{C r:Nat}{h:Nat->Nat->Int}{pc:Nat->Nat}(he:Ech C r pc h):∀k,k<=r->zGK h pc k≠0
 |0,_=>fun h=>absurd (show(1:Int)=0 from h) dE
 |k+1,hk=>Int.mul_ne_zero (zHs he k oM) (by have:=he.pos k oM;omega)
theorem Ech.ge{C r:Nat}{pc:Nat->Nat}{h:Nat->Nat->Int}(he:Ech C r pc h):∀k,k<r->k<=pc k
 |0,_=>Nat.zero_le _
 |k+1,hk=>by have h1:=he.ge k oM;have h2:=he.inc k (k+1) oM hk;omega
theorem zDX{a b:Int}{x y z:Nat}(ha:a.natAbs<=x)(hb:b.natAbs<=y)(h:x*y<=z):(a*b).natAbs<=z:=by
 rw[Int.natAbs_mul];exact Nat.le_trans (Nat.mul_le_mul ha hb) h
theorem zHF{p x y z:Int}{H X:Nat}(hp:p.natAbs<=H)(hx:x.natAbs<=X)(hy:y.natAbs<=H)(hz:z.natAbs<=X):(p*x-y*z).natAbs<=2*H*X:=by
 have h1:=zDX (z:=H*X) hp hx (xgf _);have h2:=zDX (z:=H*X) hy hz (xgf _);have h3:=Int.natAbs_sub_le (p*x) (y*z);rw[Nat.mul_assoc,Nat.two_mul];omega
theorem zDd{C r H:Nat}{h:Nat->Nat->Int}{pc:Nat->Nat}(he:Ech C r pc h)(hb:∀k,k<r->(h k (pc k)).natAbs<=H):∀k,k<=r->(zGK h pc k).natAbs<=H^k
 |0,_=>xgf _
 |k+1,hk=>zDX (zDd he hb k oM) (hb k oM) (by rw[Nat.pow_succ];exact xgf _)
theorem zFi{E:Nat->Nat->Int}{k:Nat}:bx E k k=E:=by
 funext a
 unfold bx;by_cases e:a=k
 ·rw[if_pos e,e]
 ·rw[if_neg e,if_neg e]
theorem zKM{q a b:Int}(hq:q≠0)(h:a=q*b):a/q=b:=by rw[h];exact Int.mul_ediv_cancel_left _ hq
structure zLs(C r m H c k:Nat)(pc:Nat->Nat)(L:Nat->Nat->Int)(s:BE):Prop where
 len:s.pv.length=k
 le:k<=r
 bef:∀t,t<k->pc t<c
 aft:∀t,k<=t->t<r->c<=pc t
 last:s.last=zGK L pc k
 low:∀i,k<=i->i<r->∀j,j<m->s.E i j=zGK L pc k*L i j
 bnd:∀i,i<r->∀j,j<m->(s.E i j).natAbs<=(2*H)^(k+1)
theorem zLs.step{C r m H c k:Nat}{pc:Nat->Nat}{L:Nat->Nat->Int}{s:BE}(he:Ech C r pc L)(hC:C<=m)(hH:∀i,i<r->∀j,j<m->(L i j).natAbs<=H)(hi:zLs C r m H c k pc L s)(hc:c<C):
  (s.pv.length<r->zEr r c s<r->ExS r m (bx s.E (zEr r c s) s.pv.length) s.pv.length c s.last)/\∃k',zLs C r m H (c+1) k' pc L (zGR r c s):=by
 obtain⟨h1,h2,h3,h4,h5,h6,h7⟩:=hi;have hD:=zHs he k h2;by_cases hk:k<r
 ·have hcp:=h4 k (xgf _) hk
  by_cases e:pc k=c
  ·have hp:zEr r c s=k:=by
    unfold zEr;rw[h1];refine zBz (xgf _) oM ?_ fun j hj1 hj2=>by omega
    rw[decide_eq_true_eq,h6 k (xgf _) hk c oM];exact Int.mul_ne_zero hD (by have:=he.pos k hk;rw[e]at this;omega)
   have hpk:L k c≠0:=by have:=he.pos k hk;rw[e]at this;omega
   have hval:∀i,i<r->i≠k->∀j,j<m->s.E k c*s.E i j-s.E i c*s.E k j=zGK L pc k*(L k c*s.E i j-s.E i c*L k j):=fun i hi hik j hj=>by
    rw[h6 k (xgf _) hk c oM,h6 k (xgf _) hk j hj];grind
   have hEx:ExS r m (bx s.E k k) k c s.last:=fun i hi hik j hj=>by
    rw[zFi,h5,hval i hi hik j hj];exact Int.dvd_mul_right _ _
   have hq:∀i,i<r->i≠k->∀j,j<m->yQ (bx s.E k k) k c s.last i j=L k c*s.E i j-s.E i c*L k j:=fun i hi hik j hj=>by
    unfold yQ;rw[if_neg hik,zFi,h5];exact zKM hD (hval i hi hik j hj)
   rw[hp,h1];refine⟨fun _ _=>hEx,k+1,?_⟩;unfold zGR;rw[hp,h1,if_pos ⟨hk,hk⟩];refine⟨by simp[h1],hk,fun t ht=>?_,fun t ht htr=>?_,?_,fun i hi hir j hj=>?_,fun i hir j hj=>?_⟩
   ·rcases Nat.lt_or_ge t k with h|h
    ·have:=h3 t h;omega
    ·obtain rfl:t=k:=by omega
     omega
   ·have:=he.inc k t oM htr;omega
   ·show bx s.E k k k c=zGK L pc k*L k (pc k)
    rw[zFi,e,h6 k (xgf _) hk c oM]
   ·show yQ _ _ _ _ i j=zGK L pc k*L k (pc k)*L i j
    rw[hq i hir oM j hj,h6 i oM hir c oM,h6 i oM hir j hj,e,he.zero i hir c (by have:=he.inc k i oM hir;omega)];grind
   ·show(yQ _ _ _ _ i j).natAbs<=_
    by_cases hik:i=k
    ·unfold yQ
     rw[if_pos hik,zFi];exact Nat.le_trans (h7 i hir j hj) (Nat.pow_le_pow_right (by
      have:=hH k hk c oM;omega) oM)
    ·rw[hq i hir hik j hj,Int.mul_comm (s.E i c),Nat.pow_succ,Nat.mul_comm _ (2*H)]
     exact zHF (hH k hk c oM) (h7 i hir j hj) (hH k hk j hj) (h7 i hir c oM)
  ·have hz:∀i,k<=i->i<r->s.E i c=0:=fun i hi hir=>by
    rw[h6 i hi hir c oM,he.zero i hir c (by
     rcases Nat.lt_or_ge k i with h|h
     ·have:=he.inc k i h hir;omega
     ·obtain rfl:i=k:=by omega
      omega)]
    exact Int.mul_zero _
   have hp:¬ zEr r c s<r:=fun hlt=>by
    have g1:=zBB (fun i=>decide (s.E i c≠0)) s.pv.length (r-s.pv.length);have g2:=zBA (fun i=>decide (s.E i c≠0)) s.pv.length (r-s.pv.length) (by unfold zEr at hlt;omega);unfold zEr at hlt;rw[decide_eq_true_eq]at g2;exact g2 (hz _ oM hlt)
   refine⟨fun _ h=>absurd h hp,k,?_⟩;unfold zGR;rw[if_neg fun h=>hp h.2];exact⟨h1,h2,fun t ht=>by have:=h3 t ht;omega,fun t ht htr=>by
    rcases Nat.lt_or_ge k t with h|h
    ·have:=he.inc k t h htr;omega
    ·obtain rfl:t=k:=by omega
     omega,h5,h6,h7⟩
 ·refine⟨fun h=>by omega,k,?_⟩
  unfold zGR;rw[if_neg fun h=>by omega];exact⟨h1,h2,fun t ht=>by have:=h3 t ht;omega,fun t ht htr=>by omega,h5,h6,h7⟩
theorem zLs.run{C r m H:Nat}{pc:Nat->Nat}{L:Nat->Nat->Int}(he:Ech C r pc L)(hC:C<=m)(hH:∀i,i<r->∀j,j<m->(L i j).natAbs<=H):∀c,c<=C->∃k,zLs C r m H c k pc L (zAg r L c)
 |0,_=>⟨0,rfl,Nat.zero_le _,fun t ht=>by omega,fun t _ _=>Nat.zero_le _,rfl,fun i _ _ j _=>(Int.one_mul _).symm,fun i hi j hj=>by rw[Nat.pow_one];exact Nat.le_trans (hH i hi j hj) oM⟩
 |c+1,hc=>by
  obtain⟨k,h⟩:=zLs.run he hC hH c oM;exact(h.step he hC hH oM).2
theorem zLs.ex{C r m H:Nat}{pc:Nat->Nat}{L:Nat->Nat->Int}(he:Ech C r pc L)(hC:C<=m)(hH:∀i,i<r->∀j,j<m->(L i j).natAbs<=H):ExR r m C L:=fun c hc=>by
 obtain⟨k,h⟩:=zLs.run he hC hH c oM;exact(h.step he hC hH hc).1
structure zLr(C r m H c:Nat)(pc:Nat->Nat)(h:Nat->Nat->Int)(s:BE):Prop where
 len:s.pv.length=c
 last:s.last=zGK h pc c
 pos:∀i,c<=i->i<C->∃t,t<=i/\∀j,c<=j->j<r->s.E i j=zGK h pc c*h j t
 at_:∀k,c<=k->k<r->∀j,c<=j->j<r->s.E (pc k) j=zGK h pc c*h j (pc k)
 up:∀i,i<c->∀j,c<=j->j<r->s.E i j=0
 bnd:∀i,i<C->∀j,j<m->(s.E i j).natAbs<=H*(2*H)^c
theorem zLr.step{C r m H c:Nat}{pc:Nat->Nat}{h L:Nat->Nat->Int}{s:BE}(he:Ech C r pc h)(hr:r<=m)(hrC:r<=C)(hhH:∀i,i<r->∀j,j<C->(h i j).natAbs<=H)(hi:zLr C r m H c pc h s)(hc:c<r):
  ExS C m (bx s.E (zEr C c s) s.pv.length) s.pv.length c s.last/\zLr C r m H (c+1) pc h (zGR C c s):=by
 obtain⟨h1,h2,h3,h4,h5,h6⟩:=hi;have hD:=zHs he c oM;have hge:=he.ge c hc;have hlt:=he.lt c hc;have hpc:=he.pos c hc;have hp:zEr C c s=pc c:=by
  unfold zEr;rw[h1];refine zBz hge oM ?_ fun j hj1 hj2=>?_
  ·rw[decide_eq_true_eq,h4 c (xgf _) hc c (xgf _) hc]
   exact Int.mul_ne_zero hD oM
  ·rw[decide_eq_false_iff_not,Decidable.not_not]
   obtain⟨t,ht,h⟩:=h3 j hj1 oM;rw[h c (xgf _) hc,he.zero c hc t oM,Int.mul_zero]
 rw[hp,h1];obtain⟨E,hE⟩:∃E,bx s.E (pc c) c=E:=⟨_,rfl⟩;have hEc:E c=s.E (pc c):=by
  rw[<-hE];unfold bx;by_cases e:c=pc c
  ·rw[if_pos e,<-e]
  ·rw[if_neg e,if_pos rfl]
 have hEp:∀k,k<c->E k=s.E k:=fun k hk=>by
  rw[<-hE];unfold bx;rw[if_neg oM,if_neg oM]
 have hEo:∀i,i≠pc c->i≠c->E i=s.E i:=fun i ha hb=>by
  rw[<-hE];unfold bx;rw[if_neg ha,if_neg hb]
 have hEq:E (pc c)=s.E c:=by
  rw[<-hE];unfold bx;rw[if_pos rfl]
 have hpos:∀i,c<i->i<C->∃t,t<=i/\t<C/\∀j,c<=j->j<r->E i j=zGK h pc c*h j t:=fun i hi hiC=>by
  by_cases e:i=pc c
  ·subst e
   obtain⟨t,ht,hh⟩:=h3 c (xgf _) oM;exact⟨t,by omega,by omega,by rw[hEq];exact hh⟩
  ·obtain⟨t,ht,hh⟩:=h3 i oM hiC
   exact⟨t,ht,by omega,by rw[hEo i e oM];exact hh⟩
 have hb:∀i,i<C->∀j,j<m->(E i j).natAbs<=H*(2*H)^c:=fun i hiC j hj=>by
  by_cases e:i=pc c
  ·subst e;rw[hEq];exact h6 c oM j hj
  ·by_cases e2:i=c
   ·subst e2;rw[hEc];exact h6 _ hlt j hj
   ·rw[hEo i e e2];exact h6 i hiC j hj
 have hcc:E c c=zGK h pc c*h c (pc c):=by rw[hEc];exact h4 c (xgf _) hc c (xgf _) hc
 have hcj:∀j,c<j->j<r->E c j=0:=fun j hj hjr=>by
  rw[hEc,h4 c (xgf _) hc j oM hjr,he.zero j hjr _ (he.inc c j hj hjr),Int.mul_zero]
 have hup:∀i,i<c->E i c=0:=fun i hi=>by rw[hEp i hi];exact h5 i hi c (xgf _) hc
 have hval:∀i,i<C->i≠c->∃y:Int,y.natAbs<=H/\(c<i->∃t,t<=i/\y=h c t/\∀j,c<=j->j<r->E i j=zGK h pc c*h j t)/\(i<c->y=0)/\∀j,j<m->E c c*E i j-E i c*E c j=zGK h pc c*(h c (pc c)*E i j-y*E c j):=fun i hiC hic=>by
  rcases Nat.lt_or_ge i c with hl|hl
  ·refine⟨0,Nat.zero_le _,fun h=>by omega,fun _=>rfl,fun j hj=>?_⟩
   rw[hup i hl,hcc];grind
  ·obtain⟨t,ht,htC,hh⟩:=hpos i oM hiC
   refine⟨h c t,hhH c hc t htC,fun _=>⟨t,ht,rfl,hh⟩,fun h=>by omega,fun j hj=>?_⟩;rw[hh c (xgf _) hc,hcc];grind
 refine⟨fun i hiC hic j hj=>?_,?_⟩
 ·rw[hE]
  obtain⟨y,-,-,-,hy⟩:=hval i hiC hic;rw[hy j hj,h2];exact Int.dvd_mul_right _ _
 ·unfold zGR
  rw[hp,h1,if_pos ⟨by omega,hlt⟩,hE];have hq:∀i,i<C->i≠c->∃y:Int,y.natAbs<=H/\(c<i->∃t,t<=i/\y=h c t/\∀j,c<=j->j<r->E i j=zGK h pc c*h j t)/\(i<c->y=0)/\∀j,j<m->yQ E c c s.last i j=h c (pc c)*E i j-y*E c j:=fun i hiC hic=>by
   obtain⟨y,h7,h8,h9,hy⟩:=hval i hiC hic;refine⟨y,h7,h8,h9,fun j hj=>?_⟩;unfold yQ;rw[if_neg hic,h2];exact zKM hD (hy j hj)
  have hcE:yQ E c c s.last c=E c:=by
   funext j;unfold yQ;rw[if_pos rfl]
  refine⟨by simp[h1],?_,fun i hi hiC=>?_,fun k hk hkr j hj hjr=>?_,fun i hi j hj hjr=>?_,fun i hiC j hj=>?_⟩
  ·exact hcc
  ·obtain⟨y,-,h8,-,hy⟩:=hq i hiC oM
   obtain⟨t,ht,hyt,hh⟩:=h8 oM;refine⟨t,ht,fun j hj hjr=>?_⟩;show yQ E c c s.last i j=zGK h pc c*h c (pc c)*h j t;rw[hy j oM,hcj j oM hjr,hh j oM hjr];grind
  ·have hck:=he.inc c k oM hkr
   have hkC:=he.lt k hkr;obtain⟨y,-,-,-,hy⟩:=hq (pc k) hkC oM;show yQ E c c s.last (pc k) j=zGK h pc c*h c (pc c)*h j (pc k);rw[hy j oM,hcj j oM hjr,hEo (pc k) oM oM,h4 k oM hkr j oM hjr];grind
  ·show yQ E c c s.last i j=0
   by_cases e:i=c
   ·subst e;rw[hcE];exact hcj j oM hjr
   ·obtain⟨y,-,-,h9,hy⟩:=hq i oM e
    rw[hy j oM,h9 oM,hEp i oM,h5 i oM j oM hjr];grind
  ·show(yQ E c c s.last i j).natAbs<=_
   have hH1:1<=2*H:=by have:=hhH c hc (pc c) hlt;omega
   have hpw:H*(2*H)^c<=H*(2*H)^(c+1):=Nat.mul_le_mul_left _ (Nat.pow_le_pow_right hH1 oM);by_cases e:i=c
   ·subst e;rw[hcE];exact Nat.le_trans (hb i hiC j hj) hpw
   ·obtain⟨y,h7,-,-,hy⟩:=hq i hiC e
    rw[hy j hj];refine Nat.le_trans (zHF (hhH c hc (pc c) hlt) (hb i hiC j hj) h7 (hb c oM j hj)) ?_;rw[Nat.pow_succ,<-Nat.mul_assoc,Nat.mul_comm (2*H)];exact Nat.le_of_eq (by grind)
theorem zLr.run{C r m H:Nat}{pc:Nat->Nat}{h L:Nat->Nat->Int}(he:Ech C r pc h)(hr:r<=m)(hrC:r<=C)(hhH:∀i,i<r->∀j,j<C->(h i j).natAbs<=H)(hL:∀i,i<C->∀j,j<r->L i j=h j i)(hLH:∀i,i<C->∀j,j<m->(L i j).natAbs<=H):∀c,c<=r->zLr C r m H c pc h (zAg C L c)
 |0,_=>⟨rfl,rfl,fun i _ hi=>⟨i,xgf _,fun j _ hj=>by show L i j=1*h j i;rw[hL i hi j hj,Int.one_mul]⟩,fun k _ hk j _ hj=>by show L (pc k) j=1*h j (pc k);rw[hL _ (he.lt k hk) j hj,Int.one_mul],fun i hi=>by omega,fun i hi j hj=>by rw[Nat.pow_zero,Nat.mul_one];exact hLH i hi j hj⟩
 |c+1,hc=>((zLr.run he hr hrC hhH hL hLH c oM).step (L:=L) he hr hrC hhH oM).2
theorem zLr.ex{C r m H:Nat}{pc:Nat->Nat}{h L:Nat->Nat->Int}(he:Ech C r pc h)(hr:r<=m)(hrC:r<=C)(hhH:∀i,i<r->∀j,j<C->(h i j).natAbs<=H)(hL:∀i,i<C->∀j,j<r->L i j=h j i)(hLH:∀i,i<C->∀j,j<m->(L i j).natAbs<=H):ExR C m r L:=fun c hc _ _=>
 ((zLr.run he hr hrC hhH hL hLH c oM).step (L:=L) he hr hrC hhH hc).1
def eqL(R:Nat)(A:Nat->Nat->Int)(b:Nat->Int):Nat->Nat->Int:=fun j i=>if i<R then A i j else if i=R then b j else if i=R+1+j then 1 else 0
theorem zKN{R:Nat}{A:Nat->Nat->Int}{b:Nat->Int}{j i:Nat}(h:i<R):eqL R A b j i=A i j:=if_pos h
theorem zO9{R:Nat}{A:Nat->Nat->Int}{b:Nat->Int}{j:Nat}:eqL R A b j R=b j:=by unfold eqL;rw[if_neg oM,if_pos rfl]
theorem zPA{R:Nat}{A:Nat->Nat->Int}{b:Nat->Int}{j t:Nat}:eqL R A b j (R+1+t)=if t=j then 1 else 0:=by
 unfold eqL;rw[if_neg oM,if_neg oM];by_cases e:t=j
 ·subst e;rw[if_pos rfl,if_pos rfl]
 ·rw[if_neg e,if_neg oM]
theorem zGh{R C H:Nat}{A:Nat->Nat->Int}{b:Nat->Int}(hA:∀i,i<R->∀j,j<C->(A i j).natAbs<=H)(hb:∀j,j<C->(b j).natAbs<=H)(h1:1<=H):∀j,j<C->∀i,i<R+1+C->(eqL R A b j i).natAbs<=H:=fun j hj i _=>by
 unfold eqL;split
 ·exact hA i (by assumption) j hj
 ·split
  ·exact hb j hj
  ·split<;>simp<;>omega
def yT(R:Nat)(L:Nat->Nat->Int)(j0:Nat):Nat->Rat:=fun p=>if p=j0 then 1 else if R+1<=p then-(L (p-(R+1)) j0:Rat)else 0
theorem zNd{R C j0:Nat}{L:Nat->Nat->Int}{f:Nat->Int}(hj:j0<=R):jJ (R+1+C) (fun p=>(f p:Rat)*yT R L j0 p)=f j0-jJ C fun t=>(f (R+1+t):Rat)*L t j0:=by
 rw[zIy,zED (k:=j0) oM fun i hi hne=>by unfold yT;rw[if_neg hne,if_neg oM];grind];have h1:jJ C (fun i=>(f (R+1+i):Rat)*yT R L j0 (R+1+i))=jJ C fun t=>(-1:Rat)*((f (R+1+t):Rat)*L t j0):=qH fun t ht=>by
  unfold yT;rw[if_neg oM,if_pos oM,show R+1+t-(R+1)=t by omega];grind
 rw[h1,zBI];unfold yT;rw[if_pos rfl];grind
theorem zPB{R C:Nat}{A:Nat->Nat->Int}{b:Nat->Int}{j0:Nat}(hj:j0<=R):Sol C (R+1+C) (eqL R A b) (yT R (eqL R A b) j0):=fun i hi=>by
 rw[zNd hj,zED (k:=i) hi fun t ht hne=>by
  rw[zPA,if_neg hne];exact(congrArg (· *_) Rat.intCast_zero).trans (Rat.zero_mul _)]
 rw[zPA,if_pos rfl];grind
theorem zQx{R C i:Nat}{A:Nat->Nat->Int}{b:Nat->Int}{s:BE}(hB:zJw C (R+1+C) R (eqL R A b) s)(h1:s.pv.length<=i)(h2:i<C)(h3:s.E i R≠0):
  (∀a,a<R->jJ C (fun t=>(A a t:Rat)*((s.E i (R+1+t):Rat)/s.E i R))=0)/\jJ C (fun t=>(b t:Rat)*((s.E i (R+1+t):Rat)/s.E i R))=1:=by
 have h4:∀j0,j0<=R->(s.E i j0:Rat)=jJ C fun t=>(s.E i (R+1+t):Rat)*eqL R A b t j0:=fun j0 hj=>by
  have:=(hB.sol _).2 (zPB hj) i h2;rw[zNd hj]at this;grind
 have hq:(s.E i R:Rat)≠0:=fun e=>h3 (Rat.intCast_eq_zero_iff.1 e)
 have h5:∀g:Nat->Int,jJ C (fun t=>(g t:Rat)*((s.E i (R+1+t):Rat)/s.E i R))=(1/(s.E i R:Rat))*jJ C fun t=>(s.E i (R+1+t):Rat)*g t:=fun g=>by
  rw[<-zBI];exact qH fun t ht=>by grind
 refine⟨fun a ha=>?_,?_⟩
 ·have h6:=h4 a oM
  rw[hB.low i h1 h2 a ha,qH (g:=fun t=>(s.E i (R+1+t):Rat)*A a t) fun t ht=>by rw[zKN ha]]at h6;rw[h5,<-h6];show _*(0:Rat)=0;grind
 ·have h6:=h4 R (xgf _)
  rw[qH (g:=fun t=>(s.E i (R+1+t):Rat)*b t) fun t ht=>by rw[zO9]]at h6;rw[h5,<-h6];grind
def zEz(s:BE)(R:Nat):Nat->Nat->Rat
 |0=>fun _=>0
 |k+1=>fun i=>if s.pv[k]?=some i then(s.E k R:Rat)/s.E k i else zEz s R k i
theorem zLV{n m c R:Nat}{L:Nat->Nat->Int}{s:BE}(hB:zJw n m c L s){k t:Nat}(hk:s.pv[k]?=some t):∀l,k<l->l<=s.pv.length->zEz s R l t=(s.E k R:Rat)/s.E k t
 |0,h,_=>by omega
 | l+1,h,hl=>by
  show(if s.pv[l]?=some t then _ else _)=_;by_cases e:l=k
  ·subst e;rw[if_pos hk]
  ·rw[if_neg fun h2=>?_,zLV hB hk l oM oM]
   have h3:=(hB.piv l t h2).1;exact h3 ((hB.piv k t hk).2 l (Nat.lt_of_lt_of_le (by omega:l<s.pv.length) hB.len) e)
theorem zIu{s:BE}{R i:Nat}(h:∀k:Nat,s.pv[k]?≠some i):∀l,zEz s R l i=0
 |0=>rfl
 |l+1=>by
  show(if s.pv[l]?=some i then _ else _)=_;rw[if_neg (h l),zIu h l]
theorem zQU{R C:Nat}{A:Nat->Nat->Int}{b:Nat->Int}{s:BE}(hB:zJw C (R+1+C) R (eqL R A b) s)(hz:∀i,s.pv.length<=i->i<C->s.E i R=0):
  ∀j,j<C->jJ R (fun i=>(A i j:Rat)*zEz s R s.pv.length i)=b j:=fun j hj=>by
 have hcut:∀f:Nat->Int,jJ (R+1+C) (fun p=>(f p:Rat)*(if p<R then zEz s R s.pv.length p else if p=R then-1 else 0))=jJ R (fun p=>(f p:Rat)*zEz s R s.pv.length p)-f R:=fun f=>by
  rw[zIy,zCA (n:=C) fun i hi=>by rw[if_neg oM,if_neg oM];grind];show jJ R _+_+0=_;rw[qH (n:=R) (g:=fun p=>(f p:Rat)*zEz s R s.pv.length p) fun i hi=>by rw[if_pos hi]];dsimp only;rw[if_neg oM,if_pos rfl];grind
 have hS:Sol C (R+1+C) s.E fun p=>if p<R then zEz s R s.pv.length p else if p=R then-1 else 0:=fun i hi=>by
  rw[hcut];rcases Nat.lt_or_ge i s.pv.length with h|h
  ·obtain⟨t,ht⟩:∃t,s.pv[i]?=some t:=⟨_,xga h⟩
   have htR:=hB.lt i t ht;have hne:(s.E i t:Rat)≠0:=fun e=>(hB.piv i t ht).1 (Rat.intCast_eq_zero_iff.1 e)
   rw[zED (k:=t) htR fun p hp hpt=>?_,zLV hB ht _ h (xgf _)]
   ·grind
   ·by_cases e:∃k:Nat,s.pv[k]?=some p
    ·obtain⟨k,hk⟩:=e
     rw[(hB.piv k p hk).2 i hi fun e2=>by subst e2;rw[hk]at ht;injection ht with ht;exact hpt ht];exact(congrArg (· *_) Rat.intCast_zero).trans (Rat.zero_mul _)
    ·rw[zIu fun k hk=>e ⟨k,hk⟩]
     exact Rat.mul_zero _
  ·rw[hz i h hi,zCA fun p hp=>by rw[hB.low i h hi p hp];exact(congrArg (· *_) Rat.intCast_zero).trans (Rat.zero_mul _)]
   rw[Rat.intCast_zero];grind
 have h1:=(hB.sol _).1 hS j hj;rw[hcut,zO9,qH (g:=fun p=>(A p j:Rat)*zEz s R s.pv.length p) fun i hi=>by rw[zKN hi]]at h1;grind
section
variable {P:Program} {a:Act} {w:World} {Q:Exit->Act->World->Prop}
theorem Exit.jump_ret{l:Nat}{J:Act->World->Prop}:Exit.jump l J Q .ret a w=Q .ret a w:=rfl
theorem zE1{c rest:Code}{l:Nat}(J:Act->World->Prop)(μ:Act->World->Nat)(hf:findLabel (c.seq ((Code.label l).seq rest)) l=some (Code.skip.seq rest))
  (first:c.wp P (fun e a w=>e= .normal/\J a w) a w)
  (pass:∀a w,J a w->rest.wp P (Exit.jump l (fun a' w'=>J a' w'/\μ a' w'<μ a w) Q) a w):(Code.scope (c.seq ((Code.label l).seq rest))).wp P Q a w:=by
 have key:∀a w,J a w->rest.wp P (Exit.jump l J Q) a w:=fun a w hJ=>wp_mono (pass a w hJ) (by
  intro e a' w' h;cases e<;>first|exact h|exact⟨h.1,h.2.1⟩)
 refine wp_scope_jumps l J μ hf ?_ ?_
 ·refine wp_seq (wp_mono first ?_)
  rintro e a' w' ⟨rfl,hJ⟩;exact wp_seq (wp_label (key _ _ hJ))
 ·intro a' w' hJ
  exact wp_seq (wp_skip (pass a' w' hJ))
end
def DMV(a b:Int):World->Value->Prop:=fun w v=>∃q r,v= .tuple #[q,r,.int .i64 0]/\zH w q (a/b)/\zH w r (a%b)
theorem zMZ(a b:Int):zEI (DMV a b):=by
 intro w w' v e h;obtain⟨q,r,h1,h2,h3⟩:=h;exact⟨q,r,h1,h2.ext e,h3.ext e⟩
theorem zHb(v1 v2:Value)(z1 z2:Int)(w:World)(h1:zDz w v1 z1)(h2:zDz w v2 z2)(s1:Sm z1)(s2:Sm z2)(hz:z2≠0):
  Calls Tryz.prog 157 #[v1,v2] w fun e w'=>∃v,e= .returned v/\DMV z1 z2 w' v/\Below w.heap.size w w':=by
 refine(jT v1 v2 z1 z2 w h1 h2 s1 s2 hz).mono ?_;rintro e w' ⟨v1,v2,rfl,h1,h2,h3⟩;exact⟨_,rfl,⟨v1,v2,rfl,h1,h2⟩,h3⟩
theorem zDa.ok{B n Cs Ct:Nat}{x:Bst}{i j:Nat}{k:Int}(h:zDa B n Cs Ct x i j k):okB B n Cs Ct (x.add i j k):=h.2.2.2
theorem zH.two{w:World}{x y:Value}{z:Int}(h:zH w (.agg #[x,y]) z):∃s a l c,x= .bool s/\y= .slice a l c:=by
 obtain⟨s,a,l,c,xs,e,-⟩:=id h;injection e with e
 simp only[Array.mk.injEq,List.cons.injEq]at e;exact⟨s,a,l,c,e.1,e.2.1⟩
abbrev tN:TypeId:=3
def zQJ(n:Nat)(g:Nat->Int):Array Value:=((List.range n).map fun i=>Value.int .i64 (g i)).toArray
def zQ2(f:Nat->Int)(j:Nat):Nat->Int:=fun t=>if t<j then f t else 0
theorem zS.same{w w':World}{base:Nat}{A:Value}{C:Nat}{bs:List Nat}{M:List (List Int)}(h:zS w base A C bs M)(hb:∀b∈bs,w'.heap[b]?=w.heap[b]?)(ho:∀g,A.ownBlock=some g->w'.heap[g]?=w.heap[g]?)(x:yO w w'):zS w' base A C bs M:=by
 refine⟨⟨h.own.1,?_⟩,h.len,fun k b r h1 h2=>by
  obtain⟨e1,e2,e3⟩:=h.row k b r h1 h2;exact⟨e1,e2,e3.old (hb b (xgd h1)) x⟩,h.nodup,h.cb⟩
 rcases h.own.2 with h1|⟨g,cap,cur,e1,e2,e3⟩
 ·exact .inl h1
 ·exact .inr ⟨g,cap,cur,e1,e2,(ho g (by rw[e1];rfl)).trans e3.1,e3.2⟩

theorem zS.rows2{w w':World}{base:Nat}{A:Value}{C:Nat}{bs:List Nat}{M:List (List Int)}{i j bi bj:Nat}{ri rj:List Int}(h:zS w base A C bs M)(hbi:bs[i]?=some bi)(hbj:bs[j]?=some bj)(hij:i≠j)(ho:yC [bi,bj] w w')
  (hri:qC w' bi ri) (hrj:qC w' bj rj) (hli:ri.length=C) (hlj:rj.length=C):zS w' base A C bs ((M.set i ri).set j rj):=by
 have hib:=(xge.1 hbi).1;have hjb:=(xge.1 hbj).1;have hiM:i<M.length:=by rw[h.len];exact hib
 have hjM:j<M.length:=by rw[h.len];exact hjb
 obtain⟨r1,r2,r3⟩:=h.row i bi M[i] hbi (xga hiM);obtain⟨q1,q2,q3⟩:=h.row j bj M[j] hbj (xga hjM);refine⟨⟨h.own.1,?_⟩,by simp[h.len],?_,h.nodup,h.cb⟩
 ·rcases h.own.2 with h1|⟨g,cap,cur,e1,e2,e3,e4⟩
  ·exact .inl h1
  ·refine .inr ⟨g,cap,cur,e1,e2,?_,e4⟩
   refine(ho.old g (Array.getElem?_eq_some_iff.1 e3).1 ?_).trans e3;intro hg;have f1:=zDA h.own r3;have f2:=zDA h.own q3;rw[e1]at f1 f2;simp at hg;rcases hg with rfl|rfl
   ·exact f1 rfl
   ·exact f2 rfl
 ·intro k b' r' hk hr'
  by_cases ej:k=j
  ·subst ej
   rw[hbj]at hk;injection hk with hk
   subst hk;rw[List.getElem?_set_self (by simpa using hjM)]at hr';injection hr' with hr'
   subst hr';exact⟨q1,hlj,hrj⟩
  ·rw[List.getElem?_set_ne (Ne.symm ej)]at hr'
   by_cases e:k=i
   ·subst e
    rw[hbi]at hk;injection hk with hk
    subst hk;rw[List.getElem?_set_self hiM]at hr';injection hr' with hr'
    subst hr';exact⟨r1,hli,hri⟩
   ·rw[List.getElem?_set_ne (Ne.symm e)]at hr'
    obtain⟨f1,f2,f3⟩:=h.row k b' r' hk hr';have hkb:=(xge.1 hk).1;have hne:∀{t bt:Nat},bs[t]?=some bt->k≠t->b'≠bt:=by
     intro t bt ht hkt hh;subst hh;have h1:=(xge.1 hk).2;have h2:=(xge.1 ht).2;exact hkt ((List.getElem_inj h.nodup).1 (h1.trans h2.symm))
    exact⟨f1,f2,f3.only ho (by simp;exact⟨hne hbi e,hne hbj ej⟩)⟩
theorem zG5{R C:Nat}{F:Nat->Nat->Int}{i j:Nat}{m0 m1 m2 m3:Int}(hij:i≠j):
  ((zX R C F).set i (zM C (fun t=>m0*F i t+m1*F j t))).set j (zM C (fun t=>m2*F i t+m3*F j t))=zX R C (qO F i j m0 m1 m2 m3):=by
 apply List.ext_getElem
 ·simp[zX]
 ·intro a h1 h2
  by_cases ej:a=j
  ·subst ej
   rw[List.getElem_set_self];have:¬ a=i:=fun h=>hij h.symm
   simp[zX,zM,qO,this]
  ·have e3:j≠a:=fun h=>ej h.symm
   rw[List.getElem_set_ne e3];by_cases e:a=i
   ·subst e
    rw[List.getElem_set_self];simp[zX,zM,qO]
   ·have e4:i≠a:=fun h=>e h.symm
    rw[List.getElem_set_ne e4];simp[zX,qO,e,ej]
theorem zCu{w:World}{A:Value}{R C:Nat}{bs:List Nat}{F:Nat->Nat->Int}(h:Wri w A R C bs F){i j bi bj:Nat}(hi:i<R)(hj:j<R)(hij:i≠j)(hbi:bs[i]?=some bi)(hbj:bs[j]?=some bj){mv:Value}{m0 m1 m2 m3:Int}(hm:M4V w mv m0 m1 m2 m3)
  (hC:C<=1000000) (hS:zNf C (F i) (F j) m0 m1 m2 m3) (hms:Sm m0/\Sm m1/\Sm m2/\Sm m3):
  Calls Tryz.prog 261 #[.slice (some ⟨bi,0,none⟩) C C,.slice (some ⟨bj,0,none⟩) C C,mv] w fun e w'=>(∃u,e= .returned u)/\yC [bi,bj] w w'/\Wri w' A R C bs (qO F i j m0 m1 m2 m3):=by
 have hne:bi≠bj:=by
  intro hh;subst hh;obtain⟨f1,f2⟩:=xge.1 hbi;obtain⟨g1,g2⟩:=xge.1 hbj;exact hij ((List.getElem_inj (zS.nodup h)).1 (f2.trans g2.symm))
 refine(zJ5 bi bj C C C (F i) (F j) mv m0 m1 m2 m3 w (h.rowAt hi hbi) (h.rowAt hj hbj) hne hm hC (xgf _) oM (xgf _) oM hS hms).mono ?_;rintro e w' ⟨hu,ho,hr1,hr2⟩;refine⟨hu,ho,?_⟩;unfold Wri;rw[<-zG5 hij];exact zS.rows2 h hbi hbj hij ho hr1 hr2 (zD _ _) (zD _ _)
theorem Wri.only2{w w':World}{A:Value}{R C:Nat}{bs:List Nat}{F:Nat->Nat->Int}{b c:Nat}{r q:List Int}(h:Wri w A R C bs F)(ho:yC [b,c] w w')(hn:b ∉ bs)(hn2:c ∉ bs)(hr:qC w b r)(hq:qC w c q):Wri w' A R C bs F:=
 zS.only h ho (fun x hx=>by
  intro hh;simp at hh;rcases hh with rfl|rfl
  ·exact hn hx
  ·exact hn2 hx) (fun g hg=>by
  simp at hg;rcases hg with rfl|rfl
  ·exact⟨_,hr⟩
  ·exact⟨_,hq⟩)
def M2V(m0 m1:Int):World->Value->Prop:=fun w v=>∃s0 a0 l0 c0 s1 a1 l1 c1,v= .agg #[.bool s0,.slice a0 l0 c0,.bool s1,.slice a1 l1 c1]/\zH w (.agg #[.bool s0,.slice a0 l0 c0]) m0/\zH w (.agg #[.bool s1,.slice a1 l1 c1]) m1
theorem zCD(a b:Int):zEI (M2V a b):=by
 rintro w w' v e ⟨s0,a0,l0,c0,s1,a1,l1,c1,rfl,h0,h1⟩;exact⟨s0,a0,l0,c0,s1,a1,l1,c1,rfl,h0.ext e,h1.ext e⟩
theorem zFy(a b c d:Int):zEI (fun w v=>M4V w v a b c d):=fun _ _ _ e h=>h.ext e
abbrev tHW:TypeId:=225
def zBg(w:World)(A:Value)(n:Nat):Prop:=∃g cap cs,A= .slice (some ⟨g,0,none⟩) n cap/\n<=cap/\cap<=9223372036854775807/\Blk w g tR cs/\∀i,i<n->cs[i]?=some (.slice none 0 0)
theorem zBg.below{w w':World}{A:Value}{n:Nat}(h:zBg w A n)(hb:Below w.heap.size w w'):zBg w' A n:=by
 obtain⟨g,cap,cs,h1,h2,h3,h4,h5⟩:=h;exact⟨g,cap,cs,h1,h2,h3,h4.below hb,h5⟩
theorem zGU{w:World}{g b:Nat}{t:TypeId}{cs:Array Value}{r:List Int}(hb:Blk w g t cs)(hr:qC w b r)(ht:¬ t=tI):g≠b:=by
 rintro rfl;obtain⟨cs',h1,-⟩:=hr;exact ht (congrArg (fun o:Option Obj=>match o with|some (Obj.cells _ t _)=>t|_=>0) (hb.symm.trans h1))
theorem Blk.row{w w':World}{g b:Nat}{t:TypeId}{cs:Array Value}{r:List Int}(hb:Blk w g t cs)(ho:yC [b] w w')(hr:qC w b r)(ht:¬ t=tI):Blk w' g t cs:=
 (ho.old g hb.lt (by simpa using zGU hb hr ht)).trans hb
theorem Blk.row2{w w':World}{g b c:Nat}{t:TypeId}{cs:Array Value}{r q:List Int}(hb:Blk w g t cs)(ho:yC [b,c] w w')(hr:qC w b r)(hq:qC w c q)(ht:¬ t=tI):Blk w' g t cs:=
 (ho.old g hb.lt (by simp;exact⟨zGU hb hr ht,zGU hb hq ht⟩)).trans hb
theorem zBg.row{w w':World}{A:Value}{n b:Nat}{r:List Int}(h:zBg w A n)(ho:yC [b] w w')(hr:qC w b r):zBg w' A n:=by
 obtain⟨g,cap,cs,h1,h2,h3,h4,h5⟩:=h;exact⟨g,cap,cs,h1,h2,h3,h4.row ho hr dE,h5⟩
theorem zBg.row2{w w':World}{A:Value}{n b c:Nat}{r q:List Int}(h:zBg w A n)(ho:yC [b,c] w w')(hr:qC w b r)(hq:qC w c q):zBg w' A n:=by
 obtain⟨g,cap,cs,h1,h2,h3,h4,h5⟩:=h;exact⟨g,cap,cs,h1,h2,h3,h4.row2 ho hr hq dE,h5⟩
theorem zBg.at_{w:World}{A:Value}{n i:Nat}(h:zBg w A n)(hi:i<n):∃g cap,A= .slice (some ⟨g,0,none⟩) n cap/\w.cell? ⟨g,i,none⟩=some (.slice none 0 0):=by
 obtain⟨g,cap,cs,h1,h2,h3,h4,h5⟩:=h;exact⟨g,cap,h1,(cell_of_row w g i cs tR _ h4).trans (h5 i hi)⟩
theorem zGQ(kv:Value)(k:Int)(w:World)(hk:zH w kv k):
  Calls Tryz.prog 158 #[.slice none 0 0,.slice none 0 0,kv] w fun e w'=>(∃u,e= .returned u)/\Below w.heap.size w w':=by
 obtain⟨kn,ka,kl,kc,kx,rfl,-⟩:=id hk;go_enter Tryz.func158,Tryz.ntmps158;go_upto_region 1 with(fail)
 refine zB ?_;intro W0 hW0;obtain⟨hB0,bk,hs0⟩:=zK hW0;clear hW0;go_wp2;go_loopw [10] (fun iv wr=>iv= .int .i64 0/\wr=W0) (fun _ _=>0)
 case atStart=>exact⟨rfl,rfl⟩
 case round=>
  obtain⟨rfl,rfl⟩:=hrel;go_wp2;exact bodyPost_end (results_none rfl _ _ _) rfl ⟨⟨_,rfl⟩,hB0⟩
theorem zBD(v:Value)(zs:List Int)(w:World)(h:qT w v zs):
  Calls Tryz.prog 153 #[v] w fun e w'=>e= .returned (.int .i64 (zBo 0 zs))/\Below w.heap.size w w':=by
 obtain⟨ao,n,cap,rfl,h2,h3,h4,h5⟩:=id h;have HL:=xgw h2;clear h2 h5;go_enter Tryz.func153,Tryz.ntmps153;go_wp2;refine zE1 (fun a' wt=>a'={tmps:=#[.slice ao n cap,undef,.int .i64 0,.int .i64 (-1),undef,undef,undef,undef,undef,undef,undef,undef,undef,undef,undef,undef,undef,undef,undef,undef],defers:=[]}/\wt=w) (fun _ _=>0) rfl ?_ ?_
 ·go_wp2
 ·rintro a' wr ⟨rfl,hwr⟩
  have hwr:=hwr.symm;subst hwr;go_wp2;go_loopw [3,8] (fun u i wr=>∃k:Nat,k<=n/\u= .int .i64 (-1)/\i= .int .i64 k/\Below w.heap.size w wr/\Hid (zBo 0 zs=zBo k (zs.drop k))) (fun _ i _=>n-(intOf i).toNat)
  case atStart=>exact⟨0,by omega,rfl,rfl,Below.refl _ _,by rw[xgk];exact xgw rfl⟩
  case round=>
   obtain⟨k,hk,rfl,rfl,hb,hgo⟩:=hrel;by_cases hlt:k<n
   ·obtain⟨b,z,s,a,l,c,rfl,hbl,hz,c1,c2,hv⟩:=(h.below hb).cell (k:=k) (by rw[HL.out];exact hlt)
    have HZ:=xgw hz;clear hz;go_upto_region 5 with(fail)
    refine zB ?_;intro W6 hW6;obtain⟨hB6,T6,hs6⟩:=zK hW6;obtain⟨d1,d2,d3,d4⟩:=T6.two;clear c1 c2 hW6;go_wp2_with fail
    refine(qU _ z W6 (hv.ext (lx hB6)).weak).mono ?_;rintro e w7 ⟨rfl,hb7⟩;have hb9:=nx (nx hb hB6) hb7;by_cases hz0:z=0
    ·rw[zA0 hz0]
     go_wp2;go_roundw
     case rel=>
      refine⟨k+1,by omega,rfl,by simp,hb9,xgw ?_⟩;rw[hgo.out,zGg HZ.out];conv=>lhs;unfold zBo
      rw[if_neg (by simp[hz0])]
     case measure=>simp[intOf];omega
    ·have hc:=zCc hz0
     obtain⟨k0,hk0⟩:∃k0,qJ z 0=k0:=⟨_,rfl⟩;rw[hk0]at hc ⊢
     have hc2:(k0==0)=false:=by simpa using hc
     go_wp2;rw[Exit.jump_ret];go_ret;refine⟨?_,hb9⟩;rw[hgo.out,zGg HZ.out];conv=>rhs;unfold zBo
     rw[if_pos hz0];rfl
   ·obtain rfl:k=n:=by omega
    go_wp2;rw[Exit.jump_ret];go_ret;refine⟨?_,hb⟩;rw[hgo.out,List.drop_eq_nil_of_le (Nat.le_of_eq HL.out)];rfl
theorem lx0{w W:World}(h:Below w.heap.size w W):yO w W:=lx h
theorem zNL(bw:Nat)(Ah Au Av:Value)(n Cs Ct i j:Nat)(bss bst bsi:List Nat)(S T I:Nat->Nat->Int)(kv:Value)(k:Int)(w:World)(hbw:Blk w bw tHW #[Ah,Au,Av])(h:zDy w Ah Au Av n Cs Ct bss bst bsi S T I)(hi:i<n)(hj:j<n)(hij:i≠j)(hk:zH w kv k)
  (hn:n<=1000000) (hCs:Cs<=1000000) (hCt:Ct<=1000000) (hS:zJt Cs S i j k) (hT:zJt Ct T i j k) (hI:zJt Ct I j i (-k)) (hks:Sm k):
  Calls Tryz.prog 220 #[.pointer (some ⟨bw,0,none⟩),.int .i64 i,.int .i64 j,kv] w fun e w'=>(∃u,e= .returned u)/\zY (fun b=>b∈bss∨b∈bst∨b∈bsi) w w'/\Blk w' bw tHW #[Ah,Au,Av]∧
   zDy w' Ah Au Av n Cs Ct bss bst bsi (zAt S i j k) (zAt T i j k) (zAt I j i (-k)):=by
 obtain⟨so,sn,sc,rfl,s1,s2,s3,-⟩:=id (zS.rows h.s);obtain⟨uo,tn,tc,rfl,t1,t2,t3,-⟩:=id (zS.rows h.t);obtain⟨io,in_,ic,rfl,i1,i2,i3,-⟩:=id (zS.rows h.i);obtain⟨kn,ka,kl,kc,kx,rfl,hkx⟩:=id hk;have HKX:=xgw hkx;have HS:=xgv hS;have HT:=xgv hT;have HI:=xgv hI;have HK:=xgv hks;have HKn:qF (Sm (-k)):=⟨HK.out.mono (by rw[Int.natAbs_neg];exact xgf _)⟩;clear hkx hS hT hI hks;obtain⟨hs,ht,hi_,fst_,fsi,fti,gst,gsi,gti⟩:=h;have GST:=xgv gst;have GSI:=xgv gsi;have GTI:=xgv gti;clear gst gsi gti;have e1:n=sn:=by rw[<-s1];simp[zX]
 have e2:n=tn:=by rw[<-t1];simp[zX]
 have e3:n=in_:=by rw[<-i1];simp[zX]
 subst e1;subst e2;subst e3;clear s1 t1 i1;obtain⟨gs,_,rfl,-⟩:=zS.at_ hs (i:=i) (by rw[hs.len];exact hi);obtain⟨gt,_,rfl,-⟩:=zS.at_ ht (i:=i) (by rw[ht.len];exact hi);obtain⟨gi,_,rfl,-⟩:=zS.at_ hi_ (i:=i) (by rw[hi_.len];exact hi);have hlt:∀b,b∈bss∨b∈bst∨b∈bsi->b<w.heap.size:=fun b hb=>by
  rcases hb with hb|hb|hb
  ·exact(hs.blk hb).elim fun r hr=>hr.lt
  ·exact(ht.blk hb).elim fun r hr=>hr.lt
  ·exact(hi_.blk hb).elim fun r hr=>hr.lt
 go_enter Tryz.func220,Tryz.ntmps220;go_upto_region 1 with(fail)
 refine zB ?_;intro W0 hW0;obtain⟨hB0,bk,hs0⟩:=zK hW0;have bx:=hbw.below hB0;have hs:=hs.below hB0;have ht:=ht.below hB0;have hi_:=hi_.below hB0;have hk:=hk.ext (lx hB0);have hO:=zY.of (fun b=>b∈bss∨b∈bst∨b∈bsi) hB0;clear hW0 hbw;obtain⟨g1,bi,eg1,hg1,hbi1,hb1,o1,-⟩:=zS.at_ hs (i:=i) (by rw[hs.len];exact hi);obtain⟨g2,bj,eg2,hg2,hbj1,hb2,o2,-⟩:=zS.at_ hs (i:=j) (by rw[hs.len];exact hj);obtain rfl:gs=g1:=by injection eg1 with eg1;injection eg1
 obtain rfl:gs=g2:=by injection eg2 with eg2;injection eg2
 clear eg1 eg2 hb1 hb2;have hm1:=xgd hbi1;obtain⟨ri,hri⟩:=hs.blk hm1;obtain⟨x1,x2,x3,x4,x5,x6⟩:=bx.three;obtain⟨d1,d2,d3,d4⟩:=bk.two;have lbx:=bx.lt;have lk:=bk.lt;refine zC 15 rfl (RI W0 (W0.heap.size) _ 35
   [VP 0 8 bw 0,VP 1 9 bw 0,VP 2 10 bw 0,VSl 3 11 gs n sc,VN 4 12 i,VP 5 13 gs i,VSl 6 14 bi Cs Cs,VP 7 15 bw 0,VP 8 16 bw 0,VP 9 17 bw 0,VSl 10 18 gs n sc,VN 11 19 j,VP 12 20 gs j,VSl 13 21 bj Cs Cs,E 14 22 (.agg #[.bool kn,.slice ka kl kc])] [] []) kR RI.start (RI.fin kR ?fin1) ?steps1
 case steps1=>
  refine⟨?_,?_,?_,?_,?_,?_,?_,?_,?_,?_,?_,?_,?_,?_,?_,trivial⟩<;>(intro L T wS hL hd hcl hI K hK;try refine zA rfl ?_)
  ·exact xgs (hI.k 0 rfl kR)
  ·exact xgs (hI.e mm0 (hd 0))
  ·exact xgs (hI.e mm1 (hd 1))
  ·have zt2:=hI.e mm2 (hd 2)
   have cc0:=hI.cell x1 oM nom;exact xgu
  ·exact xgs (hI.k 1 rfl kR)
  ·exact xgt (hI.e mm3 (hd 3)) (hI.e mm4 (hd 4))
  ·have zt5:=hI.e mm5 (hd 5)
   have cc0:=hI.cell o1 oM nom;exact xgu
  ·exact xgs (hI.k 0 rfl kR)
  ·exact xgs (hI.e mm7 (hd 7))
  ·exact xgs (hI.e mm8 (hd 8))
  ·have zt9:=hI.e mm9 (hd 9)
   have cc0:=hI.cell x1 oM nom;exact xgu
  ·exact xgs (hI.k 2 rfl kR)
  ·exact xgt (hI.e zAC (hd 10)) (hI.e zAJ (hd 11))
  ·have zt12:=hI.e zAo (hd 12)
   have cc0:=hI.cell o2 oM nom;exact xgu
  ·have zt:=hI.k 7 rfl kR
   have cc0:=hI.cell d1 oM nom;have cc1:=hI.cell d2 oM nom;exact xgu
 intro w8 hlw8 hbw8 holdw8 T hT;simp only[Fin,E,EI,VP,VSl,VN,xgg,xgh,xgi,xgj]at hT;subst hT;simp only[xgl,xgk];have hH8:=hs.below hbw8;have hri8:=hri.below hbw8;clear o1 o2 x1 x2 x3 x4 x5 x6 d1 d2 d3 d4;go_wp2_with fail
 refine(zFh hH8 hi hj hij hbi1 hbj1 _ (k) (hk.ext (lx0 hbw8)) hCs HS.out HK.out).mono ?_;rintro e w9 ⟨⟨u,rfl⟩,ho,hH9⟩;have hkne:w.heap.size≠bi:=by have:=hlt bi (by simp[hm1]);omega
 have bx:=(bx.below hbw8).row ho hri8 dE;have bk:Blk w9 w.heap.size 35 #[.bool kn,.slice ka kl kc]:=(ho.old _ (bk.below hbw8).lt (by simpa using hkne)).trans (bk.below hbw8);have hk:=(hk.ext (lx0 hbw8)).ext ho.lext;have hO:=(hO.trans (zY.of _ hbw8)).trans (⟨ho.bel,ho.lext,fun k hk hn=>ho.old k hk (by simp;rintro rfl;exact hn (by simp[hm1]))⟩:zY _ w8 w9);have ht:=(ht.below hbw8).only ho (fun hh=>fst_ _ hm1 hh) hri8;have hi_:=(hi_.below hbw8).only ho (fun hh=>fsi _ hm1 hh) hri8;have hs:Wri w9 (.slice (some ⟨gs,0,none⟩) n sc) n Cs bss (zAt S i j k):=hH9;clear ho hri8 hri hH8 hH9 hm1 hkne hbi1 hbj1;go_upto_region 2 with(fail)
 obtain⟨g1,ci,eg1,hg1,hbi1,hb1,o1,-⟩:=zS.at_ ht (i:=i) (by rw[ht.len];exact hi);obtain⟨g2,cj,eg2,hg2,hbj1,hb2,o2,-⟩:=zS.at_ ht (i:=j) (by rw[ht.len];exact hj);obtain rfl:gt=g1:=by injection eg1 with eg1;injection eg1
 obtain rfl:gt=g2:=by injection eg2 with eg2;injection eg2
 clear eg1 eg2 hb1 hb2;have hm1:=xgd hbi1;obtain⟨ri,hri⟩:=ht.blk hm1;obtain⟨x1,x2,x3,x4,x5,x6⟩:=bx.three;obtain⟨d1,d2,d3,d4⟩:=bk.two;have lbx:=bx.lt;have lk:=bk.lt;refine zC 15 rfl (RI w9 (w9.heap.size) _ 35
   [VP 0 24 bw 0,VP 1 25 bw 0,VP 2 26 bw 1,VSl 3 27 gt n tc,VN 4 28 i,VP 5 29 gt i,VSl 6 30 ci Ct Ct,VP 7 31 bw 0,VP 8 32 bw 0,VP 9 33 bw 1,VSl 10 34 gt n tc,VN 11 35 j,VP 12 36 gt j,VSl 13 37 cj Ct Ct,E 14 38 (.agg #[.bool kn,.slice ka kl kc])] [] []) kR RI.start (RI.fin kR ?fin2) ?steps2
 case steps2=>
  refine⟨?_,?_,?_,?_,?_,?_,?_,?_,?_,?_,?_,?_,?_,?_,?_,trivial⟩<;>(intro L T wS hL hd hcl hI K hK;try refine zA rfl ?_)
  ·exact xgs (hI.k 0 rfl kR)
  ·exact xgs (hI.e mm0 (hd 0))
  ·exact xgs (hI.e mm1 (hd 1))
  ·have zt2:=hI.e mm2 (hd 2)
   have cc0:=hI.cell x2 oM nom;exact xgu
  ·exact xgs (hI.k 1 rfl kR)
  ·exact xgt (hI.e mm3 (hd 3)) (hI.e mm4 (hd 4))
  ·have zt5:=hI.e mm5 (hd 5)
   have cc0:=hI.cell o1 oM nom;exact xgu
  ·exact xgs (hI.k 0 rfl kR)
  ·exact xgs (hI.e mm7 (hd 7))
  ·exact xgs (hI.e mm8 (hd 8))
  ·have zt9:=hI.e mm9 (hd 9)
   have cc0:=hI.cell x2 oM nom;exact xgu
  ·exact xgs (hI.k 2 rfl kR)
  ·exact xgt (hI.e zAC (hd 10)) (hI.e zAJ (hd 11))
  ·have zt12:=hI.e zAo (hd 12)
   have cc0:=hI.cell o2 oM nom;exact xgu
  ·have zt:=hI.k 7 rfl kR
   have cc0:=hI.cell d1 oM nom;have cc1:=hI.cell d2 oM nom;exact xgu
 intro w10 hlw10 hbw10 holdw10 T hT;simp only[Fin,E,EI,VP,VSl,VN,xgg,xgh,xgi,xgj]at hT;subst hT;simp only[xgl,xgk];have hH8:=ht.below hbw10;have hri8:=hri.below hbw10;clear o1 o2 x1 x2 x3 x4 x5 x6 d1 d2 d3 d4;go_wp2_with fail
 refine(zFh hH8 hi hj hij hbi1 hbj1 _ (k) (hk.ext (lx0 hbw10)) hCt HT.out HK.out).mono ?_;rintro e w11 ⟨⟨u,rfl⟩,ho,hH9⟩;have hkne:w.heap.size≠ci:=by have:=hlt ci (by simp[hm1]);omega
 have bx:=(bx.below hbw10).row ho hri8 dE;have bk:Blk w11 w.heap.size 35 #[.bool kn,.slice ka kl kc]:=(ho.old _ (bk.below hbw10).lt (by simpa using hkne)).trans (bk.below hbw10);have hk:=(hk.ext (lx0 hbw10)).ext ho.lext;have hO:=(hO.trans (zY.of _ hbw10)).trans (⟨ho.bel,ho.lext,fun k hk hn=>ho.old k hk (by simp;rintro rfl;exact hn (by simp[hm1]))⟩:zY _ w10 w11);have hs:=(hs.below hbw10).only ho (fun hh=>fst_ _ hh hm1) hri8;have hi_:=(hi_.below hbw10).only ho (fun hh=>fti _ hm1 hh) hri8;have ht:Wri w11 (.slice (some ⟨gt,0,none⟩) n tc) n Ct bst (zAt T i j k):=hH9;clear ho hri8 hri hH8 hH9 hm1 hkne hbi1 hbj1;go_upto_region 3 with(fail)
 obtain⟨g1,di,eg1,hg1,hbi1,hb1,o1,-⟩:=zS.at_ hi_ (i:=j) (by rw[hi_.len];exact hj);obtain⟨g2,dj,eg2,hg2,hbj1,hb2,o2,-⟩:=zS.at_ hi_ (i:=i) (by rw[hi_.len];exact hi);obtain rfl:gi=g1:=by injection eg1 with eg1;injection eg1
 obtain rfl:gi=g2:=by injection eg2 with eg2;injection eg2
 clear eg1 eg2 hb1 hb2;have hm1:=xgd hbi1;obtain⟨ri,hri⟩:=hi_.blk hm1;obtain⟨x1,x2,x3,x4,x5,x6⟩:=bx.three;obtain⟨d1,d2,d3,d4⟩:=bk.two;have lbx:=bx.lt;have lk:=bk.lt;refine zC 16 rfl (RI w11 (w11.heap.size) _ 35
   [VP 0 40 bw 0,VP 1 41 bw 0,VP 2 42 bw 2,VSl 3 43 gi n ic,VN 4 44 j,VP 5 45 gi j,VSl 6 46 di Ct Ct,VP 7 47 bw 0,VP 8 48 bw 0,VP 9 49 bw 2,VSl 10 50 gi n ic,VN 11 51 i,VP 12 52 gi i,VSl 13 53 dj Ct Ct,E 14 54 (.agg #[.bool kn,.slice ka kl kc]),EI 15 55 (-k)] [] []) kR RI.start (RI.fin kR ?fin3) ?steps3
 case steps3=>
  refine⟨?_,?_,?_,?_,?_,?_,?_,?_,?_,?_,?_,?_,?_,?_,?_,?_,trivial⟩<;>(intro L T wS hL hd hcl hI K hK;try refine zA rfl ?_)
  ·exact xgs (hI.k 0 rfl kR)
  ·exact xgs (hI.e mm0 (hd 0))
  ·exact xgs (hI.e mm1 (hd 1))
  ·have zt2:=hI.e mm2 (hd 2)
   have cc0:=hI.cell x3 oM nom;exact xgu
  ·exact xgs (hI.k 2 rfl kR)
  ·exact xgt (hI.e mm3 (hd 3)) (hI.e mm4 (hd 4))
  ·have zt5:=hI.e mm5 (hd 5)
   have cc0:=hI.cell o1 oM nom;exact xgu
  ·exact xgs (hI.k 0 rfl kR)
  ·exact xgs (hI.e mm7 (hd 7))
  ·exact xgs (hI.e mm8 (hd 8))
  ·have zt9:=hI.e mm9 (hd 9)
   have cc0:=hI.cell x3 oM nom;exact xgu
  ·exact xgs (hI.k 1 rfl kR)
  ·exact xgt (hI.e zAC (hd 10)) (hI.e zAJ (hd 11))
  ·have zt12:=hI.e zAo (hd 12)
   have cc0:=hI.cell o2 oM nom;exact xgu
  ·have zt:=hI.k 7 rfl kR
   have cc0:=hI.cell d1 oM nom;have cc1:=hI.cell d2 oM nom;exact xgu
  ·have zt14:=hI.e zBp (hd 14)
   go_simp;refine(jN _ k _ (hk.ext hI.lext).weak HK.out).mono ?_;exact xgo
 intro w12 hlw12 hbw12 holdw12 T hT;simp only[Fin,E,EI,VP,VSl,VN,xgg,xgh,xgi,xgj]at hT;obtain⟨vc15,hc15,rfl⟩:=hT;simp only[xgl,xgk];have hH8:=hi_.below hbw12;have hri8:=hri.below hbw12;clear o1 o2 x1 x2 x3 x4 x5 x6 d1 d2 d3 d4;go_wp2_with fail
 refine(zFh hH8 hj hi (Ne.symm hij) hbi1 hbj1 _ (-k) hc15 hCt HI.out HKn.out).mono ?_;rintro e w13 ⟨⟨u,rfl⟩,ho,hH9⟩;have hkne:w.heap.size≠di:=by have:=hlt di (by simp[hm1]);omega
 have bx:=(bx.below hbw12).row ho hri8 dE;have bk:Blk w13 w.heap.size 35 #[.bool kn,.slice ka kl kc]:=(ho.old _ (bk.below hbw12).lt (by simpa using hkne)).trans (bk.below hbw12);have hk:=(hk.ext (lx0 hbw12)).ext ho.lext;have hO:=(hO.trans (zY.of _ hbw12)).trans (⟨ho.bel,ho.lext,fun k hk hn=>ho.old k hk (by simp;rintro rfl;exact hn (by simp[hm1]))⟩:zY _ w12 w13);have hs:=(hs.below hbw12).only ho (fun hh=>fsi _ hh hm1) hri8;have ht:=(ht.below hbw12).only ho (fun hh=>fti _ hh hm1) hri8;go_wp2;exact bodyPost_end (results_none rfl _ _ _) rfl ⟨⟨_,rfl⟩,hO,bx,hs,ht,hH9,fst_,fsi,fti,GST.out,GSI.out,GTI.out⟩
theorem zNM(bw:Nat)(Ah Au Av mv:Value)(n Cs Ct i j:Nat)(bss bst bsi:List Nat)(S T I:Nat->Nat->Int)(m0 m1 m2 m3:Int)(w:World)(hbw:Blk w bw tHW #[Ah,Au,Av])(h:zDy w Ah Au Av n Cs Ct bss bst bsi S T I)(hi:i<n)(hj:j<n)(hij:i≠j)(hm:M4V w mv m0 m1 m2 m3)
  (hn:n<=1000000) (hCs:Cs<=1000000) (hCt:Ct<=1000000) (hS:zNf Cs (S i) (S j) m0 m1 m2 m3) (hT:zNf Ct (T i) (T j) m0 m1 m2 m3) (hI:zNf Ct (I i) (I j) m3 (-m2) (-m1) m0) (hms:Sm m0/\Sm m1/\Sm m2/\Sm m3):
  Calls Tryz.prog 221 #[.pointer (some ⟨bw,0,none⟩),.int .i64 i,.int .i64 j,mv] w fun e w'=>(∃u,e= .returned u)/\zY (fun b=>b∈bss∨b∈bst∨b∈bsi) w w'/\Blk w' bw tHW #[Ah,Au,Av]∧
   zDy w' Ah Au Av n Cs Ct bss bst bsi (qO S i j m0 m1 m2 m3) (qO T i j m0 m1 m2 m3) (qO I i j m3 (-m2) (-m1) m0):=by
 obtain⟨so,sn,sc,rfl,s1,s2,s3,-⟩:=id (zS.rows h.s);obtain⟨uo,tn,tc,rfl,t1,t2,t3,-⟩:=id (zS.rows h.t);obtain⟨io,in_,ic,rfl,i1,i2,i3,-⟩:=id (zS.rows h.i);have HS:=xgv hS;have HT:=xgv hT;have HI:=xgv hI;have HK:=xgv hms;have hms':Sm m3/\Sm (-m2)/\Sm (-m1)/\Sm m0:=⟨hms.2.2.2,hms.2.2.1.mono (by rw[Int.natAbs_neg];exact xgf _),hms.2.1.mono (by rw[Int.natAbs_neg];exact xgf _),hms.1⟩;have HK2:=xgv hms';obtain⟨n0,a0,l0,c0,n1,a1,l1,c1,n2,a2,l2,c2,n3,a3,l3,c3,rfl,j0,j1,j2,j3⟩:=id hm;have HM0:=xgv (And.intro j0 (And.intro j1 (And.intro j2 j3)));clear hS hT hI hms hm hms' j0 j1 j2 j3;obtain⟨hs,ht,hi_,fst_,fsi,fti,gst,gsi,gti⟩:=h;have GST:=xgv gst;have GSI:=xgv gsi;have GTI:=xgv gti;clear gst gsi gti;have e1:n=sn:=by rw[<-s1];simp[zX]
 have e2:n=tn:=by rw[<-t1];simp[zX]
 have e3:n=in_:=by rw[<-i1];simp[zX]
 subst e1;subst e2;subst e3;clear s1 t1 i1;obtain⟨gs,_,rfl,-⟩:=zS.at_ hs (i:=i) (by rw[hs.len];exact hi);obtain⟨gt,_,rfl,-⟩:=zS.at_ ht (i:=i) (by rw[ht.len];exact hi);obtain⟨gi,_,rfl,-⟩:=zS.at_ hi_ (i:=i) (by rw[hi_.len];exact hi);have hlt:∀b,b∈bss∨b∈bst∨b∈bsi->b<w.heap.size:=fun b hb=>by
  rcases hb with hb|hb|hb
  ·exact(hs.blk hb).elim fun r hr=>hr.lt
  ·exact(ht.blk hb).elim fun r hr=>hr.lt
  ·exact(hi_.blk hb).elim fun r hr=>hr.lt
 go_enter Tryz.func221,Tryz.ntmps221;go_upto_region 1 with(fail)
 refine zB ?_;intro W0 hW0;obtain⟨hB0,bm,hs0⟩:=zK hW0;have bx:=hbw.below hB0;have hs:=hs.below hB0;have ht:=ht.below hB0;have hi_:=hi_.below hB0;have hO:=zY.of (fun b=>b∈bss∨b∈bst∨b∈bsi) hB0;have hl2:=zCD m3 (-m2);have hl3:=zCD (-m1) m0;have hl4:=zFy m3 (-m2) (-m1) m0;clear hW0 hbw;obtain⟨g1,bi,eg1,hg1,hbi1,hb1,o1,-⟩:=zS.at_ hs (i:=i) (by rw[hs.len];exact hi);obtain⟨g2,bj,eg2,hg2,hbj1,hb2,o2,-⟩:=zS.at_ hs (i:=j) (by rw[hs.len];exact hj);obtain rfl:gs=g1:=by injection eg1 with eg1;injection eg1
 obtain rfl:gs=g2:=by injection eg2 with eg2;injection eg2
 clear eg1 eg2 hb1 hb2;have hm1:=xgd hbi1;have hm2:=xgd hbj1;obtain⟨ri,hri⟩:=hs.blk hm1;obtain⟨rj,hrj⟩:=hs.blk hm2;obtain⟨x1,x2,x3,x4,x5,x6⟩:=bx.three;obtain⟨k0,k1,k2,k3,k4,k5,k6,k7⟩:=bm.eight;have lbx:=bx.lt;have lm:=bm.lt;have j0:=HM0.out.1.ext hO.lext;have j1:=HM0.out.2.1.ext hO.lext;have j2:=HM0.out.2.2.1.ext hO.lext;have j3:=HM0.out.2.2.2.ext hO.lext;refine zC 15 rfl (RI W0 (W0.heap.size) _ 35
   [VP 0 8 bw 0,VP 1 9 bw 0,VP 2 10 bw 0,VSl 3 11 gs n sc,VN 4 12 i,VP 5 13 gs i,VSl 6 14 bi Cs Cs,VP 7 15 bw 0,VP 8 16 bw 0,VP 9 17 bw 0,VSl 10 18 gs n sc,VN 11 19 j,VP 12 20 gs j,VSl 13 21 bj Cs Cs,E 14 22 (.agg #[.bool n0,.slice a0 l0 c0,.bool n1,.slice a1 l1 c1,.bool n2,.slice a2 l2 c2,.bool n3,.slice a3 l3 c3])] [] []) kR RI.start (RI.fin kR ?fin1) ?steps1
 case steps1=>
  refine⟨?_,?_,?_,?_,?_,?_,?_,?_,?_,?_,?_,?_,?_,?_,?_,trivial⟩<;>(intro L T wS hL hd hcl hI K hK;try refine zA rfl ?_)
  ·exact xgs (hI.k 0 rfl kR)
  ·exact xgs (hI.e mm0 (hd 0))
  ·exact xgs (hI.e mm1 (hd 1))
  ·have zt2:=hI.e mm2 (hd 2)
   have cc0:=hI.cell x1 oM nom;exact xgu
  ·exact xgs (hI.k 1 rfl kR)
  ·exact xgt (hI.e mm3 (hd 3)) (hI.e mm4 (hd 4))
  ·have zt5:=hI.e mm5 (hd 5)
   have cc0:=hI.cell o1 oM nom;exact xgu
  ·exact xgs (hI.k 0 rfl kR)
  ·exact xgs (hI.e mm7 (hd 7))
  ·exact xgs (hI.e mm8 (hd 8))
  ·have zt9:=hI.e mm9 (hd 9)
   have cc0:=hI.cell x1 oM nom;exact xgu
  ·exact xgs (hI.k 2 rfl kR)
  ·exact xgt (hI.e zAC (hd 10)) (hI.e zAJ (hd 11))
  ·have zt12:=hI.e zAo (hd 12)
   have cc0:=hI.cell o2 oM nom;exact xgu
  ·have zt:=hI.k 7 rfl kR
   have cc0:=hI.cell k0 oM nom;have cc1:=hI.cell k1 oM nom;have cc2:=hI.cell k2 oM nom;have cc3:=hI.cell k3 oM nom;have cc4:=hI.cell k4 oM nom;have cc5:=hI.cell k5 oM nom;have cc6:=hI.cell k6 oM nom;have cc7:=hI.cell k7 oM nom;exact xgu
 intro w8 hlw8 hbw8 holdw8 T hT;simp only[Fin,E,EI,VP,VSl,VN,xgg,xgh,xgi,xgj]at hT;subst hT;simp only[xgl,xgk];have hH8:=hs.below hbw8;have hri8:=hri.below hbw8;have hrj8:=hrj.below hbw8;clear o1 o2 x1 x2 x3 x4 x5 x6 k0 k1 k2 k3 k4 k5 k6 k7;go_wp2_with fail
 refine(zCu hH8 hi hj hij hbi1 hbj1 ⟨_,_,_,_,_,_,_,_,_,_,_,_,_,_,_,_,rfl,j0.ext (lx0 hbw8),j1.ext (lx0 hbw8),j2.ext (lx0 hbw8),j3.ext (lx0 hbw8)⟩ hCs HS.out HK.out).mono ?_;rintro e w9 ⟨⟨u,rfl⟩,ho,hH9⟩;have hk1:w.heap.size≠bi:=by have:=hlt bi (by simp[hm1]);omega
 have hk2:w.heap.size≠bj:=by have:=hlt bj (by simp[hm2]);omega
 have bx:=(bx.below hbw8).row2 ho hri8 hrj8 dE;have bm:Blk w9 w.heap.size 301 #[.bool n0,.slice a0 l0 c0,.bool n1,.slice a1 l1 c1,.bool n2,.slice a2 l2 c2,.bool n3,.slice a3 l3 c3]:=(bm.below hbw8).row2 ho hri8 hrj8 dE;have hO:=(hO.trans (zY.of _ hbw8)).trans (⟨ho.bel,ho.lext,fun k hk hn=>ho.old k hk (by simp;exact⟨fun e=>hn (by rw[e];simp[hm1]),fun e=>hn (by rw[e];simp[hm2])⟩)⟩:zY _ w8 w9);have ht:=(ht.below hbw8).only2 ho (fun hh=>fst_ _ hm1 hh) (fun hh=>fst_ _ hm2 hh) hri8 hrj8;have hi_:=(hi_.below hbw8).only2 ho (fun hh=>fsi _ hm1 hh) (fun hh=>fsi _ hm2 hh) hri8 hrj8;have hs:=hH9;clear ho hri8 hri hrj8 hrj hH8 hH9 hm1 hm2 hk1 hk2 hbi1 hbj1;go_upto_region 2 with(fail)
 obtain⟨g1,ci,eg1,hg1,hbi1,hb1,o1,-⟩:=zS.at_ ht (i:=i) (by rw[ht.len];exact hi);obtain⟨g2,cj,eg2,hg2,hbj1,hb2,o2,-⟩:=zS.at_ ht (i:=j) (by rw[ht.len];exact hj);obtain rfl:gt=g1:=by injection eg1 with eg1;injection eg1
 obtain rfl:gt=g2:=by injection eg2 with eg2;injection eg2
 clear eg1 eg2 hb1 hb2;have hm1:=xgd hbi1;have hm2:=xgd hbj1;obtain⟨ri,hri⟩:=ht.blk hm1;obtain⟨rj,hrj⟩:=ht.blk hm2;obtain⟨x1,x2,x3,x4,x5,x6⟩:=bx.three;obtain⟨k0,k1,k2,k3,k4,k5,k6,k7⟩:=bm.eight;have lbx:=bx.lt;have lm:=bm.lt;have j0:=HM0.out.1.ext hO.lext;have j1:=HM0.out.2.1.ext hO.lext;have j2:=HM0.out.2.2.1.ext hO.lext;have j3:=HM0.out.2.2.2.ext hO.lext;refine zC 15 rfl (RI w9 (w9.heap.size) _ 35
   [VP 0 24 bw 0,VP 1 25 bw 0,VP 2 26 bw 1,VSl 3 27 gt n tc,VN 4 28 i,VP 5 29 gt i,VSl 6 30 ci Ct Ct,VP 7 31 bw 0,VP 8 32 bw 0,VP 9 33 bw 1,VSl 10 34 gt n tc,VN 11 35 j,VP 12 36 gt j,VSl 13 37 cj Ct Ct,E 14 38 (.agg #[.bool n0,.slice a0 l0 c0,.bool n1,.slice a1 l1 c1,.bool n2,.slice a2 l2 c2,.bool n3,.slice a3 l3 c3])] [] []) kR RI.start (RI.fin kR ?fin2) ?steps2
 case steps2=>
  refine⟨?_,?_,?_,?_,?_,?_,?_,?_,?_,?_,?_,?_,?_,?_,?_,trivial⟩<;>(intro L T wS hL hd hcl hI K hK;try refine zA rfl ?_)
  ·exact xgs (hI.k 0 rfl kR)
  ·exact xgs (hI.e mm0 (hd 0))
  ·exact xgs (hI.e mm1 (hd 1))
  ·have zt2:=hI.e mm2 (hd 2)
   have cc0:=hI.cell x2 oM nom;exact xgu
  ·exact xgs (hI.k 1 rfl kR)
  ·exact xgt (hI.e mm3 (hd 3)) (hI.e mm4 (hd 4))
  ·have zt5:=hI.e mm5 (hd 5)
   have cc0:=hI.cell o1 oM nom;exact xgu
  ·exact xgs (hI.k 0 rfl kR)
  ·exact xgs (hI.e mm7 (hd 7))
  ·exact xgs (hI.e mm8 (hd 8))
  ·have zt9:=hI.e mm9 (hd 9)
   have cc0:=hI.cell x2 oM nom;exact xgu
  ·exact xgs (hI.k 2 rfl kR)
  ·exact xgt (hI.e zAC (hd 10)) (hI.e zAJ (hd 11))
  ·have zt12:=hI.e zAo (hd 12)
   have cc0:=hI.cell o2 oM nom;exact xgu
  ·have zt:=hI.k 7 rfl kR
   have cc0:=hI.cell k0 oM nom;have cc1:=hI.cell k1 oM nom;have cc2:=hI.cell k2 oM nom;have cc3:=hI.cell k3 oM nom;have cc4:=hI.cell k4 oM nom;have cc5:=hI.cell k5 oM nom;have cc6:=hI.cell k6 oM nom;have cc7:=hI.cell k7 oM nom;exact xgu
 intro w10 hlw10 hbw10 holdw10 T hT;simp only[Fin,E,EI,VP,VSl,VN,xgg,xgh,xgi,xgj]at hT;subst hT;simp only[xgl,xgk];have hH8:=ht.below hbw10;have hri8:=hri.below hbw10;have hrj8:=hrj.below hbw10;clear o1 o2 x1 x2 x3 x4 x5 x6 k0 k1 k2 k3 k4 k5 k6 k7;go_wp2_with fail
 refine(zCu hH8 hi hj hij hbi1 hbj1 ⟨_,_,_,_,_,_,_,_,_,_,_,_,_,_,_,_,rfl,j0.ext (lx0 hbw10),j1.ext (lx0 hbw10),j2.ext (lx0 hbw10),j3.ext (lx0 hbw10)⟩ hCt HT.out HK.out).mono ?_;rintro e w11 ⟨⟨u,rfl⟩,ho,hH9⟩;have hk1:w.heap.size≠ci:=by have:=hlt ci (by simp[hm1]);omega
 have hk2:w.heap.size≠cj:=by have:=hlt cj (by simp[hm2]);omega
 have bx:=(bx.below hbw10).row2 ho hri8 hrj8 dE;have bm:Blk w11 w.heap.size 301 #[.bool n0,.slice a0 l0 c0,.bool n1,.slice a1 l1 c1,.bool n2,.slice a2 l2 c2,.bool n3,.slice a3 l3 c3]:=(bm.below hbw10).row2 ho hri8 hrj8 dE;have hO:=(hO.trans (zY.of _ hbw10)).trans (⟨ho.bel,ho.lext,fun k hk hn=>ho.old k hk (by simp;exact⟨fun e=>hn (by rw[e];simp[hm1]),fun e=>hn (by rw[e];simp[hm2])⟩)⟩:zY _ w10 w11);have hs:=(hs.below hbw10).only2 ho (fun hh=>fst_ _ hh hm1) (fun hh=>fst_ _ hh hm2) hri8 hrj8;have hi_:=(hi_.below hbw10).only2 ho (fun hh=>fti _ hm1 hh) (fun hh=>fti _ hm2 hh) hri8 hrj8;have ht:=hH9;clear ho hri8 hri hrj8 hrj hH8 hH9 hm1 hm2 hk1 hk2 hbi1 hbj1;go_upto_region 3 with(fail)
 obtain⟨g1,di,eg1,hg1,hbi1,hb1,o1,-⟩:=zS.at_ hi_ (i:=i) (by rw[hi_.len];exact hi);obtain⟨g2,dj,eg2,hg2,hbj1,hb2,o2,-⟩:=zS.at_ hi_ (i:=j) (by rw[hi_.len];exact hj);obtain rfl:gi=g1:=by injection eg1 with eg1;injection eg1
 obtain rfl:gi=g2:=by injection eg2 with eg2;injection eg2
 clear eg1 eg2 hb1 hb2;have hm1:=xgd hbi1;have hm2:=xgd hbj1;obtain⟨ri,hri⟩:=hi_.blk hm1;obtain⟨rj,hrj⟩:=hi_.blk hm2;obtain⟨x1,x2,x3,x4,x5,x6⟩:=bx.three;obtain⟨k0,k1,k2,k3,k4,k5,k6,k7⟩:=bm.eight;have lbx:=bx.lt;have lm:=bm.lt;have j0:=HM0.out.1.ext hO.lext;have j1:=HM0.out.2.1.ext hO.lext;have j2:=HM0.out.2.2.1.ext hO.lext;have j3:=HM0.out.2.2.2.ext hO.lext;refine zC 31 rfl (RI w11 (w11.heap.size) _ 35
   [VP 0 40 bw 0,VP 1 41 bw 0,VP 2 42 bw 2,VSl 3 43 gi n ic,VN 4 44 i,VP 5 45 gi i,VSl 6 46 di Ct Ct,VP 7 47 bw 0,VP 8 48 bw 0,VP 9 49 bw 2,VSl 10 50 gi n ic,VN 11 51 j,VP 12 52 gi j,VSl 13 53 dj Ct Ct,VP 14 54 w.heap.size 4,VP 15 55 w.heap.size 6,E 16 56 (.agg #[.bool n3,.slice a3 l3 c3]),VP 17 57 w.heap.size 4,VP 18 58 w.heap.size 4,E 19 59 (.agg #[.bool n2,.slice a2 l2 c2]),EI 20 60 (-m2),⟨21,61,M2V m3 (-m2)⟩,VP 22 62 w.heap.size 0,VP 23 63 w.heap.size 2,E 24 64 (.agg #[.bool n1,.slice a1 l1 c1]),EI 25 65 (-m1),VP 26 66 w.heap.size 0,VP 27 67 w.heap.size 0,E 28 68 (.agg #[.bool n0,.slice a0 l0 c0]),⟨29,69,M2V (-m1) m0⟩,⟨30,70,fun w v=>M4V w v m3 (-m2) (-m1) m0⟩] [] []) kR RI.start (RI.fin kR ?fin3) ?steps3
 case steps3=>
  refine⟨?_,?_,?_,?_,?_,?_,?_,?_,?_,?_,?_,?_,?_,?_,?_,?_,?_,?_,?_,?_,?_,?_,?_,?_,?_,?_,?_,?_,?_,?_,?_,trivial⟩<;>(intro L T wS hL hd hcl hI K hK;try refine zA rfl ?_)
  ·exact xgs (hI.k 0 rfl kR)
  ·exact xgs (hI.e mm0 (hd 0))
  ·exact xgs (hI.e mm1 (hd 1))
  ·have zt2:=hI.e mm2 (hd 2)
   have cc0:=hI.cell x3 oM nom;exact xgu
  ·exact xgs (hI.k 1 rfl kR)
  ·exact xgt (hI.e mm3 (hd 3)) (hI.e mm4 (hd 4))
  ·have zt5:=hI.e mm5 (hd 5)
   have cc0:=hI.cell o1 oM nom;exact xgu
  ·exact xgs (hI.k 0 rfl kR)
  ·exact xgs (hI.e mm7 (hd 7))
  ·exact xgs (hI.e mm8 (hd 8))
  ·have zt9:=hI.e mm9 (hd 9)
   have cc0:=hI.cell x3 oM nom;exact xgu
  ·exact xgs (hI.k 2 rfl kR)
  ·exact xgt (hI.e zAC (hd 10)) (hI.e zAJ (hd 11))
  ·have zt12:=hI.e zAo (hd 12)
   have cc0:=hI.cell o2 oM nom;exact xgu
  ·exact xgs (hI.k 7 rfl kR)
  ·exact xgs (hI.e zBp (hd 14))
  ·have zt15:=hI.e zCS (hd 15)
   have cc0:=hI.cell k6 oM nom;have cc1:=hI.cell k7 oM nom;exact xgu
  ·exact xgs (hI.k 7 rfl kR)
  ·exact xgs (hI.e zEs (hd 17))
  ·have zt18:=hI.e zCT (hd 18)
   have cc0:=hI.cell k4 oM nom;have cc1:=hI.cell k5 oM nom;exact xgu
  ·have zt19:=hI.e zEt (hd 19)
   go_simp;refine(jN _ m2 _ (j2.ext hI.lext).weak HK.out.2.2.1).mono ?_;exact xgo
  ·have zt16:=hI.e zDs (hd 16)
   obtain⟨v20,zt20,h20⟩:=hI.vi zEZ (hd 20);obtain⟨a16,b16,d16,e16,x16,rfl,y16⟩:=id h20;go_simp;exact hK _ _ (hI.y zEa ⟨_,_,_,_,_,_,_,_,rfl,j3.ext hI.lext,h20⟩)
  ·exact xgs (hI.k 7 rfl kR)
  ·exact xgs (hI.e zFT (hd 22))
  ·have zt23:=hI.e zFU (hd 23)
   have cc0:=hI.cell k2 oM nom;have cc1:=hI.cell k3 oM nom;exact xgu
  ·have zt24:=hI.e zHM (hd 24)
   go_simp;refine(jN _ m1 _ (j1.ext hI.lext).weak HK.out.2.1).mono ?_;exact xgo
  ·exact xgs (hI.k 7 rfl kR)
  ·exact xgs (hI.e zIX (hd 26))
  ·have zt27:=hI.e zJL (hd 27)
   have cc0:=hI.cell k0 oM nom;have cc1:=hI.cell k1 oM nom;exact xgu
  ·obtain⟨v25,zt25,h25⟩:=hI.vi zEu (hd 25)
   have zt28:=hI.e zJq (hd 28);obtain⟨a21,b21,d21,e21,x21,rfl,y21⟩:=id h25;go_simp;exact hK _ _ (hI.y zIY ⟨_,_,_,_,_,_,_,_,rfl,h25,j0.ext hI.lext⟩)
  ·obtain⟨v21,zt21,h21⟩:=hI.v zEa (hd 21)
   obtain⟨v29,zt29,h29⟩:=hI.v zIY (hd 29);obtain⟨p0,p1,p2,p3,p4,p5,p6,p7,rfl,p8,p9⟩:=h21;obtain⟨q0,q1,q2,q3,q4,q5,q6,q7,rfl,q8,q9⟩:=h29;go_simp;exact hK _ _ (hI.y zLv ⟨_,_,_,_,_,_,_,_,_,_,_,_,_,_,_,_,rfl,p8,p9,q8,q9⟩)
 intro w12 hlw12 hbw12 holdw12 T hT;simp only[Fin,E,EI,VP,VSl,VN,xgg,xgh,xgi,xgj]at hT;obtain⟨vc20,hc20,vc21,hc21,vc25,hc25,vc29,hc29,vc30,hc30,rfl⟩:=hT;simp only[xgl,xgk];have hH8:=hi_.below hbw12;have hri8:=hri.below hbw12;have hrj8:=hrj.below hbw12;have hm4:M4V w12 vc30 m3 (-m2) (-m1) m0:=hc30;obtain⟨p0,p1,p2,p3,p4,p5,p6,p7,p8,p9,p10,p11,p12,p13,p14,p15,rfl,-⟩:=id hm4;clear o1 o2 x1 x2 x3 x4 x5 x6 k0 k1 k2 k3 k4 k5 k6 k7 j0 j1 j2 j3;go_wp2_with fail
 refine(zCu hH8 hi hj hij hbi1 hbj1 hm4 hCt HI.out HK2.out).mono ?_;rintro e w13 ⟨⟨u,rfl⟩,ho,hH9⟩;have hk1:w.heap.size≠di:=by have:=hlt di (by simp[hm1]);omega
 have hk2:w.heap.size≠dj:=by have:=hlt dj (by simp[hm2]);omega
 have bx:=(bx.below hbw12).row2 ho hri8 hrj8 dE;have bm:Blk w13 w.heap.size 301 #[.bool n0,.slice a0 l0 c0,.bool n1,.slice a1 l1 c1,.bool n2,.slice a2 l2 c2,.bool n3,.slice a3 l3 c3]:=(bm.below hbw12).row2 ho hri8 hrj8 dE;have hO:=(hO.trans (zY.of _ hbw12)).trans (⟨ho.bel,ho.lext,fun k hk hn=>ho.old k hk (by simp;exact⟨fun e=>hn (by rw[e];simp[hm1]),fun e=>hn (by rw[e];simp[hm2])⟩)⟩:zY _ w12 w13);have hs:=(hs.below hbw12).only2 ho (fun hh=>fsi _ hh hm1) (fun hh=>fsi _ hh hm2) hri8 hrj8;have ht:=(ht.below hbw12).only2 ho (fun hh=>fti _ hh hm1) (fun hh=>fti _ hh hm2) hri8 hrj8;go_wp2;exact bodyPost_end (results_none rfl _ _ _) rfl ⟨⟨_,rfl⟩,hO,bx,hs,ht,hH9,fst_,fsi,fti,GST.out,GSI.out,GTI.out⟩
end Go.Proofs.YtnbmaipobhppcaaGreat
