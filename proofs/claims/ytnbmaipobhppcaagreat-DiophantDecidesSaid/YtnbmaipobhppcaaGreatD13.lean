/- smith: addTo. smith: rows of matrices are written. smith: band.add. smith: rows are exchanged. What the echelon form, the reduction and the Smith form of package smith compute, in plain Lean. smith: band.exchange. smith: band.negate. smith: blend. smith: a band's steps, by what they do to its state. Elementary operations on rows: products, inverses, growth; and that smith's echelon form ends. Plain Lean. smith's echelon form (the mirror) ends, within bounds, in a Hermite normal form. Plain Lean. smith's take, reduce and echelon (the mirror) end within bounds. Plain Lean. -/
import Derived.Test.YtnbmaipobhppcaaGreatD12
set_option linter.unusedVariables false
set_option linter.unusedSimpArgs false
set_option linter.unusedSectionVars false
set_option maxHeartbeats 16000000
set_option maxRecDepth 100000
namespace Go.Proofs.YtnbmaipobhppcaaGreat
open Go.RowKit
structure yC(S:List Nat)(w w':World):Prop where
 bel:Below 0 w w'
 lext:yO w w'
 old:∀k,k<w.heap.size->k ∉ S->w'.heap[k]?=w.heap[k]?
theorem yC.refl(S:List Nat)(w:World):yC S w w:=⟨Below.refl _ _,yO.refl _,fun _ _ _=>rfl⟩
theorem yC.of{w w':World}(S:List Nat)(h:Below w.heap.size w w'):yC S w w':=⟨h.mono (Nat.zero_le _),lx h,fun k hk _=>h.block k hk⟩
theorem yC.trans{S:List Nat}{a b c:World}(h:yC S a b)(k:yC S b c):yC S a c:=
 ⟨h.bel.trans k.bel,h.lext.trans k.lext,fun i hi hn=>(k.old i (Nat.lt_of_lt_of_le hi h.bel.size) hn).trans (h.old i hi hn)⟩
theorem qC.only{S:List Nat}{w w':World}{b:Nat}{zs:List Int}(h:qC w b zs)(k:yC S w w')(hb:b ∉ S):qC w' b zs:=h.old (k.old b h.lt hb) k.lext
theorem qC.vec{w:World}{b n cap:Nat}{zs:List Int}(h:qC w b zs)(hn:zs.length=n)(hc:n<=cap)(hc2:cap<=9223372036854775807):qT w (.slice (some ⟨b,0,none⟩) n cap) zs:=
 ⟨_,_,_,rfl,hn,hc,hc2,fun _=>⟨b,rfl,h⟩⟩
def zM(n:Nat)(f:Nat->Int):List Int:=(List.range n).map f
theorem zD(n:Nat)(f:Nat->Int):(zM n f).length=n:=by simp[zM]
theorem zO{n:Nat}{f:Nat->Int}{j:Nat}(h:j<n):(zM n f)[j]?=some (f j):=by simp[zM,h]
theorem zAi{n:Nat}{f:Nat->Int}{j:Nat}(z:Int):(zM n f).set j z=zM n (fun t=>if t=j then z else f t):=by
 apply List.ext_getElem
 ·simp[zM]
 ·intro a h1 h2
  by_cases e:a=j
  ·subst e;simp[zM]
  ·have:j≠a:=fun h=>e h.symm
   simp[zM,this,e]
theorem zP{n:Nat}{f g:Nat->Int}(h:∀t,t<n->f t=g t):zM n f=zM n g:=by
 unfold zM;exact List.map_congr_left fun t ht=>h t (List.mem_range.1 ht)
def qA(f g:Nat->Int)(j:Nat):Nat->Int:=fun t=>if t<j then f t else g t
theorem zGP(bv bw n capv capw:Nat)(f g:Nat->Int)(kv:Value)(k:Int)(w:World)(hv:qC w bv (zM n f))(hw:qC w bw (zM n g))(hne:bv≠bw)(hk:zH w kv k)
  (hn:n<=1000000) (hcv:n<=capv) (hcv2:capv<=9223372036854775807) (hcw:n<=capw) (hcw2:capw<=9223372036854775807)
  (hS:∀t,t<n->Sm (f t)/\Sm (g t)/\Sm (k*g t)) (hks:Sm k):
  Calls Tryz.prog 158 #[.slice (some ⟨bv,0,none⟩) n capv,.slice (some ⟨bw,0,none⟩) n capw,kv] w fun e w'=>(∃u,e= .returned u)/\yC [bv] w w'/\qC w' bv (zM n (fun t=>f t+k*g t)):=by
 have HS:=xgv hS;have HK:=xgv hks;obtain⟨kn,ka,kl,kc,kx,rfl,hkx⟩:=id hk;have HKX:=xgw hkx;clear hS hks hkx;have hlv:=hv.lt;have hlw:=hw.lt;obtain⟨F,hF⟩:∃F:Nat->Int,(fun t=>f t+k*g t)=F:=⟨_,rfl⟩;rw[hF];have HF:qF (∀t,F t=f t+k*g t):=⟨fun t=>by rw[<-hF]⟩;clear hF;go_enter Tryz.func158,Tryz.ntmps158;go_upto_region 1 with(fail)
 refine zB ?_;intro W0 hW0;obtain⟨hB0,bx,hs0⟩:=zK hW0;have hv0:=hv.below hB0;have hw0:=hw.below hB0;have hk0:=hk.ext (lx hB0);have hst:zM n f=zM n (qA F f 0):=zP fun t _=>by unfold qA;rw[if_neg oM]
 rw[hst]at hv0;have hO:=yC.of [bv] hB0;clear hW0 hst hv hw hk;go_wp2;go_loopw [10] (fun jv wr=>∃j:Nat,j<=n/\jv= .int .i64 j/\yC [bv] w wr/\Blk wr w.heap.size 35 #[.bool kn,.slice ka kl kc]/\zH wr (.agg #[.bool kn,.slice ka kl kc]) k/\qC wr bw (zM n g)/\qC wr bv (zM n (qA F f j))) (fun jv _=>n-(intOf jv).toNat)
 case atStart=>exact⟨0,by omega,rfl,hO,bx,hk0,hw0,hv0⟩
 case round=>
  obtain⟨j,hj,rfl,hO,bx,hk,hw,hv⟩:=hrel;by_cases hlt:j<n
  ·obtain⟨xs,xa,xl,xc,p1,p2,-,-,hx⟩:=hw.cell (zO hlt)
   have hlw':=hw.lt;have hlb:=bx.lt;go_upto_region 4 with(fail)
   refine zB ?_;intro W6 hW6;obtain⟨hB6,T7,hs6⟩:=zK hW6;obtain⟨d1,d2,d3,d4⟩:=T7.two;have hO:=hO.trans (yC.of [bv] hB6);have bx:=bx.below hB6;have hk:=hk.ext (lx hB6);have hw:=hw.below hB6;have hv:=hv.below hB6;have hx:=hx.ext (lx hB6);clear p1 p2 hW6;go_wp2_with fail
   refine(qU _ (g j) W6 hx.weak).mono ?_;rintro e w7 ⟨rfl,hb7⟩;have hO:=hO.trans (yC.of [bv] hb7);have bx:=bx.below hb7;have hk:=hk.ext (lx hb7);have hw:=hw.below hb7;have hv:=hv.below hb7;have hx:=hx.ext (lx hb7);have T7:=T7.below hb7;clear d1 d2 d3 d4;by_cases hz0:g j=0
   ·rw [zA0 hz0]
    go_wp2;go_roundw
    case rel=>
     have hq:zM n (qA F f j)=zM n (qA F f (j+1)):=zP fun t _=>by
      unfold qA;by_cases h1:t<j
      ·rw[if_pos h1,if_pos oM]
      ·by_cases h2:t=j
       ·subst h2
        rw[if_neg h1,if_pos oM,HF.out,hz0,Int.mul_zero,Int.add_zero]
       ·rw[if_neg h1,if_neg oM]
     rw[hq]at hv;exact⟨j+1,by omega,by simp,hO,bx,hk,hw,hv⟩
    case measure=>simp[intOf];omega
   ·have hc:=zCc hz0
    obtain⟨k0,hk0⟩:∃k0,qJ (g j) 0=k0:=⟨_,rfl⟩;rw[hk0]at hc ⊢
    clear hk0;obtain⟨ys,ya,yl,yc,v1,v2,-,-,hy⟩:=hv.cell (zO hlt);have hyf:qA F f j j=f j:=by unfold qA;rw[if_neg oM]
    rw[hyf]at hy;obtain⟨d1,d2,d3,d4⟩:=T7.two;obtain⟨k1,k2,k3,k4⟩:=bx.two;have lv:=hv.lt;have lb:=bx.lt;have l7:=T7.lt;have HSJ:=xgv (HS.out j hlt);go_upto_region 5 with(fail)
    refine zC 11 rfl (RI w7 (w7.heap.size) _ 35
      [VSl 0 18 bv n capv,VN 1 19 j,VSl 2 20 bv n capv,VN 3 21 j,VP 4 22 bv (j*2),E 5 23 (.agg #[.bool ys,.slice ya yl yc]),E 6 24 (.agg #[.bool kn,.slice ka kl kc]),E 7 25 (.agg #[.bool xs,.slice xa xl xc]),EI 8 26 (k*g j),EI 9 27 (f j+k*g j),VP 10 28 bv (j*2)] [] []) kR RI.start (RI.fin kR ?fin1) ?steps1
    case steps1=>
     refine⟨?_,?_,?_,?_,?_,?_,?_,?_,?_,?_,?_,trivial⟩<;>(intro L T wS hL hd hcl hI K hK;try refine zA rfl ?_)
     ·exact xgs (hI.k 0 rfl kR)
     ·exact xgs (hI.k 6 rfl kR)
     ·exact xgs (hI.k 0 rfl kR)
     ·exact xgs (hI.k 6 rfl kR)
     ·exact xgt (hI.e mm2 (hd 2)) (hI.e mm3 (hd 3))
     ·have zt4:=hI.e mm4 (hd 4)
      have cc0:=hI.cell v1 oM nom;have cc1:=hI.cell v2 oM nom;exact xgu
     ·have zt:=hI.k 5 rfl kR
      have cc0:=hI.cell k1 oM nom;have cc1:=hI.cell k2 oM nom;exact xgu
     ·have zt:=hI.k 7 rfl kR
      have cc0:=hI.cell d1 oM nom;have cc1:=hI.cell d2 oM nom;exact xgu
     ·have zt6:=hI.e mm6 (hd 6)
      have zt7:=hI.e mm7 (hd 7);go_simp;refine(jM _ _ k (g j) _ (hk.ext hI.lext).weak (hx.ext hI.lext).weak HK.out HSJ.out.2.1).mono ?_;exact xgo
     ·have zt5:=hI.e mm5 (hd 5)
      obtain⟨v8,zt8,h8⟩:=hI.vi mm8 (hd 8);go_simp;refine(zBv _ _ (f j) (k*g j) _ (hy.ext hI.lext).weak h8.weak HSJ.out.1 HSJ.out.2.2).mono ?_;exact xgo
     ·exact xgt (hI.e mm0 (hd 0)) (hI.e mm1 (hd 1))
    intro w9 hlw9 hbw9 holdw9 T hT;simp only[Fin,E,EI,VP,VSl,VN,xgg,xgh,xgi,xgj]at hT;obtain⟨va8,ha8,va9,ha9,rfl⟩:=hT;simp only[xgl,xgk];obtain⟨pn,pa,pl,pc,px,rfl,hpx⟩:=id ha9;have HPX:=xgw hpx;clear hpx;have hv9:=hv.below hbw9;obtain⟨zs,za,zl,zc,z1,z2,z3,z4,-⟩:=hv9.cell (zO hlt);have hset:=hv9.set (k:=j) (by rw[zD];exact hlt) ha9;have hO:=hO.trans (yC.of [bv] hbw9);have hk:=hk.ext (lx hbw9);have bx:=bx.below hbw9;have hw:=hw.below hbw9;have hsz:=hO.bel.size;go_wp2;go_roundw
    case rel=>
     have hq:(zM n (qA F f j)).set j (f j+k*g j)=zM n (qA F f (j+1)):=by
      rw[zAi];exact zP fun t _=>by
       unfold qA;by_cases h2:t=j
       ·subst h2
        rw[if_pos rfl,if_pos oM,HF.out]
       ·rw[if_neg h2]
        by_cases h1:t<j
        ·rw[if_pos h1,if_pos oM]
        ·rw[if_neg h1,if_neg oM]
     rw[hq]at hset;refine⟨j+1,by omega,by simp,hO.trans ⟨zT (zT (Below.refl _ _) (Nat.zero_le _) _ _) (Nat.zero_le _) _ _,hset.2,fun i _ hi=>zR _ _ _ _ _ _ _ (by simpa using hi)⟩,(zR _ _ _ _ _ _ _ oM).trans bx,hk.ext hset.2,hw.old (zR _ _ _ _ _ _ _ (Ne.symm hne)) hset.2,hset.1⟩
    case measure=>simp[intOf];omega
  ·obtain rfl:j=n:=by omega
   have hq:zM j (qA F f j)=zM j F:=zP fun t ht=>by unfold qA;rw[if_pos ht]
   rw[hq]at hv;go_wp2;exact bodyPost_end (results_none rfl _ _ _) rfl ⟨⟨_,rfl⟩,hO,hv⟩
theorem zS.only{w w':World}{base:Nat}{A:Value}{C:Nat}{bs:List Nat}{M:List (List Int)}{S:List Nat}(h:zS w base A C bs M)(ho:yC S w w')(hd:∀b∈bs,b ∉ S)(hr:∀g∈S,∃r,qC w g r):zS w' base A C bs M:=by
 refine⟨⟨h.own.1,?_⟩,h.len,fun k b r h1 h2=>by
  obtain⟨e1,e2,e3⟩:=h.row k b r h1 h2;exact⟨e1,e2,e3.only ho (hd b (xgd h1))⟩,h.nodup,h.cb⟩
 rcases h.own.2 with h1|⟨g,cap,cur,e1,e2,e3,e4⟩
 ·exact .inl h1
 ·refine .inr ⟨g,cap,cur,e1,e2,?_,e4⟩
  refine(ho.old g (Array.getElem?_eq_some_iff.1 e3).1 ?_).trans e3;intro hg;obtain⟨r,hr⟩:=hr g hg;have:=zDA h.own hr;rw[e1]at this;exact this rfl
theorem zS.setRow{w w':World}{base:Nat}{A:Value}{C:Nat}{bs:List Nat}{M:List (List Int)}{i b:Nat}{r:List Int}(h:zS w base A C bs M)(hb:bs[i]?=some b)(ho:yC [b] w w')(hr:qC w' b r)(hl:r.length=C):
  zS w' base A C bs (M.set i r):=by
 have hib:=(xge.1 hb).1;have hiM:i<M.length:=by rw[h.len];exact hib
 obtain⟨r1,r2,r3⟩:=h.row i b M[i] hb (xga hiM);refine⟨⟨h.own.1,?_⟩,by simp[h.len],?_,h.nodup,h.cb⟩
 ·rcases h.own.2 with h1|⟨g,cap,cur,e1,e2,e3,e4⟩
  ·exact .inl h1
  ·refine .inr ⟨g,cap,cur,e1,e2,?_,e4⟩
   refine(ho.old g (Array.getElem?_eq_some_iff.1 e3).1 ?_).trans e3;intro hg;have:=zDA h.own r3;rw[e1]at this;simp at hg;exact this (by rw[hg];rfl)
 ·intro k b' r' hk hr'
  by_cases e:k=i
  ·subst e
   rw[hb]at hk;injection hk with hk
   subst hk;rw[List.getElem?_set_self hiM]at hr';injection hr' with hr'
   subst hr';exact⟨r1,hl,hr⟩
  ·rw[List.getElem?_set_ne (Ne.symm e)]at hr'
   obtain⟨f1,f2,f3⟩:=h.row k b' r' hk hr';have hkb:=(xge.1 hk).1;have hne:b'≠b:=by
    intro hh;subst hh;have h1:=(xge.1 hk).2;have h2:=(xge.1 hb).2;exact e ((List.getElem_inj h.nodup).1 (h1.trans h2.symm))
   exact⟨f1,f2,f3.only ho (by simpa using hne)⟩
def zAt(F:Nat->Nat->Int)(i j:Nat)(k:Int):Nat->Nat->Int:=fun a b=>if a=i then F i b+k*F j b else F a b
theorem zJc{R C:Nat}{F:Nat->Nat->Int}{i j:Nat}{k:Int}(hi:i<R):(zX R C F).set i (zM C (fun t=>F i t+k*F j t))=zX R C (zAt F i j k):=by
 apply List.ext_getElem
 ·simp[zX]
 ·intro a h1 h2
  by_cases e:a=i
  ·subst e
   rw[List.getElem_set_self];simp[zX,zM,zAt]
  ·have e3:i≠a:=fun h=>e h.symm
   rw[List.getElem_set_ne e3];simp[zX,zAt,e]
theorem zS.rowAt{w:World}{base:Nat}{A:Value}{R C:Nat}{bs:List Nat}{F:Nat->Nat->Int}(h:zS w base A C bs (zX R C F)){i:Nat}(hi:i<R):∃b,bs[i]?=some b/\qC w b (zM C (F i)):=by
 have hl:bs.length=R:=by rw[<-h.len];simp[zX]
 refine⟨bs[i],xga oM,?_⟩;exact(h.row i bs[i] (zM C (F i)) (xga oM) (zAW R C F hi)).2.2
theorem zFh{w:World}{base:Nat}{A:Value}{R C:Nat}{bs:List Nat}{F:Nat->Nat->Int}(h:zS w base A C bs (zX R C F)){i j bi bj:Nat}(hi:i<R)(hj:j<R)(hij:i≠j)(hbi:bs[i]?=some bi)(hbj:bs[j]?=some bj)(kv:Value)(k:Int)
  (hk:zH w kv k) (hC:C<=1000000) (hS:∀t,t<C->Sm (F i t)/\Sm (F j t)/\Sm (k*F j t)) (hks:Sm k):
  Calls Tryz.prog 158 #[.slice (some ⟨bi,0,none⟩) C C,.slice (some ⟨bj,0,none⟩) C C,kv] w fun e w'=>(∃u,e= .returned u)/\yC [bi] w w'/\zS w' base A C bs (zX R C (zAt F i j k)):=by
 obtain⟨b1,e1,r1⟩:=h.rowAt hi;obtain⟨b2,e2,r2⟩:=h.rowAt hj;obtain rfl:b1=bi:=Option.some.inj (e1.symm.trans hbi);obtain rfl:b2=bj:=Option.some.inj (e2.symm.trans hbj);have hne:b1≠b2:=by
  intro hh;subst hh;obtain⟨f1,f2⟩:=xge.1 e1;obtain⟨g1,g2⟩:=xge.1 e2;exact hij ((List.getElem_inj h.nodup).1 (f2.trans g2.symm))
 refine(zGP b1 b2 C C C (F i) (F j) kv k w r1 r2 hne hk hC (xgf _) oM (xgf _) oM hS hks).mono ?_;rintro e w' ⟨hu,ho,hr⟩;refine⟨hu,ho,?_⟩;rw[<-zJc hi];exact h.setRow e1 ho hr (zD _ _)
def Wri(w:World)(A:Value)(R C:Nat)(bs:List Nat)(F:Nat->Nat->Int):Prop:=zS w 0 A C bs (zX R C F)
theorem Wri.below{w w':World}{A:Value}{R C:Nat}{bs:List Nat}{F:Nat->Nat->Int}(h:Wri w A R C bs F)(hb:Below w.heap.size w w'):Wri w' A R C bs F:=zS.below h hb
theorem Wri.len{w:World}{A:Value}{R C:Nat}{bs:List Nat}{F:Nat->Nat->Int}(h:Wri w A R C bs F):bs.length=R:=by rw[<-zS.len h];simp[zX]
theorem Wri.blk{w:World}{A:Value}{R C:Nat}{bs:List Nat}{F:Nat->Nat->Int}(h:Wri w A R C bs F){b:Nat}(hb:b∈bs):∃r,qC w b r:=by
 obtain⟨k,hk,e⟩:=List.getElem_of_mem hb;have hl:=h.len;obtain⟨b',e1,e2⟩:=zS.rowAt h (i:=k) oM;rw[xga hk,e]at e1;injection e1 with e1
 subst e1;exact⟨_,e2⟩
theorem Wri.only{w w':World}{A:Value}{R C:Nat}{bs:List Nat}{F:Nat->Nat->Int}{b:Nat}{r:List Int}(h:Wri w A R C bs F)(ho:yC [b] w w')(hn:b ∉ bs)(hr:qC w b r):Wri w' A R C bs F:=
 zS.only h ho (fun x hx=>by
  intro hh;simp at hh;subst hh;exact hn hx) (fun g hg=>by
  simp at hg;subst hg;exact⟨_,hr⟩)
def Far(xs ys:List Nat):Prop:=∀b,b∈xs->b ∉ ys
structure zDy(w:World)(As At Ai:Value)(n Cs Ct:Nat)(bss bst bsi:List Nat)(S T I:Nat->Nat->Int):Prop where
 s:Wri w As n Cs bss S
 t:Wri w At n Ct bst T
 i:Wri w Ai n Ct bsi I
 st:Far bss bst
 si:Far bss bsi
 ti:Far bst bsi
 ast:∀g,As.ownBlock=some g->At.ownBlock≠some g
 asi:∀g,As.ownBlock=some g->Ai.ownBlock≠some g
 ati:∀g,At.ownBlock=some g->Ai.ownBlock≠some g
abbrev tRR:TypeId:=26
def zJt(C:Nat)(F:Nat->Nat->Int)(i j:Nat)(k:Int):Prop:=∀t,t<C->Sm (F i t)/\Sm (F j t)/\Sm (k*F j t)
def swp(i j:Nat)(k:Nat):Nat:=if k=i then j else if k=j then i else k
def zRL(bs:List Nat)(i j:Nat):List Nat:=(bs.set i (bs.getD j 0)).set j (bs.getD i 0)
def zFd(F:Nat->Nat->Int)(i j:Nat):Nat->Nat->Int:=fun a b=>F (swp i j a) b
def zAq(F:Nat->Nat->Int)(i:Nat):Nat->Nat->Int:=fun a b=>if a=i then-(F a b)else F a b
def trF(F:Nat->Nat->Int):Nat->Nat->Int:=fun a b=>F b a
def qO(F:Nat->Nat->Int)(i j:Nat)(m0 m1 m2 m3:Int):Nat->Nat->Int:=fun a b=>if a=i then m0*F i b+m1*F j b else if a=j then m2*F i b+m3*F j b else F a b
structure Bst where
 s:Nat->Nat->Int
 t:Nat->Nat->Int
 i:Nat->Nat->Int
def Bst.add(x:Bst)(i j:Nat)(k:Int):Bst:=⟨zAt x.s i j k,zAt x.t i j k,zAt x.i j i (-k)⟩
def Bst.swap(x:Bst)(i j:Nat):Bst:=⟨zFd x.s i j,zFd x.t i j,zFd x.i i j⟩
def Bst.neg(x:Bst)(i:Nat):Bst:=⟨zAq x.s i,zAq x.t i,zAq x.i i⟩
def okF(B R C:Nat)(F:Nat->Nat->Int):Prop:=∀a,a<R->∀b,b<C->(F a b).natAbs<B
instance (B R C:Nat) (F:Nat->Nat->Int):Decidable (okF B R C F):=by unfold okF;infer_instance
def okB(B n Cs Ct:Nat)(x:Bst):Prop:=okF B n Cs x.s/\okF B n Ct x.t/\okF B n Ct x.i
instance (B n Cs Ct:Nat) (x:Bst):Decidable (okB B n Cs Ct x):=by unfold okB;infer_instance
def zDa(B n Cs Ct:Nat)(x:Bst)(i j:Nat)(k:Int):Prop:=
 k.natAbs<B/\(∀t,t<Cs->(k*x.s j t).natAbs<B)/\(∀t,t<Ct->(k*x.t j t).natAbs<B/\(k*x.i i t).natAbs<B)/\okB B n Cs Ct (x.add i j k)
instance (B n Cs Ct:Nat) (x:Bst) (i j:Nat) (k:Int):Decidable (zDa B n Cs Ct x i j k):=by unfold zDa;infer_instance
def lead(C:Nat)(F:Nat->Nat->Int)(i:Nat):Int:=zBo 0 (zM C (F i))
def adv(L:Nat->Int)(c:Int):Nat->Nat->Nat
 |0,k=>k
 |m+1,k=>if L k<c then adv L c m (k+1)else k
def zQT(k:Nat):Nat->Bst->Bst
 |0,x=>x
 |m+1,x=>zQT k m (x.swap (k+m+1) (k+m))
def zNb(B n Cs Ct m rank:Nat):Nat->Nat->Bst->Option (Bst × Bool)
 |0,_,_=>none
 | f +1,k,x=>
  if lead Cs x.s m<0 then some (x,false)
  else if adv (lead Cs x.s) (lead Cs x.s m) (rank-k) k<rank/\lead Cs x.s (adv (lead Cs x.s) (lead Cs x.s m) (rank-k) k)=lead Cs x.s m then
   if zDa B n Cs Ct x m (adv (lead Cs x.s) (lead Cs x.s m) (rank-k) k) (-(x.s m (lead Cs x.s m).toNat/x.s (adv (lead Cs x.s) (lead Cs x.s m) (rank-k) k) (lead Cs x.s m).toNat))then
    zNb B n Cs Ct m rank f (adv (lead Cs x.s) (lead Cs x.s m) (rank-k) k)
     (if x.s m (lead Cs x.s m).toNat%x.s (adv (lead Cs x.s) (lead Cs x.s m) (rank-k) k) (lead Cs x.s m).toNat=0 then x.add m (adv (lead Cs x.s) (lead Cs x.s m) (rank-k) k) (-(x.s m (lead Cs x.s m).toNat/x.s (adv (lead Cs x.s) (lead Cs x.s m) (rank-k) k) (lead Cs x.s m).toNat))
      else(x.add m (adv (lead Cs x.s) (lead Cs x.s m) (rank-k) k) (-(x.s m (lead Cs x.s m).toNat/x.s (adv (lead Cs x.s) (lead Cs x.s m) (rank-k) k) (lead Cs x.s m).toNat))).swap m (adv (lead Cs x.s) (lead Cs x.s m) (rank-k) k))
   else none
  else some (zQT (adv (lead Cs x.s) (lead Cs x.s m) (rank-k) k) (rank-adv (lead Cs x.s) (lead Cs x.s m) (rank-k) k) ((if x.s m (lead Cs x.s m).toNat<0 then x.neg m else x).swap m rank),true)
def zPi(B n Cs Ct:Nat)(cols:Nat->Int)(i:Nat):Nat->Nat->Bst->Option Bst
 |0,_,x=>some x
 |m+1,j,x=>
  if cols j<0 then none
  else if x.s i (cols j).toNat=0 then zPi B n Cs Ct cols i m (j+1) x
  else if x.s j (cols j).toNat=0 then none
  else if x.s i (cols j).toNat/x.s j (cols j).toNat=0 then zPi B n Cs Ct cols i m (j+1) x
  else if zDa B n Cs Ct x i j (-(x.s i (cols j).toNat/x.s j (cols j).toNat))then zPi B n Cs Ct cols i m (j+1) (x.add i j (-(x.s i (cols j).toNat/x.s j (cols j).toNat)))
  else none
def zQS(B n Cs Ct:Nat)(cols:Nat->Int)(rank:Nat):Nat->Bst->Option Bst
 |0,x=>some x
 |i+1,x=>(zPi B n Cs Ct cols i (rank-(i+1)) (i+1) x).bind (zQS B n Cs Ct cols rank i)
def zOe(B n Cs Ct rank:Nat)(x:Bst):Option Bst:=zQS B n Cs Ct (lead Cs x.s) rank rank x
def zO8(B n Cs Ct f:Nat):Nat->Nat->Nat->Bst->Option Bst
 |0,_,_,x=>some x
 |l+1,m,rank,x=>
  (zNb B n Cs Ct m rank f 0 x).bind fun r=>(zOe B n Cs Ct (if r.2 then rank+1 else rank) r.1).bind fun y=>zO8 B n Cs Ct f l (m+1) (if r.2 then rank+1 else rank) y
def zQM(B n Cs Ct f:Nat)(x:Bst):Option Bst:=zO8 B n Cs Ct f n 0 0 x
structure W5 where
 s:Nat->Nat->Int
 u:Nat->Nat->Int
 v:Nat->Nat->Int
 w:Nat->Nat->Int
 x:Nat->Nat->Int
def zPV(B R C Cu Cw f:Nat)(z:W5):Option W5:=
 (zQM B R C Cu f ⟨z.s,z.u,z.v⟩).bind fun a=>(zQM B C R Cw f ⟨trF a.s,z.w,z.x⟩).bind fun b=>some ⟨trF b.s,a.t,a.i,b.t,b.i⟩
def zKG(R C:Nat)(F:Nat->Nat->Int):Prop:=∀a,a<R->∀b,b<C->a≠b->F a b=0
instance (R C:Nat) (F:Nat->Nat->Int):Decidable (zKG R C F):=by unfold zKG;infer_instance
def zPW(B R C Cu Cw f:Nat):Nat->W5->Option W5
 |0,_=>none
 |r+1,z=>(zPV B R C Cu Cw f z).bind fun y=>if zKG R C y.s then some y else zPW B R C Cu Cw f r y
def zQL(F:Nat->Nat->Int)(i j:Nat):Nat->Nat->Int:=fun a b=>if a=j/\b=j then F i i*(F j j/((Int.gcd (F i i) (F j j):Nat):Int))else if a=i/\b=i then((Int.gcd (F i i) (F j j):Nat):Int)else F a b
def zQo(z:W5)(i j:Nat)(s t:Int):W5:=
 ⟨zQL z.s i j,qO z.u i j s t (-(z.s j j/((Int.gcd (z.s i i) (z.s j j):Nat):Int))) (z.s i i/((Int.gcd (z.s i i) (z.s j j):Nat):Int)),
  qO z.v i j (z.s i i/((Int.gcd (z.s i i) (z.s j j):Nat):Int)) (z.s j j/((Int.gcd (z.s i i) (z.s j j):Nat):Int)) (-t) s,
  qO z.w i j 1 1 (-(t*(z.s j j/((Int.gcd (z.s i i) (z.s j j):Nat):Int)))) (1-t*(z.s j j/((Int.gcd (z.s i i) (z.s j j):Nat):Int))),
  qO z.x i j (1-t*(z.s j j/((Int.gcd (z.s i i) (z.s j j):Nat):Int))) (t*(z.s j j/((Int.gcd (z.s i i) (z.s j j):Nat):Int))) (-1) 1⟩
def Bez(x y s t:Int):Prop:=s*x+t*y=((Int.gcd x y:Nat):Int)/\s.natAbs<=max 1 y.natAbs/\t.natAbs<=max 1 x.natAbs
inductive zPk (n:Nat):W5->W5->Prop
 |refl (z:W5):zPk n z z
 |step (z y:W5) (i j:Nat) (s t:Int):zPk n z y->i<j->j<n->¬ y.s i i∣y.s j j->Bez (y.s i i) (y.s j j) s t->zPk n z (zQo y i j s t)
def zQK(i:Nat):Nat->Nat->(Nat->Nat->Int)->(Nat->Nat->Int)
 |0,_,F=>F
 |m+1,j,F=>zQK i m (j+1) (if F i i∣F j j then F else zQL F i j)
def zQn:Nat->Nat->(Nat->Nat->Int)->(Nat->Nat->Int)
 |0,_,F=>F
 |m+1,i,F=>zQn m (i+1) (zQK i m (i+1) F)
example:(zPW 1000000 2 1 2 1 20 5 ⟨fun a _=>if a=0 then 4 else 6,fun a b=>if a=b then 1 else 0,fun a b=>if a=b then 1 else 0,fun _ _=>1,fun _ _=>1⟩).map (fun z=>(z.s 0 0,z.s 1 0,z.u 0 0,z.u 0 1,z.u 1 0,z.u 1 1))=some (2,0,-1,1,3,-2):=by decide
structure zY(Z:Nat->Prop)(w w':World):Prop where
 bel:Below 0 w w'
 lext:yO w w'
 old:∀k,k<w.heap.size->¬ Z k->w'.heap[k]?=w.heap[k]?
theorem zY.refl(Z:Nat->Prop)(w:World):zY Z w w:=⟨Below.refl _ _,yO.refl _,fun _ _ _=>rfl⟩
theorem zY.of{w w':World}(Z:Nat->Prop)(h:Below w.heap.size w w'):zY Z w w':=⟨h.mono (Nat.zero_le _),lx h,fun k hk _=>h.block k hk⟩
theorem zY.trans{Z:Nat->Prop}{a b c:World}(h:zY Z a b)(k:zY Z b c):zY Z a c:=
 ⟨h.bel.trans k.bel,h.lext.trans k.lext,fun i hi hn=>(k.old i (Nat.lt_of_lt_of_le hi h.bel.size) hn).trans (h.old i hi hn)⟩
theorem zY.mono{Z Z':Nat->Prop}{w w':World}(h:zY Z w w')(hs:∀k,k<w.heap.size->Z k->Z' k):zY Z' w w':=⟨h.bel,h.lext,fun k hk hn=>h.old k hk (fun hh=>hn (hs k hk hh))⟩
theorem zY.blk{Z:Nat->Prop}{w w':World}{b:Nat}{T:TypeId}{cs:Array Value}(h:zY Z w w')(hb:Blk w b T cs)(hz:¬ Z b):Blk w' b T cs:=(h.old b hb.lt hz).trans hb
theorem zJd{R C:Nat}{F:Nat->Nat->Int}{i:Nat}(hi:i<R):(zX R C F).set i (zM C (fun t=>-F i t))=zX R C (zAq F i):=by
 apply List.ext_getElem
 ·simp[zX]
 ·intro a h1 h2
  by_cases e:a=i
  ·subst e
   rw[List.getElem_set_self];simp[zX,zM,zAq]
  ·have e3:i≠a:=fun h=>e h.symm
   rw[List.getElem_set_ne e3];simp[zX,zAq,e]
theorem Wri.negRow{w w':World}{A:Value}{R C:Nat}{bs:List Nat}{F:Nat->Nat->Int}(h:Wri w A R C bs F){i b:Nat}(hi:i<R)(hb:bs[i]?=some b)(ho:yC [b] w w')(hr:qC w' b (zM C (fun t=>-F i t))):Wri w' A R C bs (zAq F i):=by
 unfold Wri;rw[<-zJd hi];exact zS.setRow h hb ho hr (zD _ _)
theorem Wri.rowAt{w:World}{A:Value}{R C:Nat}{bs:List Nat}{F:Nat->Nat->Int}(h:Wri w A R C bs F){i b:Nat}(hi:i<R)(hb:bs[i]?=some b):qC w b (zM C (F i)):=by
 obtain⟨b',e1,e2⟩:=zS.rowAt h hi;obtain rfl:b'=b:=Option.some.inj (e1.symm.trans hb);exact e2
def M4V(w:World)(v:Value)(m0 m1 m2 m3:Int):Prop:=
 ∃s0 a0 l0 c0 s1 a1 l1 c1 s2 a2 l2 c2 s3 a3 l3 c3,v= .agg #[.bool s0,.slice a0 l0 c0,.bool s1,.slice a1 l1 c1,.bool s2,.slice a2 l2 c2,.bool s3,.slice a3 l3 c3]∧
  zH w (.agg #[.bool s0,.slice a0 l0 c0]) m0/\zH w (.agg #[.bool s1,.slice a1 l1 c1]) m1/\zH w (.agg #[.bool s2,.slice a2 l2 c2]) m2/\zH w (.agg #[.bool s3,.slice a3 l3 c3]) m3
theorem M4V.ext{w w':World}{v:Value}{m0 m1 m2 m3:Int}(h:M4V w v m0 m1 m2 m3)(x:yO w w'):M4V w' v m0 m1 m2 m3:=by
 obtain⟨s0,a0,l0,c0,s1,a1,l1,c1,s2,a2,l2,c2,s3,a3,l3,c3,e,h0,h1,h2,h3⟩:=h;exact⟨s0,a0,l0,c0,s1,a1,l1,c1,s2,a2,l2,c2,s3,a3,l3,c3,e,h0.ext x,h1.ext x,h2.ext x,h3.ext x⟩
theorem Blk.eight{w:World}{g:Nat}{t:TypeId}{c0 c1 c2 c3 c4 c5 c6 c7:Value}(h:Blk w g t #[c0,c1,c2,c3,c4,c5,c6,c7]):
  w.cell? ⟨g,0,none⟩=some c0/\w.cell? ⟨g,1,none⟩=some c1/\w.cell? ⟨g,2,none⟩=some c2/\w.cell? ⟨g,3,none⟩=some c3/\w.cell? ⟨g,4,none⟩=some c4/\w.cell? ⟨g,5,none⟩=some c5/\w.cell? ⟨g,6,none⟩=some c6/\w.cell? ⟨g,7,none⟩=some c7:=
 ⟨h.cell 0,h.cell 1,h.cell 2,h.cell 3,h.cell 4,h.cell 5,h.cell 6,h.cell 7⟩
def zNf(n:Nat)(f g:Nat->Int)(m0 m1 m2 m3:Int):Prop:=∀t,t<n->Sm (f t)/\Sm (g t)/\Sm (m0*f t)/\Sm (m1*g t)/\Sm (m2*f t)/\Sm (m3*g t)
theorem Blk.put_at{w W:World}{b i j:Nat}{u v:Value}(hW:Hid (W=(w.setCell ⟨b,i,none⟩ u).setCell ⟨b,j,none⟩ v)){g:Nat}{t:TypeId}{cs:Array Value}(h:Blk w g t cs)(hne:g≠b):Blk W g t cs:=by
 rw[hW.out];exact(zR _ _ _ _ _ _ _ hne).trans h
theorem yC.put_at{w W:World}{b i j:Nat}{u v:Value}(hW:Hid (W=(w.setCell ⟨b,i,none⟩ u).setCell ⟨b,j,none⟩ v)){S:List Nat}(hb:b∈S)(hx:yO w W):yC S w W:=by
 refine⟨?_,hx,fun k _ hk=>?_⟩
 ·rw[hW.out]
  exact zT (zT (Below.refl _ _) (Nat.zero_le _) _ _) (Nat.zero_le _) _ _
 ·rw[hW.out]
  exact zR _ _ _ _ _ _ _ (fun e=>hk (e ▸ hb))
theorem qC.put_at{w W:World}{b i j:Nat}{u v:Value}(hW:Hid (W=(w.setCell ⟨b,i,none⟩ u).setCell ⟨b,j,none⟩ v)){g:Nat}{r:List Int}(h:qC w g r)(hne:g≠b)(hx:yO w W):qC W g r:=
 h.old (by rw[hW.out];exact zR _ _ _ _ _ _ _ hne) hx
theorem qC.set_at{w W:World}{b:Nat}{zs:List Int}{k:Nat}{s:Bool}{a:Option Addr}{l c:Nat}(hW:Hid (W=(w.setCell ⟨b,k*2,none⟩ (.bool s)).setCell ⟨b,k*2+1,none⟩ (.slice a l c)))(h:qC w b zs)(hk:k<zs.length){z:Int}(hv:zH w (.agg #[.bool s,.slice a l c]) z):
  qC W b (zs.set k z)/\yO w W:=by
 rw[hW.out];exact h.set hk hv
theorem zEE{n:Nat}{F f:Nat->Int}{j:Nat}{z:Int}(hz:z=F j):(zM n (qA F f j)).set j z=zM n (qA F f (j+1)):=by
 rw[zAi];exact zP fun t _=>by
  unfold qA;by_cases h2:t=j
  ·subst h2
   rw[if_pos rfl,if_pos oM,hz]
  ·rw[if_neg h2]
   by_cases h1:t<j
   ·rw[if_pos h1,if_pos oM]
   ·rw[if_neg h1,if_neg oM]
theorem zJ5(bv bw n capv capw:Nat)(f g:Nat->Int)(mv:Value)(m0 m1 m2 m3:Int)(w:World)(hv:qC w bv (zM n f))(hw:qC w bw (zM n g))(hne:bv≠bw)(hm:M4V w mv m0 m1 m2 m3)
  (hn:n<=1000000) (hcv:n<=capv) (hcv2:capv<=9223372036854775807) (hcw:n<=capw) (hcw2:capw<=9223372036854775807)
  (hS:zNf n f g m0 m1 m2 m3) (hms:Sm m0/\Sm m1/\Sm m2/\Sm m3):
  Calls Tryz.prog 261 #[.slice (some ⟨bv,0,none⟩) n capv,.slice (some ⟨bw,0,none⟩) n capw,mv] w fun e w'=>(∃u,e= .returned u)/\yC [bv,bw] w w'∧
   qC w' bv (zM n (fun t=>m0*f t+m1*g t))/\qC w' bw (zM n (fun t=>m2*f t+m3*g t)):=by
 have HS:=xgv hS;have HK:=xgv hms;have HM:=xgv hm;obtain⟨s0,a0,l0,c0,s1,a1,l1,c1,s2,a2,l2,c2,s3,a3,l3,c3,rfl,-⟩:=id hm;clear hS hms hm;have hlv:=hv.lt;have hlw:=hw.lt;obtain⟨F,hF⟩:∃F:Nat->Int,(fun t=>m0*f t+m1*g t)=F:=⟨_,rfl⟩;obtain⟨G,hG⟩:∃G:Nat->Int,(fun t=>m2*f t+m3*g t)=G:=⟨_,rfl⟩;rw[hF,hG];have HF:qF (∀t,F t=m0*f t+m1*g t):=⟨fun t=>by rw[<-hF]⟩;have HG:qF (∀t,G t=m2*f t+m3*g t):=⟨fun t=>by rw[<-hG]⟩;clear hF hG;go_enter Tryz.func261,Tryz.ntmps261;go_upto_region 1 with(fail)
 refine zB ?_;intro W0 hW0;obtain⟨hB0,bx,hs0⟩:=zK hW0;have hv0:=hv.below hB0;have hw0:=hw.below hB0;have hm0:=HM.out.ext (lx hB0);have hst:∀(a b:Nat->Int),zM n a=zM n (qA b a 0):=fun a b=>zP fun t _=>by unfold qA;rw[if_neg oM]
 rw[hst f F]at hv0;rw[hst g G]at hw0;have hO:=yC.of [bv,bw] hB0;have HM0:=xgv hm0;clear hW0 hst hv hw hm0;go_wp2;go_loopw [11] (fun jv wr=>∃j:Nat,j<=n/\jv= .int .i64 j/\yC [bv,bw] w wr/\Blk wr w.heap.size 301 #[.bool s0,.slice a0 l0 c0,.bool s1,.slice a1 l1 c1,.bool s2,.slice a2 l2 c2,.bool s3,.slice a3 l3 c3]/\qF (M4V wr (.agg #[.bool s0,.slice a0 l0 c0,.bool s1,.slice a1 l1 c1,.bool s2,.slice a2 l2 c2,.bool s3,.slice a3 l3 c3]) m0 m1 m2 m3)/\qC wr bw (zM n (qA G g j))/\qC wr bv (zM n (qA F f j))) (fun jv _=>n-(intOf jv).toNat)
 case atStart=>exact⟨0,by omega,rfl,hO,bx,HM0,hw0,hv0⟩
 case round=>
  obtain⟨j,hj,rfl,hO,bx,HMr,hw,hv⟩:=hrel;by_cases hlt:j<n
  ·obtain⟨xs,xa,xl,xc,p1,p2,-,-,hx⟩:=hv.cell (zO hlt)
   obtain⟨ys,ya,yl,yc,q1,q2,-,-,hy⟩:=hw.cell (zO hlt);have hxf:qA F f j j=f j:=by unfold qA;rw[if_neg oM]
   have hyf:qA G g j j=g j:=by unfold qA;rw[if_neg oM]
   rw[hxf]at hx;rw[hyf]at hy;have hlw':=hw.lt;have hlv':=hv.lt;have hlb:=bx.lt;have hOsz:=hO.bel.size;go_upto_region 5 with(fail)
   refine zB ?_;intro W6 hW6;obtain⟨hB6,T7,T8,hs6⟩:=qI hW6;obtain⟨d1,d2,d3,d4⟩:=T7.two;obtain⟨e1,e2,e3,e4⟩:=T8.two;have hO:=hO.trans (yC.of [bv,bw] hB6);have bx:=bx.below hB6;have HMr:=xgv (HMr.out.ext (lx hB6));have hw:=hw.below hB6;have hv:=hv.below hB6;have hx:=hx.ext (lx hB6);have hy:=hy.ext (lx hB6);clear p1 p2 q1 q2 hW6;obtain⟨k0,k1,k2,k3,k4,k5,k6,k7⟩:=bx.eight;have lv:=hv.lt;have lb:=bx.lt;have l7:=T7.lt;have l8:=T8.lt;have HSJ:=xgv (HS.out j hlt);obtain⟨s0',a0',l0',c0',s1',a1',l1',c1',s2',a2',l2',c2',s3',a3',l3',c3',hee,i0,i1,i2,i3⟩:=HMr.out;injection hee with hee
   simp only[Array.mk.injEq,List.cons.injEq,Value.bool.injEq,Value.slice.injEq]at hee;obtain⟨rfl,⟨rfl,rfl,rfl⟩,rfl,⟨rfl,rfl,rfl⟩,rfl,⟨rfl,rfl,rfl⟩,rfl,⟨rfl,rfl,rfl⟩,-⟩:=hee;refine zC 14 rfl (RI W6 (W6.heap.size) _ 35
     [VSl 0 20 bv n capv,VN 1 21 j,VP 2 22 w.heap.size 0,VP 3 23 w.heap.size 0,E 4 24 (.agg #[.bool s0,.slice a0 l0 c0]),E 5 25 (.agg #[.bool xs,.slice xa xl xc]),EI 6 26 (m0*f j),VP 7 27 w.heap.size 0,VP 8 28 w.heap.size 2,E 9 29 (.agg #[.bool s1,.slice a1 l1 c1]),E 10 30 (.agg #[.bool ys,.slice ya yl yc]),EI 11 31 (m1*g j),EI 12 32 (m0*f j+m1*g j),VP 13 33 bv (j*2)] [] []) kR RI.start (RI.fin kR ?fin1) ?steps1
   case steps1=>
    refine⟨?_,?_,?_,?_,?_,?_,?_,?_,?_,?_,?_,?_,?_,?_,trivial⟩<;>(intro L T wS hL hd hcl hI K hK;try refine zA rfl ?_)
    ·exact xgs (hI.k 0 rfl kR)
    ·exact xgs (hI.k 6 rfl kR)
    ·exact xgs (hI.k 5 rfl kR)
    ·exact xgs (hI.e mm2 (hd 2))
    ·have zt3:=hI.e mm3 (hd 3)
     have cc0:=hI.cell k0 oM nom;have cc1:=hI.cell k1 oM nom;exact xgu
    ·have zt:=hI.k 7 rfl kR
     have cc0:=hI.cell d1 oM nom;have cc1:=hI.cell d2 oM nom;exact xgu
    ·have zt4:=hI.e mm4 (hd 4)
     have zt5:=hI.e mm5 (hd 5);go_simp;refine(jM _ _ m0 (f j) _ (i0.ext hI.lext).weak (hx.ext hI.lext).weak HK.out.1 HSJ.out.1).mono ?_;exact xgo
    ·exact xgs (hI.k 5 rfl kR)
    ·exact xgs (hI.e mm7 (hd 7))
    ·have zt8:=hI.e mm8 (hd 8)
     have cc0:=hI.cell k2 oM nom;have cc1:=hI.cell k3 oM nom;exact xgu
    ·have zt:=hI.k 8 rfl kR
     have cc0:=hI.cell e1 oM nom;have cc1:=hI.cell e2 oM nom;exact xgu
    ·have zt9:=hI.e mm9 (hd 9)
     have zt10:=hI.e zAC (hd 10);go_simp;refine(jM _ _ m1 (g j) _ (i1.ext hI.lext).weak (hy.ext hI.lext).weak HK.out.2.1 HSJ.out.2.1).mono ?_;exact xgo
    ·obtain⟨v6,zt6,h6⟩:=hI.vi mm6 (hd 6)
     obtain⟨v11,zt11,h11⟩:=hI.vi zAJ (hd 11);go_simp;refine(zBv _ _ (m0*f j) (m1*g j) _ h6.weak h11.weak HSJ.out.2.2.1 HSJ.out.2.2.2.1).mono ?_;exact xgo
    ·exact xgt (hI.e mm0 (hd 0)) (hI.e mm1 (hd 1))
   intro w9 hlw9 hbw9 holdw9 T hT;simp only[Fin,E,EI,VP,VSl,VN,xgg,xgh,xgi,xgj]at hT;obtain⟨va6,ha6,va11,ha11,va12,ha12,rfl⟩:=hT;simp only[xgl,xgk];obtain⟨pn,pa,pl,pc,px,rfl,hpx⟩:=id ha12;have HPX:=xgw hpx;clear hpx k0 k1 k2 k3 k4 k5 k6 k7 d1 d2 d3 d4 e1 e2 e3 e4;have hv9:=hv.below hbw9;obtain⟨zs,za,zl,zc,z1,z2,z3,z4,-⟩:=hv9.cell (zO hlt);have hl9:=hv9.lt;go_upto_region 6 with(fail)
   refine zB ?_;intro W10 hW10;obtain⟨hv10,hx10⟩:=hv9.set_at (k:=j) hW10 (by rw[zD];exact hlt) ha12;rw[zEE (HF.out j).symm]at hv10;have hO:=(hO.trans (yC.of [bv,bw] hbw9)).trans (yC.put_at hW10 sI hx10);have bx:=(bx.below hbw9).put_at hW10 oM;have T7:=(T7.below hbw9).put_at hW10 oM;have T8:=(T8.below hbw9).put_at hW10 oM;have hw:=(hw.below hbw9).put_at hW10 (Ne.symm hne) hx10;have hv:=hv10;have hx:=(hx.ext (lx hbw9)).ext hx10;have hy:=(hy.ext (lx hbw9)).ext hx10;have i0:=(i0.ext (lx hbw9)).ext hx10;have i1:=(i1.ext (lx hbw9)).ext hx10;have i2:=(i2.ext (lx hbw9)).ext hx10;have i3:=(i3.ext (lx hbw9)).ext hx10;clear z1 z2 z3 z4 hW10;obtain⟨k0,k1,k2,k3,k4,k5,k6,k7⟩:=bx.eight;obtain⟨d1,d2,d3,d4⟩:=T7.two;obtain⟨e1,e2,e3,e4⟩:=T8.two;have lw:=hw.lt;have lb:=bx.lt;have l7:=T7.lt;have l8:=T8.lt;refine zC 14 rfl (RI W10 (W10.heap.size) _ 35
     [VSl 0 34 bw n capw,VN 1 35 j,VP 2 36 w.heap.size 4,VP 3 37 w.heap.size 4,E 4 38 (.agg #[.bool s2,.slice a2 l2 c2]),E 5 39 (.agg #[.bool xs,.slice xa xl xc]),EI 6 40 (m2*f j),VP 7 41 w.heap.size 4,VP 8 42 w.heap.size 6,E 9 43 (.agg #[.bool s3,.slice a3 l3 c3]),E 10 44 (.agg #[.bool ys,.slice ya yl yc]),EI 11 45 (m3*g j),EI 12 46 (m2*f j+m3*g j),VP 13 47 bw (j*2)] [] []) kR RI.start (RI.fin kR ?fin2) ?steps2
   case steps2=>
    refine⟨?_,?_,?_,?_,?_,?_,?_,?_,?_,?_,?_,?_,?_,?_,trivial⟩<;>(intro L T wS hL hd hcl hI K hK;try refine zA rfl ?_)
    ·exact xgs (hI.k 1 rfl kR)
    ·exact xgs (hI.k 6 rfl kR)
    ·exact xgs (hI.k 5 rfl kR)
    ·exact xgs (hI.e mm2 (hd 2))
    ·have zt3:=hI.e mm3 (hd 3)
     have cc0:=hI.cell k4 oM nom;have cc1:=hI.cell k5 oM nom;exact xgu
    ·have zt:=hI.k 7 rfl kR
     have cc0:=hI.cell d1 oM nom;have cc1:=hI.cell d2 oM nom;exact xgu
    ·have zt4:=hI.e mm4 (hd 4)
     have zt5:=hI.e mm5 (hd 5);go_simp;refine(jM _ _ m2 (f j) _ (i2.ext hI.lext).weak (hx.ext hI.lext).weak HK.out.2.2.1 HSJ.out.1).mono ?_;exact xgo
    ·exact xgs (hI.k 5 rfl kR)
    ·exact xgs (hI.e mm7 (hd 7))
    ·have zt8:=hI.e mm8 (hd 8)
     have cc0:=hI.cell k6 oM nom;have cc1:=hI.cell k7 oM nom;exact xgu
    ·have zt:=hI.k 8 rfl kR
     have cc0:=hI.cell e1 oM nom;have cc1:=hI.cell e2 oM nom;exact xgu
    ·have zt9:=hI.e mm9 (hd 9)
     have zt10:=hI.e zAC (hd 10);go_simp;refine(jM _ _ m3 (g j) _ (i3.ext hI.lext).weak (hy.ext hI.lext).weak HK.out.2.2.2 HSJ.out.2.1).mono ?_;exact xgo
    ·obtain⟨v6,zt6,h6⟩:=hI.vi mm6 (hd 6)
     obtain⟨v11,zt11,h11⟩:=hI.vi zAJ (hd 11);go_simp;refine(zBv _ _ (m2*f j) (m3*g j) _ h6.weak h11.weak HSJ.out.2.2.2.2.1 HSJ.out.2.2.2.2.2).mono ?_;exact xgo
    ·exact xgt (hI.e mm0 (hd 0)) (hI.e mm1 (hd 1))
   intro w11 hlw11 hbw11 holdw11 T hT;simp only[Fin,E,EI,VP,VSl,VN,xgg,xgh,xgi,xgj]at hT;obtain⟨vb6,hb6,vb11,hb11,vb12,hb12,rfl⟩:=hT;simp only[xgl,xgk];obtain⟨pn,pa,pl,pc,px,rfl,hpx⟩:=id hb12;have HPX:=xgw hpx;clear hpx k0 k1 k2 k3 k4 k5 k6 k7 d1 d2 d3 d4 e1 e2 e3 e4;have hw9:=hw.below hbw11;obtain⟨zs,za,zl,zc,z1,z2,z3,z4,-⟩:=hw9.cell (zO hlt);have hl9:=hw9.lt;go_upto_region 7 with(fail)
   refine zB ?_;intro W12 hW12;obtain⟨hw12,hx12⟩:=hw9.set_at (k:=j) hW12 (by rw[zD];exact hlt) hb12;rw[zEE (HG.out j).symm]at hw12;have hO:=(hO.trans (yC.of [bv,bw] hbw11)).trans (yC.put_at hW12 sI hx12);have bx:=(bx.below hbw11).put_at hW12 oM;have hv:=(hv.below hbw11).put_at hW12 hne hx12;have i0:=(i0.ext (lx hbw11)).ext hx12;have i1:=(i1.ext (lx hbw11)).ext hx12;have i2:=(i2.ext (lx hbw11)).ext hx12;have i3:=(i3.ext (lx hbw11)).ext hx12;clear z1 z2 z3 z4 hW12;go_wp2;go_roundw
   case rel=>exact⟨j+1,by omega,by simp,hO,bx,⟨⟨s0,a0,l0,c0,s1,a1,l1,c1,s2,a2,l2,c2,s3,a3,l3,c3,rfl,i0,i1,i2,i3⟩⟩,hw12,hv⟩
   case measure=>simp[intOf];omega
  ·obtain rfl:j=n:=by omega
   have hq1:zM j (qA F f j)=zM j F:=zP fun t ht=>by unfold qA;rw[if_pos ht]
   have hq2:zM j (qA G g j)=zM j G:=zP fun t ht=>by unfold qA;rw[if_pos ht]
   rw[hq1]at hv;rw[hq2]at hw;go_wp2;exact bodyPost_end (results_none rfl _ _ _) rfl ⟨⟨_,rfl⟩,hO,hv,hw⟩
structure zQV(Z:Nat->Prop)(w:World)(As At Ai:Value)(n Cs Ct:Nat)(x:Bst):Prop where
 ex:∃bss bst bsi,zDy w As At Ai n Cs Ct bss bst bsi x.s x.t x.i/\(∀b,b∈bss∨b∈bst∨b∈bsi->Z b)
 own:∀g,As.ownBlock=some g∨At.ownBlock=some g∨Ai.ownBlock=some g->Z g
structure BSm(B:Nat):Prop where
 sm:∀z:Int,z.natAbs<B->Sm z
theorem zHl(k:Nat)(zs:List Int):(zBo k zs=-1/\∀z∈zs,z=0)∨∃j,zBo k zs=((k+j:Nat):Int)/\j<zs.length/\zs.getD j 0≠0/\∀t,t<j->zs.getD t 0=0:=by
 induction zs generalizing k with
 |nil=>exact .inl ⟨rfl,fun z hz=>by cases hz⟩
 | cons z zs ih=>
  unfold zBo;by_cases hz:z=0
  ·rw[if_neg (by simp[hz])]
   rcases ih (k+1)with⟨h1,h2⟩|⟨j,h1,h2,h3,h4⟩
   ·refine .inl ⟨h1,fun y hy=>?_⟩
    rcases List.mem_cons.1 hy with rfl|hy
    ·exact hz
    ·exact h2 y hy
   ·refine .inr ⟨j+1,by rw[h1];congr 1;omega,by simp;omega,by simpa using h3,fun t ht=>?_⟩
    cases t with
    |zero=>simpa using hz
    |succ t=>simpa using h4 t oM
  ·rw[if_pos hz]
   exact .inr ⟨0,by simp,by simp,by simpa using hz,fun t ht=>by omega⟩
theorem zBU{n:Nat}{f:Nat->Int}{j:Nat}(h:j<n):(zM n f).getD j 0=f j:=by rw[xgb,zO h];rfl
theorem zAk(C:Nat)(F:Nat->Nat->Int)(i:Nat):(lead C F i=-1/\∀t,t<C->F i t=0)∨∃j:Nat,lead C F i=(j:Int)/\j<C/\F i j≠0/\∀t,t<j->F i t=0:=by
 unfold lead;rcases zHl 0 (zM C (F i))with⟨h1,h2⟩|⟨j,h1,h2,h3,h4⟩
 ·exact .inl ⟨h1,fun t ht=>h2 _ (xgd (zO ht))⟩
 ·rw[zD]at h2
  rw[zBU h2]at h3;refine .inr ⟨j,by rw[h1];simp,h2,h3,fun t ht=>?_⟩;have:=h4 t ht;rwa[zBU oM]at this
noncomputable def leastOf (P:Nat->Prop):Nat:=open Classical in if h:∃f,P f/\∀g,P g->f<=g then h.choose else 0
inductive Op where
 |add (i j:Nat) (k:Int)
 |swap (i j:Nat)
 |neg (i:Nat)
def Op.f:Op->(Nat->Nat->Int)->(Nat->Nat->Int)
 | .add i j k,F=>zAt F i j k
 | .swap i j,F=>zFd F i j
 | .neg i,F=>zAq F i
def Op.d:Op->(Nat->Nat->Int)->(Nat->Nat->Int)
 | .add i j k,F=>zAt F j i (-k)
 | .swap i j,F=>zFd F i j
 | .neg i,F=>zAq F i
def Op.b(o:Op)(x:Bst):Bst:=⟨o.f x.s,o.f x.t,o.d x.i⟩
def Op.g:Op->Nat
 | .add _ _ k=>1+k.natAbs
 |_=>1
def Op.ok(n:Nat):Op->Prop
 | .add i j _=>i<n/\j<n/\i≠j
 | .swap i j=>i<n/\j<n
 | .neg i=>i<n
def zBX:List Op->(Nat->Nat->Int)->(Nat->Nat->Int)
 | [],F=>F
 |o::l,F=>zBX l (o.f F)
def zKz:List Op->(Nat->Nat->Int)->(Nat->Nat->Int)
 | [],F=>F
 |o::l,F=>zKz l (o.d F)
def zBH:List Op->Bst->Bst
 | [],x=>x
 |o::l,x=>zBH l (o.b x)
def gro:List Op->Nat
 | []=>1
 |o::l=>o.g*gro l
def yA(n:Nat)(l:List Op):Prop:=∀o∈l,o.ok n
theorem zKy(l:List Op):∀x:Bst,zBH l x=⟨zBX l x.s,zBX l x.t,zKz l x.i⟩:=by
 induction l with
 |nil=>intro x;rfl
 |cons o l ih=>intro x;exact ih _
theorem zD6(l m:List Op):∀x,zBH (l++m) x=zBH m (zBH l x):=by
 induction l with
 |nil=>intro F;rfl
 |cons o l ih=>intro F;exact ih _
theorem yA.app{n:Nat}{l m:List Op}(h:yA n l)(k:yA n m):yA n (l++m):=fun o ho=>(List.mem_append.1 ho).elim (h o) (k o)
theorem yA.cons{n:Nat}{o:Op}{m:List Op}(h:o.ok n)(k:yA n m):yA n (o::m):=fun p hp=>by
 rcases List.mem_cons.1 hp with rfl|hp
 ·exact h
 ·exact k p hp
theorem yA.nil{n:Nat}:yA n []:=fun o ho=>by cases ho
def leM(M n C:Nat)(F:Nat->Nat->Int):Prop:=∀a,a<n->∀b,b<C->(F a b).natAbs<=M
theorem leM.mono{M M' n C:Nat}{F:Nat->Nat->Int}(h:leM M n C F)(hM:M<=M'):leM M' n C F:=fun a ha b hb=>Nat.le_trans (h a ha b hb) hM
theorem leM.ok{M B n C:Nat}{F:Nat->Nat->Int}(h:leM M n C F)(hM:M<B):okF B n C F:=fun a ha b hb=>Nat.lt_of_le_of_lt (h a ha b hb) hM
theorem zKi{M n C i j:Nat}{k:Int}{F:Nat->Nat->Int}(h:leM M n C F)(hi:i<n)(hj:j<n):leM (M*(1+k.natAbs)) n C (zAt F i j k):=by
 intro a ha b hb;unfold zAt;split
 ·have h1:=h i hi b hb
  have h2:=h j hj b hb;have h3:(k*F j b).natAbs<=k.natAbs*M:=by rw[Int.natAbs_mul];exact Nat.mul_le_mul_left _ h2
  have h4:(F i b+k*F j b).natAbs<=(F i b).natAbs+(k*F j b).natAbs:=by omega
  rw[Nat.mul_add,Nat.mul_one,Nat.mul_comm M];omega
 ·exact Nat.le_trans (h a ha b hb) (Nat.le_mul_of_pos_right _ oM)
theorem zIz{i j a n:Nat}(hi:i<n)(hj:j<n)(ha:a<n):swp i j a<n:=by unfold swp;split;exact hj;split;exact hi;exact ha
theorem zKj{M n C:Nat}{o:Op}{F:Nat->Nat->Int}(h:leM M n C F)(ho:o.ok n):leM (M*o.g) n C (o.f F):=by
 cases o with
 |add i j k=>exact zKi h ho.1 ho.2.1
 |swap i j=>
  intro a ha b hb;simp only[Op.g,Nat.mul_one];exact h _ (zIz ho.1 ho.2 ha) b hb
 |neg i=>
  intro a ha b hb;simp only[Op.g,Nat.mul_one,Op.f,zAq];split
  ·rw[Int.natAbs_neg];exact h a ha b hb
  ·exact h a ha b hb
theorem zPL{M n C:Nat}{o:Op}{F:Nat->Nat->Int}(h:leM M n C F)(ho:o.ok n):leM (M*o.g) n C (o.d F):=by
 cases o with
 |add i j k=>
  have:=zKi (k:=-k) h ho.2.1 ho.1;rwa[Int.natAbs_neg]at this
 |swap i j=>exact zKj (o:=.swap i j) h ho
 |neg i=>exact zKj (o:=.neg i) h ho
theorem zIT{n C:Nat}{l:List Op}(hl:yA n l):∀{M:Nat} {F:Nat->Nat->Int},leM M n C F->leM (M*gro l) n C (zBX l F):=by
 induction l with
 |nil=>intro M F h;simpa[gro,zBX]using h
 |cons o l ih=>
  intro M F h;have:=ih (fun p hp=>hl p (List.mem_cons_of_mem _ hp)) (zKj h (hl o (List.mem_cons_self ..)));rwa[Nat.mul_assoc]at this
theorem zMa{n C:Nat}{l:List Op}(hl:yA n l):∀{M:Nat} {F:Nat->Nat->Int},leM M n C F->leM (M*gro l) n C (zKz l F):=by
 induction l with
 |nil=>intro M F h;simpa[gro,zKz]using h
 |cons o l ih=>
  intro M F h;have:=ih (fun p hp=>hl p (List.mem_cons_of_mem _ hp)) (zPL h (hl o (List.mem_cons_self ..)));rwa[Nat.mul_assoc]at this
def leB(M n Cs Ct:Nat)(x:Bst):Prop:=leM M n Cs x.s/\leM M n Ct x.t/\leM M n Ct x.i
theorem zOD{M n Cs Ct:Nat}{o:Op}{x:Bst}(h:leB M n Cs Ct x)(ho:o.ok n):leB (M*o.g) n Cs Ct (o.b x):=⟨zKj h.1 ho,zKj h.2.1 ho,zPL h.2.2 ho⟩
theorem zOE{n Cs Ct:Nat}{l:List Op}(hl:yA n l){M:Nat}{x:Bst}(h:leB M n Cs Ct x):leB (M*gro l) n Cs Ct (zBH l x):=by
 rw[zKy];exact⟨zIT hl h.1,zIT hl h.2.1,zMa hl h.2.2⟩
theorem zIa{B M n Cs Ct i j:Nat}{k:Int}{x:Bst}(h:leB M n Cs Ct x)(hi:i<n)(hj:j<n)(hij:i≠j)(hM:1<=M)(hB:M*(1+k.natAbs)<B):zDa B n Cs Ct x i j k:=by
 have e:M*(1+k.natAbs)=M+M*k.natAbs:=by rw[Nat.mul_add,Nat.mul_one]
 have hk:k.natAbs<=M*k.natAbs:=Nat.le_mul_of_pos_left _ hM;have hp:∀z:Int,z.natAbs<=M->(k*z).natAbs<B:=fun z hz=>by
  have:k.natAbs*z.natAbs<=k.natAbs*M:=Nat.mul_le_mul_left _ hz;rw[Int.natAbs_mul];rw[Nat.mul_comm k.natAbs M]at this;omega
 have h2:=zOD (o:=.add i j k) h ⟨hi,hj,hij⟩;exact⟨by omega,fun t ht=>hp _ (h.1 j hj t ht),fun t ht=>⟨hp _ (h.2.1 j hj t ht),hp _ (h.2.2 i hi t ht)⟩,h2.1.ok hB,h2.2.1.ok hB,h2.2.2.ok hB⟩
theorem zPz{n R b:Nat}{o:Op}{P F G:Nat->Nat->Int}(ho:o.ok n)(h:∀a,a<n->F a b=qE R fun t=>P a t*G t b):∀a,a<n->o.f F a b=qE R fun t=>o.f P a t*G t b:=by
 intro a ha;cases o with
 | add i j k=>
  show(if a=i then F i b+k*F j b else F a b)=qE R fun t=>(if a=i then P i t+k*P j t else P a t)*G t b
  by_cases e:a=i
  ·rw[if_pos e,h i ho.1,h j ho.2.1,<-yI,<-zAb]
   refine zU fun t ht=>?_
   rw[if_pos e,Int.add_mul,Int.mul_assoc]
  ·rw[if_neg e,h a ha]
   refine zU fun t ht=>?_
   rw[if_neg e]
 |swap i j=>exact h _ (zIz ho.1 ho.2 ha)
 | neg i=>
  show(if a=i then-(F a b)else F a b)=qE R fun t=>(if a=i then-(P a t)else P a t)*G t b
  by_cases e:a=i
  ·rw[if_pos e,h a ha,<-Int.neg_one_mul,<-yI]
   refine zU fun t ht=>?_
   rw[if_pos e,Int.neg_mul,Int.neg_mul,Int.one_mul]
  ·rw[if_neg e,h a ha]
   refine zU fun t ht=>?_
   rw[if_neg e]
theorem zOV{n R b:Nat}{l:List Op}(hl:yA n l):∀{P F G:Nat->Nat->Int},(∀a,a<n->F a b=qE R fun t=>P a t*G t b)->∀a,a<n->zBX l F a b=qE R fun t=>zBX l P a t*G t b:=by
 induction l with
 |nil=>intro P F G h;exact h
 |cons o l ih=>
  intro P F G h;exact ih (fun p hp=>hl p (List.mem_cons_of_mem _ hp)) (zPz (hl o (List.mem_cons_self ..)) h)
theorem zN9{n a:Nat}(ha:a<n)(G:Nat->Int):G a=qE n fun t=>idf a t*G t:=by
 rw[zAG (c:=a) ha]
 ·unfold idf;rw[if_pos rfl,Int.one_mul]
 ·intro i hi hne
  unfold idf;rw[if_neg (fun e=>hne e.symm),Int.zero_mul]
theorem zK0{n:Nat}{l:List Op}(hl:yA n l)(F:Nat->Nat->Int):∀a,a<n->∀b,zBX l F a b=qE n fun t=>zBX l idf a t*F t b:=
 fun a ha b=>zOV hl (fun a ha=>zN9 ha fun t=>F t b) a ha
def dot(C:Nat)(P Q:Nat->Nat->Int)(a b:Nat):Int:=qE C fun t=>P a t*Q b t
theorem zPQ{n C:Nat}{o:Op}{P Q:Nat->Nat->Int}(ho:o.ok n)(h:∀a,a<n->∀b,b<n->dot C P Q a b=idf a b):∀a,a<n->∀b,b<n->dot C (o.f P) (o.d Q) a b=idf a b:=by
 intro a ha b hb;cases o with
 | add i j k=>
  obtain⟨hi,hj,hij⟩:=ho;have e:dot C (zAt P i j k) (zAt Q j i (-k)) a b=dot C P Q a b+(if a=i then k*dot C P Q j b else 0)+(if b=j then(-k)*dot C P Q a i+(if a=i then(-k)*(k*dot C P Q j i)else 0)else 0):=by
   unfold dot zAt;by_cases e1:a=i
   ·subst e1
    by_cases e2:b=j
    ·subst e2
     simp only[if_true];rw[<-yI,<-yI,<-yI,<-yI,<-zAb,<-zAb,<-zAb];refine zU fun t ht=>?_
     generalize P a t=p;generalize P b t=q;generalize Q a t=r;generalize Q b t=s;grind
    ·simp only[if_true,if_neg e2]
     rw[<-yI,<-zAb,Int.add_zero];refine zU fun t ht=>?_
     rw[Int.add_mul,Int.mul_assoc]
   ·by_cases e2:b=j
    ·subst e2
     simp only[if_true,if_neg e1];rw[<-yI,Int.add_zero,Int.add_zero,<-zAb];refine zU fun t ht=>?_
     rw[Int.mul_add,Int.mul_left_comm]
    ·simp only[if_neg e1,if_neg e2]
     rw[Int.add_zero,Int.add_zero]
  show dot C (zAt P i j k) (zAt Q j i (-k)) a b=_;rw[e,h a ha b hb,h j hj b hb,h a ha i hi,h j hj i hi];unfold idf;have hji:¬ j=i:=fun h=>hij h.symm
  by_cases e1:a=i
  ·by_cases e2:b=j
   ·subst e1
    subst e2;simp[hij,hji];omega
   ·have e3:¬ j=b:=fun h=>e2 h.symm
    subst e1;simp[e2,e3]
  ·by_cases e2:b=j
   ·subst e2
    simp[e1]
   ·simp[e1,e2]
 |swap i j=>
  show dot C P Q (swp i j a) (swp i j b)=_;rw[h _ (zIz ho.1 ho.2 ha) _ (zIz ho.1 ho.2 hb)];unfold idf swp;split<;>split<;>(try split)<;>(try split)<;>(try split)<;>(try split)<;>first|rfl|omega
 | neg i=>
  have e:dot C (zAq P i) (zAq Q i) a b=(if a=i then-1 else 1)*((if b=i then-1 else 1)*dot C P Q a b):=by
   unfold dot zAq;rw[<-yI,<-yI];refine zU fun t ht=>?_
   generalize P a t=p;generalize Q b t=q;split<;>split<;>grind
  show dot C (zAq P i) (zAq Q i) a b=_;rw[e,h a ha b hb];unfold idf;split<;>split<;>split<;>omega
theorem zOU{n C:Nat}{l:List Op}(hl:yA n l):∀{P Q:Nat->Nat->Int},(∀a,a<n->∀b,b<n->dot C P Q a b=idf a b)->∀a,a<n->∀b,b<n->dot C (zBX l P) (zKz l Q) a b=idf a b:=by
 induction l with
 |nil=>intro P Q h;exact h
 |cons o l ih=>
  intro P Q h;exact ih (fun p hp=>hl p (List.mem_cons_of_mem _ hp)) (zPQ (hl o (List.mem_cons_self ..)) h)
def cod(n:Nat)(Q P:Nat->Nat->Int)(a b:Nat):Int:=qE n fun t=>Q t a*P t b
theorem zHE{n i j:Nat}{f g:Nat->Int}{d:Int}(hi:i<n)(hj:j<n)(hij:i≠j)(h:∀t,t<n->t≠i->t≠j->f t=g t)(h1:f i=g i+d)(h2:f j=g j-d):qE n f=qE n g:=by
 have e:qE n (fun t=>f t-g t)=0:=by
  have:∀m,m<=n->qE m (fun t=>f t-g t)=(if i<m then d else 0)-(if j<m then d else 0):=by
   intro m;induction m with
   |zero=>intro _;rfl
   | succ m ih=>
    intro hm;show qE m _+(f m-g m)=_;rw[ih oM];by_cases e1:m=i
    ·subst e1
     rw[h1];split<;>split<;>split<;>(try split)<;>omega
    ·by_cases e2:m=j
     ·subst e2
      rw[h2];split<;>split<;>split<;>(try split)<;>omega
     ·rw[h m oM e1 e2]
      split<;>split<;>split<;>(try split)<;>omega
  rw[this n (xgf _),if_pos hi,if_pos hj];omega
 have e2:qE n f=qE n g+qE n (fun t=>f t-g t):=by
  rw[<-zAb];exact zU fun t ht=>by omega
 omega
theorem zOk{n i j:Nat}(hi:i<n)(hj:j<n)(f:Nat->Int):qE n (fun t=>f (swp i j t))=qE n f:=by
 by_cases hij:i=j
 ·subst hij
  refine zU fun t ht=>?_
  unfold swp;split<;>(try split)<;>simp_all
 ·refine zHE (d:=f j-f i) hi hj hij (fun t ht h1 h2=>?_) ?_ ?_
  ·unfold swp;rw[if_neg h1,if_neg h2]
  ·unfold swp;rw[if_pos rfl];omega
  ·unfold swp;rw[if_neg oM,if_pos rfl];omega
theorem zPP{n:Nat}{o:Op}{P Q:Nat->Nat->Int}(ho:o.ok n)(a b:Nat):cod n (o.d Q) (o.f P) a b=cod n Q P a b:=by
 cases o with
 | add i j k=>
  obtain⟨hi,hj,hij⟩:=ho;refine zHE (i:=i) (j:=j) (d:=k*(Q i a*P j b)) hi hj hij (fun t ht h1 h2=>?_) ?_ ?_
  ·simp only[Op.d,Op.f,zAt,if_neg h1,if_neg h2]
  ·simp only[Op.d,Op.f,zAt,if_true,if_neg hij]
   rw[Int.mul_add,Int.mul_left_comm]
  ·simp only[Op.d,Op.f,zAt,if_true,if_neg (fun h=>hij (Eq.symm h))]
   rw[Int.add_mul,Int.mul_assoc,Int.neg_mul];rfl
 |swap i j=>exact zOk ho.1 ho.2 fun t=>Q t a*P t b
 |neg i=>
  refine zU fun t ht=>?_
  simp only[Op.d,Op.f,zAq];split
  ·rw[Int.neg_mul_neg]
  ·rfl
theorem zOT{n:Nat}{l:List Op}(hl:yA n l):∀{P Q:Nat->Nat->Int} (a b:Nat),cod n (zKz l Q) (zBX l P) a b=cod n Q P a b:=by
 induction l with
 |nil=>intro P Q a b;rfl
 |cons o l ih=>
  intro P Q a b;show cod n (zKz l (o.d Q)) (zBX l (o.f P)) a b=_;rw[ih (fun p hp=>hl p (List.mem_cons_of_mem _ hp)),zPP (hl o (List.mem_cons_self ..))]
theorem zCG{n:Nat}{l:List Op}(hl:yA n l)(F:Nat->Nat->Int):∀a,a<n->∀b,F a b=qE n fun t=>zKz l idf t a*zBX l F t b:=by
 intro a ha b;have h1:=zOT (P:=F) (Q:=idf) hl a b;unfold cod at h1;rw[h1,zAG (c:=a) ha]
 ·unfold idf;rw[if_pos rfl,Int.one_mul]
 ·intro t ht hne
  unfold idf;rw[if_neg hne,Int.zero_mul]
theorem zOG{C:Nat}{F:Nat->Nat->Int}{i c:Nat}(hc:c<C)(h:F i c≠0)(hz:∀t,t<c->F i t=0):lead C F i=(c:Int):=by
 rcases zAk C F i with⟨-,h2⟩|⟨j,h1,h2,h3,h4⟩
 ·exact absurd (h2 c hc) h
 ·rcases Nat.lt_trichotomy j c with h5|h5|h5
  ·exact absurd (hz j h5) h3
  ·rw[h1,h5]
  ·exact absurd (h4 c h5) h
theorem zF1{C:Nat}{F:Nat->Nat->Int}{i:Nat}(hz:∀t,t<C->F i t=0):lead C F i=-1:=by
 rcases zAk C F i with⟨h1,-⟩|⟨j,h1,h2,h3,h4⟩
 ·exact h1
 ·exact absurd (hz j h2) h3
theorem zF0{C:Nat}{F:Nat->Nat->Int}{i:Nat}(h:lead C F i<0):∀t,t<C->F i t=0:=by
 rcases zAk C F i with⟨-,h1⟩|⟨j,h1,-⟩
 ·exact h1
 ·omega
structure Ech(C r:Nat)(c:Nat->Nat)(F:Nat->Nat->Int):Prop where
 lt:∀k,k<r->c k<C
 pos:∀k,k<r->0<F k (c k)
 zero:∀k,k<r->∀t,t<c k->F k t=0
 inc:∀k l,k<l->l<r->c k<c l
theorem Ech.lead{C r:Nat}{c:Nat->Nat}{F:Nat->Nat->Int}(h:Ech C r c F){k:Nat}(hk:k<r):lead C F k=(c k:Int):=zOG (h.lt k hk) (by have:=h.pos k hk;omega) (h.zero k hk)
def zPU(k:Nat):Nat->List Op
 |0=>[]
 |m+1=>.swap (k+m+1) (k+m)::zPU k m
def zRK(k m a:Nat):Nat:=if a=k then k+m else if k<a/\a<=k+m then a-1 else a
theorem zOF{Z a b:Nat}(hZ:1<=Z)(h:a<=b):Z^a<=Z^b:=Nat.pow_le_pow_right hZ h
def zQi(Cs m rank:Nat)(F G:Nat->Nat->Int)(b:Bool)(c':Nat->Nat):Prop:=
 Ech Cs (if b then rank+1 else rank) c' G/\(∀a,(if b then rank+1 else rank)<=a->a<=m->∀t,t<Cs->G a t=0)/\∀a,m<a->∀t,G a t=F a t
def zHS(P:Nat->Nat->Prop)(r:Nat)(c:Nat->Nat)(F:Nat->Nat->Int):Prop:=∀i j,i<j->j<r->P i j->0<=F i (c j)/\F i (c j)<F j (c j)
def zNZ(rank:Nat):Nat->Nat
 |0=>0
 |i+1=>(rank-(i+1))+zNZ rank i
structure Hnf(C n r:Nat)(c:Nat->Nat)(F:Nat->Nat->Int):Prop where
 le:r<=n
 ech:Ech C r c F
 red:zHS (fun _ _=>True) r c F
 zero:∀a,r<=a->a<n->∀t,t<C->F a t=0
def ecE:Nat->Nat->Nat
 |0,_=>1
 |l+1,m=>4^m*2^(m*(m+1)/2)*ecE l (m+1)
def KE:Nat:=4194304
end Go.Proofs.YtnbmaipobhppcaaGreat
