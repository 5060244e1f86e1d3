/- What bareiss.Solve answers, plain. smith: band.take. smith: band.reduce. smith: band.echelon. smith: band.twist. hermite: leading; rows of length 0. hermite: work.add. hermite: work.mix. hermite: work.negate. hermite: work.add, mix, negate where the rows of u and v are nil. A mix of two rows by a matrix with determinant 1 is a list of elementary operations. Plain Lean. hermite: a run's state; join. matrix.New. matrix.Identity. -/
import Derived.ScopeJumps
import Derived.WalkMore
import Derived.Defers
import Derived.Recover
import Derived.Test.YtnbmaipobhppcaaGreatE06
set_option linter.unusedVariables false
set_option linter.unusedSimpArgs false
set_option linter.unusedSectionVars false
set_option maxHeartbeats 16000000
set_option maxRecDepth 100000
namespace Go.Proofs.YtnbmaipobhppcaaGreat
open Go.RowKit
def eqL(R:Nat)(A:Nat->Nat->Int)(b:Nat->Int):Nat->Nat->Int:=fun j i=>if i<R then A i j else if i=R then b j else if i=R+1+j then 1 else 0
theorem zKf{R:Nat}{A:Nat->Nat->Int}{b:Nat->Int}{j i:Nat}(h:i<R):eqL R A b j i=A i j:=if_pos h
theorem zPR{R:Nat}{A:Nat->Nat->Int}{b:Nat->Int}{j:Nat}:eqL R A b j R=b j:=by unfold eqL;rw[if_neg oM,if_pos rfl]
theorem zPS{R:Nat}{A:Nat->Nat->Int}{b:Nat->Int}{j t:Nat}:eqL R A b j (R+1+t)=if t=j then 1 else 0:=by
 unfold eqL;rw[if_neg oM,if_neg oM];by_cases e:t=j
 ·subst e;rw[if_pos rfl,if_pos rfl]
 ·rw[if_neg e,if_neg oM]
theorem zGt{R C H:Nat}{A:Nat->Nat->Int}{b:Nat->Int}(hA:∀i,i<R->∀j,j<C->(A i j).natAbs<=H)(hb:∀j,j<C->(b j).natAbs<=H)(h1:1<=H):∀j,j<C->∀i,i<R+1+C->(eqL R A b j i).natAbs<=H:=fun j hj i _=>by
 unfold eqL;split
 ·exact hA i (by assumption) j hj
 ·split
  ·exact hb j hj
  ·split<;>simp<;>omega
def yT(R:Nat)(L:Nat->Nat->Int)(j0:Nat):Nat->Rat:=fun p=>if p=j0 then 1 else if R+1<=p then-(L (p-(R+1)) j0:Rat)else 0
theorem zNw{R C j0:Nat}{L:Nat->Nat->Int}{f:Nat->Int}(hj:j0<=R):jK (R+1+C) (fun p=>(f p:Rat)*yT R L j0 p)=f j0-jK C fun t=>(f (R+1+t):Rat)*L t j0:=by
 rw[zJF,zEI (k:=j0) oM fun i hi hne=>by unfold yT;rw[if_neg hne,if_neg oM];grind];have h1:jK C (fun i=>(f (R+1+i):Rat)*yT R L j0 (R+1+i))=jK C fun t=>(-1:Rat)*((f (R+1+t):Rat)*L t j0):=qI fun t ht=>by
  unfold yT;rw[if_neg oM,if_pos oM,show R+1+t-(R+1)=t by omega];grind
 rw[h1,zBN];unfold yT;rw[if_pos rfl];grind
theorem zPT{R C:Nat}{A:Nat->Nat->Int}{b:Nat->Int}{j0:Nat}(hj:j0<=R):Sol C (R+1+C) (eqL R A b) (yT R (eqL R A b) j0):=fun i hi=>by
 rw[zNw hj,zEI (k:=i) hi fun t ht hne=>by
  rw[zPS,if_neg hne];exact(congrArg (· *_) Rat.intCast_zero).trans (Rat.zero_mul _)]
 rw[zPS,if_pos rfl];grind
theorem zRJ{R C i:Nat}{A:Nat->Nat->Int}{b:Nat->Int}{s:BE}(hB:zKG C (R+1+C) R (eqL R A b) s)(h1:s.pv.length<=i)(h2:i<C)(h3:s.E i R≠0):
  (∀a,a<R->jK C (fun t=>(A a t:Rat)*((s.E i (R+1+t):Rat)/s.E i R))=0)/\jK C (fun t=>(b t:Rat)*((s.E i (R+1+t):Rat)/s.E i R))=1:=by
 have h4:∀j0,j0<=R->(s.E i j0:Rat)=jK C fun t=>(s.E i (R+1+t):Rat)*eqL R A b t j0:=fun j0 hj=>by
  have:=(hB.sol _).2 (zPT hj) i h2;rw[zNw hj]at this;grind
 have hq:(s.E i R:Rat)≠0:=fun e=>h3 (Rat.intCast_eq_zero_iff.1 e)
 have h5:∀g:Nat->Int,jK C (fun t=>(g t:Rat)*((s.E i (R+1+t):Rat)/s.E i R))=(1/(s.E i R:Rat))*jK C fun t=>(s.E i (R+1+t):Rat)*g t:=fun g=>by
  rw[<-zBN];exact qI fun t ht=>by grind
 refine⟨fun a ha=>?_,?_⟩
 ·have h6:=h4 a oM
  rw[hB.low i h1 h2 a ha,qI (g:=fun t=>(s.E i (R+1+t):Rat)*A a t) fun t ht=>by rw[zKf ha]]at h6;rw[h5,<-h6];show _*(0:Rat)=0;grind
 ·have h6:=h4 R (xgf _)
  rw[qI (g:=fun t=>(s.E i (R+1+t):Rat)*b t) fun t ht=>by rw[zPR]]at h6;rw[h5,<-h6];grind
def zE7(s:BE)(R:Nat):Nat->Nat->Rat
 |0=>fun _=>0
 |k+1=>fun i=>if s.pv[k]?=some i then(s.E k R:Rat)/s.E k i else zE7 s R k i
theorem zLm{n m c R:Nat}{L:Nat->Nat->Int}{s:BE}(hB:zKG n m c L s){k t:Nat}(hk:s.pv[k]?=some t):∀l,k<l->l<=s.pv.length->zE7 s R l t=(s.E k R:Rat)/s.E k t
 |0,h,_=>by omega
 | l+1,h,hl=>by
  show(if s.pv[l]?=some t then _ else _)=_;by_cases e:l=k
  ·subst e;rw[if_pos hk]
  ·rw[if_neg fun h2=>?_,zLm hB hk l oM oM]
   have h3:=(hB.piv l t h2).1;exact h3 ((hB.piv k t hk).2 l (Nat.lt_of_lt_of_le (by omega:l<s.pv.length) hB.len) e)
theorem zJD{s:BE}{R i:Nat}(h:∀k:Nat,s.pv[k]?≠some i):∀l,zE7 s R l i=0
 |0=>rfl
 |l+1=>by
  show(if s.pv[l]?=some i then _ else _)=_;rw[if_neg (h l),zJD h l]
theorem zQo{R C:Nat}{A:Nat->Nat->Int}{b:Nat->Int}{s:BE}(hB:zKG C (R+1+C) R (eqL R A b) s)(hz:∀i,s.pv.length<=i->i<C->s.E i R=0):
  ∀j,j<C->jK R (fun i=>(A i j:Rat)*zE7 s R s.pv.length i)=b j:=fun j hj=>by
 have hcut:∀f:Nat->Int,jK (R+1+C) (fun p=>(f p:Rat)*(if p<R then zE7 s R s.pv.length p else if p=R then-1 else 0))=jK R (fun p=>(f p:Rat)*zE7 s R s.pv.length p)-f R:=fun f=>by
  rw[zJF,zCE (n:=C) fun i hi=>by rw[if_neg oM,if_neg oM];grind];show jK R _+_+0=_;rw[qI (n:=R) (g:=fun p=>(f p:Rat)*zE7 s R s.pv.length p) fun i hi=>by rw[if_pos hi]];dsimp only;rw[if_neg oM,if_pos rfl];grind
 have hS:Sol C (R+1+C) s.E fun p=>if p<R then zE7 s R s.pv.length p else if p=R then-1 else 0:=fun i hi=>by
  rw[hcut];rcases Nat.lt_or_ge i s.pv.length with h|h
  ·obtain⟨t,ht⟩:∃t,s.pv[i]?=some t:=⟨_,xga h⟩
   have htR:=hB.lt i t ht;have hne:(s.E i t:Rat)≠0:=fun e=>(hB.piv i t ht).1 (Rat.intCast_eq_zero_iff.1 e)
   rw[zEI (k:=t) htR fun p hp hpt=>?_,zLm hB ht _ h (xgf _)]
   ·grind
   ·by_cases e:∃k:Nat,s.pv[k]?=some p
    ·obtain⟨k,hk⟩:=e
     rw[(hB.piv k p hk).2 i hi fun e2=>by subst e2;rw[hk]at ht;injection ht with ht;exact hpt ht];exact(congrArg (· *_) Rat.intCast_zero).trans (Rat.zero_mul _)
    ·rw[zJD fun k hk=>e ⟨k,hk⟩]
     exact Rat.mul_zero _
  ·rw[hz i h hi,zCE fun p hp=>by rw[hB.low i h hi p hp];exact(congrArg (· *_) Rat.intCast_zero).trans (Rat.zero_mul _)]
   rw[Rat.intCast_zero];grind
 have h1:=(hB.sol _).1 hS j hj;rw[hcut,zPR,qI (g:=fun p=>(A p j:Rat)*zE7 s R s.pv.length p) fun i hi=>by rw[zKf hi]]at h1;grind
section
variable {P:Program} {a:Act} {w:World} {Q:Exit->Act->World->Prop}
theorem Exit.jump_ret{l:Nat}{J:Act->World->Prop}:Exit.jump l J Q .ret a w=Q .ret a w:=rfl
theorem zE9{c rest:Code}{l:Nat}(J:Act->World->Prop)(μ:Act->World->Nat)(hf:findLabel (c.seq ((Code.label l).seq rest)) l=some (Code.skip.seq rest))
  (first:c.wp P (fun e a w=>e= .normal/\J a w) a w)
  (pass:∀a w,J a w->rest.wp P (Exit.jump l (fun a' w'=>J a' w'/\μ a' w'<μ a w) Q) a w):(Code.scope (c.seq ((Code.label l).seq rest))).wp P Q a w:=by
 have key:∀a w,J a w->rest.wp P (Exit.jump l J Q) a w:=fun a w hJ=>wp_mono (pass a w hJ) (by
  intro e a' w' h;cases e<;>first|exact h|exact⟨h.1,h.2.1⟩)
 refine wp_scope_jumps l J μ hf ?_ ?_
 ·refine wp_seq (wp_mono first ?_)
  rintro e a' w' ⟨rfl,hJ⟩;exact wp_seq (wp_label (key _ _ hJ))
 ·intro a' w' hJ
  exact wp_seq (wp_skip (pass a' w' hJ))
end
def DMV(a b:Int):World->Value->Prop:=fun w v=>∃q r,v= .tuple #[q,r,.int .i64 0]/\zH w q (a/b)/\zH w r (a%b)
theorem zMr(a b:Int):zEO (DMV a b):=by
 intro w w' v e h;obtain⟨q,r,h1,h2,h3⟩:=h;exact⟨q,r,h1,h2.ext e,h3.ext e⟩
theorem zHn(v1 v2:Value)(z1 z2:Int)(w:World)(h1:zD5 w v1 z1)(h2:zD5 w v2 z2)(s1:Sm z1)(s2:Sm z2)(hz:z2≠0):
  Calls Tryz.prog 157 #[v1,v2] w fun e w'=>∃v,e= .returned v/\DMV z1 z2 w' v/\Below w.heap.size w w':=by
 refine(jV v1 v2 z1 z2 w h1 h2 s1 s2 hz).mono ?_;rintro e w' ⟨v1,v2,rfl,h1,h2,h3⟩;exact⟨_,rfl,⟨v1,v2,rfl,h1,h2⟩,h3⟩
theorem zDe.ok{B n Cs Ct:Nat}{x:Bst}{i j:Nat}{k:Int}(h:zDe B n Cs Ct x i j k):okB B n Cs Ct (x.add i j k):=h.2.2.2
theorem zH.two{w:World}{x y:Value}{z:Int}(h:zH w (.agg #[x,y]) z):∃s a l c,x= .bool s/\y= .slice a l c:=by
 obtain⟨s,a,l,c,xs,e,-⟩:=id h;injection e with e
 simp only[Array.mk.injEq,List.cons.injEq]at e;exact⟨s,a,l,c,e.1,e.2.1⟩
abbrev tN:TypeId:=3
def zQd(n:Nat)(g:Nat->Int):Array Value:=((List.range n).map fun i=>Value.int .i64 (g i)).toArray
def zRO(f:Nat->Int)(j:Nat):Nat->Int:=fun t=>if t<j then f t else 0
theorem zT.same{w w':World}{base:Nat}{A:Value}{C:Nat}{bs:List Nat}{M:List (List Int)}(h:zT w base A C bs M)(hb:∀b∈bs,w'.heap[b]?=w.heap[b]?)(ho:∀g,A.ownBlock=some g->w'.heap[g]?=w.heap[g]?)(x:yI w w'):zT w' base A C bs M:=by
 refine⟨⟨h.own.1,?_⟩,h.len,fun k b r h1 h2=>by
  obtain⟨e1,e2,e3⟩:=h.row k b r h1 h2;exact⟨e1,e2,e3.old (hb b (xgd h1)) x⟩,h.nodup,h.cb⟩
 rcases h.own.2 with h1|⟨g,cap,cur,e1,e2,e3⟩
 ·exact .inl h1
 ·exact .inr ⟨g,cap,cur,e1,e2,(ho g (by rw[e1];rfl)).trans e3.1,e3.2⟩

theorem zT.rows2{w w':World}{base:Nat}{A:Value}{C:Nat}{bs:List Nat}{M:List (List Int)}{i j bi bj:Nat}{ri rj:List Int}(h:zT w base A C bs M)(hbi:bs[i]?=some bi)(hbj:bs[j]?=some bj)(hij:i≠j)(ho:qU [bi,bj] w w')
  (hri:qC w' bi ri) (hrj:qC w' bj rj) (hli:ri.length=C) (hlj:rj.length=C):zT w' base A C bs ((M.set i ri).set j rj):=by
 have hib:=(xge.1 hbi).1;have hjb:=(xge.1 hbj).1;have hiM:i<M.length:=by rw[h.len];exact hib
 have hjM:j<M.length:=by rw[h.len];exact hjb
 obtain⟨r1,r2,r3⟩:=h.row i bi M[i] hbi (xga hiM);obtain⟨q1,q2,q3⟩:=h.row j bj M[j] hbj (xga hjM);refine⟨⟨h.own.1,?_⟩,by simp[h.len],?_,h.nodup,h.cb⟩
 ·rcases h.own.2 with h1|⟨g,cap,cur,e1,e2,e3,e4⟩
  ·exact .inl h1
  ·refine .inr ⟨g,cap,cur,e1,e2,?_,e4⟩
   refine(ho.old g (Array.getElem?_eq_some_iff.1 e3).1 ?_).trans e3;intro hg;have f1:=zDA h.own r3;have f2:=zDA h.own q3;rw[e1]at f1 f2;simp at hg;rcases hg with rfl|rfl
   ·exact f1 rfl
   ·exact f2 rfl
 ·intro k b' r' hk hr'
  by_cases ej:k=j
  ·subst ej
   rw[hbj]at hk;injection hk with hk
   subst hk;rw[List.getElem?_set_self (by simpa using hjM)]at hr';injection hr' with hr'
   subst hr';exact⟨q1,hlj,hrj⟩
  ·rw[List.getElem?_set_ne (Ne.symm ej)]at hr'
   by_cases e:k=i
   ·subst e
    rw[hbi]at hk;injection hk with hk
    subst hk;rw[List.getElem?_set_self hiM]at hr';injection hr' with hr'
    subst hr';exact⟨r1,hli,hri⟩
   ·rw[List.getElem?_set_ne (Ne.symm e)]at hr'
    obtain⟨f1,f2,f3⟩:=h.row k b' r' hk hr';have hkb:=(xge.1 hk).1;have hne:∀{t bt:Nat},bs[t]?=some bt->k≠t->b'≠bt:=by
     intro t bt ht hkt hh;subst hh;have h1:=(xge.1 hk).2;have h2:=(xge.1 ht).2;exact hkt ((List.getElem_inj h.nodup).1 (h1.trans h2.symm))
    exact⟨f1,f2,f3.only ho (by simp;exact⟨hne hbi e,hne hbj ej⟩)⟩
theorem zHJ{R C:Nat}{F:Nat->Nat->Int}{i j:Nat}{m0 m1 m2 m3:Int}(hij:i≠j):
  ((zY R C F).set i (zM C (fun t=>m0*F i t+m1*F j t))).set j (zM C (fun t=>m2*F i t+m3*F j t))=zY R C (qQ F i j m0 m1 m2 m3):=by
 apply List.ext_getElem
 ·simp[zY]
 ·intro a h1 h2
  by_cases ej:a=j
  ·subst ej
   rw[List.getElem_set_self];have:¬ a=i:=fun h=>hij h.symm
   simp[zY,zM,qQ,this]
  ·have e3:j≠a:=fun h=>ej h.symm
   rw[List.getElem_set_ne e3];by_cases e:a=i
   ·subst e
    rw[List.getElem_set_self];simp[zY,zM,qQ]
   ·have e4:i≠a:=fun h=>e h.symm
    rw[List.getElem_set_ne e4];simp[zY,qQ,e,ej]
theorem zCv{w:World}{A:Value}{R C:Nat}{bs:List Nat}{F:Nat->Nat->Int}(h:Wri w A R C bs F){i j bi bj:Nat}(hi:i<R)(hj:j<R)(hij:i≠j)(hbi:bs[i]?=some bi)(hbj:bs[j]?=some bj){mv:Value}{m0 m1 m2 m3:Int}(hm:M4V w mv m0 m1 m2 m3)
  (hC:C<=1000000) (hS:zNz C (F i) (F j) m0 m1 m2 m3) (hms:Sm m0/\Sm m1/\Sm m2/\Sm m3):
  Calls Tryz.prog 261 #[.slice (some ⟨bi,0,none⟩) C C,.slice (some ⟨bj,0,none⟩) C C,mv] w fun e w'=>(∃u,e= .returned u)/\qU [bi,bj] w w'/\Wri w' A R C bs (qQ F i j m0 m1 m2 m3):=by
 have hne:bi≠bj:=by
  intro hh;subst hh;obtain⟨f1,f2⟩:=xge.1 hbi;obtain⟨g1,g2⟩:=xge.1 hbj;exact hij ((List.getElem_inj (zT.nodup h)).1 (f2.trans g2.symm))
 refine(zKN bi bj C C C (F i) (F j) mv m0 m1 m2 m3 w (h.rowAt hi hbi) (h.rowAt hj hbj) hne hm hC (xgf _) oM (xgf _) oM hS hms).mono ?_;rintro e w' ⟨hu,ho,hr1,hr2⟩;refine⟨hu,ho,?_⟩;unfold Wri;rw[<-zHJ hij];exact zT.rows2 h hbi hbj hij ho hr1 hr2 (zD _ _) (zD _ _)
theorem Wri.only2{w w':World}{A:Value}{R C:Nat}{bs:List Nat}{F:Nat->Nat->Int}{b c:Nat}{r q:List Int}(h:Wri w A R C bs F)(ho:qU [b,c] w w')(hn:b ∉ bs)(hn2:c ∉ bs)(hr:qC w b r)(hq:qC w c q):Wri w' A R C bs F:=
 zT.only h ho (fun x hx=>by
  intro hh;simp at hh;rcases hh with rfl|rfl
  ·exact hn hx
  ·exact hn2 hx) (fun g hg=>by
  simp at hg;rcases hg with rfl|rfl
  ·exact⟨_,hr⟩
  ·exact⟨_,hq⟩)
def M2V(m0 m1:Int):World->Value->Prop:=fun w v=>∃s0 a0 l0 c0 s1 a1 l1 c1,v= .agg #[.bool s0,.slice a0 l0 c0,.bool s1,.slice a1 l1 c1]/\zH w (.agg #[.bool s0,.slice a0 l0 c0]) m0/\zH w (.agg #[.bool s1,.slice a1 l1 c1]) m1
theorem zCH(a b:Int):zEO (M2V a b):=by
 rintro w w' v e ⟨s0,a0,l0,c0,s1,a1,l1,c1,rfl,h0,h1⟩;exact⟨s0,a0,l0,c0,s1,a1,l1,c1,rfl,h0.ext e,h1.ext e⟩
theorem zF6(a b c d:Int):zEO (fun w v=>M4V w v a b c d):=fun _ _ _ e h=>h.ext e
abbrev tHW:TypeId:=225
def zBf(w:World)(A:Value)(n:Nat):Prop:=∃g cap cs,A= .slice (some ⟨g,0,none⟩) n cap/\n<=cap/\cap<=9223372036854775807/\Blk w g tR cs/\∀i,i<n->cs[i]?=some (.slice none 0 0)
theorem zBf.below{w w':World}{A:Value}{n:Nat}(h:zBf w A n)(hb:Below w.heap.size w w'):zBf w' A n:=by
 obtain⟨g,cap,cs,h1,h2,h3,h4,h5⟩:=h;exact⟨g,cap,cs,h1,h2,h3,h4.below hb,h5⟩
theorem zGg{w:World}{g b:Nat}{t:TypeId}{cs:Array Value}{r:List Int}(hb:Blk w g t cs)(hr:qC w b r)(ht:¬ t=tI):g≠b:=by
 rintro rfl;obtain⟨cs',h1,-⟩:=hr;exact ht (congrArg (fun o:Option Obj=>match o with|some (Obj.cells _ t _)=>t|_=>0) (hb.symm.trans h1))
theorem Blk.row{w w':World}{g b:Nat}{t:TypeId}{cs:Array Value}{r:List Int}(hb:Blk w g t cs)(ho:qU [b] w w')(hr:qC w b r)(ht:¬ t=tI):Blk w' g t cs:=
 (ho.old g hb.lt (by simpa using zGg hb hr ht)).trans hb
theorem Blk.row2{w w':World}{g b c:Nat}{t:TypeId}{cs:Array Value}{r q:List Int}(hb:Blk w g t cs)(ho:qU [b,c] w w')(hr:qC w b r)(hq:qC w c q)(ht:¬ t=tI):Blk w' g t cs:=
 (ho.old g hb.lt (by simp;exact⟨zGg hb hr ht,zGg hb hq ht⟩)).trans hb
theorem zBf.row{w w':World}{A:Value}{n b:Nat}{r:List Int}(h:zBf w A n)(ho:qU [b] w w')(hr:qC w b r):zBf w' A n:=by
 obtain⟨g,cap,cs,h1,h2,h3,h4,h5⟩:=h;exact⟨g,cap,cs,h1,h2,h3,h4.row ho hr dE,h5⟩
theorem zBf.row2{w w':World}{A:Value}{n b c:Nat}{r q:List Int}(h:zBf w A n)(ho:qU [b,c] w w')(hr:qC w b r)(hq:qC w c q):zBf w' A n:=by
 obtain⟨g,cap,cs,h1,h2,h3,h4,h5⟩:=h;exact⟨g,cap,cs,h1,h2,h3,h4.row2 ho hr hq dE,h5⟩
theorem zBf.at_{w:World}{A:Value}{n i:Nat}(h:zBf w A n)(hi:i<n):∃g cap,A= .slice (some ⟨g,0,none⟩) n cap/\w.cell? ⟨g,i,none⟩=some (.slice none 0 0):=by
 obtain⟨g,cap,cs,h1,h2,h3,h4,h5⟩:=h;exact⟨g,cap,h1,(cell_of_row w g i cs tR _ h4).trans (h5 i hi)⟩
theorem zGc(kv:Value)(k:Int)(w:World)(hk:zH w kv k):
  Calls Tryz.prog 158 #[.slice none 0 0,.slice none 0 0,kv] w fun e w'=>(∃u,e= .returned u)/\Below w.heap.size w w':=by
 obtain⟨kn,ka,kl,kc,kx,rfl,-⟩:=id hk;go_enter Tryz.func158,Tryz.ntmps158;go_upto_region 1 with(fail)
 refine zB ?_;intro W0 hW0;obtain⟨hB0,bk,hs0⟩:=zK hW0;clear hW0;go_wp2;go_loopw [10] (fun iv wr=>iv= .int .i64 0/\wr=W0) (fun _ _=>0)
 case atStart=>exact⟨rfl,rfl⟩
 case round=>
  obtain⟨rfl,rfl⟩:=hrel;go_wp2;exact bodyPost_end (results_none rfl _ _ _) rfl ⟨⟨_,rfl⟩,hB0⟩
theorem zBI(v:Value)(zs:List Int)(w:World)(h:qN w v zs):
  Calls Tryz.prog 153 #[v] w fun e w'=>e= .returned (.int .i64 (zBn 0 zs))/\Below w.heap.size w w':=by
 obtain⟨ao,n,cap,rfl,h2,h3,h4,h5⟩:=id h;have HL:=xgw h2;clear h2 h5;go_enter Tryz.func153,Tryz.ntmps153;go_wp2;refine zE9 (fun a' wt=>a'={tmps:=#[.slice ao n cap,undef,.int .i64 0,.int .i64 (-1),undef,undef,undef,undef,undef,undef,undef,undef,undef,undef,undef,undef,undef,undef,undef,undef],defers:=[]}/\wt=w) (fun _ _=>0) rfl ?_ ?_
 ·go_wp2
 ·rintro a' wr ⟨rfl,hwr⟩
  have hwr:=hwr.symm;subst hwr;go_wp2;go_loopw [3,8] (fun u i wr=>∃k:Nat,k<=n/\u= .int .i64 (-1)/\i= .int .i64 k/\Below w.heap.size w wr/\Hid (zBn 0 zs=zBn k (zs.drop k))) (fun _ i _=>n-(intOf i).toNat)
  case atStart=>exact⟨0,by omega,rfl,rfl,Below.refl _ _,by rw[xgk];exact xgw rfl⟩
  case round=>
   obtain⟨k,hk,rfl,rfl,hb,hgo⟩:=hrel;by_cases hlt:k<n
   ·obtain⟨b,z,s,a,l,c,rfl,hbl,hz,c1,c2,hv⟩:=(h.below hb).cell (k:=k) (by rw[HL.out];exact hlt)
    have HZ:=xgw hz;clear hz;go_upto_region 5 with(fail)
    refine zB ?_;intro W6 hW6;obtain⟨hB6,T6,hs6⟩:=zK hW6;obtain⟨d1,d2,d3,d4⟩:=T6.two;clear c1 c2 hW6;go_wp2_with fail
    refine(qV _ z W6 (hv.ext (lx hB6)).weak).mono ?_;rintro e w7 ⟨rfl,hb7⟩;have hb9:=nx (nx hb hB6) hb7;by_cases hz0:z=0
    ·rw[zA3 hz0]
     go_wp2;go_roundw
     case rel=>
      refine⟨k+1,by omega,rfl,by simp,hb9,xgw ?_⟩;rw[hgo.out,zGs HZ.out];conv=>lhs;unfold zBn
      rw[if_neg (by simp[hz0])]
     case measure=>simp[intOf];omega
    ·have hc:=zCf hz0
     obtain⟨k0,hk0⟩:∃k0,qJ z 0=k0:=⟨_,rfl⟩;rw[hk0]at hc ⊢
     have hc2:(k0==0)=false:=by simpa using hc
     go_wp2;rw[Exit.jump_ret];go_ret;refine⟨?_,hb9⟩;rw[hgo.out,zGs HZ.out];conv=>rhs;unfold zBn
     rw[if_pos hz0];rfl
   ·obtain rfl:k=n:=by omega
    go_wp2;rw[Exit.jump_ret];go_ret;refine⟨?_,hb⟩;rw[hgo.out,List.drop_eq_nil_of_le (Nat.le_of_eq HL.out)];rfl
theorem lx0{w W:World}(h:Below w.heap.size w W):yI w W:=lx h
theorem zNd(bw:Nat)(Ah Au Av:Value)(n Cs Ct i j:Nat)(bss bst bsi:List Nat)(S T I:Nat->Nat->Int)(kv:Value)(k:Int)(w:World)(hbw:Blk w bw tHW #[Ah,Au,Av])(h:zD4 w Ah Au Av n Cs Ct bss bst bsi S T I)(hi:i<n)(hj:j<n)(hij:i≠j)(hk:zH w kv k)
  (hn:n<=1000000) (hCs:Cs<=1000000) (hCt:Ct<=1000000) (hS:zKD Cs S i j k) (hT:zKD Ct T i j k) (hI:zKD Ct I j i (-k)) (hks:Sm k):
  Calls Tryz.prog 220 #[.pointer (some ⟨bw,0,none⟩),.int .i64 i,.int .i64 j,kv] w fun e w'=>(∃u,e= .returned u)/\zX (fun b=>b∈bss∨b∈bst∨b∈bsi) w w'/\Blk w' bw tHW #[Ah,Au,Av]∧
   zD4 w' Ah Au Av n Cs Ct bss bst bsi (zAv S i j k) (zAv T i j k) (zAv I j i (-k)):=by
 obtain⟨so,sn,sc,rfl,s1,s2,s3,-⟩:=id (zT.rows h.s);obtain⟨uo,tn,tc,rfl,t1,t2,t3,-⟩:=id (zT.rows h.t);obtain⟨io,in_,ic,rfl,i1,i2,i3,-⟩:=id (zT.rows h.i);obtain⟨kn,ka,kl,kc,kx,rfl,hkx⟩:=id hk;have HKX:=xgw hkx;have HS:=xgv hS;have HT:=xgv hT;have HI:=xgv hI;have HK:=xgv hks;have HKn:qE (Sm (-k)):=⟨HK.out.mono (by rw[Int.natAbs_neg];exact xgf _)⟩;clear hkx hS hT hI hks;obtain⟨hs,ht,hi_,fst_,fsi,fti,gst,gsi,gti⟩:=h;have GST:=xgv gst;have GSI:=xgv gsi;have GTI:=xgv gti;clear gst gsi gti;have e1:n=sn:=by rw[<-s1];simp[zY]
 have e2:n=tn:=by rw[<-t1];simp[zY]
 have e3:n=in_:=by rw[<-i1];simp[zY]
 subst e1;subst e2;subst e3;clear s1 t1 i1;obtain⟨gs,_,rfl,-⟩:=zT.at_ hs (i:=i) (by rw[hs.len];exact hi);obtain⟨gt,_,rfl,-⟩:=zT.at_ ht (i:=i) (by rw[ht.len];exact hi);obtain⟨gi,_,rfl,-⟩:=zT.at_ hi_ (i:=i) (by rw[hi_.len];exact hi);have hlt:∀b,b∈bss∨b∈bst∨b∈bsi->b<w.heap.size:=fun b hb=>by
  rcases hb with hb|hb|hb
  ·exact(hs.blk hb).elim fun r hr=>hr.lt
  ·exact(ht.blk hb).elim fun r hr=>hr.lt
  ·exact(hi_.blk hb).elim fun r hr=>hr.lt
 go_enter Tryz.func220,Tryz.ntmps220;go_upto_region 1 with(fail)
 refine zB ?_;intro W0 hW0;obtain⟨hB0,bk,hs0⟩:=zK hW0;have bx:=hbw.below hB0;have hs:=hs.below hB0;have ht:=ht.below hB0;have hi_:=hi_.below hB0;have hk:=hk.ext (lx hB0);have hO:=zX.of (fun b=>b∈bss∨b∈bst∨b∈bsi) hB0;clear hW0 hbw;obtain⟨g1,bi,eg1,hg1,hbi1,hb1,o1,-⟩:=zT.at_ hs (i:=i) (by rw[hs.len];exact hi);obtain⟨g2,bj,eg2,hg2,hbj1,hb2,o2,-⟩:=zT.at_ hs (i:=j) (by rw[hs.len];exact hj);obtain rfl:gs=g1:=by injection eg1 with eg1;injection eg1
 obtain rfl:gs=g2:=by injection eg2 with eg2;injection eg2
 clear eg1 eg2 hb1 hb2;have hm1:=xgd hbi1;obtain⟨ri,hri⟩:=hs.blk hm1;obtain⟨x1,x2,x3,x4,x5,x6⟩:=bx.three;obtain⟨d1,d2,d3,d4⟩:=bk.two;have lbx:=bx.lt;have lk:=bk.lt;refine zC 15 rfl (RI W0 (W0.heap.size) _ 35
   [VP 0 8 bw 0,VP 1 9 bw 0,VP 2 10 bw 0,VSl 3 11 gs n sc,VN 4 12 i,VP 5 13 gs i,VSl 6 14 bi Cs Cs,VP 7 15 bw 0,VP 8 16 bw 0,VP 9 17 bw 0,VSl 10 18 gs n sc,VN 11 19 j,VP 12 20 gs j,VSl 13 21 bj Cs Cs,E 14 22 (.agg #[.bool kn,.slice ka kl kc])] [] []) kR RI.start (RI.fin kR ?fin1) ?steps1
 case steps1=>
  (repeat' constructor)<;>(intro L T wS hL hd hcl hI K hK;try refine zA rfl ?_)
  ·exact xgs (hI.k 0 rfl kR)
  ·exact xgs (hI.e mm0 (hd 0))
  ·exact xgs (hI.e mm1 (hd 1))
  ·have zt2:=hI.e mm2 (hd 2)
   have cc0:=hI.cell x1 oM nom;exact xgu
  ·exact xgs (hI.k 1 rfl kR)
  ·exact xgt (hI.e mm3 (hd 3)) (hI.e mm4 (hd 4))
  ·have zt5:=hI.e mm5 (hd 5)
   have cc0:=hI.cell o1 oM nom;exact xgu
  ·exact xgs (hI.k 0 rfl kR)
  ·exact xgs (hI.e mm7 (hd 7))
  ·exact xgs (hI.e mm8 (hd 8))
  ·have zt9:=hI.e mm9 (hd 9)
   have cc0:=hI.cell x1 oM nom;exact xgu
  ·exact xgs (hI.k 2 rfl kR)
  ·exact xgt (hI.e zAB (hd 10)) (hI.e zAG (hd 11))
  ·have zt12:=hI.e zAs (hd 12)
   have cc0:=hI.cell o2 oM nom;exact xgu
  ·have zt:=hI.k 7 rfl kR
   have cc0:=hI.cell d1 oM nom;have cc1:=hI.cell d2 oM nom;exact xgu
 intro w8 hlw8 hbw8 holdw8 T hT;simp only[Fin,E,EI,VP,VSl,VN,xgg,xgh,xgi,xgj]at hT;subst hT;simp only[xgl,xgk];have hH8:=hs.below hbw8;have hri8:=hri.below hbw8;clear o1 o2 x1 x2 x3 x4 x5 x6 d1 d2 d3 d4;go_wp2_with fail
 refine(zFp hH8 hi hj hij hbi1 hbj1 _ (k) (hk.ext (lx0 hbw8)) hCs HS.out HK.out).mono ?_;rintro e w9 ⟨⟨u,rfl⟩,ho,hH9⟩;have hkne:w.heap.size≠bi:=by have:=hlt bi (by simp[hm1]);omega
 have bx:=(bx.below hbw8).row ho hri8 dE;have bk:Blk w9 w.heap.size 35 #[.bool kn,.slice ka kl kc]:=(ho.old _ (bk.below hbw8).lt (by simpa using hkne)).trans (bk.below hbw8);have hk:=(hk.ext (lx0 hbw8)).ext ho.lext;have hO:=(hO.trans (zX.of _ hbw8)).trans (⟨ho.bel,ho.lext,fun k hk hn=>ho.old k hk (by simp;rintro rfl;exact hn (by simp[hm1]))⟩:zX _ w8 w9);have ht:=(ht.below hbw8).only ho (fun hh=>fst_ _ hm1 hh) hri8;have hi_:=(hi_.below hbw8).only ho (fun hh=>fsi _ hm1 hh) hri8;have hs:Wri w9 (.slice (some ⟨gs,0,none⟩) n sc) n Cs bss (zAv S i j k):=hH9;clear ho hri8 hri hH8 hH9 hm1 hkne hbi1 hbj1;go_upto_region 2 with(fail)
 obtain⟨g1,ci,eg1,hg1,hbi1,hb1,o1,-⟩:=zT.at_ ht (i:=i) (by rw[ht.len];exact hi);obtain⟨g2,cj,eg2,hg2,hbj1,hb2,o2,-⟩:=zT.at_ ht (i:=j) (by rw[ht.len];exact hj);obtain rfl:gt=g1:=by injection eg1 with eg1;injection eg1
 obtain rfl:gt=g2:=by injection eg2 with eg2;injection eg2
 clear eg1 eg2 hb1 hb2;have hm1:=xgd hbi1;obtain⟨ri,hri⟩:=ht.blk hm1;obtain⟨x1,x2,x3,x4,x5,x6⟩:=bx.three;obtain⟨d1,d2,d3,d4⟩:=bk.two;have lbx:=bx.lt;have lk:=bk.lt;refine zC 15 rfl (RI w9 (w9.heap.size) _ 35
   [VP 0 24 bw 0,VP 1 25 bw 0,VP 2 26 bw 1,VSl 3 27 gt n tc,VN 4 28 i,VP 5 29 gt i,VSl 6 30 ci Ct Ct,VP 7 31 bw 0,VP 8 32 bw 0,VP 9 33 bw 1,VSl 10 34 gt n tc,VN 11 35 j,VP 12 36 gt j,VSl 13 37 cj Ct Ct,E 14 38 (.agg #[.bool kn,.slice ka kl kc])] [] []) kR RI.start (RI.fin kR ?fin2) ?steps2
 case steps2=>
  (repeat' constructor)<;>(intro L T wS hL hd hcl hI K hK;try refine zA rfl ?_)
  ·exact xgs (hI.k 0 rfl kR)
  ·exact xgs (hI.e mm0 (hd 0))
  ·exact xgs (hI.e mm1 (hd 1))
  ·have zt2:=hI.e mm2 (hd 2)
   have cc0:=hI.cell x2 oM nom;exact xgu
  ·exact xgs (hI.k 1 rfl kR)
  ·exact xgt (hI.e mm3 (hd 3)) (hI.e mm4 (hd 4))
  ·have zt5:=hI.e mm5 (hd 5)
   have cc0:=hI.cell o1 oM nom;exact xgu
  ·exact xgs (hI.k 0 rfl kR)
  ·exact xgs (hI.e mm7 (hd 7))
  ·exact xgs (hI.e mm8 (hd 8))
  ·have zt9:=hI.e mm9 (hd 9)
   have cc0:=hI.cell x2 oM nom;exact xgu
  ·exact xgs (hI.k 2 rfl kR)
  ·exact xgt (hI.e zAB (hd 10)) (hI.e zAG (hd 11))
  ·have zt12:=hI.e zAs (hd 12)
   have cc0:=hI.cell o2 oM nom;exact xgu
  ·have zt:=hI.k 7 rfl kR
   have cc0:=hI.cell d1 oM nom;have cc1:=hI.cell d2 oM nom;exact xgu
 intro w10 hlw10 hbw10 holdw10 T hT;simp only[Fin,E,EI,VP,VSl,VN,xgg,xgh,xgi,xgj]at hT;subst hT;simp only[xgl,xgk];have hH8:=ht.below hbw10;have hri8:=hri.below hbw10;clear o1 o2 x1 x2 x3 x4 x5 x6 d1 d2 d3 d4;go_wp2_with fail
 refine(zFp hH8 hi hj hij hbi1 hbj1 _ (k) (hk.ext (lx0 hbw10)) hCt HT.out HK.out).mono ?_;rintro e w11 ⟨⟨u,rfl⟩,ho,hH9⟩;have hkne:w.heap.size≠ci:=by have:=hlt ci (by simp[hm1]);omega
 have bx:=(bx.below hbw10).row ho hri8 dE;have bk:Blk w11 w.heap.size 35 #[.bool kn,.slice ka kl kc]:=(ho.old _ (bk.below hbw10).lt (by simpa using hkne)).trans (bk.below hbw10);have hk:=(hk.ext (lx0 hbw10)).ext ho.lext;have hO:=(hO.trans (zX.of _ hbw10)).trans (⟨ho.bel,ho.lext,fun k hk hn=>ho.old k hk (by simp;rintro rfl;exact hn (by simp[hm1]))⟩:zX _ w10 w11);have hs:=(hs.below hbw10).only ho (fun hh=>fst_ _ hh hm1) hri8;have hi_:=(hi_.below hbw10).only ho (fun hh=>fti _ hm1 hh) hri8;have ht:Wri w11 (.slice (some ⟨gt,0,none⟩) n tc) n Ct bst (zAv T i j k):=hH9;clear ho hri8 hri hH8 hH9 hm1 hkne hbi1 hbj1;go_upto_region 3 with(fail)
 obtain⟨g1,di,eg1,hg1,hbi1,hb1,o1,-⟩:=zT.at_ hi_ (i:=j) (by rw[hi_.len];exact hj);obtain⟨g2,dj,eg2,hg2,hbj1,hb2,o2,-⟩:=zT.at_ hi_ (i:=i) (by rw[hi_.len];exact hi);obtain rfl:gi=g1:=by injection eg1 with eg1;injection eg1
 obtain rfl:gi=g2:=by injection eg2 with eg2;injection eg2
 clear eg1 eg2 hb1 hb2;have hm1:=xgd hbi1;obtain⟨ri,hri⟩:=hi_.blk hm1;obtain⟨x1,x2,x3,x4,x5,x6⟩:=bx.three;obtain⟨d1,d2,d3,d4⟩:=bk.two;have lbx:=bx.lt;have lk:=bk.lt;refine zC 16 rfl (RI w11 (w11.heap.size) _ 35
   [VP 0 40 bw 0,VP 1 41 bw 0,VP 2 42 bw 2,VSl 3 43 gi n ic,VN 4 44 j,VP 5 45 gi j,VSl 6 46 di Ct Ct,VP 7 47 bw 0,VP 8 48 bw 0,VP 9 49 bw 2,VSl 10 50 gi n ic,VN 11 51 i,VP 12 52 gi i,VSl 13 53 dj Ct Ct,E 14 54 (.agg #[.bool kn,.slice ka kl kc]),EI 15 55 (-k)] [] []) kR RI.start (RI.fin kR ?fin3) ?steps3
 case steps3=>
  (repeat' constructor)<;>(intro L T wS hL hd hcl hI K hK;try refine zA rfl ?_)
  ·exact xgs (hI.k 0 rfl kR)
  ·exact xgs (hI.e mm0 (hd 0))
  ·exact xgs (hI.e mm1 (hd 1))
  ·have zt2:=hI.e mm2 (hd 2)
   have cc0:=hI.cell x3 oM nom;exact xgu
  ·exact xgs (hI.k 2 rfl kR)
  ·exact xgt (hI.e mm3 (hd 3)) (hI.e mm4 (hd 4))
  ·have zt5:=hI.e mm5 (hd 5)
   have cc0:=hI.cell o1 oM nom;exact xgu
  ·exact xgs (hI.k 0 rfl kR)
  ·exact xgs (hI.e mm7 (hd 7))
  ·exact xgs (hI.e mm8 (hd 8))
  ·have zt9:=hI.e mm9 (hd 9)
   have cc0:=hI.cell x3 oM nom;exact xgu
  ·exact xgs (hI.k 1 rfl kR)
  ·exact xgt (hI.e zAB (hd 10)) (hI.e zAG (hd 11))
  ·have zt12:=hI.e zAs (hd 12)
   have cc0:=hI.cell o2 oM nom;exact xgu
  ·have zt:=hI.k 7 rfl kR
   have cc0:=hI.cell d1 oM nom;have cc1:=hI.cell d2 oM nom;exact xgu
  ·have zt14:=hI.e zBq (hd 14)
   go_simp;refine(jP _ k _ (hk.ext hI.lext).weak HK.out).mono ?_;exact xgo
 intro w12 hlw12 hbw12 holdw12 T hT;simp only[Fin,E,EI,VP,VSl,VN,xgg,xgh,xgi,xgj]at hT;obtain⟨vc15,hc15,rfl⟩:=hT;simp only[xgl,xgk];have hH8:=hi_.below hbw12;have hri8:=hri.below hbw12;clear o1 o2 x1 x2 x3 x4 x5 x6 d1 d2 d3 d4;go_wp2_with fail
 refine(zFp hH8 hj hi (Ne.symm hij) hbi1 hbj1 _ (-k) hc15 hCt HI.out HKn.out).mono ?_;rintro e w13 ⟨⟨u,rfl⟩,ho,hH9⟩;have hkne:w.heap.size≠di:=by have:=hlt di (by simp[hm1]);omega
 have bx:=(bx.below hbw12).row ho hri8 dE;have bk:Blk w13 w.heap.size 35 #[.bool kn,.slice ka kl kc]:=(ho.old _ (bk.below hbw12).lt (by simpa using hkne)).trans (bk.below hbw12);have hk:=(hk.ext (lx0 hbw12)).ext ho.lext;have hO:=(hO.trans (zX.of _ hbw12)).trans (⟨ho.bel,ho.lext,fun k hk hn=>ho.old k hk (by simp;rintro rfl;exact hn (by simp[hm1]))⟩:zX _ w12 w13);have hs:=(hs.below hbw12).only ho (fun hh=>fsi _ hh hm1) hri8;have ht:=(ht.below hbw12).only ho (fun hh=>fti _ hh hm1) hri8;go_wp2;exact bodyPost_end (results_none rfl _ _ _) rfl ⟨⟨_,rfl⟩,hO,bx,hs,ht,hH9,fst_,fsi,fti,GST.out,GSI.out,GTI.out⟩
theorem zNe(bw:Nat)(Ah Au Av mv:Value)(n Cs Ct i j:Nat)(bss bst bsi:List Nat)(S T I:Nat->Nat->Int)(m0 m1 m2 m3:Int)(w:World)(hbw:Blk w bw tHW #[Ah,Au,Av])(h:zD4 w Ah Au Av n Cs Ct bss bst bsi S T I)(hi:i<n)(hj:j<n)(hij:i≠j)(hm:M4V w mv m0 m1 m2 m3)
  (hn:n<=1000000) (hCs:Cs<=1000000) (hCt:Ct<=1000000) (hS:zNz Cs (S i) (S j) m0 m1 m2 m3) (hT:zNz Ct (T i) (T j) m0 m1 m2 m3) (hI:zNz Ct (I i) (I j) m3 (-m2) (-m1) m0) (hms:Sm m0/\Sm m1/\Sm m2/\Sm m3):
  Calls Tryz.prog 221 #[.pointer (some ⟨bw,0,none⟩),.int .i64 i,.int .i64 j,mv] w fun e w'=>(∃u,e= .returned u)/\zX (fun b=>b∈bss∨b∈bst∨b∈bsi) w w'/\Blk w' bw tHW #[Ah,Au,Av]∧
   zD4 w' Ah Au Av n Cs Ct bss bst bsi (qQ S i j m0 m1 m2 m3) (qQ T i j m0 m1 m2 m3) (qQ I i j m3 (-m2) (-m1) m0):=by
 obtain⟨so,sn,sc,rfl,s1,s2,s3,-⟩:=id (zT.rows h.s);obtain⟨uo,tn,tc,rfl,t1,t2,t3,-⟩:=id (zT.rows h.t);obtain⟨io,in_,ic,rfl,i1,i2,i3,-⟩:=id (zT.rows h.i);have HS:=xgv hS;have HT:=xgv hT;have HI:=xgv hI;have HK:=xgv hms;have hms':Sm m3/\Sm (-m2)/\Sm (-m1)/\Sm m0:=⟨hms.2.2.2,hms.2.2.1.mono (by rw[Int.natAbs_neg];exact xgf _),hms.2.1.mono (by rw[Int.natAbs_neg];exact xgf _),hms.1⟩;have HK2:=xgv hms';obtain⟨n0,a0,l0,c0,n1,a1,l1,c1,n2,a2,l2,c2,n3,a3,l3,c3,rfl,j0,j1,j2,j3⟩:=id hm;have HM0:=xgv (And.intro j0 (And.intro j1 (And.intro j2 j3)));clear hS hT hI hms hm hms' j0 j1 j2 j3;obtain⟨hs,ht,hi_,fst_,fsi,fti,gst,gsi,gti⟩:=h;have GST:=xgv gst;have GSI:=xgv gsi;have GTI:=xgv gti;clear gst gsi gti;have e1:n=sn:=by rw[<-s1];simp[zY]
 have e2:n=tn:=by rw[<-t1];simp[zY]
 have e3:n=in_:=by rw[<-i1];simp[zY]
 subst e1;subst e2;subst e3;clear s1 t1 i1;obtain⟨gs,_,rfl,-⟩:=zT.at_ hs (i:=i) (by rw[hs.len];exact hi);obtain⟨gt,_,rfl,-⟩:=zT.at_ ht (i:=i) (by rw[ht.len];exact hi);obtain⟨gi,_,rfl,-⟩:=zT.at_ hi_ (i:=i) (by rw[hi_.len];exact hi);have hlt:∀b,b∈bss∨b∈bst∨b∈bsi->b<w.heap.size:=fun b hb=>by
  rcases hb with hb|hb|hb
  ·exact(hs.blk hb).elim fun r hr=>hr.lt
  ·exact(ht.blk hb).elim fun r hr=>hr.lt
  ·exact(hi_.blk hb).elim fun r hr=>hr.lt
 go_enter Tryz.func221,Tryz.ntmps221;go_upto_region 1 with(fail)
 refine zB ?_;intro W0 hW0;obtain⟨hB0,bm,hs0⟩:=zK hW0;have bx:=hbw.below hB0;have hs:=hs.below hB0;have ht:=ht.below hB0;have hi_:=hi_.below hB0;have hO:=zX.of (fun b=>b∈bss∨b∈bst∨b∈bsi) hB0;have hl2:=zCH m3 (-m2);have hl3:=zCH (-m1) m0;have hl4:=zF6 m3 (-m2) (-m1) m0;clear hW0 hbw;obtain⟨g1,bi,eg1,hg1,hbi1,hb1,o1,-⟩:=zT.at_ hs (i:=i) (by rw[hs.len];exact hi);obtain⟨g2,bj,eg2,hg2,hbj1,hb2,o2,-⟩:=zT.at_ hs (i:=j) (by rw[hs.len];exact hj);obtain rfl:gs=g1:=by injection eg1 with eg1;injection eg1
 obtain rfl:gs=g2:=by injection eg2 with eg2;injection eg2
 clear eg1 eg2 hb1 hb2;have hm1:=xgd hbi1;have hm2:=xgd hbj1;obtain⟨ri,hri⟩:=hs.blk hm1;obtain⟨rj,hrj⟩:=hs.blk hm2;obtain⟨x1,x2,x3,x4,x5,x6⟩:=bx.three;obtain⟨k0,k1,k2,k3,k4,k5,k6,k7⟩:=bm.eight;have lbx:=bx.lt;have lm:=bm.lt;have j0:=HM0.out.1.ext hO.lext;have j1:=HM0.out.2.1.ext hO.lext;have j2:=HM0.out.2.2.1.ext hO.lext;have j3:=HM0.out.2.2.2.ext hO.lext;refine zC 15 rfl (RI W0 (W0.heap.size) _ 35
   [VP 0 8 bw 0,VP 1 9 bw 0,VP 2 10 bw 0,VSl 3 11 gs n sc,VN 4 12 i,VP 5 13 gs i,VSl 6 14 bi Cs Cs,VP 7 15 bw 0,VP 8 16 bw 0,VP 9 17 bw 0,VSl 10 18 gs n sc,VN 11 19 j,VP 12 20 gs j,VSl 13 21 bj Cs Cs,E 14 22 (.agg #[.bool n0,.slice a0 l0 c0,.bool n1,.slice a1 l1 c1,.bool n2,.slice a2 l2 c2,.bool n3,.slice a3 l3 c3])] [] []) kR RI.start (RI.fin kR ?fin1) ?steps1
 case steps1=>
  (repeat' constructor)<;>(intro L T wS hL hd hcl hI K hK;try refine zA rfl ?_)
  ·exact xgs (hI.k 0 rfl kR)
  ·exact xgs (hI.e mm0 (hd 0))
  ·exact xgs (hI.e mm1 (hd 1))
  ·have zt2:=hI.e mm2 (hd 2)
   have cc0:=hI.cell x1 oM nom;exact xgu
  ·exact xgs (hI.k 1 rfl kR)
  ·exact xgt (hI.e mm3 (hd 3)) (hI.e mm4 (hd 4))
  ·have zt5:=hI.e mm5 (hd 5)
   have cc0:=hI.cell o1 oM nom;exact xgu
  ·exact xgs (hI.k 0 rfl kR)
  ·exact xgs (hI.e mm7 (hd 7))
  ·exact xgs (hI.e mm8 (hd 8))
  ·have zt9:=hI.e mm9 (hd 9)
   have cc0:=hI.cell x1 oM nom;exact xgu
  ·exact xgs (hI.k 2 rfl kR)
  ·exact xgt (hI.e zAB (hd 10)) (hI.e zAG (hd 11))
  ·have zt12:=hI.e zAs (hd 12)
   have cc0:=hI.cell o2 oM nom;exact xgu
  ·have zt:=hI.k 7 rfl kR
   have cc0:=hI.cell k0 oM nom;have cc1:=hI.cell k1 oM nom;have cc2:=hI.cell k2 oM nom;have cc3:=hI.cell k3 oM nom;have cc4:=hI.cell k4 oM nom;have cc5:=hI.cell k5 oM nom;have cc6:=hI.cell k6 oM nom;have cc7:=hI.cell k7 oM nom;exact xgu
 intro w8 hlw8 hbw8 holdw8 T hT;simp only[Fin,E,EI,VP,VSl,VN,xgg,xgh,xgi,xgj]at hT;subst hT;simp only[xgl,xgk];have hH8:=hs.below hbw8;have hri8:=hri.below hbw8;have hrj8:=hrj.below hbw8;clear o1 o2 x1 x2 x3 x4 x5 x6 k0 k1 k2 k3 k4 k5 k6 k7;go_wp2_with fail
 refine(zCv hH8 hi hj hij hbi1 hbj1 ⟨_,_,_,_,_,_,_,_,_,_,_,_,_,_,_,_,rfl,j0.ext (lx0 hbw8),j1.ext (lx0 hbw8),j2.ext (lx0 hbw8),j3.ext (lx0 hbw8)⟩ hCs HS.out HK.out).mono ?_;rintro e w9 ⟨⟨u,rfl⟩,ho,hH9⟩;have hk1:w.heap.size≠bi:=by have:=hlt bi (by simp[hm1]);omega
 have hk2:w.heap.size≠bj:=by have:=hlt bj (by simp[hm2]);omega
 have bx:=(bx.below hbw8).row2 ho hri8 hrj8 dE;have bm:Blk w9 w.heap.size 301 #[.bool n0,.slice a0 l0 c0,.bool n1,.slice a1 l1 c1,.bool n2,.slice a2 l2 c2,.bool n3,.slice a3 l3 c3]:=(bm.below hbw8).row2 ho hri8 hrj8 dE;have hO:=(hO.trans (zX.of _ hbw8)).trans (⟨ho.bel,ho.lext,fun k hk hn=>ho.old k hk (by simp;exact⟨fun e=>hn (by rw[e];simp[hm1]),fun e=>hn (by rw[e];simp[hm2])⟩)⟩:zX _ w8 w9);have ht:=(ht.below hbw8).only2 ho (fun hh=>fst_ _ hm1 hh) (fun hh=>fst_ _ hm2 hh) hri8 hrj8;have hi_:=(hi_.below hbw8).only2 ho (fun hh=>fsi _ hm1 hh) (fun hh=>fsi _ hm2 hh) hri8 hrj8;have hs:=hH9;clear ho hri8 hri hrj8 hrj hH8 hH9 hm1 hm2 hk1 hk2 hbi1 hbj1;go_upto_region 2 with(fail)
 obtain⟨g1,ci,eg1,hg1,hbi1,hb1,o1,-⟩:=zT.at_ ht (i:=i) (by rw[ht.len];exact hi);obtain⟨g2,cj,eg2,hg2,hbj1,hb2,o2,-⟩:=zT.at_ ht (i:=j) (by rw[ht.len];exact hj);obtain rfl:gt=g1:=by injection eg1 with eg1;injection eg1
 obtain rfl:gt=g2:=by injection eg2 with eg2;injection eg2
 clear eg1 eg2 hb1 hb2;have hm1:=xgd hbi1;have hm2:=xgd hbj1;obtain⟨ri,hri⟩:=ht.blk hm1;obtain⟨rj,hrj⟩:=ht.blk hm2;obtain⟨x1,x2,x3,x4,x5,x6⟩:=bx.three;obtain⟨k0,k1,k2,k3,k4,k5,k6,k7⟩:=bm.eight;have lbx:=bx.lt;have lm:=bm.lt;have j0:=HM0.out.1.ext hO.lext;have j1:=HM0.out.2.1.ext hO.lext;have j2:=HM0.out.2.2.1.ext hO.lext;have j3:=HM0.out.2.2.2.ext hO.lext;refine zC 15 rfl (RI w9 (w9.heap.size) _ 35
   [VP 0 24 bw 0,VP 1 25 bw 0,VP 2 26 bw 1,VSl 3 27 gt n tc,VN 4 28 i,VP 5 29 gt i,VSl 6 30 ci Ct Ct,VP 7 31 bw 0,VP 8 32 bw 0,VP 9 33 bw 1,VSl 10 34 gt n tc,VN 11 35 j,VP 12 36 gt j,VSl 13 37 cj Ct Ct,E 14 38 (.agg #[.bool n0,.slice a0 l0 c0,.bool n1,.slice a1 l1 c1,.bool n2,.slice a2 l2 c2,.bool n3,.slice a3 l3 c3])] [] []) kR RI.start (RI.fin kR ?fin2) ?steps2
 case steps2=>
  (repeat' constructor)<;>(intro L T wS hL hd hcl hI K hK;try refine zA rfl ?_)
  ·exact xgs (hI.k 0 rfl kR)
  ·exact xgs (hI.e mm0 (hd 0))
  ·exact xgs (hI.e mm1 (hd 1))
  ·have zt2:=hI.e mm2 (hd 2)
   have cc0:=hI.cell x2 oM nom;exact xgu
  ·exact xgs (hI.k 1 rfl kR)
  ·exact xgt (hI.e mm3 (hd 3)) (hI.e mm4 (hd 4))
  ·have zt5:=hI.e mm5 (hd 5)
   have cc0:=hI.cell o1 oM nom;exact xgu
  ·exact xgs (hI.k 0 rfl kR)
  ·exact xgs (hI.e mm7 (hd 7))
  ·exact xgs (hI.e mm8 (hd 8))
  ·have zt9:=hI.e mm9 (hd 9)
   have cc0:=hI.cell x2 oM nom;exact xgu
  ·exact xgs (hI.k 2 rfl kR)
  ·exact xgt (hI.e zAB (hd 10)) (hI.e zAG (hd 11))
  ·have zt12:=hI.e zAs (hd 12)
   have cc0:=hI.cell o2 oM nom;exact xgu
  ·have zt:=hI.k 7 rfl kR
   have cc0:=hI.cell k0 oM nom;have cc1:=hI.cell k1 oM nom;have cc2:=hI.cell k2 oM nom;have cc3:=hI.cell k3 oM nom;have cc4:=hI.cell k4 oM nom;have cc5:=hI.cell k5 oM nom;have cc6:=hI.cell k6 oM nom;have cc7:=hI.cell k7 oM nom;exact xgu
 intro w10 hlw10 hbw10 holdw10 T hT;simp only[Fin,E,EI,VP,VSl,VN,xgg,xgh,xgi,xgj]at hT;subst hT;simp only[xgl,xgk];have hH8:=ht.below hbw10;have hri8:=hri.below hbw10;have hrj8:=hrj.below hbw10;clear o1 o2 x1 x2 x3 x4 x5 x6 k0 k1 k2 k3 k4 k5 k6 k7;go_wp2_with fail
 refine(zCv hH8 hi hj hij hbi1 hbj1 ⟨_,_,_,_,_,_,_,_,_,_,_,_,_,_,_,_,rfl,j0.ext (lx0 hbw10),j1.ext (lx0 hbw10),j2.ext (lx0 hbw10),j3.ext (lx0 hbw10)⟩ hCt HT.out HK.out).mono ?_;rintro e w11 ⟨⟨u,rfl⟩,ho,hH9⟩;have hk1:w.heap.size≠ci:=by have:=hlt ci (by simp[hm1]);omega
 have hk2:w.heap.size≠cj:=by have:=hlt cj (by simp[hm2]);omega
 have bx:=(bx.below hbw10).row2 ho hri8 hrj8 dE;have bm:Blk w11 w.heap.size 301 #[.bool n0,.slice a0 l0 c0,.bool n1,.slice a1 l1 c1,.bool n2,.slice a2 l2 c2,.bool n3,.slice a3 l3 c3]:=(bm.below hbw10).row2 ho hri8 hrj8 dE;have hO:=(hO.trans (zX.of _ hbw10)).trans (⟨ho.bel,ho.lext,fun k hk hn=>ho.old k hk (by simp;exact⟨fun e=>hn (by rw[e];simp[hm1]),fun e=>hn (by rw[e];simp[hm2])⟩)⟩:zX _ w10 w11);have hs:=(hs.below hbw10).only2 ho (fun hh=>fst_ _ hh hm1) (fun hh=>fst_ _ hh hm2) hri8 hrj8;have hi_:=(hi_.below hbw10).only2 ho (fun hh=>fti _ hm1 hh) (fun hh=>fti _ hm2 hh) hri8 hrj8;have ht:=hH9;clear ho hri8 hri hrj8 hrj hH8 hH9 hm1 hm2 hk1 hk2 hbi1 hbj1;go_upto_region 3 with(fail)
 obtain⟨g1,di,eg1,hg1,hbi1,hb1,o1,-⟩:=zT.at_ hi_ (i:=i) (by rw[hi_.len];exact hi);obtain⟨g2,dj,eg2,hg2,hbj1,hb2,o2,-⟩:=zT.at_ hi_ (i:=j) (by rw[hi_.len];exact hj);obtain rfl:gi=g1:=by injection eg1 with eg1;injection eg1
 obtain rfl:gi=g2:=by injection eg2 with eg2;injection eg2
 clear eg1 eg2 hb1 hb2;have hm1:=xgd hbi1;have hm2:=xgd hbj1;obtain⟨ri,hri⟩:=hi_.blk hm1;obtain⟨rj,hrj⟩:=hi_.blk hm2;obtain⟨x1,x2,x3,x4,x5,x6⟩:=bx.three;obtain⟨k0,k1,k2,k3,k4,k5,k6,k7⟩:=bm.eight;have lbx:=bx.lt;have lm:=bm.lt;have j0:=HM0.out.1.ext hO.lext;have j1:=HM0.out.2.1.ext hO.lext;have j2:=HM0.out.2.2.1.ext hO.lext;have j3:=HM0.out.2.2.2.ext hO.lext;refine zC 31 rfl (RI w11 (w11.heap.size) _ 35
   [VP 0 40 bw 0,VP 1 41 bw 0,VP 2 42 bw 2,VSl 3 43 gi n ic,VN 4 44 i,VP 5 45 gi i,VSl 6 46 di Ct Ct,VP 7 47 bw 0,VP 8 48 bw 0,VP 9 49 bw 2,VSl 10 50 gi n ic,VN 11 51 j,VP 12 52 gi j,VSl 13 53 dj Ct Ct,VP 14 54 w.heap.size 4,VP 15 55 w.heap.size 6,E 16 56 (.agg #[.bool n3,.slice a3 l3 c3]),VP 17 57 w.heap.size 4,VP 18 58 w.heap.size 4,E 19 59 (.agg #[.bool n2,.slice a2 l2 c2]),EI 20 60 (-m2),⟨21,61,M2V m3 (-m2)⟩,VP 22 62 w.heap.size 0,VP 23 63 w.heap.size 2,E 24 64 (.agg #[.bool n1,.slice a1 l1 c1]),EI 25 65 (-m1),VP 26 66 w.heap.size 0,VP 27 67 w.heap.size 0,E 28 68 (.agg #[.bool n0,.slice a0 l0 c0]),⟨29,69,M2V (-m1) m0⟩,⟨30,70,fun w v=>M4V w v m3 (-m2) (-m1) m0⟩] [] []) kR RI.start (RI.fin kR ?fin3) ?steps3
 case steps3=>
  (repeat' constructor)<;>(intro L T wS hL hd hcl hI K hK;try refine zA rfl ?_)
  ·exact xgs (hI.k 0 rfl kR)
  ·exact xgs (hI.e mm0 (hd 0))
  ·exact xgs (hI.e mm1 (hd 1))
  ·have zt2:=hI.e mm2 (hd 2)
   have cc0:=hI.cell x3 oM nom;exact xgu
  ·exact xgs (hI.k 1 rfl kR)
  ·exact xgt (hI.e mm3 (hd 3)) (hI.e mm4 (hd 4))
  ·have zt5:=hI.e mm5 (hd 5)
   have cc0:=hI.cell o1 oM nom;exact xgu
  ·exact xgs (hI.k 0 rfl kR)
  ·exact xgs (hI.e mm7 (hd 7))
  ·exact xgs (hI.e mm8 (hd 8))
  ·have zt9:=hI.e mm9 (hd 9)
   have cc0:=hI.cell x3 oM nom;exact xgu
  ·exact xgs (hI.k 2 rfl kR)
  ·exact xgt (hI.e zAB (hd 10)) (hI.e zAG (hd 11))
  ·have zt12:=hI.e zAs (hd 12)
   have cc0:=hI.cell o2 oM nom;exact xgu
  ·exact xgs (hI.k 7 rfl kR)
  ·exact xgs (hI.e zBq (hd 14))
  ·have zt15:=hI.e zCV (hd 15)
   have cc0:=hI.cell k6 oM nom;have cc1:=hI.cell k7 oM nom;exact xgu
  ·exact xgs (hI.k 7 rfl kR)
  ·exact xgs (hI.e zEy (hd 17))
  ·have zt18:=hI.e zCl (hd 18)
   have cc0:=hI.cell k4 oM nom;have cc1:=hI.cell k5 oM nom;exact xgu
  ·have zt19:=hI.e zE5 (hd 19)
   go_simp;refine(jP _ m2 _ (j2.ext hI.lext).weak HK.out.2.2.1).mono ?_;exact xgo
  ·have zt16:=hI.e zDy (hd 16)
   obtain⟨v20,zt20,h20⟩:=hI.vi zEz (hd 20);obtain⟨a16,b16,d16,e16,x16,rfl,y16⟩:=id h20;go_simp;exact hK _ _ (hI.y zE0 ⟨_,_,_,_,_,_,_,_,rfl,j3.ext hI.lext,h20⟩)
  ·exact xgs (hI.k 7 rfl kR)
  ·exact xgs (hI.e zFa (hd 22))
  ·have zt23:=hI.e zFb (hd 23)
   have cc0:=hI.cell k2 oM nom;have cc1:=hI.cell k3 oM nom;exact xgu
  ·have zt24:=hI.e zHa (hd 24)
   go_simp;refine(jP _ m1 _ (j1.ext hI.lext).weak HK.out.2.1).mono ?_;exact xgo
  ·exact xgs (hI.k 7 rfl kR)
  ·exact xgs (hI.e zIp (hd 26))
  ·have zt27:=hI.e zJf (hd 27)
   have cc0:=hI.cell k0 oM nom;have cc1:=hI.cell k1 oM nom;exact xgu
  ·obtain⟨v25,zt25,h25⟩:=hI.vi zE1 (hd 25)
   have zt28:=hI.e zKA (hd 28);obtain⟨a21,b21,d21,e21,x21,rfl,y21⟩:=id h25;go_simp;exact hK _ _ (hI.y zIq ⟨_,_,_,_,_,_,_,_,rfl,h25,j0.ext hI.lext⟩)
  ·obtain⟨v21,zt21,h21⟩:=hI.v zE0 (hd 21)
   obtain⟨v29,zt29,h29⟩:=hI.v zIq (hd 29);obtain⟨p0,p1,p2,p3,p4,p5,p6,p7,rfl,p8,p9⟩:=h21;obtain⟨q0,q1,q2,q3,q4,q5,q6,q7,rfl,q8,q9⟩:=h29;go_simp;exact hK _ _ (hI.y zMA ⟨_,_,_,_,_,_,_,_,_,_,_,_,_,_,_,_,rfl,p8,p9,q8,q9⟩)
 intro w12 hlw12 hbw12 holdw12 T hT;simp only[Fin,E,EI,VP,VSl,VN,xgg,xgh,xgi,xgj]at hT;obtain⟨vc20,hc20,vc21,hc21,vc25,hc25,vc29,hc29,vc30,hc30,rfl⟩:=hT;simp only[xgl,xgk];have hH8:=hi_.below hbw12;have hri8:=hri.below hbw12;have hrj8:=hrj.below hbw12;have hm4:M4V w12 vc30 m3 (-m2) (-m1) m0:=hc30;obtain⟨p0,p1,p2,p3,p4,p5,p6,p7,p8,p9,p10,p11,p12,p13,p14,p15,rfl,-⟩:=id hm4;clear o1 o2 x1 x2 x3 x4 x5 x6 k0 k1 k2 k3 k4 k5 k6 k7 j0 j1 j2 j3;go_wp2_with fail
 refine(zCv hH8 hi hj hij hbi1 hbj1 hm4 hCt HI.out HK2.out).mono ?_;rintro e w13 ⟨⟨u,rfl⟩,ho,hH9⟩;have hk1:w.heap.size≠di:=by have:=hlt di (by simp[hm1]);omega
 have hk2:w.heap.size≠dj:=by have:=hlt dj (by simp[hm2]);omega
 have bx:=(bx.below hbw12).row2 ho hri8 hrj8 dE;have bm:Blk w13 w.heap.size 301 #[.bool n0,.slice a0 l0 c0,.bool n1,.slice a1 l1 c1,.bool n2,.slice a2 l2 c2,.bool n3,.slice a3 l3 c3]:=(bm.below hbw12).row2 ho hri8 hrj8 dE;have hO:=(hO.trans (zX.of _ hbw12)).trans (⟨ho.bel,ho.lext,fun k hk hn=>ho.old k hk (by simp;exact⟨fun e=>hn (by rw[e];simp[hm1]),fun e=>hn (by rw[e];simp[hm2])⟩)⟩:zX _ w12 w13);have hs:=(hs.below hbw12).only2 ho (fun hh=>fsi _ hh hm1) (fun hh=>fsi _ hh hm2) hri8 hrj8;have ht:=(ht.below hbw12).only2 ho (fun hh=>fti _ hh hm1) (fun hh=>fti _ hh hm2) hri8 hrj8;go_wp2;exact bodyPost_end (results_none rfl _ _ _) rfl ⟨⟨_,rfl⟩,hO,bx,hs,ht,hH9,fst_,fsi,fti,GST.out,GSI.out,GTI.out⟩
theorem zAh(t:TypeId)(n:Nat)(cs:Array Value)(k:Int)(j:Nat)(v:Value)(W:World)(h:Tryz.prog.underlying t=some (.array n tR))(hk:k=(j:Int))(hj:j<n)(hv:cs[j]?=some v):
  (Instr.index t (.agg cs) (.int .i64 k)).run Tryz.prog W= .ok v W:=by
 subst hk;obtain⟨i0,hi,hz0,hz1,hz2⟩:=info_parts Tryz.infoR;have hc:(0:Int)<=(j:Int)/\(j:Int)<(n:Int):=by omega
 have hu:=Tryz.underlying30;simp[Instr.index,run_underlying h,asIntOf,hc,part,isAgg,run_underlying hu,sizeOf,typeInfo,hi,hz1,hv,go_sem];intro h0;omega
theorem zNf(bw:Nat)(Ah Au Av:Value)(n Cs Ct i:Nat)(bss bst bsi:List Nat)(FS FT FI:Nat->Nat->Int)(w:World)(hbw:Blk w bw tHW #[Ah,Au,Av])(h:zD4 w Ah Au Av n Cs Ct bss bst bsi FS FT FI)(hi:i<n)
  (hn:n<=1000000) (hCs:Cs<=1000000) (hCt:Ct<=1000000) (hS:∀a,a<n->∀b,b<Cs->Sm (FS a b)) (hT:∀a,a<n->∀b,b<Ct->Sm (FT a b)) (hI:∀a,a<n->∀b,b<Ct->Sm (FI a b)):
  Calls Tryz.prog 222 #[.pointer (some ⟨bw,0,none⟩),.int .i64 i] w fun e w'=>(∃u,e= .returned u)/\zX (fun b=>b∈bss∨b∈bst∨b∈bsi) w w'/\Blk w' bw tHW #[Ah,Au,Av]∧
   zD4 w' Ah Au Av n Cs Ct bss bst bsi (zAt FS i) (zAt FT i) (zAt FI i):=by
 obtain⟨so,sn,sc,rfl,s1,s2,s3,-⟩:=id (zT.rows h.s);obtain⟨uo,tn,tc,rfl,t1,t2,t3,-⟩:=id (zT.rows h.t);obtain⟨io,in_,ic,rfl,i1,i2,i3,-⟩:=id (zT.rows h.i);have HS:=xgv hS;have HT:=xgv hT;have HI:=xgv hI;clear hS hT hI;obtain⟨hs,ht,hi_,fst_,fsi,fti,gst,gsi,gti⟩:=h;have GST:=xgv gst;have GSI:=xgv gsi;have GTI:=xgv gti;clear gst gsi gti;have e1:n=sn:=by rw[<-s1];simp[zY]
 have e2:n=tn:=by rw[<-t1];simp[zY]
 have e3:n=in_:=by rw[<-i1];simp[zY]
 subst e1;subst e2;subst e3;clear s1 t1 i1;obtain⟨gs,bi,rfl,hgs,hbi,-,o1,-⟩:=zT.at_ hs (i:=i) (by rw[hs.len];exact hi);obtain⟨gt,ci,rfl,hgt,hci,-,o2,-⟩:=zT.at_ ht (i:=i) (by rw[ht.len];exact hi);obtain⟨gi,di,rfl,hgi,hdi,-,o3,-⟩:=zT.at_ hi_ (i:=i) (by rw[hi_.len];exact hi);have hOz:=zX.refl (fun b=>b∈bss∨b∈bst∨b∈bsi) w;obtain⟨x1,x2,x3,x4,x5,x6⟩:=hbw.three;have lbw:=hbw.lt;go_enter Tryz.func222,Tryz.ntmps222;go_upto_region 0 with(fail)
 refine zE rfl (RI w (w.heap.size) _ 35
   [VP 0 8 bw 0,VP 1 9 bw 0,VP 2 10 bw 0,VSl 3 11 gs n sc,VN 4 12 i,VP 5 13 gs i,VSl 6 14 bi Cs Cs,VP 7 15 bw 0,VP 8 16 bw 0,VP 9 17 bw 1,VSl 10 18 gt n tc,VN 11 19 i,VP 12 20 gt i,VSl 13 21 ci Ct Ct,VP 14 22 bw 0,VP 15 23 bw 0,VP 16 24 bw 2,VSl 17 25 gi n ic,VN 18 26 i,VP 19 27 gi i,VSl 20 28 di Ct Ct,E 21 29 (.agg #[.slice (some ⟨bi,0,none⟩) Cs Cs,.slice (some ⟨ci,0,none⟩) Ct Ct,.slice (some ⟨di,0,none⟩) Ct Ct]),VN 22 30 0] [] []) kR RI.start (RI.fin kR ?fin1) ?steps1
 case steps1=>
  (repeat' constructor)<;>(intro L T wS hL hd hcl hI K hK;try refine zA rfl ?_)
  ·exact xgs (hI.k 0 rfl kR)
  ·exact xgs (hI.e mm0 (hd 0))
  ·exact xgs (hI.e mm1 (hd 1))
  ·have zt2:=hI.e mm2 (hd 2)
   have cc0:=hI.cell x1 oM nom;exact xgu
  ·exact xgs (hI.k 1 rfl kR)
  ·exact xgt (hI.e mm3 (hd 3)) (hI.e mm4 (hd 4))
  ·have zt5:=hI.e mm5 (hd 5)
   have cc0:=hI.cell o1 oM nom;exact xgu
  ·exact xgs (hI.k 0 rfl kR)
  ·exact xgs (hI.e mm7 (hd 7))
  ·exact xgs (hI.e mm8 (hd 8))
  ·have zt9:=hI.e mm9 (hd 9)
   have cc0:=hI.cell x2 oM nom;exact xgu
  ·exact xgs (hI.k 1 rfl kR)
  ·exact xgt (hI.e zAB (hd 10)) (hI.e zAG (hd 11))
  ·have zt12:=hI.e zAs (hd 12)
   have cc0:=hI.cell o2 oM nom;exact xgu
  ·exact xgs (hI.k 0 rfl kR)
  ·exact xgs (hI.e zBq (hd 14))
  ·exact xgs (hI.e zCV (hd 15))
  ·have zt16:=hI.e zDy (hd 16)
   have cc0:=hI.cell x3 oM nom;exact xgu
  ·exact xgs (hI.k 1 rfl kR)
  ·exact xgt (hI.e zEy (hd 17)) (hI.e zCl (hd 18))
  ·have zt19:=hI.e zE5 (hd 19)
   have cc0:=hI.cell o3 oM nom;exact xgu
  ·have zt6:=hI.e mm6 (hd 6)
   exact xgt (hI.e zCS (hd 13)) (hI.e zEz (hd 20))
  ·go_simp
   exact hK _ _ (hI.y zFa rfl)
 intro w0 hlw0 hbw0 holdw0 T hT;simp only[Fin,E,EI,VP,VSl,VN,xgg,xgh,xgi,xgj]at hT;subst hT;have hOz:=hOz.trans (zX.of _ hbw0);have bx:=hbw.below hbw0;have hs:=hs.below hbw0;have ht:=ht.below hbw0;have hi_:=hi_.below hbw0;clear o1 o2 o3 x1 x2 x3 x4 x5 x6 hbw hgs hgt hgi;go_wp2;go_loopw [30] (fun mv wr=>∃m:Nat,m<=3/\mv= .int .i64 m/\zX (fun b=>b∈bss∨b∈bst∨b∈bsi) w wr/\Blk wr bw tHW #[.slice (some ⟨gs,0,none⟩) n sc,.slice (some ⟨gt,0,none⟩) n tc,.slice (some ⟨gi,0,none⟩) n ic]∧
  Wri wr (.slice (some ⟨gs,0,none⟩) n sc) n Cs bss (if 0<m then zAt FS i else FS)/\Wri wr (.slice (some ⟨gt,0,none⟩) n tc) n Ct bst (if 1<m then zAt FT i else FT)/\Wri wr (.slice (some ⟨gi,0,none⟩) n ic) n Ct bsi (if 2<m then zAt FI i else FI)) (fun mv _=>3-(intOf mv).toNat)
 case atStart=>exact⟨0,by omega,rfl,hOz,bx,hs,ht,hi_⟩
 case round=>
  clear hOz bx hs ht hi_;obtain⟨m,hm,rfl,hOz,bx,hs,ht,hi_⟩:=hrel;by_cases hm0:m=0
  ·subst hm0
   rw[if_neg oM]at hs ht hi_;have hmi:=xgd hbi;have hri:=hs.rowAt hi hbi;have hix:=fun W=>zAh 303 3 #[.slice (some ⟨bi,0,none⟩) Cs Cs,.slice (some ⟨ci,0,none⟩) Ct Ct,.slice (some ⟨di,0,none⟩) Ct Ct] 0 0 _ W Tryz.underlying303 rfl oM rfl
   have hst:∀F:Nat->Int,zM Cs F=zM Cs (qA (fun t=>-F t) F 0):=fun F=>zQ fun t _=>by unfold qA;rw[if_neg oM]
   rw[hst]at hri;clear hst;go_wp2;go_loopw [35] (fun jv wt=>∃j:Nat,j<=Cs/\jv= .int .i64 j/\qU [bi] wr wt/\(∃G,G=(fun t=>-FS i t)/\qC wt bi (zM Cs (qA G (FS i) j)))) (fun jv _=>Cs-(intOf jv).toNat)
   case atStart=>exact⟨0,by omega,rfl,qU.refl _ _,_,rfl,hri⟩
   case round=>
    rename World=>wt
    obtain⟨j,hj,rfl,hO,G,hG,hv⟩:=hrel;have HG:=xgv (congrFun hG);clear hG;have hOs:=hO.bel.size;by_cases hlt:j<Cs
    ·obtain⟨xs,xa,xl,xc,v1,v2,-,-,hx⟩:=hv.cell (zP hlt)
     have hyf:qA G (FS i) j j=FS i j:=by unfold qA;rw[if_neg oM]
     rw[hyf]at hx;have hlv:=hv.lt;go_upto_region 6 with(fail)
     refine zB ?_;intro W6 hW6;obtain⟨hB6,T7,hs6⟩:=zK hW6;obtain⟨d1,d2,d3,d4⟩:=T7.two;have hO:=hO.trans (qU.of [bi] hB6);have hv:=hv.below hB6;have hx:=hx.ext (lx hB6);have l7:=T7.lt;clear v1 v2 hW6;have HSJ:=xgv (HS.out i hi j hlt);go_wp2_with fail
     refine(jP _ (FS i j) W6 hx.weak HSJ.out).mono ?_;rintro e w9 ⟨u,rfl,hu,hbw9⟩;obtain⟨pn,pa,pl,pc,px,rfl,hpx⟩:=id hu;have HPX:=xgw hpx;clear hpx;have hv9:=hv.below hbw9;obtain⟨zs,za,zl,zc,z1,z2,z3,z4,-⟩:=hv9.cell (zP hlt);have hset:=hv9.set (k:=j) (by rw[zD];exact hlt) hu;have hO:=hO.trans (qU.of [bi] hbw9);go_wp2;go_roundw
     case rel=>
      have hq:(zM Cs (qA G (FS i) j)).set j (-(FS i j))=zM Cs (qA G (FS i) (j+1)):=by
       rw[zAk];exact zQ fun t _=>by
        unfold qA;by_cases h2:t=j
        ·subst h2
         rw[if_pos rfl,if_pos oM,HG.out]
        ·rw[if_neg h2]
         by_cases h1:t<j
         ·rw[if_pos h1,if_pos oM]
         ·rw[if_neg h1,if_neg oM]
      rw[hq]at hset;refine⟨_,_,_,_,_,_,_,_,_,_,_,_,_,?_,rfl⟩;exact⟨j+1,by omega,by simp,hO.trans ⟨zO (zO (Below.refl _ _) (Nat.zero_le _) _ _) (Nat.zero_le _) _ _,hset.2,fun i _ hi=>zV _ _ _ _ _ _ _ (by simpa using hi)⟩,_,funext HG.out,hset.1⟩
     case measure=>simp[intOf];omega
    ·obtain rfl:j=Cs:=by omega
     have hq:zM j (qA G (FS i) j)=zM j (fun t=>-FS i t):=zQ fun t ht=>by unfold qA;rw[if_pos ht];exact HG.out t
     rw[hq]at hv;go_wp2;go_roundw
     case measure=>simp[intOf]
     have hri0:=hs.rowAt hi hbi;exact⟨1,by omega,by simp,hOz.trans ⟨hO.bel,hO.lext,fun k hk hn=>hO.old k hk (by simp;rintro rfl;exact hn (.inl hmi))⟩,bx.row hO hri0 dE,by simpa using hs.negRow hi hbi hO hv,by simpa using ht.only hO (fun hh=>fst_ _ hmi hh) hri0,by simpa using hi_.only hO (fun hh=>fsi _ hmi hh) hri0⟩
  ·by_cases hm1:m=1
   ·subst hm1
    rw[if_pos oM]at hs;rw[if_neg oM]at ht hi_;have hmi:=xgd hci;have hri:=ht.rowAt hi hci;have hix:=fun W=>zAh 303 3 #[.slice (some ⟨bi,0,none⟩) Cs Cs,.slice (some ⟨ci,0,none⟩) Ct Ct,.slice (some ⟨di,0,none⟩) Ct Ct] 1 1 _ W Tryz.underlying303 rfl oM rfl
    have hst:∀F:Nat->Int,zM Ct F=zM Ct (qA (fun t=>-F t) F 0):=fun F=>zQ fun t _=>by unfold qA;rw[if_neg oM]
    rw[hst]at hri;clear hst;go_wp2;go_loopw [35] (fun jv wt=>∃j:Nat,j<=Ct/\jv= .int .i64 j/\qU [ci] wr wt/\(∃G,G=(fun t=>-FT i t)/\qC wt ci (zM Ct (qA G (FT i) j)))) (fun jv _=>Ct-(intOf jv).toNat)
    case atStart=>exact⟨0,by omega,rfl,qU.refl _ _,_,rfl,hri⟩
    case round=>
     rename World=>wt
     obtain⟨j,hj,rfl,hO,G,hG,hv⟩:=hrel;have HG:=xgv (congrFun hG);clear hG;have hOs:=hO.bel.size;by_cases hlt:j<Ct
     ·obtain⟨xs,xa,xl,xc,v1,v2,-,-,hx⟩:=hv.cell (zP hlt)
      have hyf:qA G (FT i) j j=FT i j:=by unfold qA;rw[if_neg oM]
      rw[hyf]at hx;have hlv:=hv.lt;go_upto_region 6 with(fail)
      refine zB ?_;intro W6 hW6;obtain⟨hB6,T7,hs6⟩:=zK hW6;obtain⟨d1,d2,d3,d4⟩:=T7.two;have hO:=hO.trans (qU.of [ci] hB6);have hv:=hv.below hB6;have hx:=hx.ext (lx hB6);have l7:=T7.lt;clear v1 v2 hW6;have HSJ:=xgv (HT.out i hi j hlt);go_wp2_with fail
      refine(jP _ (FT i j) W6 hx.weak HSJ.out).mono ?_;rintro e w9 ⟨u,rfl,hu,hbw9⟩;obtain⟨pn,pa,pl,pc,px,rfl,hpx⟩:=id hu;have HPX:=xgw hpx;clear hpx;have hv9:=hv.below hbw9;obtain⟨zs,za,zl,zc,z1,z2,z3,z4,-⟩:=hv9.cell (zP hlt);have hset:=hv9.set (k:=j) (by rw[zD];exact hlt) hu;have hO:=hO.trans (qU.of [ci] hbw9);go_wp2;go_roundw
      case rel=>
       have hq:(zM Ct (qA G (FT i) j)).set j (-(FT i j))=zM Ct (qA G (FT i) (j+1)):=by
        rw[zAk];exact zQ fun t _=>by
         unfold qA;by_cases h2:t=j
         ·subst h2
          rw[if_pos rfl,if_pos oM,HG.out]
         ·rw[if_neg h2]
          by_cases h1:t<j
          ·rw[if_pos h1,if_pos oM]
          ·rw[if_neg h1,if_neg oM]
       rw[hq]at hset;refine⟨_,_,_,_,_,_,_,_,_,_,_,_,_,?_,rfl⟩;exact⟨j+1,by omega,by simp,hO.trans ⟨zO (zO (Below.refl _ _) (Nat.zero_le _) _ _) (Nat.zero_le _) _ _,hset.2,fun i _ hi=>zV _ _ _ _ _ _ _ (by simpa using hi)⟩,_,funext HG.out,hset.1⟩
      case measure=>simp[intOf];omega
     ·obtain rfl:j=Ct:=by omega
      have hq:zM j (qA G (FT i) j)=zM j (fun t=>-FT i t):=zQ fun t ht=>by unfold qA;rw[if_pos ht];exact HG.out t
      rw[hq]at hv;go_wp2;go_roundw
      case measure=>simp[intOf]
      have hri0:=ht.rowAt hi hci;exact⟨2,by omega,by simp,hOz.trans ⟨hO.bel,hO.lext,fun k hk hn=>hO.old k hk (by simp;rintro rfl;exact hn ((fun h=>.inr (.inl h)) hmi))⟩,bx.row hO hri0 dE,by simpa using hs.only hO (fun hh=>fst_ _ hh hmi) hri0,by simpa using ht.negRow hi hci hO hv,by simpa using hi_.only hO (fun hh=>fti _ hmi hh) hri0⟩
   ·by_cases hm2:m=2
    ·subst hm2
     rw[if_pos oM]at hs ht;rw[if_neg oM]at hi_;have hmi:=xgd hdi;have hri:=hi_.rowAt hi hdi;have hix:=fun W=>zAh 303 3 #[.slice (some ⟨bi,0,none⟩) Cs Cs,.slice (some ⟨ci,0,none⟩) Ct Ct,.slice (some ⟨di,0,none⟩) Ct Ct] 2 2 _ W Tryz.underlying303 rfl oM rfl
     have hst:∀F:Nat->Int,zM Ct F=zM Ct (qA (fun t=>-F t) F 0):=fun F=>zQ fun t _=>by unfold qA;rw[if_neg oM]
     rw[hst]at hri;clear hst;go_wp2;go_loopw [35] (fun jv wt=>∃j:Nat,j<=Ct/\jv= .int .i64 j/\qU [di] wr wt/\(∃G,G=(fun t=>-FI i t)/\qC wt di (zM Ct (qA G (FI i) j)))) (fun jv _=>Ct-(intOf jv).toNat)
     case atStart=>exact⟨0,by omega,rfl,qU.refl _ _,_,rfl,hri⟩
     case round=>
      rename World=>wt
      obtain⟨j,hj,rfl,hO,G,hG,hv⟩:=hrel;have HG:=xgv (congrFun hG);clear hG;have hOs:=hO.bel.size;by_cases hlt:j<Ct
      ·obtain⟨xs,xa,xl,xc,v1,v2,-,-,hx⟩:=hv.cell (zP hlt)
       have hyf:qA G (FI i) j j=FI i j:=by unfold qA;rw[if_neg oM]
       rw[hyf]at hx;have hlv:=hv.lt;go_upto_region 6 with(fail)
       refine zB ?_;intro W6 hW6;obtain⟨hB6,T7,hs6⟩:=zK hW6;obtain⟨d1,d2,d3,d4⟩:=T7.two;have hO:=hO.trans (qU.of [di] hB6);have hv:=hv.below hB6;have hx:=hx.ext (lx hB6);have l7:=T7.lt;clear v1 v2 hW6;have HSJ:=xgv (HI.out i hi j hlt);go_wp2_with fail
       refine(jP _ (FI i j) W6 hx.weak HSJ.out).mono ?_;rintro e w9 ⟨u,rfl,hu,hbw9⟩;obtain⟨pn,pa,pl,pc,px,rfl,hpx⟩:=id hu;have HPX:=xgw hpx;clear hpx;have hv9:=hv.below hbw9;obtain⟨zs,za,zl,zc,z1,z2,z3,z4,-⟩:=hv9.cell (zP hlt);have hset:=hv9.set (k:=j) (by rw[zD];exact hlt) hu;have hO:=hO.trans (qU.of [di] hbw9);go_wp2;go_roundw
       case rel=>
        have hq:(zM Ct (qA G (FI i) j)).set j (-(FI i j))=zM Ct (qA G (FI i) (j+1)):=by
         rw[zAk];exact zQ fun t _=>by
          unfold qA;by_cases h2:t=j
          ·subst h2
           rw[if_pos rfl,if_pos oM,HG.out]
          ·rw[if_neg h2]
           by_cases h1:t<j
           ·rw[if_pos h1,if_pos oM]
           ·rw[if_neg h1,if_neg oM]
        rw[hq]at hset;refine⟨_,_,_,_,_,_,_,_,_,_,_,_,_,?_,rfl⟩;exact⟨j+1,by omega,by simp,hO.trans ⟨zO (zO (Below.refl _ _) (Nat.zero_le _) _ _) (Nat.zero_le _) _ _,hset.2,fun i _ hi=>zV _ _ _ _ _ _ _ (by simpa using hi)⟩,_,funext HG.out,hset.1⟩
       case measure=>simp[intOf];omega
      ·obtain rfl:j=Ct:=by omega
       have hq:zM j (qA G (FI i) j)=zM j (fun t=>-FI i t):=zQ fun t ht=>by unfold qA;rw[if_pos ht];exact HG.out t
       rw[hq]at hv;go_wp2;go_roundw
       case measure=>simp[intOf]
       have hri0:=hi_.rowAt hi hdi;exact⟨3,by omega,by simp,hOz.trans ⟨hO.bel,hO.lext,fun k hk hn=>hO.old k hk (by simp;rintro rfl;exact hn ((fun h=>.inr (.inr h)) hmi))⟩,bx.row hO hri0 dE,by simpa using hs.only hO (fun hh=>fsi _ hh hmi) hri0,by simpa using ht.only hO (fun hh=>fti _ hh hmi) hri0,by simpa using hi_.negRow hi hdi hO hv⟩
    ·obtain rfl:m=3:=by omega
     rw[if_pos oM]at hs ht hi_;go_wp2;exact bodyPost_end (results_none rfl _ _ _) rfl ⟨⟨_,rfl⟩,hOz,bx,hs,ht,hi_,fst_,fsi,fti,GST.out,GSI.out,GTI.out⟩
theorem zGf(mv:Value)(m0 m1 m2 m3:Int)(w:World)(hm:M4V w mv m0 m1 m2 m3):
  Calls Tryz.prog 261 #[.slice none 0 0,.slice none 0 0,mv] w fun e w'=>(∃u,e= .returned u)/\Below w.heap.size w w':=by
 obtain⟨n0,a0,l0,c0,n1,a1,l1,c1,n2,a2,l2,c2,n3,a3,l3,c3,rfl,-⟩:=id hm;go_enter Tryz.func261,Tryz.ntmps261;go_upto_region 1 with(fail)
 refine zB ?_;intro W0 hW0;obtain⟨hB0,bk,hs0⟩:=zK hW0;clear hW0;go_wp2;go_loopw [11] (fun iv wr=>iv= .int .i64 0/\wr=W0) (fun _ _=>0)
 case atStart=>exact⟨rfl,rfl⟩
 case round=>
  obtain⟨rfl,rfl⟩:=hrel;go_wp2;exact bodyPost_end (results_none rfl _ _ _) rfl ⟨⟨_,rfl⟩,hB0⟩
theorem zLz(bw:Nat)(Ah Au Av:Value)(n Cs i j:Nat)(bss:List Nat)(S:Nat->Nat->Int)(kv:Value)(k:Int)(w:World)(hbw:Blk w bw tHW #[Ah,Au,Av])(hs:Wri w Ah n Cs bss S)(hu:zBf w Au n)(hv:zBf w Av n)(hi:i<n)(hj:j<n)(hij:i≠j)(hk:zH w kv k)
  (hn:n<=1000000) (hCs:Cs<=1000000) (hS:zKD Cs S i j k) (hks:Sm k):
  Calls Tryz.prog 220 #[.pointer (some ⟨bw,0,none⟩),.int .i64 i,.int .i64 j,kv] w fun e w'=>(∃u,e= .returned u)/\zX (fun b=>b∈bss) w w'/\Blk w' bw tHW #[Ah,Au,Av]∧
   Wri w' Ah n Cs bss (zAv S i j k)/\zBf w' Au n/\zBf w' Av n:=by
 obtain⟨so,sn,sc,rfl,s1,s2,s3,-⟩:=id (zT.rows hs);obtain⟨kn,ka,kl,kc,kx,rfl,hkx⟩:=id hk;have HKX:=xgw hkx;have HS:=xgv hS;have HK:=xgv hks;clear hkx hS hks;have e1:n=sn:=by rw[<-s1];simp[zY]
 subst e1;clear s1;obtain⟨gs,_,rfl,-⟩:=zT.at_ hs (i:=i) (by rw[hs.len];exact hi);obtain⟨gt,tc,-,rfl,-⟩:=id hu;obtain⟨gi,ic,-,rfl,-⟩:=id hv;have hlt:∀b,b∈bss->b<w.heap.size:=fun b hb=>(hs.blk hb).elim fun r hr=>hr.lt
 go_enter Tryz.func220,Tryz.ntmps220;go_upto_region 1 with(fail)
 refine zB ?_;intro W0 hW0;obtain⟨hB0,bk,hs0⟩:=zK hW0;have bx:=hbw.below hB0;have hs:=hs.below hB0;have hu:=hu.below hB0;have hv:=hv.below hB0;have hk:=hk.ext (lx hB0);have hO:=zX.of (fun b=>b∈bss) hB0;clear hW0 hbw;obtain⟨g1,bi,eg1,hg1,hbi1,hb1,o1,-⟩:=zT.at_ hs (i:=i) (by rw[hs.len];exact hi);obtain⟨g2,bj,eg2,hg2,hbj1,hb2,o2,-⟩:=zT.at_ hs (i:=j) (by rw[hs.len];exact hj);obtain rfl:gs=g1:=by injection eg1 with eg1;injection eg1
 obtain rfl:gs=g2:=by injection eg2 with eg2;injection eg2
 clear eg1 eg2 hb1 hb2;have hm1:=xgd hbi1;obtain⟨ri,hri⟩:=hs.blk hm1;obtain⟨x1,x2,x3,x4,x5,x6⟩:=bx.three;obtain⟨d1,d2,d3,d4⟩:=bk.two;have lbx:=bx.lt;have lk:=bk.lt;refine zC 15 rfl (RI W0 (W0.heap.size) _ 35
   [VP 0 8 bw 0,VP 1 9 bw 0,VP 2 10 bw 0,VSl 3 11 gs n sc,VN 4 12 i,VP 5 13 gs i,VSl 6 14 bi Cs Cs,VP 7 15 bw 0,VP 8 16 bw 0,VP 9 17 bw 0,VSl 10 18 gs n sc,VN 11 19 j,VP 12 20 gs j,VSl 13 21 bj Cs Cs,E 14 22 (.agg #[.bool kn,.slice ka kl kc])] [] []) kR RI.start (RI.fin kR ?fin1) ?steps1
 case steps1=>
  (repeat' constructor)<;>(intro L T wS hL hd hcl hI K hK;try refine zA rfl ?_)
  ·exact xgs (hI.k 0 rfl kR)
  ·exact xgs (hI.e mm0 (hd 0))
  ·exact xgs (hI.e mm1 (hd 1))
  ·have zt2:=hI.e mm2 (hd 2)
   have cc0:=hI.cell x1 oM nom;exact xgu
  ·exact xgs (hI.k 1 rfl kR)
  ·exact xgt (hI.e mm3 (hd 3)) (hI.e mm4 (hd 4))
  ·have zt5:=hI.e mm5 (hd 5)
   have cc0:=hI.cell o1 oM nom;exact xgu
  ·exact xgs (hI.k 0 rfl kR)
  ·exact xgs (hI.e mm7 (hd 7))
  ·exact xgs (hI.e mm8 (hd 8))
  ·have zt9:=hI.e mm9 (hd 9)
   have cc0:=hI.cell x1 oM nom;exact xgu
  ·exact xgs (hI.k 2 rfl kR)
  ·exact xgt (hI.e zAB (hd 10)) (hI.e zAG (hd 11))
  ·have zt12:=hI.e zAs (hd 12)
   have cc0:=hI.cell o2 oM nom;exact xgu
  ·have zt:=hI.k 7 rfl kR
   have cc0:=hI.cell d1 oM nom;have cc1:=hI.cell d2 oM nom;exact xgu
 intro w8 hlw8 hbw8 holdw8 T hT;simp only[Fin,E,EI,VP,VSl,VN,xgg,xgh,xgi,xgj]at hT;subst hT;simp only[xgl,xgk];have hH8:=hs.below hbw8;have hri8:=hri.below hbw8;clear o1 o2 x1 x2 x3 x4 x5 x6 d1 d2 d3 d4;go_wp2_with fail
 refine(zFp hH8 hi hj hij hbi1 hbj1 _ (k) (hk.ext (lx0 hbw8)) hCs HS.out HK.out).mono ?_;rintro e w9 ⟨⟨u,rfl⟩,ho,hH9⟩;have hkne:w.heap.size≠bi:=by have:=hlt bi (by simp[hm1]);omega
 have bx:=(bx.below hbw8).row ho hri8 dE;have bk:Blk w9 w.heap.size 35 #[.bool kn,.slice ka kl kc]:=(ho.old _ (bk.below hbw8).lt (by simpa using hkne)).trans (bk.below hbw8);have hk:=(hk.ext (lx0 hbw8)).ext ho.lext;have hO:=(hO.trans (zX.of _ hbw8)).trans (⟨ho.bel,ho.lext,fun k hk hn=>ho.old k hk (by simp;rintro rfl;exact hn (by simp[hm1]))⟩:zX _ w8 w9);have hu:=(hu.below hbw8).row ho hri8;have hv:=(hv.below hbw8).row ho hri8;have hs:Wri w9 (.slice (some ⟨gs,0,none⟩) n sc) n Cs bss (zAv S i j k):=hH9;clear ho hri8 hri hH8 hH9 hm1 hkne hbi1 hbj1;go_upto_region 2 with(fail)
 obtain⟨g1,k1,eg1,o1⟩:=hu.at_ hi;obtain⟨g2,k2',eg2,o2⟩:=hu.at_ hj;obtain⟨rfl,rfl⟩:gt=g1/\tc=k1:=by simpa using eg1
 obtain⟨rfl,rfl⟩:gt=g2/\tc=k2':=by simpa using eg2
 have hg1:=World.block_lt_of_cell? _ _ o1;clear eg1 eg2;obtain⟨x1,x2,x3,x4,x5,x6⟩:=bx.three;obtain⟨d1,d2,d3,d4⟩:=bk.two;have lbx:=bx.lt;have lk:=bk.lt;refine zC 15 rfl (RI w9 (w9.heap.size) _ 35
   [VP 0 24 bw 0,VP 1 25 bw 0,VP 2 26 bw 1,VSl 3 27 gt n tc,VN 4 28 i,VP 5 29 gt i,E 6 30 (.slice none 0 0),VP 7 31 bw 0,VP 8 32 bw 0,VP 9 33 bw 1,VSl 10 34 gt n tc,VN 11 35 j,VP 12 36 gt j,E 13 37 (.slice none 0 0),E 14 38 (.agg #[.bool kn,.slice ka kl kc])] [] []) kR RI.start (RI.fin kR ?fin2) ?steps2
 case steps2=>
  (repeat' constructor)<;>(intro L T wS hL hd hcl hI K hK;try refine zA rfl ?_)
  ·exact xgs (hI.k 0 rfl kR)
  ·exact xgs (hI.e mm0 (hd 0))
  ·exact xgs (hI.e mm1 (hd 1))
  ·have zt2:=hI.e mm2 (hd 2)
   have cc0:=hI.cell x2 oM nom;exact xgu
  ·exact xgs (hI.k 1 rfl kR)
  ·exact xgt (hI.e mm3 (hd 3)) (hI.e mm4 (hd 4))
  ·have zt5:=hI.e mm5 (hd 5)
   have cc0:=hI.cell o1 oM nom;exact xgu
  ·exact xgs (hI.k 0 rfl kR)
  ·exact xgs (hI.e mm7 (hd 7))
  ·exact xgs (hI.e mm8 (hd 8))
  ·have zt9:=hI.e mm9 (hd 9)
   have cc0:=hI.cell x2 oM nom;exact xgu
  ·exact xgs (hI.k 2 rfl kR)
  ·exact xgt (hI.e zAB (hd 10)) (hI.e zAG (hd 11))
  ·have zt12:=hI.e zAs (hd 12)
   have cc0:=hI.cell o2 oM nom;exact xgu
  ·have zt:=hI.k 7 rfl kR
   have cc0:=hI.cell d1 oM nom;have cc1:=hI.cell d2 oM nom;exact xgu
 intro w10 hlw10 hbw10 holdw10 T hT;simp only[Fin,E,EI,VP,VSl,VN,xgg,xgh,xgi,xgj]at hT;subst hT;simp only[xgl,xgk];go_wp2_with fail
 refine(zGc _ k _ (hk.ext (lx0 hbw10))).mono ?_;rintro e w11 ⟨⟨u,rfl⟩,hbq⟩;have hbz:=nx hbw10 hbq;have bx:=bx.below hbz;have bk:=bk.below hbz;have hO:=hO.trans (zX.of _ hbz);have hs:=hs.below hbz;have hu:=hu.below hbz;have hv:=hv.below hbz;have hk:=hk.ext (lx hbz);clear o1 o2 x1 x2 x3 x4 x5 x6 d1 d2 d3 d4 hbz hbq hg1;go_upto_region 3 with(fail)
 obtain⟨g1,k1,eg1,o1⟩:=hv.at_ hj;obtain⟨g2,k2',eg2,o2⟩:=hv.at_ hi;obtain⟨rfl,rfl⟩:gi=g1/\ic=k1:=by simpa using eg1
 obtain⟨rfl,rfl⟩:gi=g2/\ic=k2':=by simpa using eg2
 have hg1:=World.block_lt_of_cell? _ _ o1;clear eg1 eg2;obtain⟨x1,x2,x3,x4,x5,x6⟩:=bx.three;obtain⟨d1,d2,d3,d4⟩:=bk.two;have lbx:=bx.lt;have lk:=bk.lt;refine zC 16 rfl (RI w11 (w11.heap.size) _ 35
   [VP 0 40 bw 0,VP 1 41 bw 0,VP 2 42 bw 2,VSl 3 43 gi n ic,VN 4 44 j,VP 5 45 gi j,E 6 46 (.slice none 0 0),VP 7 47 bw 0,VP 8 48 bw 0,VP 9 49 bw 2,VSl 10 50 gi n ic,VN 11 51 i,VP 12 52 gi i,E 13 53 (.slice none 0 0),E 14 54 (.agg #[.bool kn,.slice ka kl kc]),EI 15 55 (-k)] [] []) kR RI.start (RI.fin kR ?fin3) ?steps3
 case steps3=>
  (repeat' constructor)<;>(intro L T wS hL hd hcl hI K hK;try refine zA rfl ?_)
  ·exact xgs (hI.k 0 rfl kR)
  ·exact xgs (hI.e mm0 (hd 0))
  ·exact xgs (hI.e mm1 (hd 1))
  ·have zt2:=hI.e mm2 (hd 2)
   have cc0:=hI.cell x3 oM nom;exact xgu
  ·exact xgs (hI.k 2 rfl kR)
  ·exact xgt (hI.e mm3 (hd 3)) (hI.e mm4 (hd 4))
  ·have zt5:=hI.e mm5 (hd 5)
   have cc0:=hI.cell o1 oM nom;exact xgu
  ·exact xgs (hI.k 0 rfl kR)
  ·exact xgs (hI.e mm7 (hd 7))
  ·exact xgs (hI.e mm8 (hd 8))
  ·have zt9:=hI.e mm9 (hd 9)
   have cc0:=hI.cell x3 oM nom;exact xgu
  ·exact xgs (hI.k 1 rfl kR)
  ·exact xgt (hI.e zAB (hd 10)) (hI.e zAG (hd 11))
  ·have zt12:=hI.e zAs (hd 12)
   have cc0:=hI.cell o2 oM nom;exact xgu
  ·have zt:=hI.k 7 rfl kR
   have cc0:=hI.cell d1 oM nom;have cc1:=hI.cell d2 oM nom;exact xgu
  ·have zt14:=hI.e zBq (hd 14)
   go_simp;refine(jP _ k _ (hk.ext hI.lext).weak HK.out).mono ?_;exact xgo
 intro w12 hlw12 hbw12 holdw12 T hT;simp only[Fin,E,EI,VP,VSl,VN,xgg,xgh,xgi,xgj]at hT;obtain⟨vc15,hc15,rfl⟩:=hT;simp only[xgl,xgk];obtain⟨pn,pa,pl,pc,px,rfl,-⟩:=id hc15;go_wp2_with fail
 refine(zGc _ (-k) _ hc15).mono ?_;rintro e w13 ⟨⟨u,rfl⟩,hbq⟩;have hbz:=nx hbw12 hbq;have bx:=bx.below hbz;have bk:=bk.below hbz;have hO:=hO.trans (zX.of _ hbz);have hs:=hs.below hbz;have hu:=hu.below hbz;have hv:=hv.below hbz;go_wp2;exact bodyPost_end (results_none rfl _ _ _) rfl ⟨⟨_,rfl⟩,hO,bx,hs,hu,hv⟩
theorem zL0(bw:Nat)(Ah Au Av mv:Value)(n Cs i j:Nat)(bss:List Nat)(S:Nat->Nat->Int)(m0 m1 m2 m3:Int)(w:World)(hbw:Blk w bw tHW #[Ah,Au,Av])(hs:Wri w Ah n Cs bss S)(hu:zBf w Au n)(hv:zBf w Av n)(hi:i<n)(hj:j<n)(hij:i≠j)(hm:M4V w mv m0 m1 m2 m3)
  (hn:n<=1000000) (hCs:Cs<=1000000) (hS:zNz Cs (S i) (S j) m0 m1 m2 m3) (hms:Sm m0/\Sm m1/\Sm m2/\Sm m3):
  Calls Tryz.prog 221 #[.pointer (some ⟨bw,0,none⟩),.int .i64 i,.int .i64 j,mv] w fun e w'=>(∃u,e= .returned u)/\zX (fun b=>b∈bss) w w'/\Blk w' bw tHW #[Ah,Au,Av]∧
   Wri w' Ah n Cs bss (qQ S i j m0 m1 m2 m3)/\zBf w' Au n/\zBf w' Av n:=by
 obtain⟨so,sn,sc,rfl,s1,s2,s3,-⟩:=id (zT.rows hs);have HS:=xgv hS;have HK:=xgv hms;obtain⟨n0,a0,l0,c0,n1,a1,l1,c1,n2,a2,l2,c2,n3,a3,l3,c3,rfl,j0,j1,j2,j3⟩:=id hm;have HM0:=xgv (And.intro j0 (And.intro j1 (And.intro j2 j3)));clear hS hms hm j0 j1 j2 j3;have e1:n=sn:=by rw[<-s1];simp[zY]
 subst e1;clear s1;obtain⟨gs,_,rfl,-⟩:=zT.at_ hs (i:=i) (by rw[hs.len];exact hi);obtain⟨gt,tc,-,rfl,-⟩:=id hu;obtain⟨gi,ic,-,rfl,-⟩:=id hv;have hlt:∀b,b∈bss->b<w.heap.size:=fun b hb=>(hs.blk hb).elim fun r hr=>hr.lt
 go_enter Tryz.func221,Tryz.ntmps221;go_upto_region 1 with(fail)
 refine zB ?_;intro W0 hW0;obtain⟨hB0,bm,hs0⟩:=zK hW0;have bx:=hbw.below hB0;have hs:=hs.below hB0;have hu:=hu.below hB0;have hv:=hv.below hB0;have hO:=zX.of (fun b=>b∈bss) hB0;have hl2:=zCH m3 (-m2);have hl3:=zCH (-m1) m0;have hl4:=zF6 m3 (-m2) (-m1) m0;clear hW0 hbw;obtain⟨g1,bi,eg1,hg1,hbi1,hb1,o1,-⟩:=zT.at_ hs (i:=i) (by rw[hs.len];exact hi);obtain⟨g2,bj,eg2,hg2,hbj1,hb2,o2,-⟩:=zT.at_ hs (i:=j) (by rw[hs.len];exact hj);obtain rfl:gs=g1:=by injection eg1 with eg1;injection eg1
 obtain rfl:gs=g2:=by injection eg2 with eg2;injection eg2
 clear eg1 eg2 hb1 hb2;have hm1:=xgd hbi1;have hm2:=xgd hbj1;obtain⟨ri,hri⟩:=hs.blk hm1;obtain⟨rj,hrj⟩:=hs.blk hm2;obtain⟨x1,x2,x3,x4,x5,x6⟩:=bx.three;obtain⟨k0,k1,k2,k3,k4,k5,k6,k7⟩:=bm.eight;have lbx:=bx.lt;have lm:=bm.lt;have j0:=HM0.out.1.ext hO.lext;have j1:=HM0.out.2.1.ext hO.lext;have j2:=HM0.out.2.2.1.ext hO.lext;have j3:=HM0.out.2.2.2.ext hO.lext;refine zC 15 rfl (RI W0 (W0.heap.size) _ 35
   [VP 0 8 bw 0,VP 1 9 bw 0,VP 2 10 bw 0,VSl 3 11 gs n sc,VN 4 12 i,VP 5 13 gs i,VSl 6 14 bi Cs Cs,VP 7 15 bw 0,VP 8 16 bw 0,VP 9 17 bw 0,VSl 10 18 gs n sc,VN 11 19 j,VP 12 20 gs j,VSl 13 21 bj Cs Cs,E 14 22 (.agg #[.bool n0,.slice a0 l0 c0,.bool n1,.slice a1 l1 c1,.bool n2,.slice a2 l2 c2,.bool n3,.slice a3 l3 c3])] [] []) kR RI.start (RI.fin kR ?fin4) ?steps4
 case steps4=>
  (repeat' constructor)<;>(intro L T wS hL hd hcl hI K hK;try refine zA rfl ?_)
  ·exact xgs (hI.k 0 rfl kR)
  ·exact xgs (hI.e mm0 (hd 0))
  ·exact xgs (hI.e mm1 (hd 1))
  ·have zt2:=hI.e mm2 (hd 2)
   have cc0:=hI.cell x1 oM nom;exact xgu
  ·exact xgs (hI.k 1 rfl kR)
  ·exact xgt (hI.e mm3 (hd 3)) (hI.e mm4 (hd 4))
  ·have zt5:=hI.e mm5 (hd 5)
   have cc0:=hI.cell o1 oM nom;exact xgu
  ·exact xgs (hI.k 0 rfl kR)
  ·exact xgs (hI.e mm7 (hd 7))
  ·exact xgs (hI.e mm8 (hd 8))
  ·have zt9:=hI.e mm9 (hd 9)
   have cc0:=hI.cell x1 oM nom;exact xgu
  ·exact xgs (hI.k 2 rfl kR)
  ·exact xgt (hI.e zAB (hd 10)) (hI.e zAG (hd 11))
  ·have zt12:=hI.e zAs (hd 12)
   have cc0:=hI.cell o2 oM nom;exact xgu
  ·have zt:=hI.k 7 rfl kR
   have cc0:=hI.cell k0 oM nom;have cc1:=hI.cell k1 oM nom;have cc2:=hI.cell k2 oM nom;have cc3:=hI.cell k3 oM nom;have cc4:=hI.cell k4 oM nom;have cc5:=hI.cell k5 oM nom;have cc6:=hI.cell k6 oM nom;have cc7:=hI.cell k7 oM nom;exact xgu
 intro w8 hlw8 hbw8 holdw8 T hT;simp only[Fin,E,EI,VP,VSl,VN,xgg,xgh,xgi,xgj]at hT;subst hT;simp only[xgl,xgk];have hH8:=hs.below hbw8;have hri8:=hri.below hbw8;have hrj8:=hrj.below hbw8;clear o1 o2 x1 x2 x3 x4 x5 x6 k0 k1 k2 k3 k4 k5 k6 k7;go_wp2_with fail
 refine(zCv hH8 hi hj hij hbi1 hbj1 ⟨_,_,_,_,_,_,_,_,_,_,_,_,_,_,_,_,rfl,j0.ext (lx0 hbw8),j1.ext (lx0 hbw8),j2.ext (lx0 hbw8),j3.ext (lx0 hbw8)⟩ hCs HS.out HK.out).mono ?_;rintro e w9 ⟨⟨u,rfl⟩,ho,hH9⟩;have hk1:w.heap.size≠bi:=by have:=hlt bi (by simp[hm1]);omega
 have hk2:w.heap.size≠bj:=by have:=hlt bj (by simp[hm2]);omega
 have bx:=(bx.below hbw8).row2 ho hri8 hrj8 dE;have bm:Blk w9 w.heap.size 301 #[.bool n0,.slice a0 l0 c0,.bool n1,.slice a1 l1 c1,.bool n2,.slice a2 l2 c2,.bool n3,.slice a3 l3 c3]:=(bm.below hbw8).row2 ho hri8 hrj8 dE;have hO:=(hO.trans (zX.of _ hbw8)).trans (⟨ho.bel,ho.lext,fun k hk hn=>ho.old k hk (by simp;exact⟨fun e=>hn (by rw[e];simp[hm1]),fun e=>hn (by rw[e];simp[hm2])⟩)⟩:zX _ w8 w9);have hu:=(hu.below hbw8).row2 ho hri8 hrj8;have hv:=(hv.below hbw8).row2 ho hri8 hrj8;have hs:=hH9;clear ho hri8 hri hrj8 hrj hH8 hH9 hm1 hm2 hk1 hk2 hbi1 hbj1;go_upto_region 2 with(fail)
 obtain⟨g1,kq1,eg1,o1⟩:=hu.at_ hi;obtain⟨g2,kq2,eg2,o2⟩:=hu.at_ hj;obtain⟨rfl,rfl⟩:gt=g1/\tc=kq1:=by simpa using eg1
 obtain⟨rfl,rfl⟩:gt=g2/\tc=kq2:=by simpa using eg2
 have hg1:=World.block_lt_of_cell? _ _ o1;clear eg1 eg2;obtain⟨x1,x2,x3,x4,x5,x6⟩:=bx.three;obtain⟨k0,k1,k2,k3,k4,k5,k6,k7⟩:=bm.eight;have bk:=bm;have j0:=HM0.out.1.ext hO.lext;have j1:=HM0.out.2.1.ext hO.lext;have j2:=HM0.out.2.2.1.ext hO.lext;have j3:=HM0.out.2.2.2.ext hO.lext;have lbx:=bx.lt;have lk:=bk.lt;refine zC 15 rfl (RI w9 (w9.heap.size) _ 35
   [VP 0 24 bw 0,VP 1 25 bw 0,VP 2 26 bw 1,VSl 3 27 gt n tc,VN 4 28 i,VP 5 29 gt i,E 6 30 (.slice none 0 0),VP 7 31 bw 0,VP 8 32 bw 0,VP 9 33 bw 1,VSl 10 34 gt n tc,VN 11 35 j,VP 12 36 gt j,E 13 37 (.slice none 0 0),E 14 38 (.agg #[.bool n0,.slice a0 l0 c0,.bool n1,.slice a1 l1 c1,.bool n2,.slice a2 l2 c2,.bool n3,.slice a3 l3 c3])] [] []) kR RI.start (RI.fin kR ?fin5) ?steps5
 case steps5=>
  (repeat' constructor)<;>(intro L T wS hL hd hcl hI K hK;try refine zA rfl ?_)
  ·exact xgs (hI.k 0 rfl kR)
  ·exact xgs (hI.e mm0 (hd 0))
  ·exact xgs (hI.e mm1 (hd 1))
  ·have zt2:=hI.e mm2 (hd 2)
   have cc0:=hI.cell x2 oM nom;exact xgu
  ·exact xgs (hI.k 1 rfl kR)
  ·exact xgt (hI.e mm3 (hd 3)) (hI.e mm4 (hd 4))
  ·have zt5:=hI.e mm5 (hd 5)
   have cc0:=hI.cell o1 oM nom;exact xgu
  ·exact xgs (hI.k 0 rfl kR)
  ·exact xgs (hI.e mm7 (hd 7))
  ·exact xgs (hI.e mm8 (hd 8))
  ·have zt9:=hI.e mm9 (hd 9)
   have cc0:=hI.cell x2 oM nom;exact xgu
  ·exact xgs (hI.k 2 rfl kR)
  ·exact xgt (hI.e zAB (hd 10)) (hI.e zAG (hd 11))
  ·have zt12:=hI.e zAs (hd 12)
   have cc0:=hI.cell o2 oM nom;exact xgu
  ·have zt:=hI.k 7 rfl kR
   have cc0:=hI.cell k0 oM nom;have cc1:=hI.cell k1 oM nom;have cc2:=hI.cell k2 oM nom;have cc3:=hI.cell k3 oM nom;have cc4:=hI.cell k4 oM nom;have cc5:=hI.cell k5 oM nom;have cc6:=hI.cell k6 oM nom;have cc7:=hI.cell k7 oM nom;exact xgu
 intro w10 hlw10 hbw10 holdw10 T hT;simp only[Fin,E,EI,VP,VSl,VN,xgg,xgh,xgi,xgj]at hT;subst hT;simp only[xgl,xgk];go_wp2_with fail
 refine(zGf _ m0 m1 m2 m3 _ ⟨_,_,_,_,_,_,_,_,_,_,_,_,_,_,_,_,rfl,j0.ext (lx0 hbw10),j1.ext (lx0 hbw10),j2.ext (lx0 hbw10),j3.ext (lx0 hbw10)⟩).mono ?_;rintro e w11 ⟨⟨u,rfl⟩,hbq⟩;have hbz:=nx hbw10 hbq;have bx:=bx.below hbz;have bm:=bm.below hbz;have hO:=hO.trans (zX.of _ hbz);have hs:=hs.below hbz;have hu:=hu.below hbz;have hv:=hv.below hbz;clear o1 o2 x1 x2 x3 x4 x5 x6 k0 k1 k2 k3 k4 k5 k6 k7 hbz hbq hg1 bk j0 j1 j2 j3;go_upto_region 3 with(fail)
 obtain⟨g1,kq1,eg1,o1⟩:=hv.at_ hi;obtain⟨g2,kq2,eg2,o2⟩:=hv.at_ hj;obtain⟨rfl,rfl⟩:gi=g1/\ic=kq1:=by simpa using eg1
 obtain⟨rfl,rfl⟩:gi=g2/\ic=kq2:=by simpa using eg2
 have hg1:=World.block_lt_of_cell? _ _ o1;clear eg1 eg2;obtain⟨x1,x2,x3,x4,x5,x6⟩:=bx.three;obtain⟨k0,k1,k2,k3,k4,k5,k6,k7⟩:=bm.eight;have bk:=bm;have j0:=HM0.out.1.ext hO.lext;have j1:=HM0.out.2.1.ext hO.lext;have j2:=HM0.out.2.2.1.ext hO.lext;have j3:=HM0.out.2.2.2.ext hO.lext;have lbx:=bx.lt;have lk:=bk.lt;refine zC 31 rfl (RI w11 (w11.heap.size) _ 35
   [VP 0 40 bw 0,VP 1 41 bw 0,VP 2 42 bw 2,VSl 3 43 gi n ic,VN 4 44 i,VP 5 45 gi i,E 6 46 (.slice none 0 0),VP 7 47 bw 0,VP 8 48 bw 0,VP 9 49 bw 2,VSl 10 50 gi n ic,VN 11 51 j,VP 12 52 gi j,E 13 53 (.slice none 0 0),VP 14 54 w.heap.size 4,VP 15 55 w.heap.size 6,E 16 56 (.agg #[.bool n3,.slice a3 l3 c3]),VP 17 57 w.heap.size 4,VP 18 58 w.heap.size 4,E 19 59 (.agg #[.bool n2,.slice a2 l2 c2]),EI 20 60 (-m2),⟨21,61,M2V m3 (-m2)⟩,VP 22 62 w.heap.size 0,VP 23 63 w.heap.size 2,E 24 64 (.agg #[.bool n1,.slice a1 l1 c1]),EI 25 65 (-m1),VP 26 66 w.heap.size 0,VP 27 67 w.heap.size 0,E 28 68 (.agg #[.bool n0,.slice a0 l0 c0]),⟨29,69,M2V (-m1) m0⟩,⟨30,70,fun w v=>M4V w v m3 (-m2) (-m1) m0⟩] [] []) kR RI.start (RI.fin kR ?fin6) ?steps6
 case steps6=>
  (repeat' constructor)<;>(intro L T wS hL hd hcl hI K hK;try refine zA rfl ?_)
  ·exact xgs (hI.k 0 rfl kR)
  ·exact xgs (hI.e mm0 (hd 0))
  ·exact xgs (hI.e mm1 (hd 1))
  ·have zt2:=hI.e mm2 (hd 2)
   have cc0:=hI.cell x3 oM nom;exact xgu
  ·exact xgs (hI.k 1 rfl kR)
  ·exact xgt (hI.e mm3 (hd 3)) (hI.e mm4 (hd 4))
  ·have zt5:=hI.e mm5 (hd 5)
   have cc0:=hI.cell o1 oM nom;exact xgu
  ·exact xgs (hI.k 0 rfl kR)
  ·exact xgs (hI.e mm7 (hd 7))
  ·exact xgs (hI.e mm8 (hd 8))
  ·have zt9:=hI.e mm9 (hd 9)
   have cc0:=hI.cell x3 oM nom;exact xgu
  ·exact xgs (hI.k 2 rfl kR)
  ·exact xgt (hI.e zAB (hd 10)) (hI.e zAG (hd 11))
  ·have zt12:=hI.e zAs (hd 12)
   have cc0:=hI.cell o2 oM nom;exact xgu
  ·exact xgs (hI.k 7 rfl kR)
  ·exact xgs (hI.e zBq (hd 14))
  ·have zt15:=hI.e zCV (hd 15)
   have cc0:=hI.cell k6 oM nom;have cc1:=hI.cell k7 oM nom;exact xgu
  ·exact xgs (hI.k 7 rfl kR)
  ·exact xgs (hI.e zEy (hd 17))
  ·have zt18:=hI.e zCl (hd 18)
   have cc0:=hI.cell k4 oM nom;have cc1:=hI.cell k5 oM nom;exact xgu
  ·have zt19:=hI.e zE5 (hd 19)
   go_simp;refine(jP _ m2 _ (j2.ext hI.lext).weak HK.out.2.2.1).mono ?_;exact xgo
  ·have zt16:=hI.e zDy (hd 16)
   obtain⟨v20,zt20,h20⟩:=hI.vi zEz (hd 20);obtain⟨a16,b16,d16,e16,x16,rfl,y16⟩:=id h20;go_simp;exact hK _ _ (hI.y zE0 ⟨_,_,_,_,_,_,_,_,rfl,j3.ext hI.lext,h20⟩)
  ·exact xgs (hI.k 7 rfl kR)
  ·exact xgs (hI.e zFa (hd 22))
  ·have zt23:=hI.e zFb (hd 23)
   have cc0:=hI.cell k2 oM nom;have cc1:=hI.cell k3 oM nom;exact xgu
  ·have zt24:=hI.e zHa (hd 24)
   go_simp;refine(jP _ m1 _ (j1.ext hI.lext).weak HK.out.2.1).mono ?_;exact xgo
  ·exact xgs (hI.k 7 rfl kR)
  ·exact xgs (hI.e zIp (hd 26))
  ·have zt27:=hI.e zJf (hd 27)
   have cc0:=hI.cell k0 oM nom;have cc1:=hI.cell k1 oM nom;exact xgu
  ·obtain⟨v25,zt25,h25⟩:=hI.vi zE1 (hd 25)
   have zt28:=hI.e zKA (hd 28);obtain⟨a21,b21,d21,e21,x21,rfl,y21⟩:=id h25;go_simp;exact hK _ _ (hI.y zIq ⟨_,_,_,_,_,_,_,_,rfl,h25,j0.ext hI.lext⟩)
  ·obtain⟨v21,zt21,h21⟩:=hI.v zE0 (hd 21)
   obtain⟨v29,zt29,h29⟩:=hI.v zIq (hd 29);obtain⟨p0,p1,p2,p3,p4,p5,p6,p7,rfl,p8,p9⟩:=h21;obtain⟨q0,q1,q2,q3,q4,q5,q6,q7,rfl,q8,q9⟩:=h29;go_simp;exact hK _ _ (hI.y zMA ⟨_,_,_,_,_,_,_,_,_,_,_,_,_,_,_,_,rfl,p8,p9,q8,q9⟩)
 intro w12 hlw12 hbw12 holdw12 T hT;simp only[Fin,E,EI,VP,VSl,VN,xgg,xgh,xgi,xgj]at hT;obtain⟨vc20,hc20,vc21,hc21,vc25,hc25,vc29,hc29,vc30,hc30,rfl⟩:=hT;simp only[xgl,xgk];have hm4:M4V w12 vc30 m3 (-m2) (-m1) m0:=hc30;obtain⟨p0,p1,p2,p3,p4,p5,p6,p7,p8,p9,p10,p11,p12,p13,p14,p15,rfl,-⟩:=id hm4;go_wp2_with fail
 refine(zGf _ m3 (-m2) (-m1) m0 _ hm4).mono ?_;rintro e w13 ⟨⟨u,rfl⟩,hbq⟩;have hbz:=nx hbw12 hbq;have bx:=bx.below hbz;have bm:=bm.below hbz;have hO:=hO.trans (zX.of _ hbz);have hs:=hs.below hbz;have hu:=hu.below hbz;have hv:=hv.below hbz;go_wp2;exact bodyPost_end (results_none rfl _ _ _) rfl ⟨⟨_,rfl⟩,hO,bx,hs,hu,hv⟩
theorem zL1(bw:Nat)(Ah Au Av:Value)(n Cs i:Nat)(bss:List Nat)(FS:Nat->Nat->Int)(w:World)(hbw:Blk w bw tHW #[Ah,Au,Av])(hs:Wri w Ah n Cs bss FS)(hu:zBf w Au n)(hv:zBf w Av n)(hi:i<n)
  (hn:n<=1000000) (hCs:Cs<=1000000) (hS:∀a,a<n->∀b,b<Cs->Sm (FS a b)):
  Calls Tryz.prog 222 #[.pointer (some ⟨bw,0,none⟩),.int .i64 i] w fun e w'=>(∃u,e= .returned u)/\zX (fun b=>b∈bss) w w'/\Blk w' bw tHW #[Ah,Au,Av]∧
   Wri w' Ah n Cs bss (zAt FS i)/\zBf w' Au n/\zBf w' Av n:=by
 obtain⟨so,sn,sc,rfl,s1,s2,s3,-⟩:=id (zT.rows hs);have HS:=xgv hS;have e1:n=sn:=by rw[<-s1];simp[zY]
 subst e1;clear s1 hS;obtain⟨gs,bi,rfl,hgs,hbi,-,o1,-⟩:=zT.at_ hs (i:=i) (by rw[hs.len];exact hi);obtain⟨gt,tc,rfl,o2⟩:=hu.at_ hi;obtain⟨gi,ic,rfl,o3⟩:=hv.at_ hi;have hOz:=zX.refl (fun b=>b∈bss) w;obtain⟨x1,x2,x3,x4,x5,x6⟩:=hbw.three;have lbw:=hbw.lt;have hgt:=World.block_lt_of_cell? _ _ o2;have hgi:=World.block_lt_of_cell? _ _ o3;go_enter Tryz.func222,Tryz.ntmps222;go_upto_region 0 with(fail)
 refine zE rfl (RI w (w.heap.size) _ 35
   [VP 0 8 bw 0,VP 1 9 bw 0,VP 2 10 bw 0,VSl 3 11 gs n sc,VN 4 12 i,VP 5 13 gs i,VSl 6 14 bi Cs Cs,VP 7 15 bw 0,VP 8 16 bw 0,VP 9 17 bw 1,VSl 10 18 gt n tc,VN 11 19 i,VP 12 20 gt i,E 13 21 (.slice none 0 0),VP 14 22 bw 0,VP 15 23 bw 0,VP 16 24 bw 2,VSl 17 25 gi n ic,VN 18 26 i,VP 19 27 gi i,E 20 28 (.slice none 0 0),E 21 29 (.agg #[.slice (some ⟨bi,0,none⟩) Cs Cs,.slice none 0 0,.slice none 0 0]),VN 22 30 0] [] []) kR RI.start (RI.fin kR ?fin7) ?steps7
 case steps7=>
  (repeat' constructor)<;>(intro L T wS hL hd hcl hI K hK;try refine zA rfl ?_)
  ·exact xgs (hI.k 0 rfl kR)
  ·exact xgs (hI.e mm0 (hd 0))
  ·exact xgs (hI.e mm1 (hd 1))
  ·have zt2:=hI.e mm2 (hd 2)
   have cc0:=hI.cell x1 oM nom;exact xgu
  ·exact xgs (hI.k 1 rfl kR)
  ·exact xgt (hI.e mm3 (hd 3)) (hI.e mm4 (hd 4))
  ·have zt5:=hI.e mm5 (hd 5)
   have cc0:=hI.cell o1 oM nom;exact xgu
  ·exact xgs (hI.k 0 rfl kR)
  ·exact xgs (hI.e mm7 (hd 7))
  ·exact xgs (hI.e mm8 (hd 8))
  ·have zt9:=hI.e mm9 (hd 9)
   have cc0:=hI.cell x2 oM nom;exact xgu
  ·exact xgs (hI.k 1 rfl kR)
  ·exact xgt (hI.e zAB (hd 10)) (hI.e zAG (hd 11))
  ·have zt12:=hI.e zAs (hd 12)
   have cc0:=hI.cell o2 oM nom;exact xgu
  ·exact xgs (hI.k 0 rfl kR)
  ·exact xgs (hI.e zBq (hd 14))
  ·exact xgs (hI.e zCV (hd 15))
  ·have zt16:=hI.e zDy (hd 16)
   have cc0:=hI.cell x3 oM nom;exact xgu
  ·exact xgs (hI.k 1 rfl kR)
  ·exact xgt (hI.e zEy (hd 17)) (hI.e zCl (hd 18))
  ·have zt19:=hI.e zE5 (hd 19)
   have cc0:=hI.cell o3 oM nom;exact xgu
  ·have zt6:=hI.e mm6 (hd 6)
   exact xgt (hI.e zCS (hd 13)) (hI.e zEz (hd 20))
  ·go_simp
   exact hK _ _ (hI.y zFa rfl)
 intro w0 hlw0 hbw0 holdw0 T hT;simp only[Fin,E,EI,VP,VSl,VN,xgg,xgh,xgi,xgj]at hT;subst hT;have hOz:=hOz.trans (zX.of _ hbw0);have bx:=hbw.below hbw0;have hs:=hs.below hbw0;have hu:=hu.below hbw0;have hv:=hv.below hbw0;clear o1 o2 o3 x1 x2 x3 x4 x5 x6 hbw hgs hgt hgi;go_wp2;go_loopw [30] (fun mv wr=>∃m:Nat,m<=3/\mv= .int .i64 m/\zX (fun b=>b∈bss) w wr/\Blk wr bw tHW #[.slice (some ⟨gs,0,none⟩) n sc,.slice (some ⟨gt,0,none⟩) n tc,.slice (some ⟨gi,0,none⟩) n ic]∧
  Wri wr (.slice (some ⟨gs,0,none⟩) n sc) n Cs bss (if 0<m then zAt FS i else FS)/\zBf wr (.slice (some ⟨gt,0,none⟩) n tc) n/\zBf wr (.slice (some ⟨gi,0,none⟩) n ic) n) (fun mv _=>3-(intOf mv).toNat)
 case atStart=>exact⟨0,by omega,rfl,hOz,bx,hs,hu,hv⟩
 case round=>
  clear hOz bx hs hu hv;obtain⟨m,hm,rfl,hOz,bx,hs,hu,hv⟩:=hrel;by_cases hm0:m=0
  ·subst hm0
   rw[if_neg oM]at hs;have hmi:=xgd hbi;have hri:=hs.rowAt hi hbi;have hix:=fun W=>zAh 303 3 #[.slice (some ⟨bi,0,none⟩) Cs Cs,.slice none 0 0,.slice none 0 0] 0 0 _ W Tryz.underlying303 rfl oM rfl
   have hst:∀F:Nat->Int,zM Cs F=zM Cs (qA (fun t=>-F t) F 0):=fun F=>zQ fun t _=>by unfold qA;rw[if_neg oM]
   rw[hst]at hri;clear hst;go_wp2;go_loopw [35] (fun jv wt=>∃j:Nat,j<=Cs/\jv= .int .i64 j/\qU [bi] wr wt/\(∃G,G=(fun t=>-FS i t)/\qC wt bi (zM Cs (qA G (FS i) j)))) (fun jv _=>Cs-(intOf jv).toNat)
   case atStart=>exact⟨0,by omega,rfl,qU.refl _ _,_,rfl,hri⟩
   case round=>
    rename World=>wt
    obtain⟨j,hj,rfl,hO,G,hG,hv'⟩:=hrel;have HG:=xgv (congrFun hG);clear hG;have hOs:=hO.bel.size;by_cases hlt:j<Cs
    ·obtain⟨xs,xa,xl,xc,v1,v2,-,-,hx⟩:=hv'.cell (zP hlt)
     have hyf:qA G (FS i) j j=FS i j:=by unfold qA;rw[if_neg oM]
     rw[hyf]at hx;have hlv:=hv'.lt;go_upto_region 6 with(fail)
     refine zB ?_;intro W6 hW6;obtain⟨hB6,T7,hs6⟩:=zK hW6;obtain⟨d1,d2,d3,d4⟩:=T7.two;have hO:=hO.trans (qU.of [bi] hB6);have hv':=hv'.below hB6;have hx:=hx.ext (lx hB6);have l7:=T7.lt;clear v1 v2 hW6;have HSJ:=xgv (HS.out i hi j hlt);go_wp2_with fail
     refine(jP _ (FS i j) W6 hx.weak HSJ.out).mono ?_;rintro e w9 ⟨u,rfl,hu,hbw9⟩;obtain⟨pn,pa,pl,pc,px,rfl,hpx⟩:=id hu;have HPX:=xgw hpx;clear hpx;have hv9:=hv'.below hbw9;obtain⟨zs,za,zl,zc,z1,z2,z3,z4,-⟩:=hv9.cell (zP hlt);have hset:=hv9.set (k:=j) (by rw[zD];exact hlt) hu;have hO:=hO.trans (qU.of [bi] hbw9);go_wp2;go_roundw
     case rel=>
      have hq:(zM Cs (qA G (FS i) j)).set j (-(FS i j))=zM Cs (qA G (FS i) (j+1)):=by
       rw[zAk];exact zQ fun t _=>by
        unfold qA;by_cases h2:t=j
        ·subst h2
         rw[if_pos rfl,if_pos oM,HG.out]
        ·rw[if_neg h2]
         by_cases h1:t<j
         ·rw[if_pos h1,if_pos oM]
         ·rw[if_neg h1,if_neg oM]
      rw[hq]at hset;refine⟨_,_,_,_,_,_,_,_,_,_,_,_,_,?_,rfl⟩;exact⟨j+1,by omega,by simp,hO.trans ⟨zO (zO (Below.refl _ _) (Nat.zero_le _) _ _) (Nat.zero_le _) _ _,hset.2,fun i _ hi=>zV _ _ _ _ _ _ _ (by simpa using hi)⟩,_,funext HG.out,hset.1⟩
     case measure=>simp[intOf];omega
    ·obtain rfl:j=Cs:=by omega
     have hq:zM j (qA G (FS i) j)=zM j (fun t=>-FS i t):=zQ fun t ht=>by unfold qA;rw[if_pos ht];exact HG.out t
     rw[hq]at hv';go_wp2;go_roundw
     case measure=>simp[intOf]
     have hri0:=hs.rowAt hi hbi;exact⟨1,by omega,by simp,hOz.trans ⟨hO.bel,hO.lext,fun k hk hn=>hO.old k hk (by simp;rintro rfl;exact hn (id hmi))⟩,bx.row hO hri0 dE,by simpa using hs.negRow hi hbi hO hv',hu.row hO hri0,hv.row hO hri0⟩
  ·by_cases hm1:m=1
   ·subst hm1
    rw[if_pos oM]at hs;have hix:=fun W=>zAh 303 3 #[.slice (some ⟨bi,0,none⟩) Cs Cs,.slice none 0 0,.slice none 0 0] 1 1 _ W Tryz.underlying303 rfl oM rfl
    go_wp2;go_loopw [35] (fun jv wt=>jv= .int .i64 0/\wt=wr) (fun _ _=>0)
    case atStart=>exact⟨rfl,rfl⟩
    case round=>
     rename World=>wt
     obtain⟨rfl,hwt⟩:=hrel;have hwt:=hwt.symm;subst hwt;go_wp2;go_roundw
     case measure=>simp[intOf]
     exact⟨2,by omega,by simp,hOz,bx,by simpa using hs,hu,hv⟩
   ·by_cases hm2:m=2
    ·subst hm2
     rw[if_pos oM]at hs;have hix:=fun W=>zAh 303 3 #[.slice (some ⟨bi,0,none⟩) Cs Cs,.slice none 0 0,.slice none 0 0] 2 2 _ W Tryz.underlying303 rfl oM rfl
     go_wp2;go_loopw [35] (fun jv wt=>jv= .int .i64 0/\wt=wr) (fun _ _=>0)
     case atStart=>exact⟨rfl,rfl⟩
     case round=>
      rename World=>wt
      obtain⟨rfl,hwt⟩:=hrel;have hwt:=hwt.symm;subst hwt;go_wp2;go_roundw
      case measure=>simp[intOf]
      exact⟨3,by omega,by simp,hOz,bx,by simpa using hs,hu,hv⟩
    ·obtain rfl:m=3:=by omega
     rw[if_pos oM]at hs;go_wp2;exact bodyPost_end (results_none rfl _ _ _) rfl ⟨⟨_,rfl⟩,hOz,bx,hs,hu,hv⟩
def Bst.mix(x:Bst)(i j:Nat)(a b c d:Int):Bst:=⟨qQ x.s i j a b c d,qQ x.t i j a b c d,qQ x.i i j d (-c) (-b) a⟩
theorem zFF(F:Nat->Nat->Int){i j:Nat}(hij:i≠j)(a b c d q:Int):
  zAv (zAt (zFl (qQ F i j (-c) (-d) (a-q*c) (b-q*d)) i j) j) i j q=qQ F i j a b c d:=by
 funext r t
 have hji:j≠i:=Ne.symm hij;have s1:swp i j i=j:=by unfold swp;rw[if_pos rfl]
 have s2:swp i j j=i:=by unfold swp;rw[if_neg hji,if_pos rfl]
 have b1:∀p q' r' s',qQ F i j p q' r' s' i t=p*F i t+q'*F j t:=fun p q' r' s'=>by unfold qQ;rw[if_pos rfl]
 have b2:∀p q' r' s',qQ F i j p q' r' s' j t=r'*F i t+s'*F j t:=fun p q' r' s'=>by unfold qQ;rw[if_neg hji,if_pos rfl]
 have v1:zAt (zFl (qQ F i j (-c) (-d) (a-q*c) (b-q*d)) i j) j i t=(a-q*c)*F i t+(b-q*d)*F j t:=by
  unfold zAt zFl;rw[if_neg hij,s1,b2]
 have v2:zAt (zFl (qQ F i j (-c) (-d) (a-q*c) (b-q*d)) i j) j j t=-((-c)*F i t+(-d)*F j t):=by
  unfold zAt zFl;rw[if_pos rfl,s2,b1]
 by_cases h1:r=i
 ·subst h1
  rw[b1];unfold zAv;rw[if_pos rfl,v1,v2];simp only[Int.sub_mul,Int.neg_mul,Int.mul_add,Int.mul_neg,Int.neg_add,Int.neg_neg,<-Int.mul_assoc];omega
 ·unfold zAv
  rw[if_neg h1];by_cases h2:r=j
  ·subst h2
   rw[v2,b2];simp only[Int.neg_mul,Int.neg_add,Int.neg_neg]
  ·unfold zAt zFl qQ swp
   rw[if_neg h2,if_neg h1,if_neg h2,if_neg h1,if_neg h2,if_neg h1,if_neg h2]
theorem zHf(F:Nat->Nat->Int){i j:Nat}(hij:i≠j)(a b c d q:Int):
  zAv (zAt (zFl (qQ F i j (b-q*d) (-(a-q*c)) d (-c)) i j) j) j i (-q)=qQ F i j d (-c) (-b) a:=by
 funext r t
 have hji:j≠i:=Ne.symm hij;have s1:swp i j i=j:=by unfold swp;rw[if_pos rfl]
 have s2:swp i j j=i:=by unfold swp;rw[if_neg hji,if_pos rfl]
 have b1:∀p q' r' s',qQ F i j p q' r' s' i t=p*F i t+q'*F j t:=fun p q' r' s'=>by unfold qQ;rw[if_pos rfl]
 have b2:∀p q' r' s',qQ F i j p q' r' s' j t=r'*F i t+s'*F j t:=fun p q' r' s'=>by unfold qQ;rw[if_neg hji,if_pos rfl]
 have v1:zAt (zFl (qQ F i j (b-q*d) (-(a-q*c)) d (-c)) i j) j i t=d*F i t+(-c)*F j t:=by
  unfold zAt zFl;rw[if_neg hij,s1,b2]
 have v2:zAt (zFl (qQ F i j (b-q*d) (-(a-q*c)) d (-c)) i j) j j t=-((b-q*d)*F i t+(-(a-q*c))*F j t):=by
  unfold zAt zFl;rw[if_pos rfl,s2,b1]
 by_cases h1:r=j
 ·subst h1
  rw[b2];unfold zAv;rw[if_pos rfl,v1,v2];simp only[Int.sub_mul,Int.neg_mul,Int.mul_add,Int.mul_neg,Int.neg_add,Int.neg_neg,Int.neg_sub,<-Int.mul_assoc];omega
 ·unfold zAv
  rw[if_neg h1];by_cases h2:r=i
  ·subst h2
   rw[v1,b1]
  ·unfold zAt zFl qQ swp
   rw[if_neg h1,if_neg h2,if_neg h1,if_neg h2,if_neg h1,if_neg h2,if_neg h1]
theorem zIb(F:Nat->Nat->Int){i j:Nat}(hij:i≠j)(b:Int):zAv F i j b=qQ F i j 1 b 0 1:=by
 funext r t
 unfold zAv qQ;by_cases h1:r=i
 ·rw[if_pos h1,if_pos h1,Int.one_mul]
 ·rw[if_neg h1,if_neg h1]
  by_cases h2:r=j
  ·rw[if_pos h2,h2];omega
  ·rw[if_neg h2]
theorem zKO(F:Nat->Nat->Int){i j:Nat}(hij:i≠j)(b:Int):zAv F j i (-b)=qQ F i j 1 (-0) (-b) 1:=by
 funext r t
 unfold zAv qQ;by_cases h1:r=j
 ·subst h1
  rw[if_pos rfl,if_neg (Ne.symm hij),if_pos rfl];omega
 ·rw[if_neg h1]
  by_cases h2:r=i
  ·rw[if_pos h2,h2];omega
  ·rw[if_neg h2,if_neg h1]
theorem zGe(F:Nat->Nat->Int){i j:Nat}(hij:i≠j)(b:Int):zAv (zAt (zAt F i) j) i j (-b)=qQ F i j (-1) b 0 (-1):=by
 funext r t
 have hji:=Ne.symm hij;unfold zAv zAt qQ;by_cases h1:r=i
 ·subst h1
  rw[if_pos rfl,if_neg hij,if_pos rfl,if_pos rfl,if_neg hji,if_pos rfl,Int.neg_mul,Int.mul_neg,Int.neg_neg,Int.neg_mul,Int.one_mul]
 ·rw[if_neg h1,if_neg h1]
  by_cases h2:r=j
  ·subst h2
   rw[if_pos rfl,if_neg hji,if_pos rfl];omega
  ·rw[if_neg h2,if_neg h1,if_neg h2]
theorem zJL(F:Nat->Nat->Int){i j:Nat}(hij:i≠j)(b:Int):zAv (zAt (zAt F i) j) j i (-(-b))=qQ F i j (-1) (-0) (-b) (-1):=by
 funext r t
 have hji:=Ne.symm hij;unfold zAv zAt qQ;by_cases h1:r=j
 ·subst h1
  rw[if_pos rfl,if_pos rfl,if_neg hji,if_neg hij,if_pos rfl,if_neg hji,if_pos rfl,Int.neg_neg,Int.mul_neg,Int.neg_mul,Int.neg_mul,Int.one_mul];omega
 ·rw[if_neg h1,if_neg h1]
  by_cases h2:r=i
  ·subst h2
   rw[if_pos rfl,if_pos rfl];omega
  ·rw[if_neg h2,if_neg h2,if_neg h1]
theorem zOd{n i j:Nat}(hi:i<n)(hj:j<n)(hij:i≠j):∀(m:Nat) (a b c d:Int),c.natAbs=m->a*d-b*c=1->∃l,yB n l/\∀x:Bst,x.mix i j a b c d=zBM l x:=by
 intro m;induction m using Nat.strongRecOn with
 | ind m ih=>
  intro a b c d hm hdet;by_cases hc:c=0
  ·subst hc
   have had:a*d=1:=by rw[Int.mul_zero]at hdet;omega
   have ha1:a.natAbs=1:=by
    have h1:=congrArg Int.natAbs had;rw[Int.natAbs_mul]at h1;exact Nat.eq_one_of_mul_eq_one_right h1
   have hsg:(a=1/\d=1)∨(a=-1/\d=-1):=by
    rcases(by omega:a=1∨a=-1)with e|e
    ·subst e;exact .inl ⟨rfl,by omega⟩
    ·subst e;exact .inr ⟨rfl,by omega⟩
   rcases hsg with⟨rfl,rfl⟩|⟨rfl,rfl⟩
   ·refine⟨[.add i j b],yB.cons ⟨hi,hj,hij⟩ yB.nil,fun x=>?_⟩
    show(⟨_,_,_⟩:Bst)=⟨zAv x.s i j b,zAv x.t i j b,zAv x.i j i (-b)⟩;rw[zIb x.s hij,zIb x.t hij,zKO x.i hij]
   ·refine⟨[.neg i,.neg j,.add i j (-b)],yB.cons hi (yB.cons hj (yB.cons ⟨hi,hj,hij⟩ yB.nil)),fun x=>?_⟩
    show(⟨_,_,_⟩:Bst)=⟨zAv (zAt (zAt x.s i) j) i j (-b),zAv (zAt (zAt x.t i) j) i j (-b),zAv (zAt (zAt x.i i) j) j i (-(-b))⟩;rw[zGe x.s hij,zGe x.t hij,zJL x.i hij]
  ·have h1:a-a/c*c=a%c:=by have:=Int.emod_add_mul_ediv a c;rw[Int.mul_comm]at this;omega
   have h2:=Int.emod_nonneg a hc;have h3:=Int.emod_lt a hc;obtain⟨q,hq⟩:∃q,a/c=q:=⟨_,rfl⟩;rw[hq]at h1;have hd:-c*(b-q*d)- -d*(a-q*c)=1:=by
    have e1:-c*(b-q*d)=-(b*c)+q*c*d:=by rw[Int.mul_sub,Int.neg_mul,Int.neg_mul,Int.mul_comm c b,<-Int.mul_assoc,Int.mul_comm c q];omega
    have e2:-d*(a-q*c)=-(a*d)+q*c*d:=by rw[Int.mul_sub,Int.neg_mul,Int.neg_mul,Int.mul_comm d a,Int.mul_comm d (q*c)];omega
    rw[e1,e2];omega
   obtain⟨l,hl,e⟩:=ih (a-q*c).natAbs oM (-c) (-d) (a-q*c) (b-q*d) rfl hd;refine⟨l++ [.swap i j,.neg j,.add i j q],hl.app (yB.cons (o:=.swap i j) ⟨hi,hj⟩ (yB.cons (o:=.neg j) hj (yB.cons (o:=.add i j q) ⟨hi,hj,hij⟩ yB.nil))),fun x=>?_⟩;rw[zEC,<-e x];show(⟨_,_,_⟩:Bst)=⟨zAv (zAt (zFl (qQ x.s i j (-c) (-d) (a-q*c) (b-q*d)) i j) j) i j q,zAv (zAt (zFl (qQ x.t i j (-c) (-d) (a-q*c) (b-q*d)) i j) j) i j q,zAv (zAt (zFl (qQ x.i i j (b-q*d) (-(a-q*c)) (-(-d)) (-c)) i j) j) j i (-q)⟩;rw[zFF x.s hij,zFF x.t hij,Int.neg_neg,zHf x.i hij]
def zAx(e:Bool)(Z:Nat->Prop)(w:World)(bw:Nat)(Ah:Value)(n Cs Ct:Nat)(x:Bst):Prop:=
 if e=true then ∃Au Av bss bst bsi,Blk w bw tHW #[Ah,Au,Av]/\zD4 w Ah Au Av n Cs Ct bss bst bsi x.s x.t x.i/\∀b,b∈bss∨b∈bst∨b∈bsi->Z b
 else Ct=0/\∃Au Av bss,Blk w bw tHW #[Ah,Au,Av]/\Wri w Ah n Cs bss x.s/\zBf w Au n/\zBf w Av n/\∀b,b∈bss->Z b
theorem zD4.below{w w':World}{As At Ai:Value}{n Cs Ct:Nat}{bss bst bsi:List Nat}{S T I:Nat->Nat->Int}(h:zD4 w As At Ai n Cs Ct bss bst bsi S T I)(hb:Below w.heap.size w w'):zD4 w' As At Ai n Cs Ct bss bst bsi S T I:=
 ⟨h.s.below hb,h.t.below hb,h.i.below hb,h.st,h.si,h.ti,h.ast,h.asi,h.ati⟩
section
variable {e:Bool} {Z:Nat->Prop} {w w':World} {bw:Nat} {Ah:Value} {n Cs Ct:Nat} {x:Bst}
theorem zAx.below(h:zAx e Z w bw Ah n Cs Ct x)(hb:Below w.heap.size w w'):zAx e Z w' bw Ah n Cs Ct x:=by
 unfold zAx at h ⊢
 split at h
 ·rename_i he
  rw[if_pos he];obtain⟨Au,Av,b1,b2,b3,h1,h2,h3⟩:=h;exact⟨Au,Av,b1,b2,b3,h1.below hb,h2.below hb,h3⟩
 ·rename_i he
  rw[if_neg he];obtain⟨h0,Au,Av,b1,h1,h2,h3,h4,h5⟩:=h;exact⟨h0,Au,Av,b1,h1.below hb,h2.below hb,h3.below hb,h4.below hb,h5⟩
theorem zAx.wri(h:zAx e Z w bw Ah n Cs Ct x):∃bss,Wri w Ah n Cs bss x.s/\∀b,b∈bss->Z b:=by
 unfold zAx at h;split at h
 ·obtain⟨Au,Av,b1,b2,b3,h1,h2,h3⟩:=h
  exact⟨b1,h2.s,fun b hb=>h3 b (.inl hb)⟩
 ·obtain⟨h0,Au,Av,b1,h1,h2,h3,h4,h5⟩:=h
  exact⟨b1,h2,h5⟩
theorem zAx.blk(h:zAx e Z w bw Ah n Cs Ct x):∃Au Av,Blk w bw tHW #[Ah,Au,Av]:=by
 unfold zAx at h;split at h
 ·obtain⟨Au,Av,b1,b2,b3,h1,-⟩:=h
  exact⟨Au,Av,h1⟩
 ·obtain⟨h0,Au,Av,b1,h1,-⟩:=h
  exact⟨Au,Av,h1⟩
theorem zX.widen{Z Z':Nat->Prop}(h:zX Z w w')(hz:∀k,Z k->Z' k):zX Z' w w':=h.mono fun k _ hk=>hz k hk
theorem zQc{B:Nat}(hB:BSm B){i j:Nat}{kv:Value}{k:Int}(h:zAx e Z w bw Ah n Cs Ct x)(hok:okB B n Cs Ct x)(hi:i<n)(hj:j<n)(hij:i≠j)(hk:zH w kv k)
  (hn:n<=1000000) (hCs:Cs<=1000000) (hCt:Ct<=1000000) (ha:zDe B n Cs Ct x i j k):
  Calls Tryz.prog 220 #[.pointer (some ⟨bw,0,none⟩),.int .i64 i,.int .i64 j,kv] w fun r w'=>(∃u,r= .returned u)/\zX Z w w'/\zAx e Z w' bw Ah n Cs Ct (x.add i j k):=by
 obtain⟨a1,a2,a3,a4⟩:=ha;obtain⟨o1,o2,o3⟩:=hok;have hS:zKD Cs x.s i j k:=fun t ht=>⟨hB.sm _ (o1 i hi t ht),hB.sm _ (o1 j hj t ht),hB.sm _ (a2 t ht)⟩
 unfold zAx at h ⊢
 split at h
 ·rename_i he
  obtain⟨Au,Av,b1,b2,b3,h1,h2,h3⟩:=h;refine(zNd bw Ah Au Av n Cs Ct i j b1 b2 b3 x.s x.t x.i kv k w h1 h2 hi hj hij hk hn hCs hCt hS (fun t ht=>⟨hB.sm _ (o2 i hi t ht),hB.sm _ (o2 j hj t ht),hB.sm _ (a3 t ht).1⟩)
   (fun t ht=>⟨hB.sm _ (o3 j hj t ht),hB.sm _ (o3 i hi t ht),hB.sm _ (by rw[Int.neg_mul,Int.natAbs_neg];exact(a3 t ht).2)⟩) (hB.sm _ a1)).mono ?_
  rintro r w' ⟨hu,k1,k2,k3⟩;rw[if_pos he];exact⟨hu,k1.widen h3,Au,Av,b1,b2,b3,k2,k3,h3⟩
 ·rename_i he
  obtain⟨h0,Au,Av,b1,h1,h2,h3,h4,h5⟩:=h;refine(zLz bw Ah Au Av n Cs i j b1 x.s kv k w h1 h2 h3 h4 hi hj hij hk hn hCs hS (hB.sm _ a1)).mono ?_;rintro r w' ⟨hu,k1,k2,k3,k4,k5⟩;rw[if_neg he];exact⟨hu,k1.widen h5,h0,Au,Av,b1,k2,k3,k4,k5,h5⟩
theorem zQh{B:Nat}(hB:BSm B){i:Nat}(h:zAx e Z w bw Ah n Cs Ct x)(hok:okB B n Cs Ct x)(hi:i<n)(hn:n<=1000000)(hCs:Cs<=1000000)(hCt:Ct<=1000000):
  Calls Tryz.prog 222 #[.pointer (some ⟨bw,0,none⟩),.int .i64 i] w fun r w'=>(∃u,r= .returned u)/\zX Z w w'/\zAx e Z w' bw Ah n Cs Ct (x.neg i):=by
 obtain⟨o1,o2,o3⟩:=hok;unfold zAx at h ⊢
 split at h
 ·rename_i he
  obtain⟨Au,Av,b1,b2,b3,h1,h2,h3⟩:=h;refine(zNf bw Ah Au Av n Cs Ct i b1 b2 b3 x.s x.t x.i w h1 h2 hi hn hCs hCt (fun a ha b hb=>hB.sm _ (o1 a ha b hb)) (fun a ha b hb=>hB.sm _ (o2 a ha b hb)) (fun a ha b hb=>hB.sm _ (o3 a ha b hb))).mono ?_;rintro r w' ⟨hu,k1,k2,k3⟩;rw[if_pos he];exact⟨hu,k1.widen h3,Au,Av,b1,b2,b3,k2,k3,h3⟩
 ·rename_i he
  obtain⟨h0,Au,Av,b1,h1,h2,h3,h4,h5⟩:=h;refine(zL1 bw Ah Au Av n Cs i b1 x.s w h1 h2 h3 h4 hi hn hCs (fun a ha b hb=>hB.sm _ (o1 a ha b hb))).mono ?_;rintro r w' ⟨hu,k1,k2,k3,k4,k5⟩;rw[if_neg he];exact⟨hu,k1.widen h5,h0,Au,Av,b1,k2,k3,k4,k5,h5⟩
structure zLC(B n Cs Ct:Nat)(x:Bst)(i j:Nat)(a b c d:Int):Prop where
 kk:a.natAbs<B/\b.natAbs<B/\c.natAbs<B/\d.natAbs<B
 ss:∀t,t<Cs->(a*x.s i t).natAbs<B/\(b*x.s j t).natAbs<B/\(c*x.s i t).natAbs<B/\(d*x.s j t).natAbs<B
 tt:∀t,t<Ct->(a*x.t i t).natAbs<B/\(b*x.t j t).natAbs<B/\(c*x.t i t).natAbs<B/\(d*x.t j t).natAbs<B
 ii:∀t,t<Ct->(d*x.i i t).natAbs<B/\(c*x.i j t).natAbs<B/\(b*x.i i t).natAbs<B/\(a*x.i j t).natAbs<B
 oo:okB B n Cs Ct (x.mix i j a b c d)
theorem zRE{B:Nat}(hB:BSm B){i j:Nat}{mv:Value}{a b c d:Int}(h:zAx e Z w bw Ah n Cs Ct x)(hok:okB B n Cs Ct x)(hi:i<n)(hj:j<n)(hij:i≠j)(hm:M4V w mv a b c d)
  (hn:n<=1000000) (hCs:Cs<=1000000) (hCt:Ct<=1000000) (ha:zLC B n Cs Ct x i j a b c d):
  Calls Tryz.prog 221 #[.pointer (some ⟨bw,0,none⟩),.int .i64 i,.int .i64 j,mv] w fun r w'=>(∃u,r= .returned u)/\zX Z w w'/\zAx e Z w' bw Ah n Cs Ct (x.mix i j a b c d):=by
 obtain⟨⟨a1,a2,a3,a4⟩,a_s,at_,ai,ao⟩:=ha;obtain⟨o1,o2,o3⟩:=hok;have hK:Sm a/\Sm b/\Sm c/\Sm d:=⟨hB.sm _ a1,hB.sm _ a2,hB.sm _ a3,hB.sm _ a4⟩;have hS:zNz Cs (x.s i) (x.s j) a b c d:=fun t ht=>by
  obtain⟨q1,q2,q3,q4⟩:=a_s t ht;exact⟨hB.sm _ (o1 i hi t ht),hB.sm _ (o1 j hj t ht),hB.sm _ q1,hB.sm _ q2,hB.sm _ q3,hB.sm _ q4⟩
 unfold zAx at h ⊢
 split at h
 ·rename_i he
  obtain⟨Au,Av,b1,b2,b3,h1,h2,h3⟩:=h;refine(zNe bw Ah Au Av mv n Cs Ct i j b1 b2 b3 x.s x.t x.i a b c d w h1 h2 hi hj hij hm hn hCs hCt hS (fun t ht=>by
   obtain⟨q1,q2,q3,q4⟩:=at_ t ht;exact⟨hB.sm _ (o2 i hi t ht),hB.sm _ (o2 j hj t ht),hB.sm _ q1,hB.sm _ q2,hB.sm _ q3,hB.sm _ q4⟩) (fun t ht=>by
   obtain⟨q1,q2,q3,q4⟩:=ai t ht;exact⟨hB.sm _ (o3 i hi t ht),hB.sm _ (o3 j hj t ht),hB.sm _ q1,hB.sm _ (by rw[Int.neg_mul,Int.natAbs_neg];exact q2),hB.sm _ (by rw[Int.neg_mul,Int.natAbs_neg];exact q3),hB.sm _ q4⟩) hK).mono ?_
  rintro r w' ⟨hu,k1,k2,k3⟩;rw[if_pos he];exact⟨hu,k1.widen h3,Au,Av,b1,b2,b3,k2,k3,h3⟩
 ·rename_i he
  obtain⟨h0,Au,Av,b1,h1,h2,h3,h4,h5⟩:=h;refine(zL0 bw Ah Au Av mv n Cs i j b1 x.s a b c d w h1 h2 h3 h4 hi hj hij hm hn hCs hS hK).mono ?_;rintro r w' ⟨hu,k1,k2,k3,k4,k5⟩;rw[if_neg he];exact⟨hu,k1.widen h5,h0,Au,Av,b1,k2,k3,k4,k5,h5⟩
end
def zA9(bw:Nat):Array Value:=#[.func (.func 220) #[.pointer (some ⟨bw,0,none⟩)] #[],.func (.func 221) #[.pointer (some ⟨bw,0,none⟩)] #[],.func (.func 222) #[.pointer (some ⟨bw,0,none⟩)] #[]]
inductive zJJ (x:Bst) (r m c:Nat):Bst->Prop
 |add:x.s m c%x.s r c=0->zJJ x r m c (x.add m r (-(x.s m c/x.s r c)))
 |mix (s t:Int):¬ x.s m c%x.s r c=0->Bez (x.s r c) (x.s m c) s t->zJJ x r m c (x.mix r m s t (-(x.s m c/((Int.gcd (x.s r c) (x.s m c):Nat):Int))) (x.s r c/((Int.gcd (x.s r c) (x.s m c):Nat):Int)))
theorem zLA(w:World):
  CallsD Tryz.prog 257 #[] .returning w fun e u' w'=>e= .returned (.tuple #[])/\u'= .returning/\w'=w:=by
 refine callsD_of_wpS Tryz.func257 rfl fun c₀ cs hu=>?_
 apply wpS_region;simp[wpOpsS,go_sem,recoverD,hu,Tryz.ntmps257,bodyPostS,results,Tryz.results257];cases c₀;simp_all
theorem mkR(m:Int)(n:Nat)(hm:m=n)(h:n<=1099511627776)(W:World):
  (Instr.makeSlice 26 (.int .i64 m) (.int .i64 m)).run Tryz.prog W= .ok (.slice (some ⟨W.heap.size,0,none⟩) n n) (W.alloc (.cells (madeCells (Value.slice none 0 0).cells (n*1)) tR)):=by
 subst hm;obtain⟨i0,hi,hz0,hz1,hz2⟩:=info_parts Tryz.infoR;have:=zAd (P:=Tryz.prog) 26 tR i0 _ Tryz.underlying26 hi hz0 .i64 .i64 n n (xgf _) (by rw[hz2];omega) oM W;rw[this,hz1]
def yA(n C:Nat)(bs:List Nat):Array Value:=(yC C bs++List.replicate (n-bs.length) (Value.slice none 0 0)).toArray
theorem zCY(n C:Nat):madeCells #[Value.slice none 0 0] n=yA n C []:=by
 apply Array.ext
 ·simp[madeCells,yA,yC]
 ·intro i h1 h2
  simp[madeCells,yA,yC,Nat.mod_one,Value.cells]
theorem zAY{n C:Nat}{bs:List Nat}(h:bs.length<=n):(yA n C bs).size=n:=by simp[yA,yC];omega
theorem zD1{n C b:Nat}{bs:List Nat}(h:bs.length<n):(yA n C bs).setIfInBounds bs.length (.slice (some ⟨b,0,none⟩) C C)=yA n C (bs++ [b]):=by
 apply Array.ext
 ·simp[yA,yC];omega
 ·intro i h1 h2
  have hi:i<n:=by simpa[zAY (C:=C) (Nat.le_of_lt h)]using h1
  by_cases e:i=bs.length
  ·subst e
   simp[yA,yC]
  ·have e2:bs.length≠i:=fun hh=>e hh.symm
   rw[Array.getElem_setIfInBounds_ne (by simpa using h1) e2];rcases Nat.lt_or_ge i bs.length with hl|hl
   ·simp[yA,yC,hl,List.getElem_append,Nat.lt_succ_of_lt hl]
   ·have h3:¬ i<bs.length:=by omega
    have h4:¬ i<bs.length+1:=by omega
    obtain⟨p,hp⟩:∃p,i-bs.length=p+1:=⟨i-bs.length-1,by omega⟩;simp[yA,yC,List.getElem_append,h3,h4,hp]
theorem zIr(R C:Nat)(w:World)(hR:R<=1000000)(hC:C<=1000000):
  Calls Tryz.prog 218 #[.int .i64 R,.int .i64 C] w (zBB w R C (zAP R C)):=by
 have hmf:∀(fn:Fn) (first cap:Array Value) (w:World),(Instr.makeFunc fn first cap).run Tryz.prog w= .ok (.func fn first cap) w:=fun _ _ _ _=>rfl
 have hmkR:=fun W=>mkR (R:Int) R rfl oM W
 have hmkC:=fun W=>mkI (C:Int) C rfl oM W
 go_enter_defers Tryz.func218,Tryz.ntmps218;go_upto_region 4 with(fail)
 refine zB ?_;intro W0 hW0;obtain⟨hB0,br,bA,hs0⟩:=qH hW0;rw[zCY R C]at bA;clear hW0 hmkR;go_wp2;go_loopw [15] (fun iv wr=>∃(k:Nat) (bs:List Nat),k<=R/\iv= .int .i64 k/\bs.length=k/\bs.Nodup/\(∀b∈bs,w.heap.size+1<b/\qC wr b (zM C (fun _=>0)))/\Below w.heap.size w wr/\Blk wr w.heap.size 28 #[.int .i64 0,.int .i64 0,.slice none 0 0]/\Blk wr (w.heap.size+1) tR (yA R C bs)) (fun iv _=>R-(intOf iv).toNat)
 case atStart=>exact⟨0,[],by omega,rfl,rfl,by simp,by simp,hB0,br,bA⟩
 case round=>
  obtain⟨k,bs,hk,rfl,hbl,hnd,hrows,hb,br,bA⟩:=hrel;have hsz:=hb.size;have HR:=xgv (And.intro hnd hrows);clear hnd hrows;by_cases hlt:k<R
  ·have hmkC:=hmkC wr
   have lA:=bA.lt;have lr:=br.lt;have bA1:Blk (wr.alloc (.cells (zeroCells C) tI)) (w.heap.size+1) tR (yA R C bs):=bA.below ((Below.refl _ _).alloc (xgf _) _);have f1:=bA1.frozen k;obtain⟨u,f2⟩:∃u,(wr.alloc (.cells (zeroCells C) tI)).cell? ⟨w.heap.size+1,k,none⟩=some u:=by
    rw[bA1.cell k];exact⟨_,Array.getElem?_eq_getElem (by rw[zAY oM];exact hlt)⟩
   go_wp2;go_roundw
   case rel=>
    have hset:=bA.set_ k (.slice (some ⟨wr.heap.size,0,none⟩) C C);rw[<-hbl,zD1 oM,hbl]at hset;have hsw:(wr.setCell ⟨w.heap.size+1,k,none⟩ (.slice (some ⟨wr.heap.size,0,none⟩) C C)).heap.size=wr.heap.size:=by simp[World.setCell]
    have hx1:=bA.lext dE k (.slice (some ⟨wr.heap.size,0,none⟩) C C);have hb3:Below (wr.setCell ⟨w.heap.size+1,k,none⟩ (.slice (some ⟨wr.heap.size,0,none⟩) C C)).heap.size (wr.setCell ⟨w.heap.size+1,k,none⟩ (.slice (some ⟨wr.heap.size,0,none⟩) C C)) ((wr.setCell ⟨w.heap.size+1,k,none⟩ (.slice (some ⟨wr.heap.size,0,none⟩) C C)).alloc (.cells (zeroCells C) tI)):=(Below.refl _ _).alloc (xgf _) _;refine⟨k+1,bs++ [wr.heap.size],by omega,by simp,by simp[hbl],?_,?_,(zO hb oM _ _).alloc oM _,?_,hset.below hb3⟩
    ·rw[List.nodup_append]
     refine⟨HR.out.1,by simp,fun x hx y hy=>?_⟩;simp at hy;subst hy;have:=(HR.out.2 x hx).2.lt;omega
    ·intro b hb'
     rcases List.mem_append.1 hb' with h1|h1
     ·obtain⟨h2,h3⟩:=HR.out.2 b h1
      exact⟨h2,(h3.old (zU _ _ _ _ _ oM) hx1).below hb3⟩
     ·simp at h1
      subst h1;refine⟨by omega,?_⟩;have h4:=zDC (wr.setCell ⟨w.heap.size+1,k,none⟩ (.slice (some ⟨wr.heap.size,0,none⟩) C C)) C;have h5:List.replicate C (0:Int)=zM C (fun _=>0):=by
       apply List.ext_getElem
       ·simp[zM]
       ·intro i h1 h2;simp[zM]
      rw[h5,hsw]at h4;exact h4
    ·exact Blk.below (Blk.far br oM _ _) hb3
   case measure=>simp[intOf];omega
  ·obtain rfl:k=R:=by omega
   obtain⟨c1,c2,c3,c4,c5,c6⟩:=br.three;have hz0:List.replicate C (0:Int)=zM C (fun _=>0):=by
    apply List.ext_getElem
    ·simp[zM]
    ·intro i h1 h2;simp[zM]
   have HZ:=xgv hz0;have hpr:(yA k C bs).toList=yC C bs:=by simp[yA,hbl]
   have HPR:=xgv hpr;clear hz0 hpr;go_wp2;refine leaves_cons (f:=257) (args:=#[]) sI (by simp[go_sem]) ?_;refine(zLA _).mono ?_;rintro e u' w'' ⟨rfl,rfl,rfl⟩;have hx:=br.lext3 dE (.int .i64 k) (.int .i64 C) (.slice (some ⟨w.heap.size+1,0,none⟩) k k);refine⟨_,results_cell_row rfl _ _ w.heap.size _ _ _ _ rfl (br.put3 _ _ _) Tryz.underlying28 rfl (by rw[Tryz.sizeM];rfl),_,bs,rfl,⟨hbl,_,rfl,?_⟩,zO (zO (zO hb oM 0 _) oM 1 _) oM 2 _⟩;refine⟨⟨by simp[yC],.inr ⟨w.heap.size+1,k,yA k C bs,by rw[hbl],by omega,(yY _ _ _ _ _ _ oM).trans bA,by omega,by simp[maxLen];omega,by rw[zAY oM];omega,?_⟩⟩,by simp[zAP,hbl],?_,HR.out.1,by omega⟩
   ·rw[HPR.out,hbl,Nat.mul_one,List.take_of_length_le (by simp[yC,hbl])]
   ·intro i b r hi hr
    have hm:=xgd hi;obtain⟨h1,h2⟩:=HR.out.2 b hm;have hik:i<k:=by have:=(xge.1 hi).1;omega
    obtain rfl:r=List.replicate C 0:=by
     unfold zAP at hr;rw[List.getElem?_replicate,if_pos hik]at hr;injection hr with hr
     exact hr.symm
    refine⟨by omega,by simp,?_⟩;rw[HZ.out];exact h2.old (yY _ _ _ _ _ _ oM) hx
theorem zGB(n:Nat)(w:World)(hn:n<=1000000):Calls Tryz.prog 151 #[.int .i64 n] w (zBB w n n (zY n n idf)):=by
 go_enter Tryz.func151,Tryz.ntmps151;go_upto_region 1 with(fail)
 refine zB ?_;intro W0 hW0;obtain⟨hB0,br,hs0⟩:=zK hW0;go_wp2_with fail
 refine(zIr n n W0 hn hn).mono ?_;rintro e w2 ⟨u,bs,rfl,⟨hbl,A2,rfl,ho⟩,hb2⟩;obtain⟨oo,on,oc,rfl,hon,-,-,-⟩:=id ho.rows;obtain rfl:n=on:=by rw[<-hon];simp[zAP]
 clear hon;have hlts:=ho.lts;go_upto_region 2 with(fail)
 refine zB ?_;intro W3 hW3;obtain⟨hB3,T5,hs3⟩:=zK hW3;have br:=(br.below hb2).below hB3;have ho:=ho.below hB3;have hz0:zAP n n=zY n n (zNp 0):=by rw[zCQ];exact qM fun i _ j _=>by unfold zNp;rw[if_neg oM]
 rw[hz0]at ho;have hBt:=nx (nx hB0 hb2) hB3;have q1:=hB0.size;have q2:=hb2.size;obtain⟨f1,f2,f3,f4,f5,f6⟩:=T5.three;clear hW3 hW0 hz0;go_wp2;clear f1 f2 f3 f4 f5 f6;go_loopw [11] (fun iv wr=>∃i:Nat,i<=n/\iv= .int .i64 i/\Below w.heap.size w wr/\Blk wr w.heap.size 28 #[.int .i64 0,.int .i64 0,.slice none 0 0]/\Blk wr w2.heap.size 28 #[.int .i64 n,.int .i64 n,.slice oo n oc]/\zT wr W0.heap.size (.slice oo n oc) n bs (zY n n (zNp i))) (fun iv _=>n-(intOf iv).toNat)
 case atStart=>exact⟨0,by omega,rfl,hBt,br,T5,ho⟩
 case round=>
  obtain⟨i,hi,rfl,hb,br,T5,ho⟩:=hrel;obtain⟨f1,f2,f3,f4,f5,f6⟩:=T5.three;by_cases hlt:i<n
  ·obtain⟨g,bo,rfl,hg,hbo,hbo2,o1,ho3⟩:=ho.at_ (i:=i) oM
   clear ho3;have lt5:=T5.lt;go_upto_region 5 with(fail)
   refine zC 8 rfl (RI wr (wr.heap.size) _ 35
     [VP 0 14 w2.heap.size 2,VSl 1 15 g n oc,VN 2 16 i,VP 3 17 g i,VSl 4 18 bo n n,VN 5 19 i,EI 6 20 (1),VP 7 21 bo (i*2)] [] []) kR RI.start (RI.fin kR ?fin1) ?steps1
   case steps1=>
    (repeat' constructor)<;>(intro L T wS hL hd hcl hI K hK;try refine zA rfl ?_)
    ·exact xgs (hI.k 3 rfl kR)
    ·have zt0:=hI.e mm0 (hd 0)
     have cc0:=hI.cell f3 oM nom;exact xgu
    ·exact xgs (hI.k 4 rfl kR)
    ·exact xgt (hI.e mm1 (hd 1)) (hI.e mm2 (hd 2))
    ·have zt3:=hI.e mm3 (hd 3)
     have cc0:=hI.cell o1 oM nom;exact xgu
    ·exact xgs (hI.k 4 rfl kR)
    ·go_simp
     refine(zBK 1 _ oM oM).mono ?_;exact xgo
    ·exact xgt (hI.e mm4 (hd 4)) (hI.e mm5 (hd 5))
   intro w9 hlw9 hbw9 holdw9 T hT;simp only[Fin,E,EI,VP,VSl,VN,xgg,xgh,xgi,xgj]at hT;obtain⟨va6,ha6,rfl⟩:=hT;simp only[xgl,xgk];obtain⟨pn,pa,pl,pc,px,rfl,hpx⟩:=id ha6;have HPX:=xgw hpx;clear hpx;have ho9:=ho.below hbw9;obtain⟨sn,sa,sl,sc,z1,z2,z3,z4,-⟩:=ho9.cellAt hbo hlt;have hbolt:=hlts i bo hbo;have hset:=ho9.set hbo hlt ha6;go_wp2;go_roundw
   case rel=>
    have hq:zLh (zY n n (zNp i)) i i 1=zY n n (zNp (i+1)):=by
     rw[zCC _ hlt hlt];exact qM fun a _ b _=>by
      unfold zNp;by_cases h:a=i/\b=i
      ·rw[if_pos h,if_pos oM]
      ·rw[if_neg h]
       by_cases h2:a=b/\a<i
       ·rw[if_pos h2,if_pos oM]
       ·rw[if_neg h2,if_neg oM]
    rw[hq]at hset;exact⟨i+1,by omega,by simp,zO (zO (nx hb hbw9) oM _ _) oM _ _,(zV _ _ _ _ _ _ _ oM).trans (br.below hbw9),(zV _ _ _ _ _ _ _ oM).trans (T5.below hbw9),hset.1⟩
   case measure=>simp[intOf];omega
  ·obtain rfl:i=n:=by omega
   have hq:zY i i (zNp i)=zY i i idf:=qM fun a ha b _=>by
    unfold zNp idf;by_cases h:a=b
    ·rw[if_pos ⟨h,ha⟩,if_pos h]
    ·rw[if_neg (fun h2=>h h2.1),if_neg h]
   rw[hq]at ho;obtain⟨r1,r2,r3,r4,r5,r6⟩:=br.three;go_wp2;refine yE rfl rfl rfl (br.put3 _ _ _) ⟨_,bs,rfl,⟨hbl,_,rfl,?_⟩,zO (zO (zO hb oM 0 _) oM 1 _) oM 2 _⟩;exact(ho.keep (fun k hk=>yY _ _ k _ _ _ oM) (br.lext3 dE _ _ _)).mono q1
end Go.Proofs.YtnbmaipobhppcaaGreat
