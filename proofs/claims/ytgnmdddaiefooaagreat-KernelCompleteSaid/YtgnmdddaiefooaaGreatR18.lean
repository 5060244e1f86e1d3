/- smith: band.take. smith: band.reduce. smith: band.echelon. smith: band.twist. hermite: leading; rows of length 0. hermite: work.add. -/
import Derived.ScopeJumps
import Derived.WalkMore
import Derived.Test.YtgnmdddaiefooaaGreatR17
set_option linter.unusedVariables false
set_option linter.unusedSimpArgs false
set_option linter.unusedSectionVars false
set_option maxHeartbeats 16000000
set_option maxRecDepth 100000
namespace Go.Proofs.YtgnmdddaiefooaaGreat
open Go.RowKit
section
variable {P:Program} {a:Act} {w:World} {Q:Exit->Act->World->Prop}
theorem Exit.jump_ret{l:Nat}{J:Act->World->Prop}:Exit.jump l J Q .ret a w=Q .ret a w:=rfl
theorem zFA{c rest:Code}{l:Nat}(J:Act->World->Prop)(μ:Act->World->Nat)(hf:findLabel (c.seq ((Code.label l).seq rest)) l=some (Code.skip.seq rest))
  (first:c.wp P (fun e a w=>e= .normal/\J a w) a w)
  (pass:∀a w,J a w->rest.wp P (Exit.jump l (fun a' w'=>J a' w'/\μ a' w'<μ a w) Q) a w):(Code.scope (c.seq ((Code.label l).seq rest))).wp P Q a w:=by
 have key:∀a w,J a w->rest.wp P (Exit.jump l J Q) a w:=fun a w hJ=>wp_mono (pass a w hJ) (by
  intro e a' w' h;cases e<;>first|exact h|exact⟨h.1,h.2.1⟩)
 refine wp_scope_jumps l J μ hf ?_ ?_
 ·refine wp_seq (wp_mono first ?_)
  rintro e a' w' ⟨rfl,hJ⟩;exact wp_seq (wp_label (key _ _ hJ))
 ·intro a' w' hJ
  exact wp_seq (wp_skip (pass a' w' hJ))
end
def DMV(a b:Int):World->Value->Prop:=fun w v=>∃q r,v= .tuple #[q,r,.int .i64 0]/\zR w q (a/b)/\zR w r (a%b)
theorem zL9(a b:Int):zDx (DMV a b):=by
 intro w w' v e h;obtain⟨q,r,h1,h2,h3⟩:=h;exact⟨q,r,h1,h2.ext e,h3.ext e⟩
theorem zNY(v1 v2:Value)(z1 z2:Int)(w:World)(h1:zDw w v1 z1)(h2:zDw w v2 z2)(s1:Sm z1)(s2:Sm z2)(hz:z2≠0):
  Calls Tryz.prog 93 #[v1,v2] w fun e w'=>∃v,e= .returned v/\DMV z1 z2 w' v/\Below w.heap.size w w':=by
 refine(zBK v1 v2 z1 z2 w h1 h2 s1 s2 hz).mono ?_;rintro e w' ⟨v1,v2,rfl,h1,h2,h3⟩;exact⟨_,rfl,⟨v1,v2,rfl,h1,h2⟩,h3⟩
theorem zBx.ok{B n Cs Ct:Nat}{x:Bst}{i j:Nat}{k:Int}(h:zBx B n Cs Ct x i j k):okB B n Cs Ct (x.add i j k):=h.2.2.2
theorem zR.two{w:World}{x y:Value}{z:Int}(h:zR w (.agg #[x,y]) z):∃s a l c,x= .bool s/\y= .slice a l c:=by
 obtain⟨s,a,l,c,xs,e,-⟩:=id h;injection e with e
 simp only[Array.mk.injEq,List.cons.injEq]at e;exact⟨s,a,l,c,e.1,e.2.1⟩
theorem zJz{z:Int}(h:¬ z<0):0<=qO z 0:=zAU h
abbrev tN:TypeId:=3
def zQC(n:Nat)(g:Nat->Int):Array Value:=((List.range n).map fun i=>Value.int .i64 (g i)).toArray
def zQj(f:Nat->Int)(j:Nat):Nat->Int:=fun t=>if t<j then f t else 0
theorem zJ.same{w w':World}{base:Nat}{A:Value}{C:Nat}{bs:List Nat}{M:List (List Int)}(h:zJ w base A C bs M)(hb:∀b∈bs,w'.heap[b]?=w.heap[b]?)(ho:∀g,A.ownBlock=some g->w'.heap[g]?=w.heap[g]?)(x:yI w w'):zJ w' base A C bs M:=by
 refine⟨⟨h.own.1,?_⟩,h.len,fun k b r h1 h2=>by
  obtain⟨e1,e2,e3⟩:=h.row k b r h1 h2;exact⟨e1,e2,e3.old (hb b (xgd h1)) x⟩,h.nodup,h.cb⟩
 rcases h.own.2 with h1|⟨g,cap,cur,e1,e2,e3⟩
 ·exact .inl h1
 ·exact .inr ⟨g,cap,cur,e1,e2,(ho g (by rw[e1];rfl)).trans e3.1,e3.2⟩
theorem zDv.same{Z:Nat->Prop}{w w':World}{As At Ai:Value}{n Cs Ct:Nat}{x:Bst}(h:zDv Z w As At Ai n Cs Ct x)(e:∀k,Z k->w'.heap[k]?=w.heap[k]?)(hx:yI w w'):zDv Z w' As At Ai n Cs Ct x:=by
 obtain⟨⟨bss,bst,bsi,⟨h1,h2,h3,h4,h5,h6,h7,h8,h9⟩,hz⟩,ho⟩:=h;exact⟨⟨bss,bst,bsi,⟨zJ.same h1 (fun b hb=>e b (hz b (.inl hb))) (fun g hg=>e g (ho g (.inl hg))) hx,zJ.same h2 (fun b hb=>e b (hz b (.inr (.inl hb)))) (fun g hg=>e g (ho g (.inr (.inl hg)))) hx,
  zJ.same h3 (fun b hb=>e b (hz b (.inr (.inr hb)))) (fun g hg=>e g (ho g (.inr (.inr hg)))) hx,h4,h5,h6,h7,h8,h9⟩,hz⟩,ho⟩
theorem zNw{C:Nat}{F:Nat->Nat->Int}{i:Nat}(h:¬ lead C F i<0):(lead C F i).toNat<C:=by
 obtain⟨c,h1,h2,-⟩:=zIR h;omega

theorem zJ.rows2{w w':World}{base:Nat}{A:Value}{C:Nat}{bs:List Nat}{M:List (List Int)}{i j bi bj:Nat}{ri rj:List Int}(h:zJ w base A C bs M)(hbi:bs[i]?=some bi)(hbj:bs[j]?=some bj)(hij:i≠j)(ho:yQ [bi,bj] w w')
  (hri:qF w' bi ri) (hrj:qF w' bj rj) (hli:ri.length=C) (hlj:rj.length=C):zJ w' base A C bs ((M.set i ri).set j rj):=by
 have hib:=(xge.1 hbi).1;have hjb:=(xge.1 hbj).1;have hiM:i<M.length:=by rw[h.len];exact hib
 have hjM:j<M.length:=by rw[h.len];exact hjb
 obtain⟨r1,r2,r3⟩:=h.row i bi M[i] hbi (xga hiM);obtain⟨q1,q2,q3⟩:=h.row j bj M[j] hbj (xga hjM);refine⟨⟨h.own.1,?_⟩,by simp[h.len],?_,h.nodup,h.cb⟩
 ·rcases h.own.2 with h1|⟨g,cap,cur,e1,e2,e3,e4⟩
  ·exact .inl h1
  ·refine .inr ⟨g,cap,cur,e1,e2,?_,e4⟩
   refine(ho.old g (Array.getElem?_eq_some_iff.1 e3).1 ?_).trans e3;intro hg;have f1:=zCU h.own r3;have f2:=zCU h.own q3;rw[e1]at f1 f2;simp at hg;rcases hg with rfl|rfl
   ·exact f1 rfl
   ·exact f2 rfl
 ·intro k b' r' hk hr'
  by_cases ej:k=j
  ·subst ej
   rw[hbj]at hk;injection hk with hk
   subst hk;rw[List.getElem?_set_self (by simpa using hjM)]at hr';injection hr' with hr'
   subst hr';exact⟨q1,hlj,hrj⟩
  ·rw[List.getElem?_set_ne (Ne.symm ej)]at hr'
   by_cases e:k=i
   ·subst e
    rw[hbi]at hk;injection hk with hk
    subst hk;rw[List.getElem?_set_self hiM]at hr';injection hr' with hr'
    subst hr';exact⟨r1,hli,hri⟩
   ·rw[List.getElem?_set_ne (Ne.symm e)]at hr'
    obtain⟨f1,f2,f3⟩:=h.row k b' r' hk hr';have hkb:=(xge.1 hk).1;have hne:∀{t bt:Nat},bs[t]?=some bt->k≠t->b'≠bt:=by
     intro t bt ht hkt hh;subst hh;have h1:=(xge.1 hk).2;have h2:=(xge.1 ht).2;exact hkt ((List.getElem_inj h.nodup).1 (h1.trans h2.symm))
    exact⟨f1,f2,f3.only ho (by simp;exact⟨hne hbi e,hne hbj ej⟩)⟩
theorem zG0{R C:Nat}{F:Nat->Nat->Int}{i j:Nat}{m0 m1 m2 m3:Int}(hij:i≠j):
  ((genM R C F).set i (zQ C (fun t=>m0*F i t+m1*F j t))).set j (zQ C (fun t=>m2*F i t+m3*F j t))=genM R C (zZ F i j m0 m1 m2 m3):=by
 apply List.ext_getElem
 ·simp[genM]
 ·intro a h1 h2
  by_cases ej:a=j
  ·subst ej
   rw[List.getElem_set_self];have:¬ a=i:=fun h=>hij h.symm
   simp[genM,zQ,zZ,this]
  ·have e3:j≠a:=fun h=>ej h.symm
   rw[List.getElem_set_ne e3];by_cases e:a=i
   ·subst e
    rw[List.getElem_set_self];simp[genM,zQ,zZ]
   ·have e4:i≠a:=fun h=>e h.symm
    rw[List.getElem_set_ne e4];simp[genM,zZ,e,ej]
theorem zCp{w:World}{A:Value}{R C:Nat}{bs:List Nat}{F:Nat->Nat->Int}(h:Wri w A R C bs F){i j bi bj:Nat}(hi:i<R)(hj:j<R)(hij:i≠j)(hbi:bs[i]?=some bi)(hbj:bs[j]?=some bj){mv:Value}{m0 m1 m2 m3:Int}(hm:M4V w mv m0 m1 m2 m3)
  (hC:C<=1000000) (hS:zMr C (F i) (F j) m0 m1 m2 m3) (hms:Sm m0/\Sm m1/\Sm m2/\Sm m3):
  Calls Tryz.prog 147 #[.slice (some ⟨bi,0,none⟩) C C,.slice (some ⟨bj,0,none⟩) C C,mv] w fun e w'=>(∃u,e= .returned u)/\yQ [bi,bj] w w'/\Wri w' A R C bs (zZ F i j m0 m1 m2 m3):=by
 have hne:bi≠bj:=by
  intro hh;subst hh;obtain⟨f1,f2⟩:=xge.1 hbi;obtain⟨g1,g2⟩:=xge.1 hbj;exact hij ((List.getElem_inj (zJ.nodup h)).1 (f2.trans g2.symm))
 refine(zJx bi bj C C C (F i) (F j) mv m0 m1 m2 m3 w (h.rowAt hi hbi) (h.rowAt hj hbj) hne hm hC (xgf _) oM (xgf _) oM hS hms).mono ?_;rintro e w' ⟨hu,ho,hr1,hr2⟩;refine⟨hu,ho,?_⟩;unfold Wri;rw[<-zG0 hij];exact zJ.rows2 h hbi hbj hij ho hr1 hr2 (zE _ _) (zE _ _)
theorem Wri.only2{w w':World}{A:Value}{R C:Nat}{bs:List Nat}{F:Nat->Nat->Int}{b c:Nat}{r q:List Int}(h:Wri w A R C bs F)(ho:yQ [b,c] w w')(hn:b ∉ bs)(hn2:c ∉ bs)(hr:qF w b r)(hq:qF w c q):Wri w' A R C bs F:=
 zJ.only h ho (fun x hx=>by
  intro hh;simp at hh;rcases hh with rfl|rfl
  ·exact hn hx
  ·exact hn2 hx) (fun g hg=>by
  simp at hg;rcases hg with rfl|rfl
  ·exact⟨_,hr⟩
  ·exact⟨_,hq⟩)
def M2V(m0 m1:Int):World->Value->Prop:=fun w v=>∃s0 a0 l0 c0 s1 a1 l1 c1,v= .agg #[.bool s0,.slice a0 l0 c0,.bool s1,.slice a1 l1 c1]/\zR w (.agg #[.bool s0,.slice a0 l0 c0]) m0/\zR w (.agg #[.bool s1,.slice a1 l1 c1]) m1
theorem zCD(a b:Int):zDx (M2V a b):=by
 rintro w w' v e ⟨s0,a0,l0,c0,s1,a1,l1,c1,rfl,h0,h1⟩;exact⟨s0,a0,l0,c0,s1,a1,l1,c1,rfl,h0.ext e,h1.ext e⟩
theorem zFq(a b c d:Int):zDx (fun w v=>M4V w v a b c d):=fun _ _ _ e h=>h.ext e
abbrev tHW:TypeId:=106
def zBa(w:World)(A:Value)(n:Nat):Prop:=∃g cap cs,A= .slice (some ⟨g,0,none⟩) n cap/\n<=cap/\cap<=9223372036854775807/\Blk w g tR cs/\∀i,i<n->cs[i]?=some (.slice none 0 0)
theorem zBa.below{w w':World}{A:Value}{n:Nat}(h:zBa w A n)(hb:Below w.heap.size w w'):zBa w' A n:=by
 obtain⟨g,cap,cs,h1,h2,h3,h4,h5⟩:=h;exact⟨g,cap,cs,h1,h2,h3,h4.below hb,h5⟩
theorem zGU{w:World}{g b:Nat}{t:TypeId}{cs:Array Value}{r:List Int}(hb:Blk w g t cs)(hr:qF w b r)(ht:¬ t=tI):g≠b:=by
 rintro rfl;obtain⟨cs',h1,-⟩:=hr;exact ht (congrArg (fun o:Option Obj=>match o with|some (Obj.cells _ t _)=>t|_=>0) (hb.symm.trans h1))
theorem Blk.row{w w':World}{g b:Nat}{t:TypeId}{cs:Array Value}{r:List Int}(hb:Blk w g t cs)(ho:yQ [b] w w')(hr:qF w b r)(ht:¬ t=tI):Blk w' g t cs:=
 (ho.old g hb.lt (by simpa using zGU hb hr ht)).trans hb
theorem Blk.row2{w w':World}{g b c:Nat}{t:TypeId}{cs:Array Value}{r q:List Int}(hb:Blk w g t cs)(ho:yQ [b,c] w w')(hr:qF w b r)(hq:qF w c q)(ht:¬ t=tI):Blk w' g t cs:=
 (ho.old g hb.lt (by simp;exact⟨zGU hb hr ht,zGU hb hq ht⟩)).trans hb
theorem zBa.row{w w':World}{A:Value}{n b:Nat}{r:List Int}(h:zBa w A n)(ho:yQ [b] w w')(hr:qF w b r):zBa w' A n:=by
 obtain⟨g,cap,cs,h1,h2,h3,h4,h5⟩:=h;exact⟨g,cap,cs,h1,h2,h3,h4.row ho hr dE,h5⟩
theorem zBa.row2{w w':World}{A:Value}{n b c:Nat}{r q:List Int}(h:zBa w A n)(ho:yQ [b,c] w w')(hr:qF w b r)(hq:qF w c q):zBa w' A n:=by
 obtain⟨g,cap,cs,h1,h2,h3,h4,h5⟩:=h;exact⟨g,cap,cs,h1,h2,h3,h4.row2 ho hr hq dE,h5⟩
theorem zBa.at_{w:World}{A:Value}{n i:Nat}(h:zBa w A n)(hi:i<n):∃g cap,A= .slice (some ⟨g,0,none⟩) n cap/\w.cell? ⟨g,i,none⟩=some (.slice none 0 0):=by
 obtain⟨g,cap,cs,h1,h2,h3,h4,h5⟩:=h;exact⟨g,cap,h1,(cell_of_row w g i cs tR _ h4).trans (h5 i hi)⟩
theorem zGO(kv:Value)(k:Int)(w:World)(hk:zR w kv k):
  Calls Tryz.prog 94 #[.slice none 0 0,.slice none 0 0,kv] w fun e w'=>(∃u,e= .returned u)/\Below w.heap.size w w':=by
 obtain⟨kn,ka,kl,kc,kx,rfl,-⟩:=id hk;go_enter Tryz.func94,Tryz.ntmps94;go_upto_region 1 with(fail)
 refine zC ?_;intro W0 hW0;obtain⟨hB0,bk,hs0⟩:=zN hW0;clear hW0;go_wp2;go_loopw [10] (fun iv wr=>iv= .int .i64 0/\wr=W0) (fun _ _=>0)
 case atStart=>exact⟨rfl,rfl⟩
 case round=>
  obtain⟨rfl,rfl⟩:=hrel;go_wp2;exact bodyPost_end (results_none rfl _ _ _) rfl ⟨⟨_,rfl⟩,hB0⟩
theorem zBs(v:Value)(zs:List Int)(w:World)(h:zAZ w v zs):
  Calls Tryz.prog 86 #[v] w fun e w'=>e= .returned (.int .i64 (zAN 0 zs))/\Below w.heap.size w w':=by
 obtain⟨ao,n,cap,rfl,h2,h3,h4,h5⟩:=id h;have HL:=xgw h2;clear h2 h5;go_enter Tryz.func86,Tryz.ntmps86;go_wp2;refine zFA (fun a' wt=>a'={tmps:=#[.slice ao n cap,undef,.int .i64 0,.int .i64 (-1),undef,undef,undef,undef,undef,undef,undef,undef,undef,undef,undef,undef,undef,undef,undef,undef],defers:=[]}/\wt=w) (fun _ _=>0) rfl ?_ ?_
 ·go_wp2
 ·rintro a' wr ⟨rfl,hwr⟩
  have hwr:=hwr.symm;subst hwr;go_wp2;go_loopw [3,8] (fun u i wr=>∃k:Nat,k<=n/\u= .int .i64 (-1)/\i= .int .i64 k/\Below w.heap.size w wr/\Hid (zAN 0 zs=zAN k (zs.drop k))) (fun _ i _=>n-(intOf i).toNat)
  case atStart=>exact⟨0,by omega,rfl,rfl,Below.refl _ _,by rw[xgk];exact xgw rfl⟩
  case round=>
   obtain⟨k,hk,rfl,rfl,hb,hgo⟩:=hrel;by_cases hlt:k<n
   ·obtain⟨b,z,s,a,l,c,rfl,hbl,hz,c1,c2,hv⟩:=(h.below hb).cell (k:=k) (by rw[HL.out];exact hlt)
    have HZ:=xgw hz;clear hz;go_upto_region 5 with(fail)
    refine zC ?_;intro W6 hW6;obtain⟨hB6,T6,hs6⟩:=zN hW6;obtain⟨d1,d2,d3,d4⟩:=T6.two;clear c1 c2 hW6;go_wp2_with fail
    refine(jE _ z W6 (hv.ext (lx hB6)).weak).mono ?_;rintro e w7 ⟨rfl,hb7⟩;have hb9:=nx (nx hb hB6) hb7;by_cases hz0:z=0
    ·rw[jT hz0]
     go_wp2;go_roundw
     case rel=>
      refine⟨k+1,by omega,rfl,by simp,hb9,xgw ?_⟩;rw[hgo.out,zBL HZ.out];conv=>lhs;unfold zAN
      rw[if_neg (by simp[hz0])]
     case measure=>simp[intOf];omega
    ·have hc:=zBp hz0
     obtain⟨k0,hk0⟩:∃k0,qO z 0=k0:=⟨_,rfl⟩;rw[hk0]at hc ⊢
     have hc2:(k0==0)=false:=by simpa using hc
     go_wp2;rw[Exit.jump_ret];go_ret;refine⟨?_,hb9⟩;rw[hgo.out,zBL HZ.out];conv=>rhs;unfold zAN
     rw[if_pos hz0];rfl
   ·obtain rfl:k=n:=by omega
    go_wp2;rw[Exit.jump_ret];go_ret;refine⟨?_,hb⟩;rw[hgo.out,List.drop_eq_nil_of_le (Nat.le_of_eq HL.out)];rfl
theorem lx0{w W:World}(h:Below w.heap.size w W):yI w W:=lx h
theorem zMl(bw:Nat)(Ah Au Av:Value)(n Cs Ct i j:Nat)(bss bst bsi:List Nat)(S T I:Nat->Nat->Int)(kv:Value)(k:Int)(w:World)(hbw:Blk w bw tHW #[Ah,Au,Av])(h:zDu w Ah Au Av n Cs Ct bss bst bsi S T I)(hi:i<n)(hj:j<n)(hij:i≠j)(hk:zR w kv k)
  (hn:n<=1000000) (hCs:Cs<=1000000) (hCt:Ct<=1000000) (hS:zJq Cs S i j k) (hT:zJq Ct T i j k) (hI:zJq Ct I j i (-k)) (hks:Sm k):
  Calls Tryz.prog 125 #[.pointer (some ⟨bw,0,none⟩),.int .i64 i,.int .i64 j,kv] w fun e w'=>(∃u,e= .returned u)/\zM (fun b=>b∈bss∨b∈bst∨b∈bsi) w w'/\Blk w' bw tHW #[Ah,Au,Av]∧
   zDu w' Ah Au Av n Cs Ct bss bst bsi (jL S i j k) (jL T i j k) (jL I j i (-k)):=by
 obtain⟨so,sn,sc,rfl,s1,s2,s3,-⟩:=id (zJ.rows h.s);obtain⟨uo,tn,tc,rfl,t1,t2,t3,-⟩:=id (zJ.rows h.t);obtain⟨io,in_,ic,rfl,i1,i2,i3,-⟩:=id (zJ.rows h.i);obtain⟨kn,ka,kl,kc,kx,rfl,hkx⟩:=id hk;have HKX:=xgw hkx;have HS:=xgv hS;have HT:=xgv hT;have HI:=xgv hI;have HK:=xgv hks;have HKn:qM (Sm (-k)):=⟨HK.out.mono (by rw[Int.natAbs_neg];exact xgf _)⟩;clear hkx hS hT hI hks;obtain⟨hs,ht,hi_,fst_,fsi,fti,gst,gsi,gti⟩:=h;have GST:=xgv gst;have GSI:=xgv gsi;have GTI:=xgv gti;clear gst gsi gti;have e1:n=sn:=by rw[<-s1];simp[genM]
 have e2:n=tn:=by rw[<-t1];simp[genM]
 have e3:n=in_:=by rw[<-i1];simp[genM]
 subst e1;subst e2;subst e3;clear s1 t1 i1;obtain⟨gs,_,rfl,-⟩:=zJ.at_ hs (i:=i) (by rw[hs.len];exact hi);obtain⟨gt,_,rfl,-⟩:=zJ.at_ ht (i:=i) (by rw[ht.len];exact hi);obtain⟨gi,_,rfl,-⟩:=zJ.at_ hi_ (i:=i) (by rw[hi_.len];exact hi);have hlt:∀b,b∈bss∨b∈bst∨b∈bsi->b<w.heap.size:=fun b hb=>by
  rcases hb with hb|hb|hb
  ·exact(hs.blk hb).elim fun r hr=>hr.lt
  ·exact(ht.blk hb).elim fun r hr=>hr.lt
  ·exact(hi_.blk hb).elim fun r hr=>hr.lt
 go_enter Tryz.func125,Tryz.ntmps125;go_upto_region 1 with(fail)
 refine zC ?_;intro W0 hW0;obtain⟨hB0,bk,hs0⟩:=zN hW0;have bx:=hbw.below hB0;have hs:=hs.below hB0;have ht:=ht.below hB0;have hi_:=hi_.below hB0;have hk:=hk.ext (lx hB0);have hO:=zM.of (fun b=>b∈bss∨b∈bst∨b∈bsi) hB0;clear hW0 hbw;obtain⟨g1,bi,eg1,hg1,hbi1,hb1,o1,-⟩:=zJ.at_ hs (i:=i) (by rw[hs.len];exact hi);obtain⟨g2,bj,eg2,hg2,hbj1,hb2,o2,-⟩:=zJ.at_ hs (i:=j) (by rw[hs.len];exact hj);obtain rfl:gs=g1:=by injection eg1 with eg1;injection eg1
 obtain rfl:gs=g2:=by injection eg2 with eg2;injection eg2
 clear eg1 eg2 hb1 hb2;have hm1:=xgd hbi1;obtain⟨ri,hri⟩:=hs.blk hm1;obtain⟨x1,x2,x3,x4,x5,x6⟩:=bx.three;obtain⟨d1,d2,d3,d4⟩:=bk.two;have lbx:=bx.lt;have lk:=bk.lt;refine zB 15 rfl (RI W0 (W0.heap.size) _ 51
   [VP 0 8 bw 0,VP 1 9 bw 0,VP 2 10 bw 0,VSl 3 11 gs n sc,VN 4 12 i,VP 5 13 gs i,VSl 6 14 bi Cs Cs,VP 7 15 bw 0,VP 8 16 bw 0,VP 9 17 bw 0,VSl 10 18 gs n sc,VN 11 19 j,VP 12 20 gs j,VSl 13 21 bj Cs Cs,E 14 22 (.agg #[.bool kn,.slice ka kl kc])] [] []) kR RI.start (RI.fin kR ?fin1) ?steps1
 case steps1=>
  refine⟨?_,?_,?_,?_,?_,?_,?_,?_,?_,?_,?_,?_,?_,?_,?_,trivial⟩<;>(intro L T wS hL hd hcl hI K hK;try refine zA rfl ?_)
  ·exact xgs (hI.k 0 rfl kR)
  ·exact xgs (hI.e mm0 (hd 0))
  ·exact xgs (hI.e mm1 (hd 1))
  ·have zt2:=hI.e mm2 (hd 2)
   have cc0:=hI.cell x1 oM nom;exact xgu
  ·exact xgs (hI.k 1 rfl kR)
  ·exact xgt (hI.e mm3 (hd 3)) (hI.e mm4 (hd 4))
  ·have zt5:=hI.e mm5 (hd 5)
   have cc0:=hI.cell o1 oM nom;exact xgu
  ·exact xgs (hI.k 0 rfl kR)
  ·exact xgs (hI.e mm7 (hd 7))
  ·exact xgs (hI.e mm8 (hd 8))
  ·have zt9:=hI.e mm9 (hd 9)
   have cc0:=hI.cell x1 oM nom;exact xgu
  ·exact xgs (hI.k 2 rfl kR)
  ·exact xgt (hI.e yD (hd 10)) (hI.e zAB (hd 11))
  ·have zt12:=hI.e zAh (hd 12)
   have cc0:=hI.cell o2 oM nom;exact xgu
  ·have zt:=hI.k 7 rfl kR
   have cc0:=hI.cell d1 oM nom;have cc1:=hI.cell d2 oM nom;exact xgu
 intro w8 hlw8 hbw8 holdw8 T hT;simp only[Fin,E,EI,VP,VSl,VN,xgg,xgh,xgi,xgj]at hT;subst hT;simp only[xgl,xgk];have hH8:=hs.below hbw8;have hri8:=hri.below hbw8;clear o1 o2 x1 x2 x3 x4 x5 x6 d1 d2 d3 d4;go_wp2_with fail
 refine(zFf hH8 hi hj hij hbi1 hbj1 _ (k) (hk.ext (lx0 hbw8)) hCs HS.out HK.out).mono ?_;rintro e w9 ⟨⟨u,rfl⟩,ho,hH9⟩;have hkne:w.heap.size≠bi:=by have:=hlt bi (by simp[hm1]);omega
 have bx:=(bx.below hbw8).row ho hri8 dE;have bk:Blk w9 w.heap.size 51 #[.bool kn,.slice ka kl kc]:=(ho.old _ (bk.below hbw8).lt (by simpa using hkne)).trans (bk.below hbw8);have hk:=(hk.ext (lx0 hbw8)).ext ho.lext;have hO:=(hO.trans (zM.of _ hbw8)).trans (⟨ho.bel,ho.lext,fun k hk hn=>ho.old k hk (by simp;rintro rfl;exact hn (by simp[hm1]))⟩:zM _ w8 w9);have ht:=(ht.below hbw8).only ho (fun hh=>fst_ _ hm1 hh) hri8;have hi_:=(hi_.below hbw8).only ho (fun hh=>fsi _ hm1 hh) hri8;have hs:Wri w9 (.slice (some ⟨gs,0,none⟩) n sc) n Cs bss (jL S i j k):=hH9;clear ho hri8 hri hH8 hH9 hm1 hkne hbi1 hbj1;go_upto_region 2 with(fail)
 obtain⟨g1,ci,eg1,hg1,hbi1,hb1,o1,-⟩:=zJ.at_ ht (i:=i) (by rw[ht.len];exact hi);obtain⟨g2,cj,eg2,hg2,hbj1,hb2,o2,-⟩:=zJ.at_ ht (i:=j) (by rw[ht.len];exact hj);obtain rfl:gt=g1:=by injection eg1 with eg1;injection eg1
 obtain rfl:gt=g2:=by injection eg2 with eg2;injection eg2
 clear eg1 eg2 hb1 hb2;have hm1:=xgd hbi1;obtain⟨ri,hri⟩:=ht.blk hm1;obtain⟨x1,x2,x3,x4,x5,x6⟩:=bx.three;obtain⟨d1,d2,d3,d4⟩:=bk.two;have lbx:=bx.lt;have lk:=bk.lt;refine zB 15 rfl (RI w9 (w9.heap.size) _ 51
   [VP 0 24 bw 0,VP 1 25 bw 0,VP 2 26 bw 1,VSl 3 27 gt n tc,VN 4 28 i,VP 5 29 gt i,VSl 6 30 ci Ct Ct,VP 7 31 bw 0,VP 8 32 bw 0,VP 9 33 bw 1,VSl 10 34 gt n tc,VN 11 35 j,VP 12 36 gt j,VSl 13 37 cj Ct Ct,E 14 38 (.agg #[.bool kn,.slice ka kl kc])] [] []) kR RI.start (RI.fin kR ?fin2) ?steps2
 case steps2=>
  refine⟨?_,?_,?_,?_,?_,?_,?_,?_,?_,?_,?_,?_,?_,?_,?_,trivial⟩<;>(intro L T wS hL hd hcl hI K hK;try refine zA rfl ?_)
  ·exact xgs (hI.k 0 rfl kR)
  ·exact xgs (hI.e mm0 (hd 0))
  ·exact xgs (hI.e mm1 (hd 1))
  ·have zt2:=hI.e mm2 (hd 2)
   have cc0:=hI.cell x2 oM nom;exact xgu
  ·exact xgs (hI.k 1 rfl kR)
  ·exact xgt (hI.e mm3 (hd 3)) (hI.e mm4 (hd 4))
  ·have zt5:=hI.e mm5 (hd 5)
   have cc0:=hI.cell o1 oM nom;exact xgu
  ·exact xgs (hI.k 0 rfl kR)
  ·exact xgs (hI.e mm7 (hd 7))
  ·exact xgs (hI.e mm8 (hd 8))
  ·have zt9:=hI.e mm9 (hd 9)
   have cc0:=hI.cell x2 oM nom;exact xgu
  ·exact xgs (hI.k 2 rfl kR)
  ·exact xgt (hI.e yD (hd 10)) (hI.e zAB (hd 11))
  ·have zt12:=hI.e zAh (hd 12)
   have cc0:=hI.cell o2 oM nom;exact xgu
  ·have zt:=hI.k 7 rfl kR
   have cc0:=hI.cell d1 oM nom;have cc1:=hI.cell d2 oM nom;exact xgu
 intro w10 hlw10 hbw10 holdw10 T hT;simp only[Fin,E,EI,VP,VSl,VN,xgg,xgh,xgi,xgj]at hT;subst hT;simp only[xgl,xgk];have hH8:=ht.below hbw10;have hri8:=hri.below hbw10;clear o1 o2 x1 x2 x3 x4 x5 x6 d1 d2 d3 d4;go_wp2_with fail
 refine(zFf hH8 hi hj hij hbi1 hbj1 _ (k) (hk.ext (lx0 hbw10)) hCt HT.out HK.out).mono ?_;rintro e w11 ⟨⟨u,rfl⟩,ho,hH9⟩;have hkne:w.heap.size≠ci:=by have:=hlt ci (by simp[hm1]);omega
 have bx:=(bx.below hbw10).row ho hri8 dE;have bk:Blk w11 w.heap.size 51 #[.bool kn,.slice ka kl kc]:=(ho.old _ (bk.below hbw10).lt (by simpa using hkne)).trans (bk.below hbw10);have hk:=(hk.ext (lx0 hbw10)).ext ho.lext;have hO:=(hO.trans (zM.of _ hbw10)).trans (⟨ho.bel,ho.lext,fun k hk hn=>ho.old k hk (by simp;rintro rfl;exact hn (by simp[hm1]))⟩:zM _ w10 w11);have hs:=(hs.below hbw10).only ho (fun hh=>fst_ _ hh hm1) hri8;have hi_:=(hi_.below hbw10).only ho (fun hh=>fti _ hm1 hh) hri8;have ht:Wri w11 (.slice (some ⟨gt,0,none⟩) n tc) n Ct bst (jL T i j k):=hH9;clear ho hri8 hri hH8 hH9 hm1 hkne hbi1 hbj1;go_upto_region 3 with(fail)
 obtain⟨g1,di,eg1,hg1,hbi1,hb1,o1,-⟩:=zJ.at_ hi_ (i:=j) (by rw[hi_.len];exact hj);obtain⟨g2,dj,eg2,hg2,hbj1,hb2,o2,-⟩:=zJ.at_ hi_ (i:=i) (by rw[hi_.len];exact hi);obtain rfl:gi=g1:=by injection eg1 with eg1;injection eg1
 obtain rfl:gi=g2:=by injection eg2 with eg2;injection eg2
 clear eg1 eg2 hb1 hb2;have hm1:=xgd hbi1;obtain⟨ri,hri⟩:=hi_.blk hm1;obtain⟨x1,x2,x3,x4,x5,x6⟩:=bx.three;obtain⟨d1,d2,d3,d4⟩:=bk.two;have lbx:=bx.lt;have lk:=bk.lt;refine zB 16 rfl (RI w11 (w11.heap.size) _ 51
   [VP 0 40 bw 0,VP 1 41 bw 0,VP 2 42 bw 2,VSl 3 43 gi n ic,VN 4 44 j,VP 5 45 gi j,VSl 6 46 di Ct Ct,VP 7 47 bw 0,VP 8 48 bw 0,VP 9 49 bw 2,VSl 10 50 gi n ic,VN 11 51 i,VP 12 52 gi i,VSl 13 53 dj Ct Ct,E 14 54 (.agg #[.bool kn,.slice ka kl kc]),EI 15 55 (-k)] [] []) kR RI.start (RI.fin kR ?fin3) ?steps3
 case steps3=>
  refine⟨?_,?_,?_,?_,?_,?_,?_,?_,?_,?_,?_,?_,?_,?_,?_,?_,trivial⟩<;>(intro L T wS hL hd hcl hI K hK;try refine zA rfl ?_)
  ·exact xgs (hI.k 0 rfl kR)
  ·exact xgs (hI.e mm0 (hd 0))
  ·exact xgs (hI.e mm1 (hd 1))
  ·have zt2:=hI.e mm2 (hd 2)
   have cc0:=hI.cell x3 oM nom;exact xgu
  ·exact xgs (hI.k 2 rfl kR)
  ·exact xgt (hI.e mm3 (hd 3)) (hI.e mm4 (hd 4))
  ·have zt5:=hI.e mm5 (hd 5)
   have cc0:=hI.cell o1 oM nom;exact xgu
  ·exact xgs (hI.k 0 rfl kR)
  ·exact xgs (hI.e mm7 (hd 7))
  ·exact xgs (hI.e mm8 (hd 8))
  ·have zt9:=hI.e mm9 (hd 9)
   have cc0:=hI.cell x3 oM nom;exact xgu
  ·exact xgs (hI.k 1 rfl kR)
  ·exact xgt (hI.e yD (hd 10)) (hI.e zAB (hd 11))
  ·have zt12:=hI.e zAh (hd 12)
   have cc0:=hI.cell o2 oM nom;exact xgu
  ·have zt:=hI.k 7 rfl kR
   have cc0:=hI.cell d1 oM nom;have cc1:=hI.cell d2 oM nom;exact xgu
  ·have zt14:=hI.e zBF (hd 14)
   go_simp;refine(jR _ k _ (hk.ext hI.lext).weak HK.out).mono ?_;exact xgo
 intro w12 hlw12 hbw12 holdw12 T hT;simp only[Fin,E,EI,VP,VSl,VN,xgg,xgh,xgi,xgj]at hT;obtain⟨vc15,hc15,rfl⟩:=hT;simp only[xgl,xgk];have hH8:=hi_.below hbw12;have hri8:=hri.below hbw12;clear o1 o2 x1 x2 x3 x4 x5 x6 d1 d2 d3 d4;go_wp2_with fail
 refine(zFf hH8 hj hi (Ne.symm hij) hbi1 hbj1 _ (-k) hc15 hCt HI.out HKn.out).mono ?_;rintro e w13 ⟨⟨u,rfl⟩,ho,hH9⟩;have hkne:w.heap.size≠di:=by have:=hlt di (by simp[hm1]);omega
 have bx:=(bx.below hbw12).row ho hri8 dE;have bk:Blk w13 w.heap.size 51 #[.bool kn,.slice ka kl kc]:=(ho.old _ (bk.below hbw12).lt (by simpa using hkne)).trans (bk.below hbw12);have hk:=(hk.ext (lx0 hbw12)).ext ho.lext;have hO:=(hO.trans (zM.of _ hbw12)).trans (⟨ho.bel,ho.lext,fun k hk hn=>ho.old k hk (by simp;rintro rfl;exact hn (by simp[hm1]))⟩:zM _ w12 w13);have hs:=(hs.below hbw12).only ho (fun hh=>fsi _ hh hm1) hri8;have ht:=(ht.below hbw12).only ho (fun hh=>fti _ hh hm1) hri8;go_wp2;exact bodyPost_end (results_none rfl _ _ _) rfl ⟨⟨_,rfl⟩,hO,bx,hs,ht,hH9,fst_,fsi,fti,GST.out,GSI.out,GTI.out⟩
end Go.Proofs.YtgnmdddaiefooaaGreat
