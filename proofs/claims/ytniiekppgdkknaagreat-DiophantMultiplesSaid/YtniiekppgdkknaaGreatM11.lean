/- Joined. -/
import Derived.Test.YtniiekppgdkknaaGreatM09
set_option linter.unusedVariables false
set_option linter.unusedSimpArgs false
set_option linter.unusedSectionVars false
set_option maxHeartbeats 16000000
set_option maxRecDepth 100000
variable{cs cs':Array Go.Value}{C R d x z:Int}{M:List (List Int)}{zs:List Int}{xs:List Nat}{a b b' c g i m n o s:Nat}{t:Go.TypeId}{c0 c1 c2 c3 c4 c5 c6 c7 c8:Go.Value}{w:Go.World}
namespace Go.Proofs.YtniiekppgdkknaaGreat
open Go.RowKit
def HQ(e:Nat)(q:Rat):Prop:=q.num.natAbs<2^e/\q.den<2^e
theorem HQ.mono{q:Rat}(h:HQ a q)(c:a<=b):HQ b q:=⟨zI h.1 (zX dE c),zI h.2 (zX dE c)⟩
theorem zIi(a b:Int):(a/b).natAbs<=a.natAbs∨b.natAbs=0∨¬ b∣a:=by
 by_cases d:b=0
 .exact .inr (.inl oM)
 by_cases hd:b∣a
 .left
  obtain⟨c,rfl⟩:=hd;rw[jY _ d,qT];exact jF _ (Int.natAbs_pos.2 d)
 exact .inr (.inr hd)
theorem zGC(q:Rat):(q.den:Int)≠0:=by have:=q.den_nz;omega
theorem zKe{n:Int}(a:d≠0):(Rat.divInt n d).num.natAbs<=n.natAbs/\(Rat.divInt n d).den<=d.natAbs:=by
 have b:0<d.gcd n:=Int.gcd_pos_iff.2 (.inl a);refine⟨?_,?_⟩
 .rw[Rat.num_divInt]
  have hd:((d.gcd n:Nat):Int)∣d.sign*n:=zB5 (zAH ..) (Int.dvd_mul_left _ _);rcases zIi (d.sign*n) (d.gcd n)with h|h|h
  .refine zF h ?_
   rw[qT,Int.natAbs_sign_of_ne_zero a,yU];exact xgf _
  omega;exact absurd hd h
 rw[Rat.den_divInt,zA a];exact zAs _ _
theorem HQ.divInt{n:Int}{e:Nat}(b:n.natAbs<2^e)(hd:d.natAbs<2^e)(a:d≠0):HQ e (Rat.divInt n d):=
 ⟨zM (zKe a).1 b,zM (zKe a).2 hd⟩
theorem zGj(p q:Rat):p+q=Rat.divInt (p.num*q.den+q.num*p.den) ((p.den:Int)*q.den):=by
 rw[<-Rat.divInt_add_divInt _ _ (zGC p) (zGC q),Rat.num_divInt_den,Rat.num_divInt_den]
theorem zOg(p q:Rat):p-q=Rat.divInt (p.num*q.den-q.num*p.den) ((p.den:Int)*q.den):=by
 rw[<-Rat.divInt_sub_divInt _ _ (zGC p) (zGC q),Rat.num_divInt_den,Rat.num_divInt_den]
theorem zGs(p q:Rat):p*q=Rat.divInt (p.num*q.num) ((p.den:Int)*q.den):=by
 rw[<-Rat.divInt_mul_divInt,Rat.num_divInt_den,Rat.num_divInt_den]
theorem zGl(p q:Rat):p/q=Rat.divInt (p.num*q.den) ((p.den:Int)*q.num):=by
 rw[Rat.div_def,Rat.inv_def,<-Rat.divInt_mul_divInt,Rat.num_divInt_den]
theorem zSD{y:Int}(c:x.natAbs<2^a)(d:y.natAbs<2^b):(x*y).natAbs<2^(a+b):=by
 rw[qT,zAS];exact Nat.mul_lt_mul_of_lt_of_le c (zAc d) (jH dE)
theorem zWQ{y:Int}(b:x.natAbs<2^a)(c:y.natAbs<2^a):(x+y).natAbs<2^(a+1):=by
 have:=Int.natAbs_add_le x y;rw[qE];omega
theorem zW7{y:Int}(b:x.natAbs<2^a)(c:y.natAbs<2^a):(x-y).natAbs<2^(a+1):=by
 have:=Int.natAbs_sub_le x y;rw[qE];omega
theorem HQ.ints{p q:Rat}(e:HQ a p)(c:HQ b q):(p.num*q.den).natAbs<2^(a+b)/\(q.num*p.den).natAbs<2^(a+b)/\(p.num*q.num).natAbs<2^(a+b)/\((p.den:Int)*q.den).natAbs<2^(a+b)/\((p.den:Int)*q.num).natAbs<2^(a+b):=by
 have d:((p.den:Int)).natAbs<2^a:=by rw[zQ];exact e.2
 have f:((q.den:Int)).natAbs<2^b:=by rw[zQ];exact c.2
 exact⟨zSD e.1 f,zCJ a b ▸ zSD c.1 d,zSD e.1 c.1,zSD d f,zSD d c.1⟩
theorem zWg{x:Nat}(h:x<2^a):x<2^(a+1):=zI h (zX dE oM)
theorem zFr(p q:Rat):(p.den:Int)*q.den≠0:=Int.mul_ne_zero (zGC p) (zGC q)
theorem zKs{q:Rat}(h:q≠0):q.num≠0:=fun e=>h (Rat.num_eq_zero.1 e)
theorem HQ.add{p q:Rat}(f:HQ a p)(g:HQ b q):HQ (a+b+1) (p+q):=by
 obtain⟨c,d,h,e,-⟩:=HQ.ints f g;rw[zGj];exact .divInt (zWQ c d) (zWg e) (zFr p q)
theorem HQ.sub{p q:Rat}(f:HQ a p)(g:HQ b q):HQ (a+b+1) (p-q):=by
 obtain⟨c,d,h,e,-⟩:=HQ.ints f g;rw[zOg];exact .divInt (zW7 c d) (zWg e) (zFr p q)
theorem HQ.mul{p q:Rat}(e:HQ a p)(f:HQ b q):HQ (a+b) (p*q):=by
 obtain⟨g,h,c,d,-⟩:=HQ.ints e f;rw[zGs];exact .divInt c d (zFr p q)
theorem HQ.div{p q:Rat}(f:HQ a p)(g:HQ b q)(c:q≠0):HQ (a+b) (p/q):=by
 obtain⟨d,h,i,j,e⟩:=HQ.ints f g;rw[zGl];exact .divInt d e (Int.mul_ne_zero (zGC p) (zKs c))
theorem HQ.neg{p:Rat}(b:HQ a p):HQ a (-p):=⟨by rw[Rat.neg_num,qO];exact b.1,by rw[Rat.neg_den];exact b.2⟩
theorem HQ.int(h:z.natAbs<2^a)(b:1<=a):HQ a (z:Rat):=⟨by rw[Rat.num_intCast];exact h,by rw[Rat.den_intCast];exact zI dE (zX dE b:2^1<=2^a)⟩
def zMM(n d:Int):Int:=if d<0 then-((Int.gcd n d:Nat):Int)else((Int.gcd n d:Nat):Int)
theorem zP5{n:Int}(h:d≠0):zMM n d≠0:=by
 have a:0<Int.gcd n d:=Int.gcd_pos_iff.2 (.inr h);unfold zMM;split<;>omega
theorem zMO{n:Int}(h:d≠0):n/zMM n d=(Rat.divInt n d).num:=by
 rw[Rat.num_divInt,Int.gcd_comm d n];unfold zMM;rcases Int.lt_or_gt_of_ne h with e|e
 .rw[zC e,Int.sign_eq_neg_one_of_neg e,Int.ediv_neg,yQ,jR]
  obtain⟨c,i⟩:=zBN (a:=n) (b:=d);have f:((Int.gcd n d:Nat):Int)≠0:=by have:0<Int.gcd n d:=Int.gcd_pos_iff.2 (.inr h);omega
  generalize ((Int.gcd n d:Nat):Int)=g at i f;subst i;rw[jY _ f,show-(g*c)=g*(-c) by rw[zB9],jY _ f]
 rw[zA oM,Int.sign_eq_one_of_pos e,jR]
theorem zMN{n:Int}(h:d≠0):d/zMM n d=((Rat.divInt n d).den:Int):=by
 rw[Rat.den_divInt,zA h,Int.gcd_comm d n];obtain⟨c,e⟩:=zAH (a:=n) (b:=d);have f:0<Int.gcd n d:=Int.gcd_pos_iff.2 (.inr h);unfold zMM;generalize Int.gcd n d=g at e f;rcases Int.lt_or_gt_of_ne h with h1|h1
 rw[zC h1,Int.ediv_neg,Int.natCast_ediv,Int.ofNat_natAbs_of_nonpos oM,e,jY _ oM,show-((g:Int)*c)=g*(-c) by rw[zB9],jY _ oM];rw[zA oM,Int.natCast_ediv,Int.natAbs_of_nonneg oM]
theorem zSB{n:Int}(hd:0<d)(a:Int.gcd n d=1):(Rat.divInt n d).num=n/\((Rat.divInt n d).den:Int)=d:=by
 rw[<-zMO oM,<-zMN oM];unfold zMM;rw[zA oM,a];exact⟨Int.ediv_one _,Int.ediv_one _⟩
theorem zUk(q:Rat):Int.gcd q.num q.den=1:=by
 have:=q.reduced;unfold Nat.Coprime at this;unfold Int.gcd;rwa[zQ]
theorem zRX(q:Rat):(0:Int)<q.den:=by have:=q.den_nz;omega
def isZ(q:Rat):Bool:=decide ((q.den:Int)=1)
theorem zFv{q:Rat}:isZ q=true↔∃z:Int,q=z:=by
 unfold isZ;rw[decide_eq_true_eq];constructor
 .intro h
  exact⟨q.num,Rat.ext (by rw[Rat.num_intCast]) (by rw[Rat.den_intCast];omega)⟩
 rintro⟨z,rfl⟩;rw[Rat.den_intCast];rfl
theorem zBU(z:Int):zAA (fun w v=>yA w v z):=fun _ _ _ e h=>h.ext (lx e)
theorem zBs(x:Value):zAA (fun _ v=>v=x):=fun _ _ _ _ h=>h
theorem zAl(R C:Int)(M:List (List Int)):zAA (fun w v=>zAo w v R C M):=fun _ _ _ e h=>h.I e
theorem zAX(zs:List Int):zAA (fun w v=>zAR w v zs):=fun _ _ _ e h=>h.I e
def zFp(N:Nat)(vs:List VS):Bool:=decide (vs.map (·.slot)).Nodup && decide (vs.map (·.op)).Nodup && (vs.map (·.slot)).all (fun s=>decide (s<N))
structure RV(W:World)(T0:Array Value)(vs:List VS)(L:Array Bool)(T:Array Value)(w:World):Prop where
 wf:zFp T0.size vs=true
 lv:∀s∈vs,zAA s.P
 size:T.size=T0.size
 keep:∀j,(∀s∈vs,s.slot≠j)->T[j]?=T0[j]?
 bel:BWq W w
 val:∀s∈vs,L[s.op]?=some true->∃v,T[s.slot]?=some v/\s.P w v
section
variable {W:World} {T0:Array Value} {vs:List VS} {L:Array Bool} {T:Array Value} {w w':World}
theorem RV.start(a:zFp T0.size vs=true:=by kernel_rfl)(hv:∀s∈vs,zAA s.P:=by repeat' (first|exact zBU _|exact zBs _|exact zAl _ _ _|exact zAX _|assumption|refine xgm.2 ⟨?_,?_⟩|exact xgn _)):RV W T0 vs (Array.replicate n false) T0 W.drew:=
 ⟨a,hv,rfl,fun _ _=>rfl,dr _,fun s _ h=>by
  rw[Array.getElem?_replicate]at h;split at h<;>simp at h⟩
theorem RV.world(h:RV W T0 vs L T w)(a:BWq w w'):RV W T0 vs L T w':=
 ⟨h.wf,h.lv,h.size,h.keep,nx h.bel a,fun s b e=>by
  obtain⟨v,c,d⟩:=h.val s b e;exact⟨v,c,h.lv s b _ _ _ a d⟩⟩
theorem RV.value{k:Nat}{v:Value}(h:RV W T0 vs L T w)(s:VS)(b:s∈vs)(l:s.op=k)(i:s.P w v):RV W T0 vs (L.setIfInBounds k true) (T.setIfInBounds s.slot v) w:=by
 subst l;have f:=h.wf;unfold zFp at f;simp only[Bool.and_eq_true,decide_eq_true_eq,List.all_eq_true]at f;obtain⟨⟨q,r⟩,x⟩:=f;have n:s.slot<T0.size:=x _ (List.mem_map.2 ⟨s,b,rfl⟩);refine⟨h.wf,h.lv,by simp[h.size],fun j a=>by rw[xgc (a s b)];exact h.keep j a,h.bel,?_⟩;intro t d m;by_cases c:t=s
 .subst c
  exact⟨v,by rw[Array.getElem?_setIfInBounds_self_of_lt (by rw[h.size];exact n)],i⟩
 have o:t.op≠s.op:=fun e=>c (qV r d b e)
 have p:t.slot≠s.slot:=fun e=>c (qV q d b e)
 obtain⟨u,a,g⟩:=h.val t d (qR m (zL o));exact⟨u,by rw[xgc (zL p)];exact a,g⟩
theorem RV.v{s:VS}(h:RV W T0 vs L T w)(b:s∈vs)(a:L[s.op]?=some true):∃v,T[s.slot]?=some v/\s.P w v:=h.val s b a
theorem RV.y{k:Nat}{v:Value}(h:RV W T0 vs L T w){s:VS}(c:s∈vs)(a:s.P w v)(b:s.op=k:=by rfl):RV W T0 vs (L.setIfInBounds k true) (T.setIfInBounds s.slot v) w:=h.value s c b a
theorem RV.cell{v:Value}(h:RV W T0 vs L T w)(hc:W.cell? ⟨b,o,none⟩=some v):w.cell? ⟨b,o,none⟩=some v:=qK hc h.bel
theorem RV.e{x:Value}(h:RV W T0 vs L T w)(c:E i s x∈vs)(b:L[i]?=some true):T[s]?=some x:=by
 obtain⟨v,a,rfl⟩:=h.val _ c b;exact a
theorem RV.k{x:Value}(h:RV W T0 vs L T w)(j:Nat)(b:T0[j]?=some x)(a:(vs.all fun s=>!(s.slot==j))=true):T[j]?=some x:=
 (h.keep j (fun s c e=>by have:=zW.1 a s c;simp[e]at this)).trans b
theorem RV.q{x:Value}(h:RV W T0 vs L T w)(a:E i s x∈vs):RV W T0 vs (L.setIfInBounds i true) (T.setIfInBounds s x) w:=h.value _ a rfl rfl
theorem RV.fin{G:Array Value->World->Prop}(c:(vs.all fun s=>L[s.op]?==some true)=true)(h:∀w,BWq W w->∀T,Fin w vs T0 T->G T w)(T:Array Value)(w:World)(hI:RV W T0 vs L T w):G T w:=by
 refine h w hI.bel T (zPe vs (fun j d=>hI.keep j d) (fun s b=>hI.val s b ?_) hI.size ?_)
 .have:=zW.1 c s b
  simpa using this
 have a:=hI.wf;unfold zFp at a;simp only[Bool.and_eq_true,decide_eq_true_eq]at a;exact a.1.1
end
theorem zOE{f:Option Addr}{ys:List Nat}(p:qF w f xs)(q:qF w f ys)(r:xs.length=ys.length):xs=ys:=by
 refine List.ext_getElem? fun k=>?_
 rcases zJ k xs.length with c|c
 .obtain⟨b,u,cs,s,h,i,j⟩:=p.2 (by rintro rfl;simp at c)
  obtain⟨b',v,cs',t,d,e,l⟩:=q.2 (by rintro rfl;rw[List.length_nil]at r;omega);rw[h]at d;injection d with d
  injection d with m n
  subst m n;rw[i]at e;injection e with e
  injection e with o _ _
  subst o;have g:=j k xs[k] (xga c);have a:=l k ys[k] (xga oM);rw[g]at a;injection a with a
  injection a with _ a
  rw[xga c,xga (by omega:k<ys.length)];exact congrArg some oM
 rw[List.getElem?_eq_none c,List.getElem?_eq_none oM]
theorem zR7:∃f:Value->World->Nat,∀(w:World) (a:Option Addr) (n b:Nat) (xs:List Nat),xs.length=n->qF w a xs->f (.slice a n b) w=nat xs:=by
 refine⟨fun v w=>Classical.epsilon fun k=>∃a n b,∃xs:List Nat,v= .slice a n b/\xs.length=n/\qF w a xs/\nat xs=k,fun w a n b xs h i=>?_⟩;have r:=Classical.epsilon_spec (p:=fun k=>∃c d e,∃xs:List Nat,Value.slice a n b= .slice c d e/\xs.length=d/\qF w c xs/\nat xs=k) ⟨nat xs,a,n,b,xs,rfl,h,i,rfl⟩;obtain⟨c,d,e,t,m,o,g,q⟩:=r;injection m with j l s
 rw[<-j]at g;rw[zOE i g (by rw[o,<-l,h])];exact q.symm
theorem zV0(w:World)(a:Option Addr)(n b:Nat)(xs:List Nat)(c:xs.length=n)(i:n<=b)(hc:b<=9223372036854775807)(g:zAL xs)(j:qF w a xs):
  Calls Tryz.prog 110 #[.slice a n b] w fun e w'=>∃v,e= .returned v/\v= .slice a n n/\Below w.heap.size w w':=by
 have h:=zB3 a n b xs w c i hc j;rw[<-c,zAT g,c]at h;exact h.mono fun e w' ⟨d,f⟩=>⟨_,d,rfl,f ▸ zB _ _⟩
theorem zPk{q r:Nat}(h:a=q*b+r)(c:Nat.gcd a b=g):Nat.gcd b r=g:=by
 rw[<-c,h,Nat.gcd_comm (q*b+r),zCJ,Nat.gcd_add_mul_right_right]
theorem zRD(h:zAV xs)(b:xs.length=n)(a:n<=2):nat xs<18446744073709551616:=by
 have:=zCY h;rw[b]at this;exact zI this (zF (zC0 a) dE)
theorem zPj(v1 v2:Value)(P Q:Int)(w:World)(y:yA w v1 P)(h2:yA w v2 Q)(s1:Sm P)(s2:Sm Q):
  Calls Tryz.prog 130 #[v1,v2] w (zBk w ((Int.gcd P Q:Nat):Int)):=by
 obtain⟨g6,G,z,c5,xs,rfl,T,f1,e8,D,a3,e2,a9⟩:=y.J.len s1;obtain⟨g7,H,A,c6,h,rfl,a8,f2,L,E,a4,e3,b2⟩:=h2.J.len s2;have Y:qS (Nat.gcd (nat xs) (nat h)=Int.gcd P Q):=⟨by unfold Int.gcd;rw[e2,e3,jA,jA]⟩;obtain⟨g,k⟩:∃g,Int.gcd P Q=g:=⟨_,rfl⟩;rw[k]at Y ⊢
 have b6:qS (∀W,qF W G xs->Calls Tryz.prog 110 #[.slice G z c5] W fun e w'=>∃v,e= .returned v/\v= .slice G z z/\Below W.heap.size W w'):=⟨fun W hW=>zV0 W G z c5 xs T f1 e8 a3 hW⟩;have b7:qS (∀W,qF W H h->Calls Tryz.prog 110 #[.slice H A c6] W fun e w'=>∃v,e= .returned v/\v= .slice H A A/\Below W.heap.size W w'):=⟨fun W hW=>zV0 W H A c6 h a8 f2 L a4 hW⟩;have b4:=xgv T;have b5:=xgv a8;obtain⟨a1,hf⟩:=zR7;have HF:=xgv hf;rw[zAd]at a9 b2;clear y h2 s1 s2 e2 e3 k T a8 hf;go_enter Tryz.func130,Tryz.ntmps130;go_upto_region 1 with(fail)
 refine zE ?_;intro W0 e7;obtain⟨a2,b9,c0,f,g4⟩:=zBB e7;have D:=D.ext (lx a2);have E:=E.ext (lx a2);obtain⟨c1,c2,c3,c4⟩:=b9.two;obtain⟨d1,d2,d3,d4⟩:=c0.two;refine zBK [pcD 2 [] (fun _ v=>v= .slice G z z),pcD 5 [] (fun _ v=>v= .slice H A A)] ?_;refine sRd ?_;refine sRc (fun wS hI Gk hG=>?_) (fun _ i=>?_)
 .go_simp
  refine(b6.out _ (D.ext (lx hI.bel))).mono ?_;rintro e wa ⟨v,rfl,i,a5⟩;exact⟨_,rfl,hG _ _ i,a5⟩
 obtain⟨_,-,rfl⟩:=i;refine sRd ?_;refine sRc (fun wS hI Gk hG=>?_) (fun _ i=>?_)
 .go_simp
  refine(b7.out _ (E.ext (lx hI.bel))).mono ?_;rintro e wa ⟨v,rfl,i,a5⟩;exact⟨_,rfl,hG _ _ i,a5⟩
 obtain⟨_,-,rfl⟩:=i;refine sRd ?_;refine sRe ?_;intro w1 S _ _;have l:=nx a2 S;have D:=D.ext (lx S);have E:=E.ext (lx S);have f:=f.I S;clear c1 c2 c3 c4 d1 d2 d3 d4 b6 b7 b9 c0;go_wp2;go_loopw [5,6] (fun xv yv wr=>∃(I C:Option Addr) (n m c d:Nat) (xs h:List Nat),xv= .slice I n c/\yv= .slice C m d/\qS (xs.length=n)/\qS (h.length=m)/\n<=c/\c<=9223372036854775807/\m<=d/\d<=9223372036854775807/\qF wr I xs/\qF wr C h/\zAL xs/\zAL h∧
  n<=1099511627776/\m<=1099511627776/\qS (Nat.gcd (nat xs) (nat h)=g)/\Below w.heap.size w wr/\Blk wr (w.heap.size+1+1) 51 #[.bool false,.slice none 0 0]) (fun _ yv wr=>a1 yv wr)
 case atStart=>exact⟨G,H,z,A,z,A,xs,h,rfl,rfl,b4,b5,xgf _,by omega,xgf _,by omega,D,E,a3,a4,a9,b2,Y,l,f⟩
 clear b4 b5 D E a3 a4 a9 b2 Y l f;obtain⟨I,C,n,m,c,d,xs,h,rfl,rfl,N,p,f4,hc,d8,hd,J,F,c8,R,T,f3,k,l,f⟩:=hrel;have d7:=HF.out wr C m d h p.out F;have b3:=xgv d7;clear d7;by_cases h0:m=0
 .subst h0
  have f7:h= []:=zY p.out;have f0:qS (nat xs=g):=⟨by have:=k.out;rw[f7]at this;simpa using this⟩;go_wp2_with fail
  refine(zD9 I n c xs wr N.out (by rw[zAd];omega) J).mono ?_;rintro e O ⟨co,cl,cc,rfl,M,a6,L,a7,o⟩;have X:=xgv M;clear M;go_wp2_with fail
  refine(zBG false co cl cc xs O X.out a6 L a7).mono ?_;rintro e w3 ⟨v,rfl,i,K⟩;obtain⟨x,r,u,s,rfl⟩:∃x r u s,v= .agg #[.bool x,.slice r u s]:=by
   obtain⟨x,r,u,s,vx,rfl,-⟩:=id i;exact⟨x,r,u,s,rfl⟩
  have Z:=xgv i;have f:=(f.I o).I K;obtain⟨r1,r2,r3,r4⟩:=f.two;clear i;go_wp2;refine yS rfl rfl rfl (f.put2 _ _) ?_ (yM (yM (nx (nx l o) K) oM 0 _) oM 1 _);rw[<-f0.out,<-sgn_false];exact Z.out.ext (f.lext2 dE _ _)
 have V:qS (0<nat h):=⟨by
  rcases qY (nat h)with c7|c7
  .exfalso
   have y:=p.out;cases hk:m with
   |zero=>omega
   |succ f8=>
    have:=zGM R (y.trans hk);have h2:0<B32^f8:=jH dE;omega
  exact c7⟩
 by_cases U:n<=2/\m<=2
 .go_wp2_with fail
  refine(zHl I n c xs wr N.out U.1 J).mono ?_;rintro e w' ⟨rfl,rfl⟩;go_wp2_with fail
  refine(zHl C m d h wr p.out U.2 F).mono ?_;rintro e w' ⟨rfl,rfl⟩;have e0:nat xs<18446744073709551616:=zRD J.1 N.out U.1;have e1:nat h<18446744073709551616:=zRD F.1 p.out U.2;obtain⟨a0,c9⟩:∃a0,nat xs=a0:=⟨_,rfl⟩;obtain⟨b0,d0⟩:∃b0,nat h=b0:=⟨_,rfl⟩;rw[c9]at k e0 ⊢
  rw[d0]at k e1 ⊢
  clear c9 d0 b3 V J F c8 R N p;go_wp2;go_loopw [9,10] (fun uv vv wt=>∃a b:Nat,uv= .int .u64 a/\vv= .int .u64 b/\a<18446744073709551616/\b<18446744073709551616/\qS (Nat.gcd a b=g)/\Below w.heap.size w wt/\Blk wt (w.heap.size+1+1) 51 #[.bool false,.slice none 0 0]) (fun _ vv _=>(intOf vv).toNat)
  case atStart=>exact⟨a0,b0,rfl,rfl,e0,e1,k,l,f⟩
  clear k l f;obtain⟨a,b,rfl,rfl,ha,hb,k,l,f⟩:=hrel;by_cases h0:b=0
  .subst h0
   have e9:qS (a=g):=⟨by have:=k.out;rwa[Nat.gcd_zero_right]at this⟩;go_wp2_with fail
   refine(zE2 a _ ha).mono ?_;rintro e O ⟨co,cl,cc,cs,rfl,M,a6,L,a7,d5,o⟩;have X:=xgv M;have e5:=xgv d5;clear M d5;go_wp2_with fail
   refine(zBG false co cl cc cs O X.out a6 L a7).mono ?_;rintro e w3 ⟨v,rfl,i,K⟩;obtain⟨x,r,u,s,rfl⟩:∃x r u s,v= .agg #[.bool x,.slice r u s]:=by
    obtain⟨x,r,u,s,vx,rfl,-⟩:=id i;exact⟨x,r,u,s,rfl⟩
   have Z:=xgv i;have f:=(f.I o).I K;obtain⟨r1,r2,r3,r4⟩:=f.two;clear i;go_wp2;refine yS rfl rfl rfl (f.put2 _ _) ?_ (yM (yM (nx (nx l o) K) oM 0 _) oM 1 _);rw[<-e9.out,<-e5.out,<-sgn_false];exact Z.out.ext (f.lext2 dE _ _)
  have f9:(0:Int)<(b:Int):=by omega
  have g3:(a:Int).tmod (b:Int)=((a%b:Nat):Int):=(Int.ofNat_tmod a b).symm;have g1:=yE a (by omega:0<b);go_wp2;go_quiet (fail);go_roundw
  case rel=>
   refine⟨_,_,_,_,_,_,_,_,⟨b,a%b,?_,?_,hb,by omega,⟨zPk (Nat.div_add_mod' a b).symm k.out⟩,nx l (drN _ _),f.I (drN _ _)⟩,rfl⟩;rfl;rfl
  case measure=>simp[intOf];omega
 have g2:2<max (n:Int) (m:Int):=by omega
 have V:=V.out;go_wp2_with fail
 refine(zGm I C n c m d xs h wr N.out p.out f4 d8 hc hd (by rw[zAd];omega) (by rw[zAd];omega) J F c8 R V).mono ?_;rintro e O ⟨qo,ql,qc,qs,ro,B,rc,j,rfl,-,-,-,-,p5,p6,p7,p8,p9,e4,o⟩;have P9:=xgv p9;have b8:=xgv e4;have d9:=zB3 ro B rc j O p5 p6 p7 p8;have f5:=zDR j B;have q:qS (nat (j.take (zAU j B))=nat j/\(j.take (zAU j B)).length=zAU j B/\zAL (j.take (zAU j B))):=⟨by
  have y:=zCl j;unfold zDU at y;rw[p5]at y;exact⟨y,by rw[qM];omega,zCX j B oM⟩⟩
 obtain⟨t,HT⟩:∃t,zAU j B=t:=⟨_,rfl⟩;rw[HT]at d9 f5 q;have f6:=F.ext (lx o);have ht:=p8.take t;have g5:t<=m:=by
  have:=zCV F.1 q.out.2.2 (by rw[q.out.1];exact zAc b8.out);rw[q.out.2.1,p.out]at this;exact this
 clear HT p5 p9 e4 J;go_wp2_with fail
 refine d9.mono ?_;rintro e w' ⟨rfl,rfl⟩;have f:=f.I o;have d6:=HF.out _ ro t t _ q.out.2.1 ht;have e6:=xgv d6;clear d6;go_wp2;go_roundw
 case rel=>exact⟨C,ro,m,t,d,t,h,j.take t,rfl,rfl,p,⟨q.out.2.1⟩,d8,hd,xgf _,by omega,f6,ht,R,q.out.2.2,f3,by omega,⟨by rw[q.out.1];exact zPk P9.out k.out⟩,nx l o,f⟩
 show a1 _ _<a1 _ _;rw[e6.out,b3.out,q.out.1];exact b8.out
def zAw:Nat->(Nat->Rat)->Rat
 |0,_=>0
 |n+1,f=>zAw n f+f n
theorem qD{f g:Nat->Rat}(h:∀i,i<n->f i=g i):zAw n f=zAw n g:=by
 induction n with
 |zero=>rfl
 |succ n a=>show _+_=_+_;rw[a fun i b=>h i oM,h n oM]
theorem zC5{f:Nat->Rat}(h:∀i,i<n->f i=0):zAw n f=0:=by
 induction n with
 |zero=>rfl
 |succ n a=>show _+_=_;rw[a fun i b=>h i oM,h n oM];exact Rat.add_zero 0
theorem zDa{k:Nat}{f:Nat->Rat}(d:k<n)(h:∀i,i<n->i≠k->f i=0):zAw n f=f k:=by
 induction n with
 |zero=>omega
 |succ n c=>
  show _+_=_;by_cases e:k=n
  .subst e;rw[zC5 fun i b=>h i oM oM];grind
  rw[c oM fun i b a=>h i oM a,h n oM oM];grind
theorem zEn(a b:Rat)(f g:Nat->Rat):zAw n (fun i=>a*f i+b*g i)=a*zAw n f+b*zAw n g:=by
 induction n with
 |zero=>show(0:Rat)=a*0+b*0;grind
 |succ n c=>show _+_=a*(_+_)+b*(_+_);rw[c];grind
theorem zHj(f:Nat->Rat):zAw (n+m) f=zAw n f+zAw m (fun i=>f (n+i)):=by
 induction m with
 |zero=>show _=_+(0:Rat);grind
 |succ m a=>show zAw (n+m) f+f (n+m)=_+(_+_);rw[a];grind
theorem zEN(f:Nat->Nat->Rat):zAw n (fun i=>zAw m (f i))=zAw m (fun j=>zAw n fun i=>f i j):=by
 induction n with
 |zero=>exact(zC5 fun i b=>rfl).symm
 |succ n d=>
  show _+_=_;rw[d];have:=zEn (n:=m) 1 1 (fun j=>zAw n fun i=>f i j) (f n);have a:(zAw m fun j=>zAw (n+1) fun i=>f i j)=zAw m fun i=>1*(zAw n fun c=>f c i)+1*f n i:=qD fun i b=>by show _+_=_;grind
  rw[a,this];grind
theorem zA4(a:Rat)(f:Nat->Rat):zAw n (fun i=>a*f i)=a*zAw n f:=by
 have:=zEn (n:=n) a 0 f f;rw[<-qD (f:=fun i=>a*f i+0*f i) fun i b=>by grind,this];grind
structure BE where
 E:Nat->Nat->Int
 last:Int
 odd:Bool
 pv:List Nat
def zBO(P:Nat->Bool):Nat->Nat->Nat
 |i,0=>i
 |i,f+1=>if P i=true then i else zBO P (i+1) f
theorem zDN(P:Nat->Bool)(i f:Nat):i<=zBO P i f/\zBO P i f<=i+f:=by
 induction f generalizing i with
 |zero=>exact⟨xgf _,xgf _⟩
 |succ f a=>
  unfold zBO;split;omega;have:=a (i+1);omega
theorem zDM(P:Nat->Bool)(i f:Nat)(h:zBO P i f<i+f):P (zBO P i f)=true:=by
 induction f generalizing i with
 |zero=>unfold zBO at h;omega
 |succ f b=>
  unfold zBO at h ⊢
  split;assumption;rename_i a;rw[zA a]at h;exact b (i+1) oM
theorem zEb(P:Nat->Bool)(i f j:Nat)(d:i<=j)(a:j<zBO P i f):P j=false:=by
 induction f generalizing i with
 |zero=>unfold zBO at a;omega
 |succ f c=>
  unfold zBO at a;split at a;omega;rename_i b;by_cases e:j=i
  .subst e;simpa using b
  exact c (i+1) oM a
theorem zDp{P:Nat->Bool}{f k:Nat}(a:i<=k)(e:k<i+f)(b:P k=true)(c:∀j,i<=j->j<k->P j=false):zBO P i f=k:=by
 have d:=zDN P i f;rcases zBg (zBO P i f) k with h|h|h
 .have:=zDM P i f oM
  rw[c _ d.1 h]at this;cases this
 exact h;have:=zEb P i f k a h;rw[b]at this;cases this
def bx(E:Nat->Nat->Int)(i k:Nat):Nat->Nat->Int:=fun a=>if a=i then E k else if a=k then E i else E a
def zBT(E:Nat->Nat->Int)(k c:Nat)(q:Int):Nat->Nat->Int:=fun i j=>if i=k then E i j else(E k c*E i j-E i c*E k j)/q
def zIe(n c:Nat)(s:BE):Nat:=zBO (fun i=>decide (s.E i c≠0)) s.pv.length (n-s.pv.length)
def zKU(n c:Nat)(s:BE):BE:=
 if s.pv.length<n/\zIe n c s<n then⟨zBT (bx s.E (zIe n c s) s.pv.length) s.pv.length c s.last,bx s.E (zIe n c s) s.pv.length s.pv.length c,s.odd^^decide (zIe n c s≠s.pv.length),s.pv++ [c]⟩else s
def zDH(n:Nat)(E:Nat->Nat->Int):Nat->BE
 |0=>⟨E,1,false,[]⟩
 |c+1=>zKU n c (zDH n E c)
def Sol(n m:Nat)(E:Nat->Nat->Int)(y:Nat->Rat):Prop:=∀i,i<n->zAw m (fun j=>(E i j:Rat)*y j)=0
theorem Sol.bx{k:Nat}{E:Nat->Nat->Int}{y:Nat->Rat}(l:i<n)(o:k<n):Sol n m (bx E i k) y↔Sol n m E y:=by
 have e:∀E:Nat->Nat->Int,Sol n m E y->Sol n m (Go.Proofs.YtniiekppgdkknaaGreat.bx E i k) y:=fun E h a j=>by
  unfold Go.Proofs.YtniiekppgdkknaaGreat.bx;by_cases b:a=i
  .rw[zC b];exact h k o
  rw[zA b];by_cases c:a=k
  .rw[zC c];exact h i l
  rw[zA c];exact h a j
 refine⟨fun h=>?_,e E⟩;have f:=e _ h;have g:Go.Proofs.YtniiekppgdkknaaGreat.bx (Go.Proofs.YtniiekppgdkknaaGreat.bx E i k) i k=E:=by
  funext a
  unfold Go.Proofs.YtniiekppgdkknaaGreat.bx;by_cases b:a=i
  .subst b
   rw[zC rfl];by_cases d:k=a
   .rw[zC d,d]
   rw[zA d,zC rfl]
  rw[zA b];by_cases c:a=k
  .subst c;rw[zC rfl,zC rfl]
  rw[zA c,zA b,zA c]
 rwa[g]at f
def ExS(n m:Nat)(E:Nat->Nat->Int)(k c:Nat)(q:Int):Prop:=∀i,i<n->i≠k->∀j,j<m->q∣E k c*E i j-E i c*E k j
theorem zPK{k:Nat}{E:Nat->Nat->Int}{q:Int}(e:ExS n m E k c q){j:Nat}(b:i<n)(a:i≠k)(d:j<m):q*zBT E k c q i j=E k c*E i j-E i c*E k j:=by
 unfold zBT;rw[zA a];exact Int.mul_ediv_cancel' (e i b a j d)
theorem zUn{q p:Int}{f g h:Nat->Int}{y:Nat->Rat}(b:∀j,j<m->q*f j=p*g j-z*h j):(q:Rat)*zAw m (fun j=>(f j:Rat)*y j)=p*zAw m (fun j=>(g j:Rat)*y j)+(-z)*zAw m (fun j=>(h j:Rat)*y j):=by
 rw[<-zA4,<-zEn];refine qD fun j c=>?_
 have a:((q*f j:Int):Rat)=((p*g j-z*h j:Int):Rat):=by rw[b j c]
 rw[Rat.intCast_mul,Rat.intCast_sub,Rat.intCast_mul,Rat.intCast_mul]at a;grind
theorem Sol.step{k:Nat}{E:Nat->Nat->Int}{q:Int}{y:Nat->Rat}(f:k<n)(t:ExS n m E k c q)(s:q≠0)(r:E k c≠0):Sol n m (zBT E k c q) y↔Sol n m E y:=by
 have v:(q:Rat)≠0:=fun e=>s (Rat.intCast_eq_zero_iff.1 e)
 have u:(E k c:Rat)≠0:=fun e=>r (Rat.intCast_eq_zero_iff.1 e)
 have l:∀i,i<n->i≠k->(q:Rat)*zAw m (fun j=>(zBT E k c q i j:Rat)*y j)=E k c*zAw m (fun j=>(E i j:Rat)*y j)+(-(E i c:Rat))*zAw m (fun j=>(E k j:Rat)*y j):=fun i a o=>zUn fun j p=>zPK t a o p
 have g:zBT E k c q k=E k:=by funext j;unfold zBT;rw[zC rfl]
 constructor
 .intro h
  have d:zAw m (fun j=>(E k j:Rat)*y j)=0:=by have:=h k f;rwa[g]at this
  intro i a;by_cases e:i=k
  .subst e;exact d
  have b:=l i a e;rw[h i a,d]at b;grind
 intro h i a;by_cases e:i=k
 .subst e;rw[g];exact h i a
 have b:=l i a e;rw[h i a,h k f]at b;grind
def ExR(n m cols:Nat)(E:Nat->Nat->Int):Prop:=∀c,c<cols->(zDH n E c).pv.length<n->zIe n c (zDH n E c)<n->
 ExS n m (bx (zDH n E c).E (zIe n c (zDH n E c)) (zDH n E c).pv.length) (zDH n E c).pv.length c (zDH n E c).last
structure zO6(n m c:Nat)(L:Nat->Nat->Int)(s:BE):Prop where
 len:s.pv.length<=n
 lc:s.pv.length<=c
 lt:∀(k t:Nat),s.pv[k]?=some t->t<c
 q:s.last≠0
 sol:∀y,Sol n m s.E y↔Sol n m L y
 low:∀i,s.pv.length<=i->i<n->∀j,j<c->s.E i j=0
 piv:∀(k t:Nat),s.pv[k]?=some t->s.E k t≠0/\∀i,i<n->i≠k->s.E i t=0
theorem zO6.run{n m z:Nat}{L:Nat->Nat->Int}(S:ExR n m z L)(X:z<=m):∀c,c<=z->zO6 n m c L (zDH n L c)
 |0,_=>⟨zG _,zG _,fun k t h=>by simp[zDH]at h,fun h=>absurd (show(1:Int)=0 from h) dE,fun y=>zCS,fun i _ _ j f=>by omega,fun k t h=>by simp[zDH]at h⟩
 | c +1,hc=>by
  obtain⟨K,U,g,M,N,l,A⟩:=zO6.run S X c oM;have Q:=S c oM;show zO6 n m (c+1) L (zKU n c (zDH n L c));generalize zDH n L c=s at*;obtain⟨p,R⟩:∃p,zIe n c s=p:=⟨_,rfl⟩;have hF:=R;unfold zIe at hF;have J:=zDN (fun i=>decide (s.E i c≠0)) s.pv.length (n-s.pv.length);rw[hF]at J;unfold zKU;rw[R]at Q ⊢
  by_cases E:s.pv.length<n/\p<n
  .rw[zC E]
   obtain⟨d,F⟩:=E;have Z:s.E p c≠0:=by
    have:=zDM (fun i=>decide (s.E i c≠0)) s.pv.length (n-s.pv.length) oM;rw[hF]at this;simpa using this
   have u:=Q d F;obtain⟨k,r⟩:∃k,s.pv.length=k:=⟨_,rfl⟩;rw[r]at K U l u d J ⊢
   have W:bx s.E p k k=s.E p:=by
    unfold bx;by_cases e:k=p
    .rw[zC e,e]
    rw[zA e,zC rfl]
   have D:∀i,k<=i->i<n->∀j,j<c->bx s.E p k i j=0:=fun i b q j f=>by
    unfold bx;by_cases H:i=p
    .rw[zC H];exact l k (xgf _) d j f
    rw[zA H];by_cases I:i=k
    .rw[zC I];exact l p oM F j f
    rw[zA I];exact l i b q j f
   have P:∀i,i<k->bx s.E p k i=s.E i:=fun i b=>by
    unfold bx;rw[zA oM,zA oM]
   have w:bx s.E p k k c≠0:=by rw[W];exact Z
   have Y:∀(a t:Nat),s.pv[a]?=some t->∀i,i<n->i≠a->bx s.E p k i t=0:=fun a t h i b o=>by
    have v:a<k:=by rw[<-r];exact(xge.1 h).1
    rcases zJ i k with hik2|hik2
    rw[P i hik2];exact(A a t h).2 i b o;exact D i hik2 b t (g a t h)
   refine⟨by simp;omega,by simp;omega,fun a t h=>?_,by exact w,fun y=>((Sol.step d u M w).trans (Sol.bx F d)).trans (N y),fun i b q j f=>?_,fun a t h=>?_⟩
   .dsimp only at h
    rw[List.getElem?_append]at h;split at h;have:=g a t h;omega;obtain⟨B,C⟩:=xge.1 h;simp at B C;omega
   .simp at b
    rw[r]at b;show zBT _ _ _ _ i j=0;unfold zBT;rw[zA oM];by_cases e:j=c
    .subst e
     rw[yN,Int.sub_self,Int.zero_ediv]
    rw[D i oM q j oM,D k (xgf _) d j oM,zZ,zZ,Int.sub_self,Int.zero_ediv]
   dsimp only at h ⊢
   rw[List.getElem?_append]at h;split at h
   .rename_i v
    rw[r]at v;have x:=Y a t h;refine⟨?_,fun i b o=>?_⟩
    .have a0:=u a oM oM t (zI (g a t h) oM)
     have G:=zPK u (i:=a) (j:=t) oM oM (zI (g a t h) oM);rw[x k d oM,zZ,Int.sub_zero]at G;intro T;rw[T,zZ]at G;have O:=(A a t h).1;rw[<-P a oM]at O;exact(Int.mul_ne_zero w O) G.symm
    unfold zBT;by_cases e:i=k
    .rw[zC e,e];exact x k d oM
    rw[zA e,x i b o,x k d oM,zZ,zZ,Int.sub_self,Int.zero_ediv]
   rename_i v;rw[r]at v h;have V:a=k/\t=c:=by
    obtain⟨B,C⟩:=xge.1 h;simp at B C;omega
   obtain⟨rfl,rfl⟩:=V;refine⟨?_,fun i b o=>?_⟩
   .unfold zBT
    rw[zC rfl];exact w
   unfold zBT;rw[zA o,yN,Int.sub_self,Int.zero_ediv]
  rw[zA E];refine⟨K,by omega,fun k t h=>by have:=g k t h;omega,M,N,fun i b q j f=>?_,A⟩;by_cases e:j=c
  .subst e
   have:=zEb (fun i=>decide (s.E i j≠0)) s.pv.length (n-s.pv.length) i b (by rw[hF];omega);simpa using this
  exact l i b q j oM
theorem Blk.all9(h:Blk w g t #[c0,c1,c2,c3,c4,c5,c6,c7,c8]):
  (w.cell? ⟨g,0,none⟩=some c0/\w.cell? ⟨g,1,none⟩=some c1/\w.cell? ⟨g,2,none⟩=some c2/\w.cell? ⟨g,3,none⟩=some c3/\w.cell? ⟨g,4,none⟩=some c4/\w.cell? ⟨g,5,none⟩=some c5/\w.cell? ⟨g,6,none⟩=some c6/\w.cell? ⟨g,7,none⟩=some c7/\w.cell? ⟨g,8,none⟩=some c8)/\(w.frozen? ⟨g,0,none⟩=false/\w.frozen? ⟨g,1,none⟩=false/\w.frozen? ⟨g,2,none⟩=false/\w.frozen? ⟨g,3,none⟩=false/\w.frozen? ⟨g,4,none⟩=false/\w.frozen? ⟨g,5,none⟩=false/\w.frozen? ⟨g,6,none⟩=false/\w.frozen? ⟨g,7,none⟩=false/\w.frozen? ⟨g,8,none⟩=false):=
 ⟨⟨h.cell 0,h.cell 1,h.cell 2,h.cell 3,h.cell 4,h.cell 5,h.cell 6,h.cell 7,h.cell 8⟩,⟨h.frozen 0,h.frozen 1,h.frozen 2,h.frozen 3,h.frozen 4,h.frozen 5,h.frozen 6,h.frozen 7,h.frozen 8⟩⟩
theorem Blk.put9(h:Blk w g t #[c0,c1,c2,c3,c4,c5,c6,c7,c8])(x0 a b c d e f i j:Value):Blk (((((((((w.setCell ⟨g,0,none⟩ x0).setCell ⟨g,1,none⟩ a).setCell ⟨g,2,none⟩ b).setCell ⟨g,3,none⟩ c).setCell ⟨g,4,none⟩ d).setCell ⟨g,5,none⟩ e).setCell ⟨g,6,none⟩ f).setCell ⟨g,7,none⟩ i).setCell ⟨g,8,none⟩ j) g t #[x0,a,b,c,d,e,f,i,j]:=by
 simpa using(((((((((h.set_ 0 x0).set_ 1 a).set_ 2 b).set_ 3 c).set_ 4 d).set_ 5 e).set_ 6 f).set_ 7 i).set_ 8 j)
theorem Blk.lext9(h:Blk w g t cs)(a:t≠tU)(x0 b c d e f i j k:Value):zBC w (((((((((w.setCell ⟨g,0,none⟩ x0).setCell ⟨g,1,none⟩ b).setCell ⟨g,2,none⟩ c).setCell ⟨g,3,none⟩ d).setCell ⟨g,4,none⟩ e).setCell ⟨g,5,none⟩ f).setCell ⟨g,6,none⟩ i).setCell ⟨g,7,none⟩ j).setCell ⟨g,8,none⟩ k):=
 (((((((((h.lext a 0 x0).trans ((h.set_ 0 x0).lext a 1 b)).trans (((h.set_ 0 x0).set_ 1 b).lext a 2 c)).trans ((((h.set_ 0 x0).set_ 1 b).set_ 2 c).lext a 3 d)).trans (((((h.set_ 0 x0).set_ 1 b).set_ 2 c).set_ 3 d).lext a 4 e)).trans ((((((h.set_ 0 x0).set_ 1 b).set_ 2 c).set_ 3 d).set_ 4 e).lext a 5 f)).trans (((((((h.set_ 0 x0).set_ 1 b).set_ 2 c).set_ 3 d).set_ 4 e).set_ 5 f).lext a 6 i)).trans ((((((((h.set_ 0 x0).set_ 1 b).set_ 2 c).set_ 3 d).set_ 4 e).set_ 5 f).set_ 6 i).lext a 7 j)).trans (((((((((h.set_ 0 x0).set_ 1 b).set_ 2 c).set_ 3 d).set_ 4 e).set_ 5 f).set_ 6 i).set_ 7 j).lext a 8 k))
theorem zSk(w:World)(g k:Nat)(x0 b c d e f h i j:Value)(a:k≠g):((((((((((w.setCell ⟨g,0,none⟩ x0).setCell ⟨g,1,none⟩ b).setCell ⟨g,2,none⟩ c).setCell ⟨g,3,none⟩ d).setCell ⟨g,4,none⟩ e).setCell ⟨g,5,none⟩ f).setCell ⟨g,6,none⟩ h).setCell ⟨g,7,none⟩ i).setCell ⟨g,8,none⟩ j)).heap[k]?=w.heap[k]?:=
 ((yO _ g 8 k j a).trans ((yO _ g 7 k i a).trans ((yO _ g 6 k h a).trans ((yO _ g 5 k f a).trans ((yO _ g 4 k e a).trans ((yO _ g 3 k d a).trans ((yO _ g 2 k c a).trans ((yO _ g 1 k b a).trans (yO _ g 0 k x0 a)))))))))
theorem zVM{B:Nat}{a:World}(h:Below B a w)(b:B<=g)(x0 c d e f i j k l:Value):Below B a (((((((((w.setCell ⟨g,0,none⟩ x0).setCell ⟨g,1,none⟩ c).setCell ⟨g,2,none⟩ d).setCell ⟨g,3,none⟩ e).setCell ⟨g,4,none⟩ f).setCell ⟨g,5,none⟩ i).setCell ⟨g,6,none⟩ j).setCell ⟨g,7,none⟩ k).setCell ⟨g,8,none⟩ l):=
 (yM (yM (yM (yM (yM (yM (yM (yM (yM h b 0 x0) b 1 c) b 2 d) b 3 e) b 4 f) b 5 i) b 6 j) b 7 k) b 8 l)
structure Cpy where
 k:Nat
 s:Nat
 d:Nat
 t:Nat
def Cpy.fine(vs:List VS)(c:Cpy):Bool:=vs.any (fun a=>a.op==c.k && a.slot==c.s) && vs.any (fun a=>a.op==c.d && a.slot==c.t) && !(c.k==c.d)
theorem zPC{vs:List VS}{k:Nat}(h:vs.any (fun a=>a.op==k && a.slot==s)=true):∃P,(⟨k,s,P⟩:VS)∈vs:=by
 obtain⟨a,b,e⟩:=zAN.1 h;simp only[Bool.and_eq_true,beq_iff_eq]at e;obtain⟨rfl,rfl⟩:=e;exact⟨a.P,b⟩
theorem Cpy.fine_all{vs:List VS}{a:List Cpy}(h:a.all (Cpy.fine vs)=true){c:Cpy}(hc:c∈a):(∃P,(⟨c.k,c.s,P⟩:VS)∈vs)/\(∃P,(⟨c.d,c.t,P⟩:VS)∈vs)/\c.k≠c.d:=by
 have:=zW.1 h c hc;unfold Cpy.fine at this;simp only[Bool.and_eq_true]at this;exact⟨zPC this.1.1,zPC this.1.2,by have:=this.2;simpa using this⟩
structure RVP(ka sa kb sb:Nat)(Q:Value->Value->Prop)(cp:List Cpy)(W:World)(T0:Array Value)(vs:List VS)(L:Array Bool)(T:Array Value)(w:World):Prop where
 rv:RV W T0 vs L T w
 ma:∃P,(⟨ka,sa,P⟩:VS)∈vs
 mb:∃P,(⟨kb,sb,P⟩:VS)∈vs
 ne:ka≠kb
 mc:cp.all (Cpy.fine vs)=true
 pair:L[ka]?=some true->L[kb]?=some true->∃u v,T[sa]?=some u/\T[sb]?=some v/\Q u v
 cpy:∀c∈cp,L[c.k]?=some true->L[c.d]?=some true/\T[c.s]?=T[c.t]?
section
variable {ka sa kb sb:Nat} {Q:Value->Value->Prop} {cp:List Cpy} {W:World} {T0:Array Value} {vs:List VS} {L:Array Bool} {T:Array Value} {w w':World}
theorem RVP.start(b:zFp T0.size vs=true)(hv:∀s∈vs,zAA s.P)(c:∃P,(⟨ka,sa,P⟩:VS)∈vs)(d:∃P,(⟨kb,sb,P⟩:VS)∈vs)(f:ka≠kb)(e:cp.all (Cpy.fine vs)=true):RVP ka sa kb sb Q cp W T0 vs (Array.replicate n false) T0 W.drew:=
 have a:∀k,¬ (Array.replicate n false)[k]?=some true:=fun k h=>by
  rw[Array.getElem?_replicate]at h;split at h<;>simp at h
 ⟨RV.start b hv,c,d,f,e,fun h _=>absurd h (a _),fun _ _ h=>absurd h (a _)⟩
theorem RVP.world(h:RVP ka sa kb sb Q cp W T0 vs L T w)(a:BWq w w'):RVP ka sa kb sb Q cp W T0 vs L T w':=⟨h.rv.world a,h.ma,h.mb,h.ne,h.mc,h.pair,h.cpy⟩
theorem RVP.cell(h:RVP ka sa kb sb Q cp W T0 vs L T w){v:Value}(hc:W.cell? ⟨b,o,none⟩=some v):w.cell? ⟨b,o,none⟩=some v:=h.rv.cell hc
theorem RVP.bel(h:RVP ka sa kb sb Q cp W T0 vs L T w):BWq W w:=h.rv.bel
theorem RVP.size(h:RVP ka sa kb sb Q cp W T0 vs L T w):T.size=T0.size:=h.rv.size
theorem RVP.keep(h:RVP ka sa kb sb Q cp W T0 vs L T w):∀j,(∀s∈vs,s.slot≠j)->T[j]?=T0[j]?:=h.rv.keep
theorem RVP.val(h:RVP ka sa kb sb Q cp W T0 vs L T w):∀s∈vs,L[s.op]?=some true->∃v,T[s.slot]?=some v/\s.P w v:=h.rv.val
theorem RVP.value{k:Nat}{v:Value}(h:RVP ka sa kb sb Q cp W T0 vs L T w)(s:VS)(b:s∈vs)(G:s.op=k)(U:s.P w v)
  (J:∀u,(k=ka->T[sb]?=some u->L[kb]?=some true->Q v u)/\(k=kb->T[sa]?=some u->L[ka]?=some true->Q u v):=by intro u;exact⟨fun e=>absurd e dE,fun e=>absurd e dE⟩)
  (S:L[k]?=some false:=by assumption) (hc:cp.all (fun c=>!(c.k==k))=true∨∀c∈cp,c.k=k->L[c.d]?=some true/\T[c.t]?=some v:=by first|exact .inl rfl|exact .inl dE):
  RVP ka sa kb sb Q cp W T0 vs (L.setIfInBounds k true) (T.setIfInBounds s.slot v) w:=by
 have X:=h.rv.value s b G U;subst G;obtain⟨N,q⟩:=h.ma;obtain⟨O,r⟩:=h.mb;have B:=h.rv.wf;unfold zFp at B;simp only[Bool.and_eq_true,decide_eq_true_eq,List.all_eq_true]at B;obtain⟨⟨g,D⟩,Y⟩:=B;have A:s.slot<T.size:=by rw[h.rv.size];exact Y _ (List.mem_map.2 ⟨s,b,rfl⟩)
 have F:sb≠sa:=fun e=>h.ne (congrArg VS.op (qV g q r e.symm))
 have H:∀{j:Nat},L[j]?=some true->j≠s.op:=fun l e=>by rw[e,S]at l;cases l
 have K:∀{j:Nat},L[j]?=some true->(L.setIfInBounds s.op true)[j]?=some true:=fun {j} l=>by rw[xgc (zL (H l))];exact l
 refine⟨X,h.ma,h.mb,h.ne,h.mc,fun t E=>?_,fun c p t=>?_⟩
 .by_cases a:s.op=ka
  .have es:s=⟨ka,sa,N⟩:=qV D b q a
   have d:s.slot=sa:=by rw[es]
   have I:L[kb]?=some true:=qR E (by rw[a];exact h.ne);obtain⟨u,m,-⟩:=h.rv.val _ r I;exact⟨v,u,by rw[d,Array.getElem?_setIfInBounds_self_of_lt (by rw[<-d];exact A)],by rw[d,xgc (zL F)];exact m,(J u).1 a m I⟩
  have z:L[ka]?=some true:=qR t a;obtain⟨u,m,-⟩:=h.rv.val _ q z;by_cases o:s.op=kb
  .have es:s=⟨kb,sb,O⟩:=qV D b r o
   have d:s.slot=sb:=by rw[es]
   exact⟨u,v,by rw[d,xgc F];exact m,by rw[d,Array.getElem?_setIfInBounds_self_of_lt (by rw[<-d];exact A)],(J u).2 o m z⟩
  obtain⟨x,y,f,i,R⟩:=h.pair z (qR E o);have C:s.slot≠sa:=fun e=>a (congrArg VS.op (qV g b q e))
  have n:s.slot≠sb:=fun e=>o (congrArg VS.op (qV g b r e))
  exact⟨x,y,by rw[xgc C];exact f,by rw[xgc n];exact i,R⟩
 obtain⟨⟨P,mk⟩,⟨Z,M⟩,V⟩:=Cpy.fine_all h.mc p;by_cases a:c.k=s.op
 .rcases hc with hc|hc
  .have:=zW.1 hc c p
   simp[a]at this
  obtain⟨f,i⟩:=hc c p a;have es:s=⟨c.k,c.s,P⟩:=qV D b mk a.symm;have d:s.slot=c.s:=by rw[es]
  have n:s.slot≠c.t:=fun e=>V (by rw[a];exact congrArg VS.op (qV g b M e))
  exact⟨K f,by rw[<-d,Array.getElem?_setIfInBounds_self_of_lt A,xgc n,i]⟩
 obtain⟨f,i⟩:=h.cpy c p (qR t (zL a));have C:s.slot≠c.s:=fun e=>a (congrArg VS.op (qV g b mk e)).symm
 have n:s.slot≠c.t:=fun e=>H f (congrArg VS.op (qV g b M e)).symm
 exact⟨K f,by rw[xgc C,xgc n];exact i⟩
theorem RVP.v{s:VS}(h:RVP ka sa kb sb Q cp W T0 vs L T w)(b:s∈vs)(a:L[s.op]?=some true):∃v,T[s.slot]?=some v/\s.P w v:=h.val s b a
theorem RVP.y{k:Nat}{v:Value}(h:RVP ka sa kb sb Q cp W T0 vs L T w){s:VS}(g:s∈vs)(b:s.P w v)
  (f:∀u,(k=ka->T[sb]?=some u->L[kb]?=some true->Q v u)/\(k=kb->T[sa]?=some u->L[ka]?=some true->Q u v):=by intro u;exact⟨fun e=>absurd e dE,fun e=>absurd e dE⟩)
  (a:L[k]?=some false:=by assumption) (hc:cp.all (fun c=>!(c.k==k))=true∨∀c∈cp,c.k=k->L[c.d]?=some true/\T[c.t]?=some v:=by first|exact .inl rfl|exact .inl dE) (d:s.op=k:=by rfl):
  RVP ka sa kb sb Q cp W T0 vs (L.setIfInBounds k true) (T.setIfInBounds s.slot v) w:=h.value s g d b f a hc
end
theorem zPI{a:TypeId}(h:Blk w b t cs)(c:Blk w b' a cs')(d:a≠t):b'≠b:=by
 rintro rfl;have e:=congrArg (fun o:Option Obj=>match o with|some (Obj.cells _ t _)=>t|_=>0) (c.symm.trans h);exact d e
theorem yY.wrT(h:yY w b' zs)(c:Blk w b t cs)(f:tI≠t)(g:t≠tU):yY (wr w b t cs') b' zs:=by
 obtain⟨d,a,e⟩:=h;exact yY.old ⟨d,a,e⟩ (zG7 (zPI c a f)) (zRG c g)
theorem zAR.wrT{v:Value}(h:zAR w v zs)(d:Blk w b t cs)(f:tI≠t)(g:t≠tU):zAR (wr w b t cs') v zs:=by
 obtain⟨a,n,c,i,j,k,l,m⟩:=h;exact⟨a,n,c,i,j,k,l,fun e=>(m e).elim fun b' h=>⟨b',h.1,h.2.wrT d f g⟩⟩
theorem zAo.wrG{v:Value}(h:zAo w v R C M)(p:Blk w b t cs)(r:∀(b':Nat) (zs:List Int),zs∈M->yY w b' zs->yY (wr w b t cs') b' zs)(s:31≠t):zAo (wr w b t cs') v R C M:=by
 obtain⟨A,o,d,n,f,E,F,G,H,I⟩:=h;refine⟨A,o,d,n,f,E,F,G,H,fun q=>?_⟩;obtain⟨b',i,j,a,l⟩:=I q;refine⟨b',i,j,(zG7 (zPI p a s)).trans a,fun k zs c=>?_⟩;obtain⟨K,m,e,J,g,x,y,z,B,D⟩:=l k zs c;exact⟨K,m,e,J,g,x,y,z,B,fun u=>(D u).elim fun b' h=>⟨b',h.1,r _ _ (xgd c) h.2⟩⟩
theorem zAo.wrT{v:Value}(h:zAo w v R C M)(a:Blk w b t cs)(c:tI≠t)(d:31≠t)(e:t≠tU):zAo (wr w b t cs') v R C M:=h.wrG a (fun _ _ _ h=>h.wrT a c e) d
end Go.Proofs.YtniiekppgdkknaaGreat
