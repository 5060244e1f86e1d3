/- smith.Invariants and smith.Form of small matrices, with what they yield. torsionlaw13.sanity. What the Checks ask for; Invariants of a small matrix as a list. torsionref13.Changed: what it yields is P F Q, and back. -/
import Derived.Test.YtgnmdddaiefooaaGreatK17
import Derived.Test.YtgnmdddaiefooaaGreatK40
import Derived.Test.YtgnmdddaiefooaaGreatK41
set_option linter.unusedVariables false
set_option linter.unusedSimpArgs false
set_option linter.unusedSectionVars false
set_option maxHeartbeats 16000000
set_option maxRecDepth 100000
namespace Go.Proofs.YtgnmdddaiefooaaGreat
open Go.RowKit
theorem zMM:BB^3*16<=B32^zG6:=by
 have e:(B32:Nat)=2^32:=by decide
 have h1:BB^3*16=2^(EB*3+4):=by unfold BB;rw[<-Nat.pow_mul,Nat.pow_add]
 have h2:2^(EB*3+4)<=(2^32)^EB:=by
  rw[<-Nat.pow_mul];exact zCZ oM (by rw[zMk];omega)
 rw[h1];refine Nat.le_trans h2 ?_;rw[<-e];exact zAZ (by rw[zMk,yP];omega)
theorem zML:1<=BB:=Nat.pow_pos oM
theorem zOo:2^100<=BB:=zCZ oM (by rw[zMk];omega)
theorem zMj{z:Int}(h:z.natAbs<BB^3*16):Smd z:=⟨Nat.lt_of_lt_of_le h zMM⟩
theorem zNw{k n:Nat}(hk:k<=3)(hn:n<=16):BB^k*n<=BB^3*16:=Nat.mul_le_mul (zCZ zML hk) hn
theorem zNx{z:Int}(h:z.natAbs<BB):Smd z:=zMj (Nat.lt_of_lt_of_le h (by have:=zNw (k:=1) (n:=1) oM oM;simpa using this))
theorem Inv.small{R C r h:Nat}{A F:Nat->Nat->Int}(hI:Inv R C r A F)(hR:R<=4)(h1:1<=h)(hA:leM h R C A):(yW r (fun i=>F i i)).natAbs<=24*h^4:=by
 have hr:r<=min R C:=hI.dg.le;have hp:0<yW r (fun i=>F i i):=zEY fun i hi=>hI.dg.pos i hi
 have hm:=hI.minors hr;have hne:∃σ τ:Nat->Nat,(∀a,a<r->σ a<R)/\(∀a,a<r->τ a<C)/\det r (fun a b=>A (σ a) (τ b))≠0:=by
  refine Classical.byContradiction fun hn=>?_
  have:zJh R C r A 0:=fun σ τ hσ hτ=>by
   have:det r (fun a b=>A (σ a) (τ b))=0:=Classical.byContradiction fun h0=>hn ⟨σ,τ,hσ,hτ,h0⟩
   rw[this];exact Int.dvd_refl 0
  have:=Int.zero_dvd.1 (hI.gen hr this);omega
 obtain⟨σ,τ,hσ,hτ,h0⟩:=hne;refine Nat.le_trans (Nat.le_of_dvd oM (Int.natAbs_dvd_natAbs.2 (hm σ τ hσ hτ))) ?_;exact zJy (F:=fun a b=>A (σ a) (τ b)) oM h1 fun a ha b hb=>hA _ (hσ a ha) _ (hτ b hb)
theorem Inv.empty(C:Nat)(A:Nat->Nat->Int):Inv 0 C 0 A A:=
 ⟨⟨fun a ha=>by omega,fun i hi=>by omega,fun i _ hi=>by omega,by omega⟩,fun a b _ h1 h2=>by omega,⟨idf,idf,fun a ha=>by omega⟩,⟨idf,idf,fun a ha=>by omega⟩⟩
theorem zMx{R C r:Nat}{F:Nat->Nat->Int}(hd:Dg R C r F)(hc:Chn 0 (min R C) F):zOq R C (genM R C F)=true:=by
 unfold zOq;rw[decide_eq_true (zX R C F).valid,Bool.true_and,Int.toNat_natCast,Int.toNat_natCast,zIr oM oM,Bool.and_eq_true];constructor
 ·have:∀d i,i+d=R->zE8 i ((genM R C F).drop i)=true:=by
   intro d;induction d with
   |zero=>
    intro i hi;rw[List.drop_eq_nil_of_le (by rw[(zX R C F).1];omega)];rfl
   |succ d ih=>
    intro i hi;have e1:(genM R C F)[i]?=some (qE C (F i)):=by simp[genM,qE,show i<R by omega]
    rw[zBE e1,zHE,ih (i+1) oM];intro t ht hne;rw[zS]at ht;rw[jN (qG ht)];exact hd.off i oM t ht oM
  exact this R 0 oM
 ·have:∀d i (last:Int),i+d=min R C->(i<min R C->last∣F i i)->zDG last ((qE (min R C) fun i=>F i i).drop i)=true:=by
   intro d;induction d with
   |zero=>
    intro i last hi _;rw[List.drop_eq_nil_of_le (by rw[zS];omega)];rfl
   |succ d ih=>
    intro i last hi hl;rw[zBE (qG oM),zGQ (hd.nonneg oM) (hl oM)];exact ih (i+1) _ oM fun h=>hc i (i+1) (Nat.zero_le _) oM h
  exact this (min R C) 0 1 oM fun _=>Int.one_dvd _
theorem nxa{w W W':World}{o:Obj}(h:Below w.heap.size w W)(hb:Below (W.alloc o).heap.size (W.alloc o) W'):Below w.heap.size w W':=nx (h.alloc h.size o) hb
def zIA(ls:List Int):Array Value:=(ls.map (Value.int .i64)).toArray
theorem zEv.new(W:World)(ls:List Int)(hb:(ls.all fun z=>decide (-9223372036854775808<=z/\z<=9223372036854775807))=true)(hl:ls.length<=1000):
  zEv (W.alloc (.cells (zIA ls) 2)) (.slice (some ⟨W.heap.size,0,none⟩) ls.length ls.length) ls:=by
 refine⟨_,_,_,rfl,rfl,xgf _,by omega,fun z hz=>of_decide_eq_true (List.all_eq_true.1 hb z hz),fun _=>⟨W.heap.size,_,rfl,heap_alloc_new W _,fun k z hk=>?_⟩⟩;simp[zIA,hk]
theorem zDL(ls:List Int):qT (fun w v=>zEv w v ls):=fun _ _ _ x h=>h.below x
theorem zHK(v:Value)(ls:List Int)(R C:Nat)(r c:Int)(M:List (List Int))(w:World)(h:zEv w v ls)(hr:r=R)(hc:c=C)(hl:ls.length=R*C)(hR:R<=1000)(hC:C<=1000)(hM:genM R C (fun i j=>ls.getD (i*C+j) 0)=M):
  Calls Tryz.prog 34 #[.int .i64 r,.int .i64 c,v] w fun e w'=>∃v,e= .returned v/\qX w' v R C M/\Below w.heap.size w w':=by
 subst hr;subst hc;subst hM;exact(zLe v R C ls w h hl hR hC).mono fun e w' ⟨v,bs,he,hm,hb⟩=>⟨v,he,hm.mat.1,hb⟩
theorem zPh(R C:Nat)(r c:Int)(w:World)(hr:r=R)(hc:c=C)(hR:R<=1000000)(hC:C<=1000000):
  Calls Tryz.prog 33 #[.int .i64 r,.int .i64 c] w fun e w'=>∃v,e= .returned v/\qX w' v R C (jD R C)/\Below w.heap.size w w':=by
 subst hr;subst hc;exact(zAt R C w hR hC).mono fun e w' ⟨v,bs,he,hm,hb⟩=>⟨v,he,hm.mat.1,hb⟩
theorem qX.agg{w:World}{v:Value}{R C:Int}{M:List (List Int)}(h:qX w v R C M):∃o n k,v= .agg #[.int .i64 R,.int .i64 C,.slice o n k]:=by
 obtain⟨A,rfl,ao,n,cap,rfl,-⟩:=h;exact⟨_,_,_,rfl⟩
theorem zJj.below{w w':World}{f:Value}{R C:Nat}{S U V W X:List (List Int)}(h:zJj w f R C S U V W X)(hb:Below w.heap.size w w'):zJj w' f R C S U V W X:=by
 obtain⟨s,u,v,x,y,e,h1,h2,h3,h4,h5⟩:=h.ex;exact⟨s,u,v,x,y,e,h1.below hb,h2.below hb,h3.below hb,h4.below hb,h5.below hb⟩
theorem zHn(v1 v2:Value)(R C:Int)(M:List (List Int))(w:World)(h1:qX w v1 R C M)(h2:qX w v2 R C M):
  Calls Tryz.prog 17 #[v1,v2] w fun e w'=>∃v,e= .returned v/\v= .bool true/\Below w.heap.size w w':=
 (zIX v1 v2 R C R C M M w h1 h2).mono fun e w' ⟨h,hb⟩=>⟨_,h,by rw[decide_eq_true ⟨rfl,rfl,rfl⟩],hb⟩
theorem zFV(f:Nat->Int)(n:Nat):zK3 f n=zI n f:=by
 induction n with
 |zero=>rfl
 |succ n ih=>unfold zK3 zI;rw[ih]
theorem zBH{R m C:Nat}{F G:Nat->Nat->Int}{i j:Nat}(hi:i<R)(hj:j<C):zEs (genM R m F) (genM m C G) m i j=zI m fun t=>F i t*G t j:=by
 unfold zEs;rw[zFV];exact zD fun t ht=>by rw[qK hi ht,qK ht hj]
theorem zHu{z:Int}(h:z.natAbs<=BB^3*16):Sm z:=Nat.lt_of_le_of_lt h (Nat.lt_of_le_of_lt zMM (zDC zG6 LIM (by rw[yP,yA];omega)))
theorem zDt{R m C a b:Nat}{F G:Nat->Nat->Int}(hF:leM a R m F)(hG:leM b m C G)(hm:m<=4)(ha:a<=BB^3*16)(hb:b<=BB^3*16)(hab:4*(a*b)<=BB^3*16):zD6 (genM R m F) (genM m C G) R m C:=by
 intro i hi j hj k hk;rw[qK hi hk,qK hk hj];have h1:=hF i hi k hk;have h2:=hG k hk j hj;have h3:=zDE h1 h2;refine⟨zHu oM,zHu oM,zHu oM,zHu ?_⟩;unfold zEs;rw[zFV];have h4:=zBg (n:=k) (f:=fun t=>ent (genM R m F) i t*ent (genM m C G) t j) (B:=a*b) fun t ht=>by
  rw[qK hi oM,qK oM hj];exact zDE (hF i hi t oM) (hG t oM j hj)
 have h5:k*(a*b)<=4*(a*b):=Nat.mul_le_mul_right _ oM;omega
theorem zAs{B R C:Nat}{F:Nat->Nat->Int}(h:okF B R C F):leM B R C F:=fun a ha b hb=>Nat.le_of_lt (h a ha b hb)
theorem zMu{h:Nat}(hh:h<=1048576):BB<=BB^3*16/\h<=BB/\4*(BB*BB)<=BB^3*16/\4*(BB*h)<=BB^3*16/\4*(BB*BB)*4*BB<=BB^3*16/\4*(4*(BB*h)*BB)<=BB^3*16/\4*(BB*h)<=BB^3*16:=by
 have h0:1048576<=BB:=Nat.le_trans dE zOo;have h1:=zML;generalize BB=B at*;have e3:B^3*16=16*(B*(B*B)):=by
  rw[show(3:Nat)=2+1 from rfl,Nat.pow_succ,Nat.pow_two,Nat.mul_comm,Nat.mul_comm (B*B)]
 have q1:B<=B*B:=Nat.le_mul_of_pos_left _ h1;have q2:B*B<=B*(B*B):=Nat.mul_le_mul_left _ q1;have q3:B*h<=B*B:=Nat.mul_le_mul_left _ oM;have q4:B*h*B<=B*(B*B):=by
  rw[Nat.mul_assoc];exact Nat.mul_le_mul_left _ (Nat.mul_le_mul_right _ oM)
 have q5:4*(4*(B*h)*B)=16*(B*h*B):=by rw[Nat.mul_assoc 4,<-Nat.mul_assoc 4 4]
 have q6:4*(B*B)*4*B=16*(B*(B*B)):=by
  rw[Nat.mul_comm (4*(B*B)) 4,<-Nat.mul_assoc,Nat.mul_assoc,Nat.mul_comm (B*B) B]
 rw[e3,q5,q6];refine⟨by omega,by omega,by omega,by omega,by omega,by omega,by omega⟩
structure Chk(R C:Nat)(A S U V W X:List (List Int)):Prop where
 fs:yI R C S
 fu:yI R R U
 fv:yI R R V
 fw:yI C C W
 fx:yI C C X
 is:zOq R C S=true
 i1:genM R R (zEs U V R)=genM R R idf
 i2:genM C C (zEs W X C)=genM C C idf
 ss:∀r∈S,∀z∈r,Smd z
 m1:zD6 U V R R R
 m2:zD6 W X C C C
 m3:zD6 U A R R C
 m4:zD6 (genM R C (zEs U A R)) W R C C
 p:genM R C (zEs (genM R C (zEs U A R)) W C)=S
theorem zLc{R C:Nat}{F:Nat->Nat->Int}(h:okF BB R C F):∀r∈genM R C F,∀z∈r,Smd z:=by
 intro r hr z hz;unfold genM at hr;obtain⟨i,hi,rfl⟩:=List.mem_map.1 hr;obtain⟨j,hj,rfl⟩:=List.mem_map.1 hz;exact zNx (h i (List.mem_range.1 hi) j (List.mem_range.1 hj))
theorem Chk.of{R C r:Nat}{M:List (List Int)}{y:W5}(hR:R<=4)(hC:C<=4)(hF:yI R C M)(hA:leM 1048576 R C (ent M))(hr:Rel R C (ent M) y)(hI:Inv R C r (ent M) y.s)(hok:okW BB R C R C y):
  Chk R C M (genM R C y.s) (genM R R y.u) (genM R R (trF y.v)) (genM C C (trF y.w)) (genM C C y.x):=by
 obtain⟨o1,o2,o3,o4,o5⟩:=hok;obtain⟨b1,b2,b3,b4,b5,b6,b7⟩:=zMu (h:=1048576) (xgf _);have eM:M=genM R C (ent M):=jR hF;have eUA:genM R C (zEs (genM R R y.u) M R)=genM R C fun i t=>zI R fun s=>y.u i s*ent M s t:=zR fun i hi j hj=>by
  conv=>lhs;rw[eM]
  rw[zBH hi hj]
 have hUA:leM (4*(BB*1048576)) R C fun i t=>zI R fun s=>y.u i s*ent M s t:=fun i hi j hj=>by
  have h1:=zBg (n:=R) (f:=fun s=>y.u i s*ent M s j) (B:=BB*1048576) fun t ht=>zDE (zAs o2 i hi t ht) (hA t ht j hj)
  exact Nat.le_trans h1 (Nat.mul_le_mul_right _ hR)
 refine⟨zX _ _ _,zX _ _ _,zX _ _ _,zX _ _ _,zX _ _ _,zMx hI.dg hI.chn,zR fun i hi j hj=>?_,zR fun i hi j hj=>?_,zLc o1,?_,?_,?_,?_,?_⟩
 ·rw[zBH hi hj]
  exact hr.uv i hi j hj
 ·rw[zBH hi hj]
  have:=hr.xw j hj i hi;rw[zBX i j,<-this];exact zD fun t ht=>Int.mul_comm _ _
 ·exact zDt (zAs o2) (zKO (zAs o3)) hR b1 b1 b3
 ·exact zDt (zKO (zAs o4)) (zAs o5) hC b1 b1 b3
 ·conv=>arg 2;rw[eM]
  exact zDt (zAs o2) hA hR b1 (Nat.le_trans b2 b1) b4
 ·rw[eUA]
  exact zDt hUA (zKO (zAs o4)) hC b7 b1 b6
 ·rw[eUA]
  refine zR fun i hi j hj=>?_
  rw[zBH hi hj,hr.s i hi j hj];simp only[<-zV,<-jC];rw[yB];refine zD fun s hs=>zD fun t ht=>?_
  show y.u i s*ent M s t*y.w j t=y.u i s*(ent M s t*y.w j t);rw[Int.mul_assoc]
theorem zLV(R C D:Nat)(ls:List Int):leM 9 R C (zJz D ls):=fun a _ b _=>zMz D ls a b
theorem zBV{n R C:Nat}{F:Nat->Nat->Int}(h:leM n R C F):leM n R C (ent (genM R C F)):=fun a ha b hb=>by rw[qK ha hb];exact h a ha b hb
theorem zO7(v:Value)(r c:Nat)(ls:List Int)(w:World)(h:I8V w v ls)(hr:r<=255)(hc:c<=255)(R C:Nat)(hR:R=r%5)(hC:C=c%5):
  Calls Tryz.prog 14 #[.agg #[.int .u8 r,.int .u8 c,v]] w fun e w'=>∃v,e= .returned v/\qX w' v R C (genM R C (zJz C ls))/\Below w.heap.size w w':=
 (zHk v r c ls w h hr hc R C hR hC).mono fun e w' ⟨v,bs,h,hm,hb⟩=>⟨v,h,hm.mat.1,hb⟩
def StV(w:World)(v:Value)(ls:List (Nat × Nat × Nat × Int)):Prop:=
 ∃ao n cap,v= .slice ao n cap/\ls.length=n/\n<=cap/\cap<=9223372036854775807/\(∀s∈ls,s.1<=255/\s.2.1<=255/\s.2.2.1<=255/\-128<=s.2.2.2/\s.2.2.2<=127)∧
  (ls≠ []->∃b off,ao=some ⟨b,off,none⟩/\b<w.heap.size/\∀(k:Nat) (s:Nat × Nat × Nat × Int),ls[k]?=some s->w.cell? ⟨b,off+k*4,none⟩=some (.int .u8 s.1)/\w.cell? ⟨b,off+k*4+1,none⟩=some (.int .u8 s.2.1)/\w.cell? ⟨b,off+k*4+2,none⟩=some (.int .u8 s.2.2.1)/\w.cell? ⟨b,off+k*4+3,none⟩=some (.int .i8 s.2.2.2))
theorem StV.cell{w:World}{ao:Option Addr}{n cap:Nat}{ls:List (Nat × Nat × Nat × Int)}(h:StV w (.slice ao n cap) ls){k:Nat}(hk:k<ls.length):
  ∃b off,∃p q r:Nat,∃z:Int,ao=some ⟨b,off,none⟩/\b<w.heap.size/\p<=255/\q<=255/\r<=255/\-128<=z/\z<=127/\w.cell? ⟨b,off+k*4,none⟩=some (.int .u8 p)/\w.cell? ⟨b,off+k*4+1,none⟩=some (.int .u8 q)/\w.cell? ⟨b,off+k*4+2,none⟩=some (.int .u8 r)/\w.cell? ⟨b,off+k*4+3,none⟩=some (.int .i8 z):=by
 obtain⟨ao',n',cap',h1,h2,h3,h4,h5,h6⟩:=h;injection h1 with e1 e2 e3
 subst e1;obtain⟨b,off,e,hb,hc⟩:=h6 (by rintro rfl;simp at hk);have hz:=xga hk;obtain⟨g1,g2,g3,g4,g5⟩:=h5 _ (xgd hz);obtain⟨c1,c2,c3,c4⟩:=hc _ _ hz;exact⟨b,off,_,_,_,_,e,hb,g1,g2,g3,g4,g5,c1,c2,c3,c4⟩
theorem StV.below{w w':World}{v:Value}{ls:List (Nat × Nat × Nat × Int)}(h:StV w v ls)(hb:Below w.heap.size w w'):StV w' v ls:=by
 obtain⟨ao,n,cap,h1,h2,h3,h4,h5,h6⟩:=h;refine⟨ao,n,cap,h1,h2,h3,h4,h5,fun hne=>?_⟩;obtain⟨b,off,e,hlt,hc⟩:=h6 hne;refine⟨b,off,e,Nat.lt_of_lt_of_le hlt hb.size,fun k s hz=>?_⟩;obtain⟨c1,c2,c3,c4⟩:=hc k s hz;exact⟨(hb.cell (p:=⟨b,off+k*4,none⟩) hlt).trans c1,(hb.cell (p:=⟨b,off+k*4+1,none⟩) hlt).trans c2,(hb.cell (p:=⟨b,off+k*4+2,none⟩) hlt).trans c3,(hb.cell (p:=⟨b,off+k*4+3,none⟩) hlt).trans c4⟩
theorem Fac.refl(R C:Nat)(F:Nat->Nat->Int):Fac R C F F:=⟨idf,idf,fun a ha b hb=>by
 rw[<-zEJ ha fun s=>zI C fun t=>F s t*idf t b,zDV hb]⟩
theorem Fac.congr{R C:Nat}{F G G':Nat->Nat->Int}(h:Fac R C F G)(e:∀a,a<R->∀b,b<C->G' a b=G a b):Fac R C F G':=by
 obtain⟨P,Q,h⟩:=h;exact⟨P,Q,fun a ha b hb=>(e a ha b hb).trans (h a ha b hb)⟩
theorem Fac.trans{R C:Nat}{F G H:Nat->Nat->Int}(h:Fac R C F G)(k:Fac R C G H):Fac R C F H:=by
 obtain⟨P,Q,h⟩:=h;obtain⟨P',Q',k⟩:=k;refine⟨fun a s=>zI R fun m=>P' a m*P m s,fun t b=>zI C fun m=>Q t m*Q' m b,fun a ha b hb=>?_⟩;rw[k a ha b hb];have e1:∀m,m<R->zI C (fun t=>G m t*Q' t b)=zI R fun s=>P m s*zI C fun t=>F s t*zI C fun m'=>Q t m'*Q' m' b:=fun m hm=>by
  have e2:∀t,t<C->G m t*Q' t b=zI R fun s=>P m s*zI C fun t'=>F s t'*(Q t' t*Q' t b):=fun t ht=>by
   rw[h m hm t ht,<-jC];refine zD fun s _=>?_
   rw[Int.mul_assoc,<-jC];congr 1;exact zD fun t' _=>Int.mul_assoc _ _ _
  rw[zD e2,yB];refine zD fun s _=>?_
  rw[zV,yB];congr 1;exact zD fun t' _=>zV _ _ _
 have e3:∀m,m<R->P' a m*zI C (fun t=>G m t*Q' t b)=zI R fun s=>(P' a m*P m s)*zI C fun t=>F s t*zI C fun m'=>Q t m'*Q' m' b:=fun m hm=>by
  rw[e1 m hm,<-zV];exact zD fun s _=>(Int.mul_assoc _ _ _).symm
 rw[zD e3,yB];exact zD fun s _=>jC _ _ _
theorem Fac.rows{R C:Nat}{F G P:Nat->Nat->Int}(h:∀a,a<R->∀b,b<C->G a b=zI R fun s=>P a s*F s b):Fac R C F G:=⟨P,idf,fun a ha b hb=>by
 rw[h a ha b hb];exact zD fun s _=>by rw[zDV hb fun t=>F s t]⟩
theorem Fac.tr{R C:Nat}{F G:Nat->Nat->Int}(h:Fac R C F G):Fac C R (trF F) (trF G):=by
 obtain⟨P,Q,h⟩:=h;refine⟨fun a s=>Q s a,fun t b=>P b t,fun a ha b hb=>?_⟩;show G b a=_;rw[h b hb a ha];simp only[<-zV];rw[yB];refine zD fun t _=>zD fun s _=>?_
 show P b s*(F s t*Q t a)=Q t a*(F s t*P b s);grind
theorem Fac.ops{R C:Nat}{l:List Op}(hl:qJ R l)(F:Nat->Nat->Int):Fac R C F (zA2 l F)/\Fac R C (zA2 l F) F:=
 ⟨Fac.rows (P:=zA2 l idf) fun a ha b _=>zEW hl F a ha b,Fac.rows (P:=fun a s=>zGB l idf s a) fun a ha b _=>zC2 hl F a ha b⟩
structure ChI(R C M i:Nat)(F0 F:Nat->Nat->Int):Prop where
 to_:Fac R C F0 F
 back:Fac R C F F0
 le:leM (M*3^i) R C F
theorem ChI.next{R C M i:Nat}{F0 F G:Nat->Nat->Int}(h:ChI R C M i F0 F)(h1:Fac R C F G)(h2:Fac R C G F)(h3:leM (M*3^i*3) R C G):ChI R C M (i+1) F0 G:=
 ⟨h.to_.trans h1,h2.trans h.back,by rwa[Nat.pow_succ,<-Nat.mul_assoc]⟩
theorem ChI.same{R C M i:Nat}{F0 F:Nat->Nat->Int}(h:ChI R C M i F0 F):ChI R C M (i+1) F0 F:=h.next (Fac.refl _ _ _) (Fac.refl _ _ _) (h.le.mono oM)
theorem ChI.add{R C M i x y:Nat}{k:Int}{F0 F:Nat->Nat->Int}(h:ChI R C M i F0 F)(hx:x<R)(hy:y<R)(hxy:x≠y)(hk:k.natAbs<=2):ChI R C M (i+1) F0 (jG F x y k):=by
 obtain⟨h1,h2⟩:=Fac.ops (C:=C) (l:=[.add x y k]) (qJ.cons ⟨hx,hy,hxy⟩ qJ.nil) F;exact h.next h1 h2 ((zHU h.le hx hy).mono (Nat.mul_le_mul_left _ oM))
theorem ChI.swap{R C M i x y:Nat}{F0 F:Nat->Nat->Int}(h:ChI R C M i F0 F)(hx:x<R)(hy:y<R):ChI R C M (i+1) F0 (fun a b=>F (swp x y a) b):=by
 obtain⟨h1,h2⟩:=Fac.ops (C:=C) (l:=[.swap x y]) (qJ.cons ⟨hx,hy⟩ qJ.nil) F;exact h.next h1 h2 fun a ha b hb=>Nat.le_trans (h.le _ (zFX hx hy ha) b hb) oM
def zP8(F:Nat->Nat->Int)(x y:Nat):Nat->Nat->Int:=fun a b=>if b=x then-(F a y)else if b=y then F a x else F a b
def zQN(F:Nat->Nat->Int)(x y r:Nat):Nat->Nat->Int:=fun a b=>if a<r then zP8 F x y a b else F a b
theorem Blk.ne{w:World}{a b:Nat}{T T':TypeId}{cs cs':Array Value}(h:Blk w a T cs)(k:Blk w b T' cs')(hT:T≠T'):a≠b:=by
 rintro rfl;unfold Blk at h k;rw[h]at k;injection k with k
 injection k with k1 k2
 exact hT k2
theorem zH.blk{w:World}{base g n cap C:Nat}{bs:List Nat}{M:List (List Int)}(h:zH w base (.slice (some ⟨g,0,none⟩) n cap) C bs M):base<=g/\∃cs,Blk w g tR cs:=by
 rcases h.own.2 with⟨e,-⟩|⟨g',cap',cur,e,e2,e3,-⟩
 ·cases e
 ·injection e with e8 e9 e10
  injection e8 with e8
  injection e8 with e8
  subst e8;exact⟨e2,cur,e3⟩
theorem yX.below{S:List Nat}{B:Nat}{w a b:World}(h:Below B w a)(ho:yX S a b)(hS:∀k∈S,B<=k)(hsz:B<=a.heap.size):Below B w b:=
 ⟨ho.bel.os.trans h.os,ho.bel.tape.trans h.tape,ho.bel.output.trans h.output,Nat.le_trans h.size ho.bel.size,fun k hk=>(ho.old k oM (fun hh=>by have:=hS k hh;omega)).trans (h.block k hk)⟩
theorem yX.blk{S:List Nat}{w w':World}{g:Nat}{T:TypeId}{cs:Array Value}(h:Blk w g T cs)(ho:yX S w w')(hg:g ∉ S):Blk w' g T cs:=(ho.old g h.lt hg).trans h
end Go.Proofs.YtgnmdddaiefooaaGreat
