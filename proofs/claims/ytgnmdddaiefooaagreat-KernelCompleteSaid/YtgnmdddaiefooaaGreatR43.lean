/- What the Checks ask for; Invariants of a small matrix as a list. torsionref13.Changed: what it yields is P F Q, and back. -/
import Derived.Test.YtgnmdddaiefooaaGreatR17
import Derived.Test.YtgnmdddaiefooaaGreatR41
import Derived.Test.YtgnmdddaiefooaaGreatR42
set_option linter.unusedVariables false
set_option linter.unusedSimpArgs false
set_option linter.unusedSectionVars false
set_option maxHeartbeats 16000000
set_option maxRecDepth 100000
namespace Go.Proofs.YtgnmdddaiefooaaGreat
open Go.RowKit
theorem zAp(f:Nat->Int)(n:Nat):zLR f n=zI n f:=by
 induction n with
 |zero=>rfl
 |succ n ih=>unfold zLR zI;rw[ih]
theorem zBO{R m C:Nat}{F G:Nat->Nat->Int}{i j:Nat}(hi:i<R)(hj:j<C):zAT (genM R m F) (genM m C G) m i j=zI m fun t=>F i t*G t j:=by
 unfold zAT;rw[zAp];exact zD fun t ht=>by rw[qG hi ht,qG ht hj]
theorem zH5{z:Int}(h:z.natAbs<=BB^3*16):Sm z:=Nat.lt_of_le_of_lt h (Nat.lt_of_le_of_lt zMq (zDI zHE LIM (by rw[jB,yA];omega)))
theorem zDz{R m C a b:Nat}{F G:Nat->Nat->Int}(hF:leM a R m F)(hG:leM b m C G)(hm:m<=4)(ha:a<=BB^3*16)(hb:b<=BB^3*16)(hab:4*(a*b)<=BB^3*16):zCM (genM R m F) (genM m C G) R m C:=by
 intro i hi j hj k hk;rw[qG hi hk,qG hk hj];have h1:=hF i hi k hk;have h2:=hG k hk j hj;have h3:=zDJ h1 h2;refine⟨zH5 oM,zH5 oM,zH5 oM,zH5 ?_⟩;unfold zAT;rw[zAp];have h4:=zAX (n:=k) (f:=fun t=>ent (genM R m F) i t*ent (genM m C G) t j) (B:=a*b) fun t ht=>by
  rw[qG hi oM,qG oM hj];exact zDJ (hF i hi t oM) (hG t oM j hj)
 have h5:k*(a*b)<=4*(a*b):=Nat.mul_le_mul_right _ oM;omega
theorem zAu{B R C:Nat}{F:Nat->Nat->Int}(h:okF B R C F):leM B R C F:=fun a ha b hb=>Nat.le_of_lt (h a ha b hb)
theorem zNR{h:Nat}(hh:h<=1048576):BB<=BB^3*16/\h<=BB/\4*(BB*BB)<=BB^3*16/\4*(BB*h)<=BB^3*16/\4*(BB*BB)*4*BB<=BB^3*16/\4*(4*(BB*h)*BB)<=BB^3*16/\4*(BB*h)<=BB^3*16:=by
 have h0:1048576<=BB:=Nat.le_trans dE zPM;have h1:=zMp;generalize BB=B at*;have e3:B^3*16=16*(B*(B*B)):=by
  rw[show(3:Nat)=2+1 from rfl,Nat.pow_succ,Nat.pow_two,Nat.mul_comm,Nat.mul_comm (B*B)]
 have q1:B<=B*B:=Nat.le_mul_of_pos_left _ h1;have q2:B*B<=B*(B*B):=Nat.mul_le_mul_left _ q1;have q3:B*h<=B*B:=Nat.mul_le_mul_left _ oM;have q4:B*h*B<=B*(B*B):=by
  rw[Nat.mul_assoc];exact Nat.mul_le_mul_left _ (Nat.mul_le_mul_right _ oM)
 have q5:4*(4*(B*h)*B)=16*(B*h*B):=by rw[Nat.mul_assoc 4,<-Nat.mul_assoc 4 4]
 have q6:4*(B*B)*4*B=16*(B*(B*B)):=by
  rw[Nat.mul_comm (4*(B*B)) 4,<-Nat.mul_assoc,Nat.mul_assoc,Nat.mul_comm (B*B) B]
 rw[e3,q5,q6];refine⟨by omega,by omega,by omega,by omega,by omega,by omega,by omega⟩
structure Chk(R C:Nat)(A S U V W X:List (List Int)):Prop where
 fs:yG R C S
 fu:yG R R U
 fv:yG R R V
 fw:yG C C W
 fx:yG C C X
 is:zPO R C S=true
 i1:genM R R (zAT U V R)=genM R R idf
 i2:genM C C (zAT W X C)=genM C C idf
 ss:∀r∈S,∀z∈r,Smd z
 m1:zCM U V R R R
 m2:zCM W X C C C
 m3:zCM U A R R C
 m4:zCM (genM R C (zAT U A R)) W R C C
 p:genM R C (zAT (genM R C (zAT U A R)) W C)=S
theorem zL0{R C:Nat}{F:Nat->Nat->Int}(h:okF BB R C F):∀r∈genM R C F,∀z∈r,Smd z:=by
 intro r hr z hz;unfold genM at hr;obtain⟨i,hi,rfl⟩:=List.mem_map.1 hr;obtain⟨j,hj,rfl⟩:=List.mem_map.1 hz;exact zOU (h i (List.mem_range.1 hi) j (List.mem_range.1 hj))
theorem Chk.of{R C r:Nat}{M:List (List Int)}{y:W5}(hR:R<=4)(hC:C<=4)(hF:yG R C M)(hA:leM 1048576 R C (ent M))(hr:Rel R C (ent M) y)(hI:Inv R C r (ent M) y.s)(hok:okW BB R C R C y):
  Chk R C M (genM R C y.s) (genM R R y.u) (genM R R (trF y.v)) (genM C C (trF y.w)) (genM C C y.x):=by
 obtain⟨o1,o2,o3,o4,o5⟩:=hok;obtain⟨b1,b2,b3,b4,b5,b6,b7⟩:=zNR (h:=1048576) (xgf _);have eM:M=genM R C (ent M):=jU hF;have eUA:genM R C (zAT (genM R R y.u) M R)=genM R C fun i t=>zI R fun s=>y.u i s*ent M s t:=zS fun i hi j hj=>by
  conv=>lhs;rw[eM]
  rw[zBO hi hj]
 have hUA:leM (4*(BB*1048576)) R C fun i t=>zI R fun s=>y.u i s*ent M s t:=fun i hi j hj=>by
  have h1:=zAX (n:=R) (f:=fun s=>y.u i s*ent M s j) (B:=BB*1048576) fun t ht=>zDJ (zAu o2 i hi t ht) (hA t ht j hj)
  exact Nat.le_trans h1 (Nat.mul_le_mul_right _ hR)
 refine⟨zV _ _ _,zV _ _ _,zV _ _ _,zV _ _ _,zV _ _ _,zNT hI.dg hI.chn,zS fun i hi j hj=>?_,zS fun i hi j hj=>?_,zL0 o1,?_,?_,?_,?_,?_⟩
 ·rw[zBO hi hj]
  exact hr.uv i hi j hj
 ·rw[zBO hi hj]
  have:=hr.xw j hj i hi;rw[zCA i j,<-this];exact zD fun t ht=>Int.mul_comm _ _
 ·exact zDz (zAu o2) (zKZ (zAu o3)) hR b1 b1 b3
 ·exact zDz (zKZ (zAu o4)) (zAu o5) hC b1 b1 b3
 ·conv=>arg 2;rw[eM]
  exact zDz (zAu o2) hA hR b1 (Nat.le_trans b2 b1) b4
 ·rw[eUA]
  exact zDz hUA (zKZ (zAu o4)) hC b7 b1 b6
 ·rw[eUA]
  refine zS fun i hi j hj=>?_
  rw[zBO hi hj,hr.s i hi j hj];simp only[<-zY,<-jG];rw[yB];refine zD fun s hs=>zD fun t ht=>?_
  show y.u i s*ent M s t*y.w j t=y.u i s*(ent M s t*y.w j t);rw[Int.mul_assoc]
theorem zLt(R C D:Nat)(ls:List Int):leM 9 R C (zDN D ls):=fun a _ b _=>zHL D ls a b
theorem zBE{n R C:Nat}{F:Nat->Nat->Int}(h:leM n R C F):leM n R C (ent (genM R C F)):=fun a ha b hb=>by rw[qG ha hb];exact h a ha b hb
theorem zPf(v:Value)(r c:Nat)(ls:List Int)(w:World)(h:I8V w v ls)(hr:r<=255)(hc:c<=255)(R C:Nat)(hR:R=r%5)(hC:C=c%5):
  Calls Tryz.prog 14 #[.agg #[.int .u8 r,.int .u8 c,v]] w fun e w'=>∃v,e= .returned v/\qL w' v R C (genM R C (zDN C ls))/\Below w.heap.size w w':=
 (zHt v r c ls w h hr hc R C hR hC).mono fun e w' ⟨v,bs,h,hm,hb⟩=>⟨v,h,hm.mat.1,hb⟩
def StV(w:World)(v:Value)(ls:List (Nat × Nat × Nat × Int)):Prop:=
 ∃ao n cap,v= .slice ao n cap/\ls.length=n/\n<=cap/\cap<=9223372036854775807/\(∀s∈ls,s.1<=255/\s.2.1<=255/\s.2.2.1<=255/\-128<=s.2.2.2/\s.2.2.2<=127)∧
  (ls≠ []->∃b off,ao=some ⟨b,off,none⟩/\b<w.heap.size/\∀(k:Nat) (s:Nat × Nat × Nat × Int),ls[k]?=some s->w.cell? ⟨b,off+k*4,none⟩=some (.int .u8 s.1)/\w.cell? ⟨b,off+k*4+1,none⟩=some (.int .u8 s.2.1)/\w.cell? ⟨b,off+k*4+2,none⟩=some (.int .u8 s.2.2.1)/\w.cell? ⟨b,off+k*4+3,none⟩=some (.int .i8 s.2.2.2))
theorem StV.cell{w:World}{ao:Option Addr}{n cap:Nat}{ls:List (Nat × Nat × Nat × Int)}(h:StV w (.slice ao n cap) ls){k:Nat}(hk:k<ls.length):
  ∃b off,∃p q r:Nat,∃z:Int,ao=some ⟨b,off,none⟩/\b<w.heap.size/\p<=255/\q<=255/\r<=255/\-128<=z/\z<=127/\w.cell? ⟨b,off+k*4,none⟩=some (.int .u8 p)/\w.cell? ⟨b,off+k*4+1,none⟩=some (.int .u8 q)/\w.cell? ⟨b,off+k*4+2,none⟩=some (.int .u8 r)/\w.cell? ⟨b,off+k*4+3,none⟩=some (.int .i8 z):=by
 obtain⟨ao',n',cap',h1,h2,h3,h4,h5,h6⟩:=h;injection h1 with e1 e2 e3
 subst e1;obtain⟨b,off,e,hb,hc⟩:=h6 (by rintro rfl;simp at hk);have hz:=xga hk;obtain⟨g1,g2,g3,g4,g5⟩:=h5 _ (xgd hz);obtain⟨c1,c2,c3,c4⟩:=hc _ _ hz;exact⟨b,off,_,_,_,_,e,hb,g1,g2,g3,g4,g5,c1,c2,c3,c4⟩
theorem StV.below{w w':World}{v:Value}{ls:List (Nat × Nat × Nat × Int)}(h:StV w v ls)(hb:Below w.heap.size w w'):StV w' v ls:=by
 obtain⟨ao,n,cap,h1,h2,h3,h4,h5,h6⟩:=h;refine⟨ao,n,cap,h1,h2,h3,h4,h5,fun hne=>?_⟩;obtain⟨b,off,e,hlt,hc⟩:=h6 hne;refine⟨b,off,e,Nat.lt_of_lt_of_le hlt hb.size,fun k s hz=>?_⟩;obtain⟨c1,c2,c3,c4⟩:=hc k s hz;exact⟨(hb.cell (p:=⟨b,off+k*4,none⟩) hlt).trans c1,(hb.cell (p:=⟨b,off+k*4+1,none⟩) hlt).trans c2,(hb.cell (p:=⟨b,off+k*4+2,none⟩) hlt).trans c3,(hb.cell (p:=⟨b,off+k*4+3,none⟩) hlt).trans c4⟩
theorem Fac.refl(R C:Nat)(F:Nat->Nat->Int):Fac R C F F:=⟨idf,idf,fun a ha b hb=>by
 rw[<-zEU ha fun s=>zI C fun t=>F s t*idf t b,zDc hb]⟩
theorem Fac.congr{R C:Nat}{F G G':Nat->Nat->Int}(h:Fac R C F G)(e:∀a,a<R->∀b,b<C->G' a b=G a b):Fac R C F G':=by
 obtain⟨P,Q,h⟩:=h;exact⟨P,Q,fun a ha b hb=>(e a ha b hb).trans (h a ha b hb)⟩
theorem Fac.trans{R C:Nat}{F G H:Nat->Nat->Int}(h:Fac R C F G)(k:Fac R C G H):Fac R C F H:=by
 obtain⟨P,Q,h⟩:=h;obtain⟨P',Q',k⟩:=k;refine⟨fun a s=>zI R fun m=>P' a m*P m s,fun t b=>zI C fun m=>Q t m*Q' m b,fun a ha b hb=>?_⟩;rw[k a ha b hb];have e1:∀m,m<R->zI C (fun t=>G m t*Q' t b)=zI R fun s=>P m s*zI C fun t=>F s t*zI C fun m'=>Q t m'*Q' m' b:=fun m hm=>by
  have e2:∀t,t<C->G m t*Q' t b=zI R fun s=>P m s*zI C fun t'=>F s t'*(Q t' t*Q' t b):=fun t ht=>by
   rw[h m hm t ht,<-jG];refine zD fun s _=>?_
   rw[Int.mul_assoc,<-jG];congr 1;exact zD fun t' _=>Int.mul_assoc _ _ _
  rw[zD e2,yB];refine zD fun s _=>?_
  rw[zY,yB];congr 1;exact zD fun t' _=>zY _ _ _
 have e3:∀m,m<R->P' a m*zI C (fun t=>G m t*Q' t b)=zI R fun s=>(P' a m*P m s)*zI C fun t=>F s t*zI C fun m'=>Q t m'*Q' m' b:=fun m hm=>by
  rw[e1 m hm,<-zY];exact zD fun s _=>(Int.mul_assoc _ _ _).symm
 rw[zD e3,yB];exact zD fun s _=>jG _ _ _
theorem Fac.rows{R C:Nat}{F G P:Nat->Nat->Int}(h:∀a,a<R->∀b,b<C->G a b=zI R fun s=>P a s*F s b):Fac R C F G:=⟨P,idf,fun a ha b hb=>by
 rw[h a ha b hb];exact zD fun s _=>by rw[zDc hb fun t=>F s t]⟩
theorem Fac.tr{R C:Nat}{F G:Nat->Nat->Int}(h:Fac R C F G):Fac C R (trF F) (trF G):=by
 obtain⟨P,Q,h⟩:=h;refine⟨fun a s=>Q s a,fun t b=>P b t,fun a ha b hb=>?_⟩;show G b a=_;rw[h b hb a ha];simp only[<-zY];rw[yB];refine zD fun t _=>zD fun s _=>?_
 show P b s*(F s t*Q t a)=Q t a*(F s t*P b s);grind
theorem Fac.ops{R C:Nat}{l:List Op}(hl:qJ R l)(F:Nat->Nat->Int):Fac R C F (zA1 l F)/\Fac R C (zA1 l F) F:=
 ⟨Fac.rows (P:=zA1 l idf) fun a ha b _=>zDY hl F a ha b,Fac.rows (P:=fun a s=>zGF l idf s a) fun a ha b _=>zC8 hl F a ha b⟩
structure ChI(R C M i:Nat)(F0 F:Nat->Nat->Int):Prop where
 to_:Fac R C F0 F
 back:Fac R C F F0
 le:leM (M*3^i) R C F
theorem ChI.next{R C M i:Nat}{F0 F G:Nat->Nat->Int}(h:ChI R C M i F0 F)(h1:Fac R C F G)(h2:Fac R C G F)(h3:leM (M*3^i*3) R C G):ChI R C M (i+1) F0 G:=
 ⟨h.to_.trans h1,h2.trans h.back,by rwa[Nat.pow_succ,<-Nat.mul_assoc]⟩
theorem ChI.same{R C M i:Nat}{F0 F:Nat->Nat->Int}(h:ChI R C M i F0 F):ChI R C M (i+1) F0 F:=h.next (Fac.refl _ _ _) (Fac.refl _ _ _) (h.le.mono oM)
theorem ChI.add{R C M i x y:Nat}{k:Int}{F0 F:Nat->Nat->Int}(h:ChI R C M i F0 F)(hx:x<R)(hy:y<R)(hxy:x≠y)(hk:k.natAbs<=2):ChI R C M (i+1) F0 (jL F x y k):=by
 obtain⟨h1,h2⟩:=Fac.ops (C:=C) (l:=[.add x y k]) (qJ.cons ⟨hx,hy,hxy⟩ qJ.nil) F;exact h.next h1 h2 ((zHa h.le hx hy).mono (Nat.mul_le_mul_left _ oM))
theorem ChI.swap{R C M i x y:Nat}{F0 F:Nat->Nat->Int}(h:ChI R C M i F0 F)(hx:x<R)(hy:y<R):ChI R C M (i+1) F0 (fun a b=>F (swp x y a) b):=by
 obtain⟨h1,h2⟩:=Fac.ops (C:=C) (l:=[.swap x y]) (qJ.cons ⟨hx,hy⟩ qJ.nil) F;exact h.next h1 h2 fun a ha b hb=>Nat.le_trans (h.le _ (zFc hx hy ha) b hb) oM
def zQh(F:Nat->Nat->Int)(x y:Nat):Nat->Nat->Int:=fun a b=>if b=x then-(F a y)else if b=y then F a x else F a b
def zQ1(F:Nat->Nat->Int)(x y r:Nat):Nat->Nat->Int:=fun a b=>if a<r then zQh F x y a b else F a b
theorem Blk.ne{w:World}{a b:Nat}{T T':TypeId}{cs cs':Array Value}(h:Blk w a T cs)(k:Blk w b T' cs')(hT:T≠T'):a≠b:=by
 rintro rfl;unfold Blk at h k;rw[h]at k;injection k with k
 injection k with k1 k2
 exact hT k2
theorem zJ.blk{w:World}{base g n cap C:Nat}{bs:List Nat}{M:List (List Int)}(h:zJ w base (.slice (some ⟨g,0,none⟩) n cap) C bs M):base<=g/\∃cs,Blk w g tR cs:=by
 rcases h.own.2 with⟨e,-⟩|⟨g',cap',cur,e,e2,e3,-⟩
 ·cases e
 ·injection e with e8 e9 e10
  injection e8 with e8
  injection e8 with e8
  subst e8;exact⟨e2,cur,e3⟩
theorem yQ.below{S:List Nat}{B:Nat}{w a b:World}(h:Below B w a)(ho:yQ S a b)(hS:∀k∈S,B<=k)(hsz:B<=a.heap.size):Below B w b:=
 ⟨ho.bel.os.trans h.os,ho.bel.tape.trans h.tape,ho.bel.output.trans h.output,Nat.le_trans h.size ho.bel.size,fun k hk=>(ho.old k oM (fun hh=>by have:=hS k hh;omega)).trans (h.block k hk)⟩
theorem yQ.blk{S:List Nat}{w w':World}{g:Nat}{T:TypeId}{cs:Array Value}(h:Blk w g T cs)(ho:yQ S w w')(hg:g ∉ S):Blk w' g T cs:=(ho.old g h.lt hg).trans h
end Go.Proofs.YtgnmdddaiefooaaGreat
