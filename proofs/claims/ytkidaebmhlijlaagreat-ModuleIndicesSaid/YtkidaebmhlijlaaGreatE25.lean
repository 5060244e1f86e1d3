/- Joined. -/
import Derived.Test.YtkidaebmhlijlaaGreatE24
set_option linter.unusedVariables false
set_option linter.unusedSimpArgs false
set_option linter.unusedSectionVars false
set_option maxHeartbeats 16000000
set_option maxRecDepth 100000
variable{T:Array Go.Value}{s:Bool}{z:Int}{M:List (List Int)}{B C R b c g i j k l n r:Nat}{F G:Nat->Nat->Int}{Z:Nat->Prop}{a:Option Go.Addr}{P:Prop}{v:Go.Value}{w w':Go.World}
namespace Go.Proofs.YtkidaebmhlijlaaGreat
open Go.RowKit
theorem zFz.keepZ{base:Nat}{xs:List Nat}(h:zFz w base v xs)(i:qK Z w w')(j:∀g,v.ownBlock=some g->¬ Z g):zFz w' base v xs:=by
 obtain⟨e,f,a⟩:=id h;refine⟨e,f,?_⟩;rcases a with a|⟨g,c,d,rfl,k,b,l⟩
 exact .inl a;exact .inr ⟨g,c,d,rfl,k,(i.old g (Array.getElem?_eq_some_iff.1 b).1 (j g rfl)).trans b,l⟩
abbrev tMt:TypeId:=32
theorem zLE(hB:BSd B)(v:Value)(M:List (List Int))(R C:Nat)(w:World)(h:zG3 w v R C M)(hF:zBW R C M)(hR:R<=1000000)(hC:C<=1000000)(d1:okF B R C (ent M))(s1:Sm 1){x0:Bst}(k0:x0.s=ent M){a3 J':Nat->Bst->List (Nat × Nat)->Prop}(hE:zXB B R C 0 a3 J')(D:a3 0 x0 []):
  CPq 59 #[v] w fun e w'=>∃v y L,e= .returned v/\a3 R y L/\zAQ w' v L.length C ((L.map (·.1)).map fun i=>yV C (y.s i))/\BWq w w':=by
 have h0:=h;obtain⟨k8,rfl,h⟩:=h;obtain⟨ao,n,l1,rfl,K,e3,e4,-⟩:=id h;obtain rfl:R=n:=by rw[<-K,hF.1]
 have c4:decide (zBX R C M)=true:=zQ hF.valid;have HF:=xgv hF;have d9:=xgv d1;have H0:=xgv h0;have S1:=xgv s1;have HE:=xgv hE;have HJ:=xgv D;clear d1 h0 hF K s1 hE D;go_enter Tryz.func59,Tryz.ntmps59;go_upto_region 1 with(fail)
 refine zF ?_;intro W0 c2;obtain⟨b7,u,c,l7⟩:=zAU c2;have J:=u.three;clear c2;go_wp2_with fail
 refine(zGZ _ R C M W0 (H0.out.I b7)).mono ?_;rintro e w1 ⟨rfl,Y⟩;rw[c4];have u:=u.I Y;have c:=c.I Y;have b8:=nx b7 Y;have l8:=Y.size;clear J c4;have J:=u.three;go_wp2_with fail
 refine(zN2 hB.bsm _ M R C w1 (H0.out.I b8) HF.out hR hC d9.out S1.out).mono ?_;rintro e o ⟨v,rfl,i8,Z⟩;obtain⟨bw,Ah,Au,Av,rfl,q1,q2,⟨z,q,k2⟩,q3,q4⟩:=i8;have g4:=nx b8 Z;have c:=c.I Z;have u:=u.I Z;have l9:=Z.size;clear J;have J:=u.three;go_upto_region 5 with(fail)
 refine zF ?_;intro W3 c3;obtain⟨A,j,m0⟩:=qJ c3;have m9:=q2.lt;have b9:=nx g4 A;have q2:=q2.I A;have c:=c.I A;have q:=q.I A;have q3:=q3.I A;have q4:=q4.I A;have h4:∀g,Ah.ownBlock=some g->¬ g∈z:=fun g hg Q=>q.rown q Q hg
 have d4:zEV false (fun b=>b∈z) W3 bw Ah R C 0 x0:=⟨rfl,Au,Av,z,q2,by rw[k0];exact q,q3,q4,fun b d=>d⟩;have i0:¬ o.heap.size∈z:=fun Q=>q.nzb j dE dE (.inl Q)
 have h9:¬ (w.heap.size+1)∈z:=fun Q=>q.nzb c dE dE (.inl Q)
 have k1:∀b,b∈z->b<W3.heap.size:=fun b d=>q.zlt (.inl d)
 clear c3 J;go_wp2_with fail
 refine(zQF hB HE.out d4 HJ.out hR hC oM k1 h4).mono ?_;rintro e I ⟨pv,y,a,rfl,m,hz,D,hP⟩;obtain⟨i3,X⟩:=HE.out.ok R y a D;have j:=m.blk j i0;have c:=m.blk c h9;have c0:BWq w I:=zCs b9 (m.mono (Z':=fun k=>w.heap.size<=k) (fun k _ P=>by have:=k2 k (.inl P);omega)) (xgf _) b9.size;obtain⟨-,k9,l0,l,r1,r2,-,-,r5⟩:=hz;have l2:a.length<=R:=X.len;have c8:=zLa X;have c7:∀k,k<a.length->zB6 a k<R:=fun k P=>(X.mem k P).2.1
 obtain⟨po,k4,rfl,-,-,-⟩:=hP.at_;obtain⟨so,k5,rfl⟩:=r2.shape;have b5:=xgv r2;have HP:=xgv hP;have d7:=xgv c8;have b3:=xgv c7;have HJ:=xgv D;have m5:=m.bel.size;have l5:=c.lt;simp only[List.length_map];clear hP D c8 X i3 d4;have d5:∀b,Zn (.slice so R k5) l b->¬ b=o.heap.size:=by rintro b d rfl;exact b5.out.nzb j dE dE d
 have d0:∀g,(Value.slice po (a.map (·.1)).length k4).ownBlock=some g->¬ g=o.heap.size:=by rintro g hg rfl;exact HP.out.ne j dE hg
 have f0:=xgv d5;have b4:=xgv d0;have l3:=j.lt;obtain⟨U,a8⟩:∃n,(a.map (·.1)).length=n:=⟨_,rfl⟩;have h7:a.length=U:=by rw[<-a8];simp
 rw[a8]at HP b4;clear d5 d0 r2 a8;go_wp2;go_loopw [19] (fun iv wr=>∃(k:Nat) (v:Value),iv= .int .i64 k/\k<=U/\zEK wr I.heap.size v C ((a.take k).map fun p=>l.getD p.1 0) ((a.take k).map fun p=>yV C (y.s p.1))/\Blk wr o.heap.size tMt #[.int .i64 k,.int .i64 C,v]/\qK (fun b=>b=o.heap.size) I wr) (fun iv _=>U-(intOf iv).toNat)
 case atStart=>exact⟨0,_,rfl,oM,zEK.nil _ _ _ oM,j,qK.refl _ _⟩
 clear j;obtain⟨k,uv,rfl,P,hx,j,m⟩:=hrel;obtain⟨vo,vn,vc,rfl⟩:=hx.shape;have E:=b5.out.keepZ m f0.out;have l4:=j.lt;have m7:=m.bel.size;have r1:=m.blk r1 oM;obtain⟨f1,f2,f3,f4,f5,f6⟩:=j.three;obtain⟨g1,g2,g3,-,-,-⟩:=r1.three;have c:=m.blk c oM;have e0:=xgv (HP.out.keepZ m b4.out);by_cases c7:k<U
 .have a9:k<a.length:=oM
  obtain⟨i,O⟩:∃i,(a.map (·.1))[k]?=some i:=⟨_,xga (by simpa using a9)⟩;obtain⟨V,a2⟩:∃V,a[k]?=some V:=⟨_,xga a9⟩;have a1:V.1=i:=by rw[List.getElem?_map,a2]at O;simpa using O
  have c6:zB6 a k=i:=by unfold zB6;rw[xgb,a2];exact a1
  have a7:i<R:=by rw[<-c6];exact b3.out k a9
  obtain⟨og,oc,eo,lo,q0⟩:=e0.out.cell O;injection eo with f7 f8 f9
  subst f7;obtain⟨g,x,eg,lg,a0,-,o1,-⟩:=qH.at_ E (i:=i) (by rw[E.len];exact a7);subst eg;have i5:=E.rowAt a7 a0;have T:∀{k7:Type} (f:Nat × Nat->k7),(a.take (k+1)).map f=(a.take k).map f++ [f V]:=fun f=>by
   rw[jH,zBl,a2];rfl
  have e8:=xgv (T fun p=>l.getD p.1 0);have e9:=xgv (T fun p=>yV C (y.s p.1));have e7:=xgv a1;have c5:l.getD V.1 0=x:=by rw[a1,xgb,a0];rfl
  have c9:∀b∈(a.take k).map (fun p=>l.getD p.1 0),b≠x:=by
   intro b g6 g8;subst g8;obtain⟨p,hp,he⟩:=List.mem_map.1 g6;obtain⟨t,i9,b0⟩:=qZ hp;rw[zDD]at b0;have m8:t<k:=by simp at i9;omega
   have i6:zB6 a t=p.1:=by unfold zB6;rw[xgb,xga oM,b0];rfl
   have d3:p.1<l.length:=by rw[E.len,<-i6];exact b3.out t oM
   have h5:i<l.length:=by rw[E.len];exact a7
   have e1:l.getD p.1 0=l[p.1]:=by rw[xgb,xga d3];rfl
   have K:l[i]=b:=(xge.1 a0).2;have h6:p.1=i:=(jN (h₀:=d3) (h₁:=h5) (qH.nodup E)).1 (by rw[<-e1,K];exact he);have h1:(a.map (·.1))[t]'(by simp;omega)=p.1:=by simp[b0]
   have h2:(a.map (·.1))[k]'(by simp;omega)=i:=(xge.1 O).2;have:=(jN (h₀:=(by simp;omega:t<(a.map (·.1)).length)) (h₁:=(by simp;omega:k<(a.map (·.1)).length)) d7.out).1 (by rw[h1,h2,h6]);omega
  have l6:=zLL x C;have g9:((a.take k).map fun p=>l.getD p.1 0).length=k:=by simp;omega
  have d8:=xgv c9;have d6:=xgv c5;clear T c9 c5 O a0 a1 c6 a2 f8 f9;go_upto_region 8 with(fail)
  refine yA 10 [pcD 9 [] (SlR x C)] ?_;refine sRd ?_;refine sRc (fun wS hI Gk hG=>?_) (fun k6 _=>?_)
  .go_simp
   exact⟨hG _ _ ⟨_,rfl,yG _ _ _⟩,(zC _ _).alloc (xgf _) _⟩
  refine sRe ?_;intro w7 N g7;obtain⟨gs,rfl,i7⟩:SlR x C w7 k6:=g7;have b2:=hx.I N;have b6:=j.I N;have i4:=i5.I N;have a4:=m.trans (qK.of (fun b=>b=o.heap.size) N);have k3:=b6.lt;have m6:=N.size;clear o1 f3 q0 f1 f2 f4 f5 f6;go_wp2_with (at_builtin;refine qA9 rfl _ _ rfl I.heap.size (.slice vo vn vc) C _ _ rfl b2 gs 1 x _ rfl i7 i4 (qN _ _) d8.out (by rw[g9];omega) oM ?_;intro v' w' d2 a6 h8;obtain⟨H,G,F,rfl⟩:=d2.shape;have s:=(a6.block _ k3 (fun e=>by have:=(b2.ownb _ e.symm).1;omega)).trans b6;obtain⟨f1,f2,f3,f4,f5,f6⟩:=Blk.three (t:=32) s)
  have s:Blk w' o.heap.size tMt #[.int .i64 k,.int .i64 C,.slice vo vn vc]:=s;have a5:qK (fun b=>b=o.heap.size) I w':=⟨a4.bel.grown a6 (zH _) (fun _ _=>zH _),a4.lext.trans h8,fun b d S=>(a6.block b oM (fun e=>by have:=(b2.ownb _ e.symm).1;omega)).trans (a4.old b d S)⟩;go_roundw
  case rel=>
   have hX:zEK (w'.setCell ⟨o.heap.size,2,none⟩ (.slice H G F)) I.heap.size (.slice H G F) C ((a.take (k+1)).map fun p=>l.getD p.1 0) ((a.take (k+1)).map fun p=>yV C (y.s p.1)):=by
    rw[e8.out,e9.out,d6.out,e7.out];exact d2.off s dE oM (fun b d=>qC _ _ _ b _ d) (s.lext dE _ _)
   have W:Blk (w'.setCell ⟨o.heap.size,2,none⟩ (.slice H G F)) o.heap.size tMt #[.int .i64 k,.int .i64 C,.slice H G F]:=by simpa using s.set_ 2 (.slice H G F)
   refine⟨k+1,.slice H G F,by simp,oM,hX.off W dE oM (fun b d=>qC _ _ _ b _ d) (W.lext dE _ _),by simpa using W.set_ 0 (.int .i64 ((k:Int)+1)),?_⟩;exact⟨yB (yB a5.bel (zH _) _ _) (zH _) _ _,(a5.lext.trans (s.lext dE _ _)).trans (W.lext dE _ _),fun b d S=>(qC _ _ _ _ _ S).trans ((qC _ _ _ _ _ S).trans (a5.old b d S))⟩
  case measure=>exact meq
 obtain rfl:k=U:=oM;obtain⟨e1,K,e3,e4,e5,e6⟩:=c.three;have T:a.take k=a:=jM oM;rw[T]at hx;have g5:BWq w wr:=zCs c0 (m.mono (Z':=fun k=>w.heap.size<=k) (fun k _ P=>by omega)) (xgf _) c0.size;go_wp2;refine zAD (r:=w.heap.size+1) rfl rfl rfl (c.put3 _ _ _) ⟨_,y,a,rfl,HJ.out,?_,yB (yB (yB g5 oM _ _) oM _ _) oM _ _⟩;rw[h7];have h2:=qH.rows (hx.off c dE oM (fun b h3=>zAm _ _ b _ _ _ h3) (c.lext3 dE (.int .i64 k) (.int .i64 C) (.slice vo vn vc))).rows0;refine⟨_,rfl,?_⟩;rw[List.map_map];exact h2
structure zJY(R C r:Nat)(c:Nat->Nat)(A H:Nat->Nat->Int):Prop where
 hnf:Hnf C R r c H
 sp:zKl R C H A
 sp':zKl R C A H
theorem zEh.lat{c:Nat->Nat}{A H U V:Nat->Nat->Int}(h:zEh R C r c A H U V):zJY R C r c A H:=⟨h.hnf,h.sp,h.sp'⟩
theorem zNT{M0:Nat}(f:1<=M0)(v:Value)(M:List (List Int))(R C:Nat)(w:World)(h:zG3 w v R C M)(hF:zBW R C M)(x:R<=6)(s:C<=1000000)(m:gk (es R) M0<BD)(l:leM M0 R C (ent M)):
  CPq 59 #[v] w fun e w'=>∃v r c H U V,e= .returned v/\zEh R C r c (ent M) H U V/\zAQ w' v r C (genM r C H)/\BWq w w':=by
 have p:=zJT;have q:leB M0 R C 0 ⟨ent M,idf,idf⟩:=⟨l,fun _ _ b g=>oM,fun _ _ b g=>oM⟩;have t:=zTG (r:=R) (Cs:=C) (x0:=⟨ent M,idf,idf⟩) (Ct:=0) x f (zI (zEj f (zXI R R)) m) RkB.all;have u:M0<BD:=zI (zKn _ f) m;refine(zLE p v M R C w h hF oM s (l.ok u) (zFC (z:=1) dE).sm (x0:=⟨ent M,idf,idf⟩) rfl t (zQJ q f)).mono ?_;rintro G w' ⟨v,y,L,rfl,d,k,g⟩;obtain⟨d,F⟩:=JH.fin d;have D:=zMe (d.lok (xgf _)) (fun a A E=>by rw[zFh (d.zero a A E)];decide);have B:=zMF d F D;refine⟨v,L.length,_,_,_,_,rfl,B,?_,g⟩;rw[zJK (n:=L.length) sI]at k;have e:genM L.length C (fun a b=>y.s ((L.map (·.1)).getD a 0) b)=genM L.length C fun a b=>y.s (zGv R C y.s L a) b:=jX fun i o j _=>by
  rw[zGb o];unfold zB6;rw[xgb,List.getElem?_map,xgb,xga o];rfl
 rw[e]at k;exact k
def zF4(C:Nat)(F:Nat->Nat->Int)(i:Nat):Prop:=
 lead C F i<0∨∃c:Nat,lead C F i=(c:Int)/\(∀k,k<i->0<=lead C F k/\lead C F k<c)/\0<F i c/\∀k,k<i->0<=F k c/\F k c<F i c
def zSg(R C:Int)(M:List (List Int)):Prop:=zBX R C M/\∀i,i<M.length->zF4 C.toNat (ent M) i
theorem zF4.split{C:Nat}{F:Nat->Nat->Int}:∀n,(∀i,i<n->zF4 C F i)->∃r,r<=n/\(∀k,k<r->0<=lead C F k)/\∀k,r<=k->k<n->lead C F k<0
 |0,_=>⟨0,xgf _,fun k a=>oM,fun k _ a=>oM⟩
 | n+1,h=>by
  obtain⟨r,m,b,d⟩:=zF4.split n fun i o=>h i oM
  rcases h n oM with l|⟨c,f,a,-⟩
  .refine⟨r,oM,b,fun k g j=>?_⟩
   by_cases e:k=n
   .rw[e];exact l
   exact d k g oM
  refine⟨n+1,xgf _,fun k j=>?_,fun k _ _=>oM⟩;by_cases e:k=n
  .rw[e,f];omega
  exact(a k oM).1
theorem zOu(h:∀i,i<n->zF4 C F i):∃r c,Hnf C n r c F:=by
 obtain⟨r,m,d,p⟩:=zF4.split n h;have o:∀k,k<r->∃c:Nat,lead C F k=(c:Int)/\(∀j,j<k->0<=lead C F j/\lead C F j<c)/\0<F k c/\∀j,j<k->0<=F j c/\F j c<F k c:=fun k b=>by
  rcases h k oM with hl|hl
  have:=d k b;omega;exact hl
 refine⟨r,fun k=>(lead C F k).toNat,m,⟨fun k b=>zTn (by have:=d k b;omega),fun k b=>?_,fun k b t g=>?_,fun k l u hl=>?_⟩,fun i j q s _=>?_,fun a m d t g=>zHk (p a m d) t g⟩
 .obtain⟨c,e,-,v,-⟩:=o k b
  simp only[e,Int.toNat_natCast];exact v
 .obtain⟨c,e,f,x,w⟩:=zHl (C:=C) (F:=F) (i:=k) (by have:=d k b;omega)
  simp only[e,Int.toNat_natCast]at g;exact w t g
 .obtain⟨c,e,f,-⟩:=o l hl
  have:=f k u;simp only[e,Int.toNat_natCast];omega
 obtain⟨c,e,-,-,f⟩:=o j s;simp only[e,Int.toNat_natCast];exact f i q
theorem Hnf.lead_lo{c:Nat->Nat}(h:Hnf C n r c F)(a:k<r):lead C F k=(c k:Int):=h.ech.lead a
theorem Hnf.lead_hi{c:Nat->Nat}(h:Hnf C n r c F)(h1:r<=k)(h2:k<n):lead C F k=-1:=zFh (h.zero k h1 h2)
theorem zPe{c:Nat->Nat}(h:Hnf C n r c F)(d:i<n):zF4 C F i:=by
 rcases zK i r with a|a
 .refine .inr ⟨c i,h.lead_lo a,fun k b=>?_,h.ech.pos i a,fun k b=>h.red k i b a trivial⟩
  rw[h.lead_lo (k:=k) oM];have:=h.ech.inc k i b a;omega
 exact .inl (by rw[h.lead_hi a d];decide)
theorem zF4.congr(f:i<n)(e:∀a,a<n->∀b,b<C->G a b=F a b)(h:zF4 C F i):zF4 C G i:=by
 have j:∀k,k<n->lead C G k=lead C F k:=fun k d=>zRW (e k d)
 rcases h with h|⟨c,l,m,o,p⟩
 exact .inl (by rw[j i f];exact h);have g:=(zDu l).1;refine .inr ⟨c,by rw[j i f];exact l,fun k d=>by rw[j k oM];exact m k d,by rw[e i f c g];exact o,fun k d=>by rw[e i f c g,e k oM c g];exact p k d⟩
theorem zNX:zSg R C (genM R C F)↔∃r c,Hnf C R r c F:=by
 have g:(genM R C F).length=R:=(jJ R C F).1;constructor
 .rintro⟨-,h⟩
  rw[g]at h;exact zOu fun i d=>(h i d).congr (F:=ent (genM R C F)) d fun a e b f=>(yZ e f).symm
 rintro⟨r,c,h⟩;refine⟨(jJ R C F).valid,fun i d=>?_⟩;rw[g]at d;exact(zPe h d).congr d fun a e b f=>yZ e f
def zSi(P:Prop)(w:World)(e:Ending)(w':World):Prop:=∃b,e= .returned (.bool b)/\(b=true↔P)/\BWq w w'
theorem zSi.no(h:¬ P)(a:BWq w w'):zSi P w (.returned (.bool false)) w':=⟨false,rfl,⟨nofun,fun b=>absurd b h⟩,a⟩
theorem zSi.yes(h:P)(a:BWq w w'):zSi P w (.returned (.bool true)) w':=⟨true,rfl,⟨fun _=>h,fun _=>rfl⟩,a⟩
theorem zBg.take{c:Option Addr}{d:Nat}(h:zBg w (.slice c n d) M)(v:i<=n):zBg w (.slice c i d) (M.take i):=by
 obtain⟨r,x,s,f,t,u,g,j⟩:=h;cases f;refine⟨_,_,_,rfl,by simp;omega,oM,g,fun p=>?_⟩;obtain⟨b,e,l,m,o⟩:=j (by rintro rfl;simp at p);refine⟨b,e,l,m,fun k q a=>o k q ?_⟩;rw[List.getElem?_take]at a;split at a;exact a;cases a
theorem zBW.row_eq(h:zBW R C M){zs:List Int}(a:M[i]?=some zs):zs=yV C (ent M i):=by
 have c:=h.2 zs (xgd a);refine qX (by simp[yV,c]) fun j b d=>?_
 simp only[yV,List.getElem_map,List.getElem_range];rw[zFE a (xga b)]
structure qBK(C:Nat)(F:Nat->Nat->Int)(i:Nat)(last:Int)(en:Bool):Prop where
 ok:∀k,k<i->zF4 C F k
 ended:en=true↔∃k,k<i/\lead C F k<0
 lst:en=false->∀c:Int,0<=c->(last<c↔∀k,k<i->lead C F k<c)

theorem qAl(d f:Value)(R m C:Nat)(a b:List (List Int))(w:World)(h1:zAQ w d R m a)(h2:zAQ w f m C b)(i:zBW R m a)(j:zBW m C b)(l:R<=1000000)(r:m<=1000000)(g:C<=1000000)(p:zGh a b R m C):
  CPq 65 #[d,f] w fun e w'=>∃o c k,e= .returned (.tuple #[.agg #[niq R,niq C,.slice o c k],niq 0])/\zAQ w' (.agg #[niq R,niq C,.slice o c k]) R C (genM R C (zHU a b m))/\BWq w w':=by
 refine(zWE d f R m C a b w h1 h2 i j l r g p).mono ?_;rintro e w' ⟨v,t,rfl,h,q⟩;obtain⟨A,rfl,s,n,u,rfl,x⟩:=h.mat.1;exact⟨_,_,_,rfl,h.mat.1,q⟩
theorem Blk.nine{t:TypeId}{a b c d e f i j k:Value}(h:Blk w g t #[a,b,c,d,e,f,i,j,k]):
  w.cell? ⟨g,0,none⟩=some a/\w.cell? ⟨g,1,none⟩=some b/\w.cell? ⟨g,2,none⟩=some c/\w.cell? ⟨g,3,none⟩=some d/\w.cell? ⟨g,4,none⟩=some e/\w.cell? ⟨g,5,none⟩=some f/\w.cell? ⟨g,6,none⟩=some i/\w.cell? ⟨g,7,none⟩=some j/\w.cell? ⟨g,8,none⟩=some k:=
 ⟨h.cell 0,h.cell 1,h.cell 2,h.cell 3,h.cell 4,h.cell 5,h.cell 6,h.cell 7,h.cell 8⟩
structure qBJ(w:World)(f:Value)(hr hc:Int)(H:List (List Int))(ur uc:Int)(U:List (List Int))(vr vc:Int)(V:List (List Int)):Prop where
 ex:∃h u v,f= .agg #[niq hr,niq hc,h,niq ur,niq uc,u,niq vr,niq vc,v]/\zBg w h H/\zBg w u U/\zBg w v V
structure qBE(R C:Nat)(A:List (List Int))(hr hc:Int)(H:List (List Int))(ur uc:Int)(U:List (List Int))(vr vc:Int)(V:List (List Int)):Prop where
 is:zSg hr hc H
 er:hr=R
 ec:hc=C
 u:ur=R/\uc=R/\zBX ur uc U
 v:vr=R/\vc=R/\zBX vr vc V
 mul:genM R C (zHU U A R)=H
 inv:genM R R (zHU U V R)=genM R R idf
abbrev tWk:TypeId:=155
def upR(F G:Nat->Nat->Int)(i c:Nat):Nat->Nat->Int:=fun a b=>if a=i/\b<c then G a b else F a b
def upC(F G:Nat->Nat->Int)(j r:Nat):Nat->Nat->Int:=fun a b=>if b=j/\a<r then G a b else F a b
def zUI(F:Nat->Nat->Int)(i c:Nat)(z:Int):Nat->Nat->Int:=fun a b=>if a=i/\b=c then z else F a b
theorem zJR(F G:Nat->Nat->Int)(i:Nat):upR F G i 0=F:=by funext a b;unfold upR;rw[zA oM]
theorem zQr(F G:Nat->Nat->Int)(j:Nat):upC F G j 0=F:=by funext a b;unfold upC;rw[zA oM]
theorem zMq(f:z=G i c):zUI (upR F G i c) i c z=upR F G i (c+1):=by
 subst f
 funext a b
 unfold zUI upR;by_cases e:a=i/\b=c
 .obtain⟨rfl,rfl⟩:=e
  rw[zB ⟨rfl,rfl⟩,zB ⟨rfl,oM⟩]
 rw[zA e];by_cases d:a=i/\b<c
 .rw[zB d,zB ⟨d.1,oM⟩]
 rw[zA d,zA (fun h=>d ⟨h.1,oM⟩)]
theorem zVD(e:z=G r j):zUI (upC F G j r) r j z=upC F G j (r+1):=by
 subst e
 funext a b
 unfold zUI upC;by_cases d:a=r/\b=j
 .obtain⟨rfl,rfl⟩:=d
  rw[zB ⟨rfl,rfl⟩,zB ⟨rfl,oM⟩]
 rw[zA d];by_cases c:b=j/\a<r
 .rw[zB c,zB ⟨c.1,oM⟩]
 rw[zA c,zA (fun h=>c ⟨h.1,oM⟩)]
theorem zQs(F G:Nat->Nat->Int)(i c:Nat):upR F G i c i c=F i c:=by unfold upR;rw[zA oM]
theorem zXl(c b:Nat)(h:i≠j):upR F G i c j b=F j b:=by unfold upR;rw[zA (fun e=>h e.1.symm)]
theorem zXk(F G:Nat->Nat->Int)(j r:Nat):upC F G j r r j=F r j:=by unfold upC;rw[zA oM]
theorem zZ9(r b:Nat)(h:j≠i):upC F G j r b i=F b i:=by unfold upC;rw[zA (fun e=>h e.1.symm)]
theorem oz2{u:Value}(c:zBq w ((w.setCell ⟨b,i,none⟩ u).setCell ⟨b,j,none⟩ v)):qK (fun k=>k=b) w ((w.setCell ⟨b,i,none⟩ u).setCell ⟨b,j,none⟩ v):=
 ⟨yB (yB (zC _ _) (zH _) _ _) (zH _) _ _,c,fun k _ a=>yL _ _ _ _ _ _ _ a⟩
section
variable {w:World} {A:Value} {g n cap R C:Nat} {bs:List Nat} {F:Nat->Nat->Int}
theorem Wri.congr(h:Wri w A R C bs F)(e:∀a,a<R->∀b,b<C->F a b=G a b):Wri w A R C bs G:=by
 unfold Wri at h ⊢
 rwa[<-jX e]
theorem Wri.base(h:Wri w A R C bs F)(a:0<R):∃g cap,A=slq g R cap:=by
 obtain⟨c,n,cap,rfl,-⟩:=id (qH.rows h);obtain⟨g,b,rfl,-,-,-,-,e⟩:=qH.at_ h (i:=0) (by rw[h.len];exact a);rw[h.len]at e;subst e;exact⟨g,cap,rfl⟩
theorem Wri.rowc(h:Wri w (slq g n cap) R C bs F)(f:i<R)(d:bs[i]?=some b):w.cell? ⟨g,i,none⟩=some (slq b C C):=by
 obtain⟨c,j,e,-,a,-,o,-⟩:=qH.at_ h (i:=i) (by rw[h.len];exact f);obtain rfl:g=c:=by injection e with e;injection e
 rw[d]at a;injection a with a
 subst a;exact o
theorem Wri.bex(h:Wri w A R C bs F)(a:i<R):∃b,bs[i]?=some b:=⟨_,xga (by rw[h.len];exact a)⟩
theorem Wri.elem(h:Wri w A R C bs F)(e:i<R)(d:bs[i]?=some b)(hc:c<C):
  ∃s a l k,w.cell? ⟨b,c*2,none⟩=some (.bool s)/\w.cell? ⟨b,c*2+1,none⟩=some (.slice a l k)/\w.frozen? ⟨b,c*2,none⟩=false/\w.frozen? ⟨b,c*2+1,none⟩=false/\jE w (.agg #[.bool s,.slice a l k]) (F i c):=by
 have:=qH.cellAt h d hc;rwa[yZ e hc]at this
theorem Wri.putc(h:Wri w A R C bs F)(g:i<R)(f:bs[i]?=some b)(hc:c<C)(hv:jE w (.agg #[.bool s,.slice a l k]) z):
  Wri ((w.setCell ⟨b,c*2,none⟩ (.bool s)).setCell ⟨b,c*2+1,none⟩ (.slice a l k)) A R C bs (zUI F i c z)/\qK (fun k=>k=b) w ((w.setCell ⟨b,c*2,none⟩ (.bool s)).setCell ⟨b,c*2+1,none⟩ (.slice a l k)):=by
 obtain⟨d,e,-⟩:=qH.set h f hc hv;rw[zDx z g hc]at d;exact⟨d,oz2 e⟩
theorem Wri.keep1(h:Wri w A R C bs F)(d:qK (fun k=>k=b) w w')(a:¬ Zn A bs b):Wri w' A R C bs F:=h.keepZ d fun k c e=>a (by rw[<-e];exact c)
end
structure K9(w:World)(bw:Nat)(AM AU AV:Value)(R C:Nat)(bm bu bv:List Nat)(S T V:Nat->Nat->Int):Prop where
 blk:Blk w bw tWk #[niq R,niq C,AM,niq R,niq R,AU,niq R,niq R,AV]
 m:Wri w AM R C bm S
 u:Wri w AU R R bu T
 v:Wri w AV R R bv V
 mu:Ap AM bm AU bu
 mv:Ap AM bm AV bv
 uv:Ap AU bu AV bv
section
variable {w w':World} {bw:Nat} {AM AU AV:Value} {R C:Nat} {bm bu bv:List Nat} {S T V:Nat->Nat->Int}
theorem K9.I(h:K9 w bw AM AU AV R C bm bu bv S T V)(a:BWq w w'):K9 w' bw AM AU AV R C bm bu bv S T V:=⟨h.blk.I a,h.m.I a,h.u.I a,h.v.I a,h.mu,h.mv,h.uv⟩
theorem K9.nm(h:K9 w bw AM AU AV R C bm bu bv S T V):¬ Zn AM bm bw:=h.m.nzb h.blk dE dE
theorem K9.nu(h:K9 w bw AM AU AV R C bm bu bv S T V):¬ Zn AU bu bw:=h.u.nzb h.blk dE dE
theorem K9.nv(h:K9 w bw AM AU AV R C bm bu bv S T V):¬ Zn AV bv bw:=h.v.nzb h.blk dE dE
theorem K9.putM(h:K9 w bw AM AU AV R C bm bu bv S T V)(m:i<R)(g:bm[i]?=some b)(hc:c<C)(hv:jE w (.agg #[.bool s,.slice a l k]) z):
  K9 ((w.setCell ⟨b,c*2,none⟩ (.bool s)).setCell ⟨b,c*2+1,none⟩ (.slice a l k)) bw AM AU AV R C bm bu bv (zUI S i c z) T V/\qK (fun k=>k=b) w ((w.setCell ⟨b,c*2,none⟩ (.bool s)).setCell ⟨b,c*2+1,none⟩ (.slice a l k)):=by
 obtain⟨j,d⟩:=h.m.putc m g hc hv;have f:Zn AM bm b:=.inl (xgd g);exact⟨⟨d.blk h.blk (fun e=>h.nm (by rw[e];exact f)),j,h.u.keep1 d (h.mu b f),h.v.keep1 d (h.mv b f),h.mu,h.mv,h.uv⟩,d⟩
theorem K9.putU(h:K9 w bw AM AU AV R C bm bu bv S T V)(n:i<R)(g:bu[i]?=some b)(hc:c<R)(hv:jE w (.agg #[.bool s,.slice a l k]) z):
  K9 ((w.setCell ⟨b,c*2,none⟩ (.bool s)).setCell ⟨b,c*2+1,none⟩ (.slice a l k)) bw AM AU AV R C bm bu bv S (zUI T i c z) V/\qK (fun k=>k=b) w ((w.setCell ⟨b,c*2,none⟩ (.bool s)).setCell ⟨b,c*2+1,none⟩ (.slice a l k)):=by
 obtain⟨j,d⟩:=h.u.putc n g hc hv;have f:Zn AU bu b:=.inl (xgd g);exact⟨⟨d.blk h.blk (fun e=>h.nu (by rw[e];exact f)),h.m.keep1 d (fun m=>h.mu b m f),j,h.v.keep1 d (h.uv b f),h.mu,h.mv,h.uv⟩,d⟩
theorem K9.putV(h:K9 w bw AM AU AV R C bm bu bv S T V)(n:i<R)(j:bv[i]?=some b)(hc:c<R)(hv:jE w (.agg #[.bool s,.slice a l k]) z):
  K9 ((w.setCell ⟨b,c*2,none⟩ (.bool s)).setCell ⟨b,c*2+1,none⟩ (.slice a l k)) bw AM AU AV R C bm bu bv S T (zUI V i c z)/\qK (fun k=>k=b) w ((w.setCell ⟨b,c*2,none⟩ (.bool s)).setCell ⟨b,c*2+1,none⟩ (.slice a l k)):=by
 obtain⟨m,d⟩:=h.v.putc n j hc hv;have g:Zn AV bv b:=.inl (xgd j);exact⟨⟨d.blk h.blk (fun e=>h.nv (by rw[e];exact g)),h.m.keep1 d (fun f=>h.mv b f g),h.u.keep1 d (fun f=>h.uv b f g),m,h.mu,h.mv,h.uv⟩,d⟩
theorem K9.congr{c d e:Nat->Nat->Int}(h:K9 w bw AM AU AV R C bm bu bv S T V)(f:∀a,a<R->∀b,b<C->S a b=c a b)(g:∀a,a<R->∀b,b<R->T a b=d a b)(i:∀a,a<R->∀b,b<R->V a b=e a b):K9 w bw AM AU AV R C bm bu bv c d e:=
 ⟨h.blk,h.m.congr f,h.u.congr g,h.v.congr i,h.mu,h.mv,h.uv⟩
def Z3(AM AU AV:Value)(bm bu bv:List Nat)(b:Nat):Prop:=Zn AM bm b∨Zn AU bu b∨Zn AV bv b
theorem K9.zlt(h:K9 w bw AM AU AV R C bm bu bv S T V)(hb:Z3 AM AU AV bm bu bv b):b<w.heap.size:=by
 rcases hb with hb|hb|hb
 exact h.m.zlt hb;exact h.u.zlt hb;exact h.v.zlt hb
end
def KW(Z:Nat->Prop)(w:World)(bw R C:Nat)(x:Bst):Prop:=∃AM AU AV bm bu bv,K9 w bw AM AU AV R C bm bu bv x.s x.t (fun a b=>x.i b a)/\∀b,Z3 AM AU AV bm bu bv b->Z b
theorem KW.I{g:Nat}{x:Bst}(h:KW Z w g R C x)(k:BWq w w'):KW Z w' g R C x:=by
 obtain⟨a,b,c,d,e,f,i,j⟩:=h;exact⟨a,b,c,d,e,f,i.I k,j⟩
def zf:Nat->Nat->Int:=fun _ _=>0
theorem zWF(R C:Nat)(w:World)(c:R<=1000000)(b:C<=1000000):CPq 108 #[niq R,niq C] w fun e w'=>∃v,e= .returned v/\zFu R C zf w.heap.size w'.heap.size w' v/\BWq w w':=
 (zJL R C w c b).mono fun e w' a=>by
  rw[zFX]at a;exact a.within
def nzL(l:List Int):List Int:=l.filter (fun z=>decide (z≠0))
theorem zJ5(v:Value)(C:Nat)(M:List (List Int))(w:World)(h:zAQ w v (0:Nat) C M)(hF:zBW 0 C M):
  CPq 72 #[v] w fun e w'=>∃v,e= .returned v/\zEt w' w.heap.size v []/\BWq w w':=by
 have d:=xgv h;obtain⟨R,b⟩:∃R:Nat,R=0:=⟨0,rfl⟩;rw[<-b]at d;obtain⟨A,rfl,h⟩:=h;obtain⟨o,n,cap,rfl,l,p,q,-⟩:=id h;have j:decide (zBX R C M)=true:=zQ (by rw[b];exact hF.valid);rw[<-b];clear l hF;go_enter Tryz.func72,Tryz.ntmps72;go_upto_region 1 with(fail)
 refine zF ?_;intro k i;obtain⟨g,a,r⟩:=qJ i;have f:=a.three;clear i;go_wp2_with fail
 refine(zDf _ R C M k (d.out.I g)).mono ?_;rintro e t ⟨rfl,c⟩;rw[j];have a:=a.I c;have m:=nx g c;have s:=c.size;clear f j;have f:=a.three;subst b;go_wp2;go_ret;exact⟨_,rfl,zEt.nil _ _,m⟩
theorem zQ7(h:n<=R)(h2:n<=C):zHa (genM R C F) n=yV n (fun i=>F i i):=by
 unfold zHa yV;refine zA7 fun k a=>?_
 have b:=yP.1 a;exact yZ oM oM
theorem zQO(l:List Int)(z:Int):nzL (l++ [z])=if z≠0 then nzL l++ [z]else nzL l:=by
 unfold nzL;by_cases h:z=0
 .simp[h]
 simp[h]
theorem zKo(hB:BSd B)(v:Value)(M:List (List Int))(R C:Nat)(w:World)(h:zAQ w v R C M)(hF:zBW R C M)(n2:0<R)(N:R<=1000000)(K:C<=1000000){f rr:Nat}{y:W5}(d8:okW B R C 0 0 ⟨ent M,zf,zf,zf,zf⟩)
  (e0:zIV B R C 0 0 f rr ⟨ent M,zf,zf,zf,zf⟩=some y) (d3:∀q,zOR (min R C) y q->∀i j,i<j->j<min R C->¬ q.s i i∣q.s j j->zSd B C 0 0 q i j) (d5:∀q,zOR (min R C) y q->∀i,i<min R C->(q.s i i).natAbs<B):
  CPq 72 #[v] w fun e w'=>∃v,e= .returned v/\zEt w' w.heap.size v (nzL (yV (min R C) (fun i=>divI (min R C) 0 y.s i i)))/\BWq w w':=by
 have i0:=hB.bsm;have S1:jI (Sm 1):=⟨(zFC (z:=1) dE).sm⟩;have H0:=xgv h;obtain⟨A,rfl,h⟩:=h;obtain⟨ao,n,cap,rfl,e2,e3,e4,-⟩:=id h;obtain rfl:R=n:=by rw[<-e2,hF.1]
 have d4:decide (zBX R C M)=true:=zQ hF.valid;have HF:=xgv hF;have b7:=xgv d8;have g7:=xgv e0;have g4:=xgv d3;have g5:=xgv d5;obtain⟨LL,a9⟩:∃LL:List Int,yV (min R C) (fun i=>divI (min R C) 0 y.s i i)=LL:=⟨_,rfl⟩;rw[a9];have g6:=xgv a9;clear d8 e0 d3 d5 hF e2 a9;go_enter Tryz.func72,Tryz.ntmps72;go_upto_region 1 with(fail)
 refine zF ?_;intro W0 c9;obtain⟨a6,D,o1⟩:=qJ c9;obtain⟨E,F,U,c4,c5,c6⟩:=D.three;clear c9;go_wp2_with fail
 refine(zDf _ R C M W0 (H0.out.I a6)).mono ?_;rintro e t ⟨rfl,b3⟩;rw[d4];have D:=D.I b3;have a7:=nx a6 b3;have o2:=b3.size;clear E F U c4 c5 c6 d4;obtain⟨E,F,U,c4,c5,c6⟩:=D.three;have n7:=zOx t.heap.size R C 0 0 ⟨ent M,zf,zf,zf,zf⟩;have n8:=zKr t.heap.size;have n3:¬ (R:Int)=0:=oM;go_upto_region 3 with(fail)
 refine zDT 18 rfl (RG t _ [⟨0,15,fun _ v=>v= .agg #[niq R,niq C,.slice ao R cap]⟩,⟨1,16,fun w v=>jE w v (1)⟩,⟨3,18,fun _ v=>v=ptq w.heap.size 0⟩,⟨4,19,fun _ v=>v=niq R⟩,⟨6,21,fun _ v=>v=ptq w.heap.size 0⟩,⟨7,22,fun _ v=>v=niq R⟩,⟨9,24,fun _ v=>v=ptq w.heap.size 1⟩,⟨10,25,fun _ v=>v=niq C⟩,⟨12,27,fun _ v=>v=ptq w.heap.size 1⟩,⟨13,28,fun _ v=>v=niq C⟩,⟨15,30,zMz t.heap.size R C 0 0 ⟨ent M,zf,zf,zf,zf⟩⟩,⟨16,31,zMz t.heap.size R C 0 0 ⟨ent M,zf,zf,zf,zf⟩⟩,⟨17,3,zOV t.heap.size⟩] [⟨2,17,R,C,ent M⟩,⟨5,20,R,0,zf⟩,⟨8,23,R,0,zf⟩,⟨11,26,C,0,zf⟩,⟨14,29,C,0,zf⟩]) kR RG.start ?fin1 ?steps1
 case steps1=>
  (repeat' constructor)<;>(intro m0 T wS L hd P hI l9 hK;try refine qI rfl ?_)
  .have zt:T[1]?=some (ptq w.heap.size 0):=hI.keep 1 sI sI
   have V:=hI.cell E;have n0:=hI.cell F;have n1:=hI.cell U;go_simp;exact hK _ _ (hI.y mm0 rfl)
  .go_simp
   refine(zGt 1 _ oM oM).mono ?_;rintro e Q ⟨v,rfl,o,m⟩;exact hK _ _ ((hI.world m).y mm1 o)
  .obtain⟨_,s6,rfl⟩:=hI.v mm0 (hd 0)
   obtain⟨v1,s7,h1⟩:=hI.v mm1 (hd 1);go_simp;refine(zYa i0 _ _ M R C _ ((H0.out.I a7).I hI.bel) HF.out h1 N K b7.out.1 S1.out).mono ?_;rintro e Q ⟨v,rfl,o,m⟩;exact hK _ _ (hI.mat P L ⟨2,17,_,_,_⟩ mm0 rfl m o kR)
  .have zt:T[1]?=some (ptq w.heap.size 0):=hI.keep 1 sI sI
   go_simp;exact hK _ _ (hI.y mm2 rfl)
  .obtain⟨_,t7,rfl⟩:=hI.v mm2 (hd 3)
   have V:=hI.cell E;go_simp;exact hK _ _ (hI.y mm3 rfl)
  .obtain⟨_,t8,rfl⟩:=hI.v mm3 (hd 4)
   go_simp;refine(zWF R 0 _ N (zH _)).mono ?_;rintro e Q ⟨v,rfl,o,m⟩;exact hK _ _ (hI.mat P L ⟨5,20,_,_,_⟩ mm1 rfl m o kR)
  .have zt:T[1]?=some (ptq w.heap.size 0):=hI.keep 1 sI sI
   go_simp;exact hK _ _ (hI.y mm4 rfl)
  .obtain⟨_,t9,rfl⟩:=hI.v mm4 (hd 6)
   have V:=hI.cell E;go_simp;exact hK _ _ (hI.y mm5 rfl)
  .obtain⟨_,v0,rfl⟩:=hI.v mm5 (hd 7)
   go_simp;refine(zWF R 0 _ N (zH _)).mono ?_;rintro e Q ⟨v,rfl,o,m⟩;exact hK _ _ (hI.mat P L ⟨8,23,_,_,_⟩ mm2 rfl m o kR)
  .have zt:T[1]?=some (ptq w.heap.size 0):=hI.keep 1 sI sI
   go_simp;exact hK _ _ (hI.y mm6 rfl)
  .obtain⟨_,v2,rfl⟩:=hI.v mm6 (hd 9)
   have V:=hI.cell F;go_simp;exact hK _ _ (hI.y mm7 rfl)
  .obtain⟨_,s8,rfl⟩:=hI.v mm7 (hd 10)
   go_simp;refine(zWF C 0 _ K (zH _)).mono ?_;rintro e Q ⟨v,rfl,o,m⟩;exact hK _ _ (hI.mat P L ⟨11,26,_,_,_⟩ mm3 rfl m o kR)
  .have zt:T[1]?=some (ptq w.heap.size 0):=hI.keep 1 sI sI
   go_simp;exact hK _ _ (hI.y mm8 rfl)
  .obtain⟨_,s9,rfl⟩:=hI.v mm8 (hd 12)
   have V:=hI.cell F;go_simp;exact hK _ _ (hI.y mm9 rfl)
  .obtain⟨_,t0,rfl⟩:=hI.v mm9 (hd 13)
   go_simp;refine(zWF C 0 _ K (zH _)).mono ?_;rintro e Q ⟨v,rfl,o,m⟩;exact hK _ _ (hI.mat P L ⟨14,29,_,_,_⟩ mm4 rfl m o kR)
  .obtain⟨so,sc,uo,uc,vo,vc,wo,wc,xo,xc,t1,t2,t3,t4,t5,i8⟩:=hI.five oM oM oM oM (hd 2) (hd 5) (hd 8) (hd 11) (hd 14)
   go_simp;exact hK _ _ (hI.y zMT i8)
  .obtain⟨l1,t6,b9⟩:=hI.v zMT (hd 15)
   have h5:zMz t.heap.size R C 0 0 ⟨ent M,zf,zf,zf,zf⟩ wS l1:=b9;obtain⟨so,sc,uo,uc,vo,vc,wo,wc,xo,xc,bS,bU,bV,bW,bX,rfl,-⟩:=h5.ex;go_simp;exact hK _ _ (hI.y zLW b9)
  go_simp;exact hK _ _ ((hI.world ((zC _ _).alloc (xgf _) _)).y zMt ⟨_,rfl,yG _ _ _,hI.bel.size⟩)
 intro T u hI;obtain⟨r7,q0,rfl⟩:=hI.v mm0 rfl;obtain⟨g1,q1,b0⟩:=hI.v mm1 rfl;replace b0:jE u g1 (1):=b0;obtain⟨s1,q3,rfl⟩:=hI.v mm2 rfl;obtain⟨s2,q4,rfl⟩:=hI.v mm3 rfl;obtain⟨s3,q6,rfl⟩:=hI.v mm4 rfl;obtain⟨s4,q7,rfl⟩:=hI.v mm5 rfl;obtain⟨s5,q9,rfl⟩:=hI.v mm6 rfl;obtain⟨r8,a1,rfl⟩:=hI.v mm7 rfl;obtain⟨r9,a3,rfl⟩:=hI.v mm8 rfl;obtain⟨s0,a4,rfl⟩:=hI.v mm9 rfl;obtain⟨l4,e7,i4⟩:=hI.v zMT rfl;obtain⟨g2,e8,d2⟩:=hI.v zLW rfl;obtain⟨g3,e9,i5⟩:=hI.v zMt rfl;obtain⟨l5,q2,p9,p4,k7⟩:=hI.matv _ mm0 rfl;obtain⟨l6,q5,r0,p5,k8⟩:=hI.matv _ mm1 rfl;obtain⟨l7,q8,r4,p6,k9⟩:=hI.matv _ mm2 rfl;obtain⟨l2,a2,p7,p0,k5⟩:=hI.matv _ mm3 rfl;obtain⟨l3,a5,p8,p3,k6⟩:=hI.matv _ mm4 rfl;have hT:=zFs [(15,.agg #[niq R,niq C,.slice ao R cap]),(16,g1),(18,ptq w.heap.size 0),(19,niq R),(21,ptq w.heap.size 0),(22,niq R),(24,ptq w.heap.size 1),(25,niq C),(27,ptq w.heap.size 1),(28,niq C),(30,l4),(31,g2),(3,g3),(17,l5),(20,l6),(23,l7),(26,l2),(29,l3)]
  (fun j Y=>hI.keep j (by simp only[xgm]at Y ⊢;simp[Y]) (by simp only[xgm]at Y ⊢;simp[Y]))
  (by simp only[xgm];simp[q0,q1,q3,q4,q6,q7,q9,a1,a3,a4,e7,e8,e9,q2,q5,q8,a2,a5]) hI.size
 have b5:=hI.bel;clear hI;simp only[List.foldl_cons,List.foldl_nil,xgh,xgi,xgj,ptr]at hT;subst hT;clear q0 q1 q3 q4 q6 q7 q9 a1 a3 a4 e7 e8 e9 q2 q5 q8 a2 a5;simp only[xgl,xgk];have b2:zMz t.heap.size R C 0 0 ⟨ent M,zf,zf,zf,zf⟩ u g2:=d2;obtain⟨g,rfl,G,i9⟩:zOV t.heap.size u g3:=i5;obtain⟨so,sc,uo,uc,vo,vc,wo,wc,xo,xc,-,-,-,-,-,rfl,-⟩:=b2.ex;have H5:=xgv b2;obtain⟨⟨q0,q1,q2,q3,q4,q5,q6,q7,q8,q9,a1,a2,a3,a4,a5⟩,⟨f0,f1,f2,f3,f4,f5,f6,f7,f8,f9,g9,h0,h2,h3,h4⟩⟩:=G.all15;have h6:=nx a7 b5;have D:=D.I b5;have lg:=G.lt;clear E F U c4 c5 c6 b0 i4 d2 b2;clear k7 k8 k9 k5 k6;go_upto_region 4 with(fail)
 refine zF ?_;intro x H;have d6:Blk x g tW #[niq R,niq C,.slice so R sc,niq R,niq (0:Nat),.slice uo R uc,niq R,niq (0:Nat),.slice vo R vc,niq C,niq (0:Nat),.slice wo C wc,niq C,niq (0:Nat),.slice xo C xc]:=by rw[H.out];exact G.put15 _ _ _ _ _ _ _ _ _ _ _ _ _ _ _
 have d9:∀b,b≠g->x.heap[b]?=u.heap[b]?:=fun b d=>by rw[H.out];exact zUi _ _ _ _ _ _ _ _ _ _ _ _ _ _ _ _ _ _ d
 have e5:zBq u x:=by rw[H.out];exact G.lext15 dE _ _ _ _ _ _ _ _ _ _ _ _ _ _ _
 have b4:Below 0 u x:=by rw[H.out];exact zSr (zC _ _) (zH _) _ _ _ _ _ _ _ _ _ _ _ _ _ _ _
 have c0:BWq w x:=by rw[H.out];exact zSr h6 (by have:=a6.size;omega) _ _ _ _ _ _ _ _ _ _ _ _ _ _ _
 have c8:qK (fun b=>b=g) u x:=⟨b4,e5,fun b _ d=>d9 b d⟩;obtain⟨bS,bU,bV,bW,bX,e1⟩:=H5.out.work G i9 d6 c8;have o5:=b4.size;have o4:=b5.size;have b8:=xgv e1;clear q0 q1 q2 q3 q4 q5 q6 q7 q8 q9 a1 a2 a3 a4 a5 f0 f1 f2 f3 f4 f5 f6 f7 f8 f9 g9 h0 h2 h3 h4 H d9 e5 b4 c8 e1 G d6 H5;go_wp2_with fail
 refine(zW8 hB b8.out oM b7.out N K (zH _) (zH _) g7.out g4.out g5.out).mono ?_;rintro e w4 ⟨⟨uu,rfl⟩,i3,l8,m5,m6,m7,m8,m9,q,i7,e6,a0⟩;obtain⟨r6,r5,rfl⟩:=a0.mS.shape;have h7:BWq w w4:=zCs c0 i3 (by have:=a7.size;omega) c0.size;have HW:=xgv a0;have c7:zHa (genM R C q.s) (min R C)=LL:=by rw[zQ7 oM oM,e6];exact g6.out
 have b6:=xgv c7;obtain⟨k0,k1,k2,-,-,-,-,-,-,-⟩:=a0.blk.fifteen;clear i7 e6 a0 b8 c7;go_wp2_with fail
 refine(zIm _ R C (genM R C q.s) w4 HW.out.mS.mat (jJ _ _ _) N K).mono ?_;rintro e w5 ⟨u5,rfl,Z,i6⟩;rw[b6.out]at Z;have n9:LL.length<=1000000:=by rw[<-b6.out,zF8];omega
 obtain⟨eo,ec,rfl,n5,n6⟩:=Z.len;have a8:=nx h7 i6;have g8:=xgv Z.vec;clear k0 k1 k2 Z;go_wp2;go_loopw [4,38] (fun l0 iv wr=>∃k:Nat,k<=LL.length/\iv=niq k/\zEt wr w5.heap.size l0 (nzL (LL.take k))/\BWq w wr/\BWq w5 wr) (fun _ iv _=>LL.length-(intOf iv).toNat)
 case atStart=>exact⟨0,oM,rfl,by rw[jW];exact zEt.nil _ _,a8,zC _ _⟩
 obtain⟨k,hk,rfl,p,d,r⟩:=hrel;by_cases k3:k<LL.length
 .obtain⟨b1,z,s,a,l,c,rfl,n4,hz,p1,p2,J⟩:=(g8.out.I r).cell (k:=k) k3
  have hd:jI (nzL (LL.take (k+1))=if z≠0 then nzL (LL.take k)++ [z]else nzL (LL.take k)):=⟨by rw[jH,hz];exact zQO _ _⟩;clear hz;go_upto_region 9 with(fail)
  refine zF ?_;intro W6 d0;obtain⟨W,S,o3⟩:=qJ d0;have d1:=S.two;have J:=J.ext (lx W);have p:=p.I W;have d:=nx d W;have r:=nx r W;clear p1 p2 d0;go_wp2_with fail
  refine(zAw _ z W6 J.J).mono ?_;rintro e w7 ⟨rfl,O⟩;have J:=J.ext (lx O);have p:=p.I O;have d:=nx d O;have r:=nx r O;have S:=S.I O;clear d1;by_cases I:z=0
  .rw[zBL I]
   have hq:jI (nzL (LL.take (k+1))=nzL (LL.take k)):=⟨by rw[hd.out,zA (by simpa using I)]⟩;clear I;go_wp2;go_roundw
   case rel=>exact⟨k+1,oM,by simp,by rw[hq.out];exact p,d,r⟩
   case measure=>exact meq
  have hc:=zCm I;obtain⟨k0,d7⟩:∃k0,zAv z 0=k0:=⟨_,rfl⟩;rw[d7]at hc ⊢
  have hq:jI (nzL (LL.take (k+1))=nzL (LL.take k)++ [z]):=⟨by rw[hd.out,zB I]⟩;clear d7 I;have d1:=S.two;have o7:=r.size;have o0:(nzL (LL.take k)).length<=k:=zD (zCY _ _) (by rw[qR];omega);have o8:=d.size;go_wp2_with (at_builtin;refine qAK rfl _ _ rfl w5.heap.size u4 (nzL (LL.take k)) rfl (p.I ((zC _ _).alloc (xgf _) _)) w7.heap.size 1 s a l c z rfl (yG _ _ _) (J.ext (lx ((zC _ _).alloc (xgf _) _))) oM (by simp;omega) ?_;intro v' w' k4 X o9)
  have o6:=a8.size;have X:World.grownBy (w7.alloc (.cells #[.bool s,.slice a l c] tI)) w' (Value.ownBlock u4):=X;have h8:BWq w w':=(d.alloc d.size _).grown X (by simp;omega) (fun g hg=>by have:=p.own g hg;omega);have h9:BWq w5 w':=(r.alloc r.size _).grown X (by simp;omega) (fun g hg=>p.own g hg);go_roundw
  case rel=>exact⟨k+1,oM,by simp,by rw[hq.out];exact k4,h8,h9⟩
  case measure=>exact meq
 obtain rfl:k=LL.length:=oM;rw[jO]at p;go_wp2;go_ret;exact⟨_,rfl,p.mono a8.size,d⟩
def quo(C:Nat)(F:Nat->Nat->Int)(r:Nat->Int)(i:Nat):Int:=if lead C F i<0 then 0 else r (lead C F i).toNat/F i (lead C F i).toNat
def zFB(C:Nat)(F:Nat->Nat->Int)(x:Nat->Int):Nat->Nat->Int
 |0=>x
 |i+1=>fun t=>zFB C F x i t+-(quo C F (zFB C F x i) i)*F i t
def zF3(C:Nat)(F:Nat->Nat->Int)(x:Nat->Int)(i:Nat):Int:=quo C F (zFB C F x i) i
structure qAm(B R C:Nat)(F:Nat->Nat->Int)(x:Nat->Int):Prop where
 mat:okF B R C F
 rest:∀i,i<=R->∀t,t<C->(zFB C F x i t).natAbs<B
 quot:∀i,i<R->(zF3 C F x i).natAbs<B/\∀t,t<C->(-(zF3 C F x i)*F i t).natAbs<B
theorem mkV(m:Int)(n:Nat)(b:m=n)(h:n<=1099511627776)(W:World):
  (Instr.makeSlice 57 (niq m) (niq m)).run Tryz.prog W= .ok (slq W.heap.size n n) (W.alloc (.cells (zeroCells n) tI)):=by
 subst b;obtain⟨f,a,c,d,e⟩:=info_parts zEW;have:=zCn (P:=Tryz.prog) 57 tI f _ Tryz.underlying57 a c .i64 .i64 n n (xgf _) (by rw[e];omega) oM W;rw[this,d];rfl
def zXE(lo n:Nat):World->Value->Prop:=fun w v=>∃b,v=slq b n n/\lo<=b/\jY w b (yV n fun _=>0)
theorem zJ7(f n:Nat):zAj (zXE f n):=fun _ _ _ e ⟨b,a,c,d⟩=>⟨b,a,c,d.I e⟩
theorem zQv{a:Nat}(b:a<=w.heap.size):zXE a n (w.alloc (.cells (zeroCells n) tI)) (slq w.heap.size n n):=
 ⟨_,rfl,b,by
  have h:=zH2 w n
  rwa[show List.replicate n (0:Int)=yV n fun _=>0 from qX (by simp[yV]) fun i c d=>by simp[yV]]at h⟩
def qBG(u v:Value):Prop:=∀a b n m c d,u=slq a n c->v=slq b m d->a≠b
theorem zRP(a b:Int):zAj (DMV a b):=fun _ _ _ x ⟨q,r,c,d,e⟩=>⟨q,r,c,d.ext (lx x),e.ext (lx x)⟩
def zY5(a b:Nat)(T:Array Value)(w:World):World:=
 match T[a]?,T[b]? with
 |some (.pointer (some ⟨g,o,none⟩)),some (.agg #[x,y])=>(w.setCell ⟨g,o,none⟩ x).setCell ⟨g,o+1,none⟩ y
 |_,_=>w
theorem zUJ{a o:Nat}{x y:Value}(h1:T[a]?=some (.pointer (some ⟨g,o,none⟩)))(h2:T[b]?=some (.agg #[x,y])):zY5 a b T w=(w.setCell ⟨g,o,none⟩ x).setCell ⟨g,o+1,none⟩ y:=by
 unfold zY5;rw[h1,h2];rfl
theorem zQX{a:Nat}(h1:c≠a)(h2:c≠b):zY5 a b (T.setIfInBounds c v) w=zY5 a b T w:=by
 unfold zY5;rw[xgc h1,xgc h2]
theorem zWM{W:World}(h:zB0 [] W w):BWq W w:=⟨h.bel.os,h.bel.tape,h.bel.output,h.bel.size,fun k a=>h.old k a sI⟩
theorem zLv(f g:Nat->Int):yV n (jD f g n)=yV n f:=yH fun t a=>by unfold jD;rw[zB a]
theorem zLw(f g:Nat->Int):yV n (jD f g 0)=yV n g:=yH fun t _=>by unfold jD;rw[zA oM]
theorem zOK(f g:Nat->Int):(yV n (jD f g j)).set j (f j)=yV n (jD f g (j+1)):=by
 rw[zEF];exact yH fun t _=>by
  unfold jD;by_cases b:t=j
  .subst b;rw[zB rfl,zB oM]
  rw[zA b];by_cases a:t<j
  .rw[zB a,zB oM]
  rw[zA a,zA oM]
theorem zPd{fn:Func}{a b c:Tmp}(h:fn.results=#[.tmp a,.tmp b,.tmp c])(tmps:Array Value)(P:Program)(W:World):(results fn tmps).run P W= .ok (.tuple #[tmps.getD a undef,tmps.getD b undef,tmps.getD c undef]) W:=by
 simp[results,h]
def zZS(R C:Nat)(q r:Nat->Int)(w:World)(e:Ending)(w':World):Prop:=∃qv rv,e= .returned (.tuple #[qv,rv,niq 0])/\zBy w' qv (yV R q)/\zBy w' rv (yV C r)/\BWq w w'
theorem zIn(I:BSd B)(hv vv:Value)(R C:Nat)(M:List (List Int))(x:Nat->Int)(w:World)(h:zAQ w hv R C M)(hF:zBW R C M)(hx:zBy w vv (yV C x))(hR:R<=1000000)(hC:C<=1000000)(g8:qAm B R C (ent M) x)(f6:0<B):
  CPq 118 #[hv,vv] w (zZS R C (zF3 C (ent M) x) (zFB C (ent M) x R) w):=by
 have h0:=h;obtain⟨A,rfl,h⟩:=h;obtain⟨ao,n,cap,rfl,V,e3,e4,-⟩:=id h;obtain rfl:R=n:=by rw[<-V,hF.1]
 obtain⟨xo,xn,w6,rfl,x2,x3,x4,-⟩:=id hx;rw[qN]at x2;subst x2;have g7:decide (zBX R C M)=true:=zQ hF.valid;have HF:=xgv hF;have a3:=xgv g8;have H0:=xgv h0;have HR:=xgv h;have HX:=xgv hx;have k8:=xgv f6;clear g8 h0 hF V h hx f6;go_enter Tryz.func118,Tryz.ntmps118;go_upto_region 1 with(fail)
 refine zF ?_;intro W0 f7;obtain⟨f9,f,s4⟩:=qJ f7;obtain⟨S,U,c3,c4,c5,c6⟩:=f.three;clear f7;go_wp2_with fail
 refine(zDf _ R C M W0 (H0.out.I f9)).mono ?_;rintro e P ⟨rfl,g3⟩;rw[g7];have f:=f.I g3;have hb:=nx f9 g3;clear S U c3 c4 c5 c6 g7;obtain⟨S,U,c3,c4,c5,c6⟩:=f.three;have n3:=fun c0=>mkV (R:Int) R rfl oM c0
 have n2:=fun c0=>mkV (C:Int) C rfl oM c0
 have m7:=zJ7 P.heap.size R;have m8:=zJ7 P.heap.size C;go_upto_region 3 with(fail)
 refine zEJ rfl (RVP 2 26 5 29 qBG [⟨6,7,2,26⟩,⟨7,8,5,29⟩] P _ [⟨0,24,fun _ v=>v=ptq w.heap.size 0⟩,⟨1,25,fun _ v=>v=niq R⟩,⟨2,26,zXE P.heap.size R⟩,⟨3,27,fun _ v=>v=ptq w.heap.size 1⟩,⟨4,28,fun _ v=>v=niq C⟩,⟨5,29,zXE P.heap.size C⟩,⟨6,7,zXE P.heap.size R⟩,⟨7,8,zXE P.heap.size C⟩]) kR (RVP.start kR (by repeat' (first|exact zFI _|exact zGD _|exact zCt _ _ _|exact zCc _|assumption|refine xgm.2 ⟨?_,?_⟩|exact xgn _)) ⟨_,mm2⟩ ⟨_,mm5⟩ dE kR) ?fin1 ?steps1
 case steps1=>
  (repeat' constructor)<;>(intro L T o g hd m hI K hK;try refine qI rfl ?_)
  .have zt:T[2]?=some (ptq w.heap.size 0):=hI.keep 2 sI
   go_simp;exact hK _ _ (hI.y mm0 rfl)
  .obtain⟨_,p7,rfl⟩:=hI.v mm0 (hd 0)
   have c7:=hI.cell S;go_simp;exact hK _ _ (hI.y mm1 rfl)
  .obtain⟨_,p8,rfl⟩:=hI.v mm1 (hd 1)
   go_simp;exact hK _ _ ((hI.world ((zC _ _).alloc (xgf _) _)).y mm2 (zQv hI.bel.size) (fun d7=>⟨fun _ H hl=>by obtain⟨v',D,b',E,q3,N⟩:=hI.v mm5 hl;have:=N.lt;cases D.symm.trans H;intro a b n o4 c a0 e1 V;subst E;cases e1;cases V;omega,fun e=>absurd e dE⟩))
  .have zt:T[2]?=some (ptq w.heap.size 0):=hI.keep 2 sI
   go_simp;exact hK _ _ (hI.y mm3 rfl)
  .obtain⟨_,r4,rfl⟩:=hI.v mm3 (hd 3)
   have c7:=hI.cell U;go_simp;exact hK _ _ (hI.y mm4 rfl)
  .obtain⟨_,r5,rfl⟩:=hI.v mm4 (hd 4)
   go_simp;exact hK _ _ ((hI.world ((zC _ _).alloc (xgf _) _)).y mm5 (zQv hI.bel.size) (fun d7=>⟨fun e=>absurd e dE,fun _ H hl=>by obtain⟨v',D,b',E,q3,N⟩:=hI.v mm2 hl;have:=N.lt;cases D.symm.trans H;intro a b n o4 c a0 e1 V;subst E;cases e1;cases V;omega⟩))
  .obtain⟨vc,f5,d0⟩:=hI.v mm2 (hd 2)
   go_simp;exact hK _ _ (hI.y mm6 d0 (hc:=.inr (by repeat' (first|refine xgm.2 ⟨?_,?_⟩|exact xgn _|(intro e;exact absurd e dE)|(intro _;exact⟨hd 2 kR,f5⟩)))))
  obtain⟨vc,f5,d0⟩:=hI.v mm5 (hd 5);go_simp;exact hK _ _ (hI.y mm7 d0 (hc:=.inr (by repeat' (first|refine xgm.2 ⟨?_,?_⟩|exact xgn _|(intro e;exact absurd e dE)|(intro _;exact⟨hd 5 kR,f5⟩)))))
 intro T w3 hI;obtain⟨t2,q0,rfl⟩:=hI.v mm0 rfl;obtain⟨t3,D,rfl⟩:=hI.v mm1 rfl;obtain⟨d8,E,l4⟩:=hI.v mm2 rfl;obtain⟨t4,q3,rfl⟩:=hI.v mm3 rfl;obtain⟨t5,N,rfl⟩:=hI.v mm4 rfl;obtain⟨d9,q5,l5⟩:=hI.v mm5 rfl;obtain⟨e0,q6,l6⟩:=hI.v mm6 rfl;obtain⟨e5,q7,l7⟩:=hI.v mm7 rfl;have hT:=zFs [(24,ptq w.heap.size 0),(25,niq R),(26,d8),(27,ptq w.heap.size 1),(28,niq C),(29,d9),(7,e0),(8,e5)]
  (fun j hj=>hI.keep j (by simp only[xgm]at hj ⊢;simp[hj]))
  (by simp only[xgm];simp[q0,D,E,q3,N,q5,q6,q7]) hI.size
 obtain⟨o5,o6,o7,o8,i5⟩:=hI.pair rfl rfl;have d6:=hI.cpy;have g4:=hI.bel;clear hI;simp only[List.foldl_cons,List.foldl_nil,xgh,xgi,xgj,ptr]at hT;subst hT;clear q0 D E q3 N q5 q6 q7;have e6:e0=d8:=qD (d6 _ mm0 rfl).2;have e7:e5=d9:=qD (d6 _ mm1 rfl).2;have e8:d8=o5:=qD o7;have e9:d9=o6:=qD o8;subst e6 e7 e8 e9;obtain⟨O,rfl,s1,G⟩:zXE P.heap.size R w3 e0:=l6;obtain⟨F,rfl,s3,h7⟩:zXE P.heap.size C w3 e5:=l7;have d3:O≠F:=i5 _ _ _ _ _ _ rfl rfl;have s0:=f.lt;have m0:=nx hb g4;have f:=f.I g4;have s6:=hb.size;clear d6 i5 l4 l5 n3 n2 m7 m8 S U c3 c4 c5 c6;obtain⟨S,U,c3,c4,c5,c6⟩:=f.three;have d:jY w3 F (yV C (jD x (fun _=>0) 0)):=by rw[zLw];exact h7
 clear h7;go_wp2;go_loopw [32] (fun jv wr=>∃j:Nat,j<=C/\jv=niq j/\BWq w wr/\Blk wr w.heap.size 32 #[niq R,niq C,.slice ao R cap]/\jY wr O (yV R fun _=>0)/\jY wr F (yV C (jD x (fun _=>0) j))) (fun jv _=>C-(intOf jv).toNat)
 case atStart=>exact⟨0,oM,rfl,m0,f,G,d⟩
 clear f G d S U c3 c4 c5 c6;obtain⟨j,hj,rfl,W,f,G,d⟩:=hrel;by_cases r:j<C
 .obtain⟨bx,z,s,a,l,k,rfl,r8,hz,p1,p2,a4⟩:=(HX.out.I W).cell (k:=j) (by rw[qN];exact r)
  rw[yO r]at hz;obtain rfl:x j=z:=qD hz;clear hz;go_upto_region 7 with(fail)
  refine zF ?_;intro W6 f8;obtain⟨a5,T6,s5⟩:=qJ f8;have f:=f.I a5;have G:=G.I a5;have d:=d.I a5;have a4:=a4.ext (lx a5);have W:=nx W a5;have sx:jI (Sm (x j)):=⟨I.bsm.sm _ (a3.out.rest 0 (zH _) j r)⟩;have sz:jI (Sm (0:Int)):=⟨I.bsm.sm _ (by simpa using k8.out)⟩;have t1:=T6.two;clear p1 p2 f8;go_wp2_with fail
  refine(zIE _ _ (x j) 0 W6 a4.J (zFG W6).J sx.out sz.out).mono ?_;rintro e w7 ⟨d7,rfl,H,J⟩;rw[zAJ]at H;obtain⟨un,ua,ul,uc,ux,rfl,a7⟩:=id H;have HU:=xgw a7;have f:=f.I J;have G:=G.I J;have d:=d.I J;have W:=nx W J;clear a7 t1;obtain⟨z0,z1,z2,z3,f1,f2,f3,f4,-⟩:=d.cell (yO r);have Z:=d.set (k:=j) (by rw[qN];exact r) H;rw[zOK]at Z;have lb:=f.lt;have lq:=G.lt;go_wp2;go_roundw
  case rel=>
   exact⟨j+1,oM,by simp,yB (yB W oM _ _) oM _ _,(yL _ _ _ _ _ _ _ oM).trans f,G.old (yL _ _ _ _ _ _ _ d3) Z.2,Z.1⟩
  case measure=>exact meq
 obtain rfl:j=C:=oM;rw[zLv]at d;obtain⟨S,U,c3,c4,c5,c6⟩:=f.three;have u:jY wr O (yV R (jD (zF3 j (ent M) x) (fun _=>0) 0)):=by rw[zLw];exact G
 clear G;go_wp2;go_loopw [47] (fun iv wt=>∃i:Nat,i<=R/\iv=niq i/\BWq w wt/\jY wt O (yV R (jD (zF3 j (ent M) x) (fun _=>0) i))/\jY wt F (yV j (zFB j (ent M) x i))) (fun iv _=>R-(intOf iv).toNat)
 case atStart=>exact⟨0,oM,rfl,W,u,d⟩
 rename World=>wt
 clear W u d f S U c3 c4 c5 c6;obtain⟨i,hi,rfl,X,u,d⟩:=hrel;by_cases r:i<R
 .obtain⟨b,ra,rn,rc,zs,rfl,m6,hz,p1,b7⟩:=HR.out.row (k:=i) (by rw[HF.out.1];exact r)
  obtain rfl:=HF.out.row_eq hz;have h8:=b7.len.1;have p1:=(X.cell (p:=⟨b,i,none⟩) m6).trans p1;have b6:=b7.I X;rw[qN]at h8;subst h8;clear hz;go_wp2_with fail
  refine(zEz _ (yV j (ent M i)) wt b6).mono ?_;rintro e w7 ⟨rfl,J⟩;obtain⟨a0,hd⟩:∃a0,zCL 0 (yV j (ent M i))=a0:=⟨_,rfl⟩;rw[hd];have HD:=xgw (show lead j (ent M) i=a0 from hd);have X:=nx X J;have u:=u.I J;have d:=d.I J;have b6:=b6.I J;clear hd p1;by_cases a6:a0<0
  .have r9:decide (0<=a0)=false:=zT oM
   have HN:=xgw a6;clear a6;go_wp2;go_roundw
   case rel=>
    have h5:zF3 j (ent M) x i=0:=by unfold zF3 quo;rw[zB (by rw[HD.out];exact HN.out)]
    have e1:yV R (jD (zF3 j (ent M) x) (fun _=>0) i)=yV R (jD (zF3 j (ent M) x) (fun _=>0) (i+1)):=yH fun t _=>by
     unfold jD;by_cases h1:t<i
     .rw[zB h1,zB oM]
     by_cases h2:t=i
     .rw[zA h1,zB oM,h2,h5]
     rw[zA h1,zA oM]
    have V:yV j (zFB j (ent M) x i)=yV j (zFB j (ent M) x (i+1)):=yH fun t _=>by
     show _=zFB j (ent M) x i t+-(zF3 j (ent M) x i)*ent M i t;rw[h5];omega
    rw[e1]at u;rw[V]at d;exact⟨i+1,oM,by simp,X,u,d⟩
   case measure=>exact meq
  obtain⟨c,rfl⟩:=zBZ (Int.not_lt.1 a6);obtain⟨b4,g6⟩:=zDu HD.out;have d2:zF3 j (ent M) x i=zFB j (ent M) x i c/ent M i c:=by unfold zF3 quo;rw[HD.out,zA a6];rfl
  obtain⟨y,hy⟩:∃y,zFB j (ent M) x i c=y:=⟨_,rfl⟩;obtain⟨p,hp⟩:∃p,ent M i c=p:=⟨_,rfl⟩;obtain⟨q,Y⟩:∃q,zF3 j (ent M) x i=q:=⟨_,rfl⟩;have n9:jI (Sm y):=⟨by rw[<-hy];exact I.bsm.sm _ (a3.out.rest i oM c b4)⟩;have n5:jI (Sm p):=⟨by rw[<-hp];exact I.bsm.sm _ (a3.out.mat i r c b4)⟩;have d1:jI (q.natAbs<B/\∀t,t<j->(-q*ent M i t).natAbs<B):=⟨by rw[<-Y];exact a3.out.quot i r⟩;have n4:jI (p≠0):=⟨by rw[<-hp];exact g6⟩;rw[Y,hy,hp]at d2;obtain⟨_,_,_,e1,-,g1,g2,g5⟩:=id b7;cases e1;obtain⟨Q,rfl,h9⟩:=g5 (fun h=>by have:=congrArg List.length h;rw[qN]at this;simp at this;omega);have r7:=h9.lt;have i0:=h9.I X;obtain⟨s,a,l,k,D,E,-,-,a4⟩:=i0.cell (yO b4);rw[hp]at a4;clear g5;obtain⟨s2,a2,l2,k2,o1,o2,-,-,g9⟩:=d.cell (yO b4);rw[hy]at g9;have HY:=xgw hy;have HP:=xgw hp;have HQ:=xgw Y;have k9:=xgw d2;have lq:=u.lt;have lr:=d.lt;have m9:=zRP y p;have n0:zAj (fun _ _=>True):=fun _ _ _ _ _=>trivial
  clear hy hp Y d2 g6 a6 b6 b7;go_upto_region 14 with(fail)
  refine zEJ rfl (RAS ([]) 99 w7 _ [⟨0,57,fun _ v=>v=slq O R R⟩,⟨1,58,fun _ v=>v=niq i⟩,⟨2,59,fun _ v=>v=slq F j j⟩,⟨3,60,fun _ v=>v=niq c⟩,⟨4,61,fun _ v=>v=ptq F (c*2)⟩,⟨5,62,fun _ v=>v= .agg #[.bool s2,.slice a2 l2 k2]⟩,⟨6,63,fun _ v=>v=slq Q j rc⟩,⟨7,64,fun _ v=>v=niq c⟩,⟨8,65,fun _ v=>v=ptq Q (c*2)⟩,⟨9,66,fun _ v=>v= .agg #[.bool s,.slice a l k]⟩,⟨10,67,DMV y p⟩,⟨11,56,DMV y p⟩,⟨12,68,fun w v=>jE w v (y/p)⟩,⟨13,69,fun _ _=>True⟩,⟨14,70,fun _ v=>v=niq 0⟩,⟨15,71,fun _ v=>v=ptq O (i*2)⟩] 16 (zY5 71 68)) kR (RAS.start (RA.start kR (by repeat' (first|exact zFI _|exact zGD _|exact zCt _ _ _|exact zCc _|assumption|refine xgm.2 ⟨?_,?_⟩|exact xgn _)))) ?fin2 ?steps2
  case steps2=>
   refine⟨?_,?_,?_,?_,?_,?_,?_,?_,?_,?_,?_,?_,?_,?_,?_,?_,?_,trivial⟩
   .refine zAO.liftA kR dE ?_
    intro L T o g hd m hI K hK;try refine qI rfl ?_
    have zt:T[7]?=some (slq O R R):=hI.keep 7 sI;go_simp;exact hK _ _ (hI.y mm0 rfl)
   .refine zAO.liftA kR dE ?_
    intro L T o g hd m hI K hK;try refine qI rfl ?_
    have zt:T[11]?=some (niq i):=hI.keep 11 sI;go_simp;exact hK _ _ (hI.y mm1 rfl)
   .refine zAO.liftA kR dE ?_
    intro L T o g hd m hI K hK;try refine qI rfl ?_
    have zt:T[8]?=some (slq F j j):=hI.keep 8 sI;go_simp;exact hK _ _ (hI.y mm2 rfl)
   .refine zAO.liftA kR dE ?_
    intro L T o g hd m hI K hK;try refine qI rfl ?_
    have zt:T[13]?=some (niq c):=hI.keep 13 sI;go_simp;exact hK _ _ (hI.y mm3 rfl)
   .refine zAO.liftA kR dE ?_
    intro L T o g hd m hI K hK;try refine qI rfl ?_
    obtain⟨_,x1,rfl⟩:=hI.v mm2 (hd 2);obtain⟨_,r4,rfl⟩:=hI.v mm3 (hd 3);go_simp;exact hK _ _ (hI.y mm4 rfl)
   .refine zAO.liftA kR dE ?_
    intro L T o g hd m hI K hK;try refine qI rfl ?_
    obtain⟨_,r5,rfl⟩:=hI.v mm4 (hd 4);have c7:=hI.cell (sI) oM o1;have l0:=hI.cell (sI) oM o2;go_simp;exact hK _ _ (hI.y mm5 rfl)
   .refine zAO.liftA kR dE ?_
    intro L T o g hd m hI K hK;try refine qI rfl ?_
    have zt:T[12]?=some (slq Q j rc):=hI.keep 12 sI;go_simp;exact hK _ _ (hI.y mm6 rfl)
   .refine zAO.liftA kR dE ?_
    intro L T o g hd m hI K hK;try refine qI rfl ?_
    have zt:T[13]?=some (niq c):=hI.keep 13 sI;go_simp;exact hK _ _ (hI.y mm7 rfl)
   .refine zAO.liftA kR dE ?_
    intro L T o g hd m hI K hK;try refine qI rfl ?_
    obtain⟨_,x6,rfl⟩:=hI.v mm6 (hd 6);obtain⟨_,x7,rfl⟩:=hI.v mm7 (hd 7);go_simp;exact hK _ _ (hI.y mm8 rfl)
   .refine zAO.liftA kR dE ?_
    intro L T o g hd m hI K hK;try refine qI rfl ?_
    obtain⟨_,x8,rfl⟩:=hI.v mm8 (hd 8);have c7:=hI.cell (sI) oM D;have l0:=hI.cell (sI) oM E;go_simp;exact hK _ _ (hI.y mm9 rfl)
   .refine zAO.liftA kR dE ?_
    intro L T o g hd m hI K hK;try refine qI rfl ?_
    obtain⟨_,x5,rfl⟩:=hI.v mm5 (hd 5);obtain⟨_,x9,rfl⟩:=hI.v mm9 (hd 9);go_simp;refine(zL9 _ _ y p _ (g9.ext hI.onl.lext).J (a4.ext hI.onl.lext).J n9.out n5.out n4.out).mono ?_;rintro e wa ⟨v,rfl,hv,m5⟩;exact hK _ _ ((hI.world m5).y zMT hv)
   .refine zAO.liftA kR dE ?_
    intro L T o g hd m hI K hK;try refine qI rfl ?_
    obtain⟨s8,x0,l1⟩:=hI.v zMT (hd 10);go_simp;exact hK _ _ (hI.y zLW l1)
   .refine zAO.liftA kR dE ?_
    intro L T o g hd m hI K hK;try refine qI rfl ?_
    obtain⟨t0,k7,l3⟩:=hI.v zLW (hd 11);obtain⟨qq,rr,rfl,Y,hr⟩:=l3;go_simp;exact hK _ _ (hI.y zMt Y)
   .intro L T o g hd m hI K hK
    try refine qI rfl ?_
    obtain⟨w0,hJ,-,-⟩:=id hI;obtain⟨f0,k7,b0⟩:=hJ.val _ zLW (hd 11);obtain⟨qq,rr,rfl,Y,hr⟩:DMV y p w0 f0:=b0;go_simp;exact hK _ _ (hI.pure ⟨13,69,_⟩ zPC rfl (fun _=>trivial) dE (fun _=>zQX dE dE))
   .intro L T o g hd m hI K hK
    try refine qI rfl ?_
    obtain⟨w0,hJ,-,-⟩:=id hI;obtain⟨f0,k7,b0⟩:=hJ.val _ zLW (hd 11);obtain⟨qq,rr,rfl,Y,hr⟩:DMV y p w0 f0:=b0;go_simp;exact hK _ _ (hI.pure ⟨14,70,_⟩ zPD rfl (fun _=>rfl) dE (fun _=>zQX dE dE))
   .refine zAO.liftA kR dE ?_
    intro L T o g hd m hI K hK;try refine qI rfl ?_
    obtain⟨_,p7,rfl⟩:=hI.v mm0 (hd 0);obtain⟨_,p8,rfl⟩:=hI.v mm1 (hd 1);go_simp;exact hK _ _ (hI.y zOO rfl)
   intro L T o g hd m hI K hK;try refine qI rfl ?_
   replace hI:=hI.here g;obtain⟨_,r0,rfl⟩:=hI.v zOO (hd 15);obtain⟨w9,p9,a1⟩:=hI.v zMt (hd 12);obtain⟨v0,t6,t8,t7,t9,rfl,s7⟩:=id a1;obtain⟨_,_,_,_,k1,k2,k3,k4,-⟩:=(u.only hI.onl sI).cell (yO r);go_simp;exact hK _ _ (RAS.store hI g (by repeat' (first|exact xgn _|refine xgm.2 ⟨by dsimp only;decide,?_⟩)) dE (zUJ r0 p9).symm)
  intro T b9 hJ;obtain⟨w8,hI,-,b8⟩:=hJ;replace b8:=b8 kR;obtain⟨v1,q0,rfl⟩:=hI.v mm0 rfl;obtain⟨v2,D,rfl⟩:=hI.v mm1 rfl;obtain⟨v5,E,rfl⟩:=hI.v mm2 rfl;obtain⟨v6,q3,rfl⟩:=hI.v mm3 rfl;obtain⟨v7,N,rfl⟩:=hI.v mm4 rfl;obtain⟨v8,q5,rfl⟩:=hI.v mm5 rfl;obtain⟨v9,q6,rfl⟩:=hI.v mm6 rfl;obtain⟨w2,q7,rfl⟩:=hI.v mm7 rfl;obtain⟨w4,q8,rfl⟩:=hI.v mm8 rfl;obtain⟨w5,q9,rfl⟩:=hI.v mm9 rfl;obtain⟨p0,i6,o0⟩:=hI.v zMT rfl;obtain⟨p3,i7,b0⟩:=hI.v zLW rfl;obtain⟨k6,i8,a1⟩:=hI.v zMt rfl;replace a1:jE w8 k6 (y/p):=a1;obtain⟨p4,i9,o3⟩:=hI.v zPC rfl;obtain⟨v3,k0,rfl⟩:=hI.v zPD rfl;obtain⟨v4,k5,rfl⟩:=hI.v zOO rfl;have hT:=zFs [(57,slq O R R),(58,niq i),(59,slq F j j),(60,niq c),(61,ptq F (c*2)),(62,.agg #[.bool s2,.slice a2 l2 k2]),(63,slq Q j rc),(64,niq c),(65,ptq Q (c*2)),(66,.agg #[.bool s,.slice a l k]),(67,p0),(56,p3),(68,k6),(69,p4),(70,niq 0),(71,ptq O (i*2))]
   (fun j hj=>hI.keep j (by simp only[xgm]at hj ⊢;simp[hj]))
   (by simp only[xgm];simp[q0,D,E,q3,N,q5,q6,q7,q8,q9,i6,i7,i8,i9,k0,k5]) hI.size
  have h3:=hI.onl;clear hI;simp only[List.foldl_cons,List.foldl_nil,xgh,xgi,xgj,ptr]at hT;subst hT;clear q0 D E q3 N q5 q6 q7 q8 q9 i6 i7 i8 i9 k0 k5;have b3:=zWM h3;obtain⟨qn,qa,ql,qc,qx,rfl,h4⟩:=id a1;have r6:=xgw h4;have a8:=b8.trans (zUJ rfl rfl);have n7:=u.I b3;have Z:=n7.set (k:=i) (by rw[qN];exact r) a1;rw[<-a8,show y/p=zF3 j (ent M) x i from by rw[HQ.out,k9.out],zOK]at Z;have i4:=Z.2;have d4:jY b9 F (yV j (zFB j (ent M) x i)):=(d.I b3).old (by rw[a8];exact yL _ _ _ _ _ _ _ (qF d3)) i4;have d5:jY b9 Q (yV j (ent M i)):=(i0.I b3).old (by rw[a8];exact yL _ _ _ _ _ _ _ oM) i4;have c8:BWq w b9:=by rw[a8];exact yB (yB (nx X b3) oM _ _) oM _ _
  have b5:=Z.1;obtain⟨s9,a9,l9,c9,f1,f2,-,-,i3⟩:=b5.cell (yO r);rw[show jD (zF3 j (ent M) x) (fun _=>0) (i+1) i=q from by unfold jD;rw[zB oM,HQ.out]]at i3;have sq:jI (Sm q):=⟨I.bsm.sm _ d1.out.1⟩;have o9:jI (Sm (-q)):=⟨I.bsm.sm _ (by rw[zY];exact d1.out.1)⟩;have n1:F≠Q:=oM;clear Z a8 h4 b8 a1 D E o1 o2 o0 b0 o3 m9 n0 h3;go_wp2_with fail
  refine(zBk _ q b9 i3.J sq.out).mono ?_;rintro e p5 ⟨d7,rfl,H,b2⟩;obtain⟨un,ua,ul,uc,ux,rfl,a7⟩:=id H;have HU:=xgw a7;have d4:=d4.I b2;have d5:=d5.I b2;have b5:=b5.I b2;have c8:=nx c8 b2;clear f1 f2 a7;go_wp2_with fail
  refine(zLD F Q j j rc (zFB j (ent M) x i) (ent M i) _ (-q) p5 d4 d5 n1 H hC (xgf _) oM oM oM (fun t ht=>⟨I.bsm.sm _ (a3.out.rest i oM t ht),I.bsm.sm _ (a3.out.mat i r t ht),I.bsm.sm _ (d1.out.2 t ht)⟩) o9.out).mono ?_;rintro e p6 ⟨⟨u11,rfl⟩,ho,h6⟩;have l8:BWq w p6:=Below.only c8 ho (xgf _) (fun b hb=>by simp at hb;omega);have n6:=b5.only ho (by simpa using d3);have n8:yV j (fun t=>zFB j (ent M) x i t+-q*ent M i t)=yV j (zFB j (ent M) x (i+1)):=yH fun t _=>by
   show _=zFB j (ent M) x i t+-(zF3 j (ent M) x i)*ent M i t;rw[HQ.out]
  rw[n8]at h6;go_wp2;go_roundw
  case rel=>exact⟨i+1,oM,by simp,l8,n6,h6⟩
  case measure=>exact meq
 obtain rfl:i=R:=oM;rw[zLv]at u;go_wp2;refine bodyPost_ret (zPd rfl _ _ _) rfl ?_;exact⟨_,_,rfl,u.vec (qN _ _) (xgf _) oM,d.vec (qN _ _) (xgf _) oM,X⟩
end Go.Proofs.YtkidaebmhlijlaaGreat
