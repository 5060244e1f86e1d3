/- Joined. -/
import Derived.Scope
import Derived.Test.YtniiekppgdkknaaGreatM24
set_option linter.unusedVariables false
set_option linter.unusedSimpArgs false
set_option linter.unusedSectionVars false
set_option maxHeartbeats 16000000
set_option maxRecDepth 100000
variable{cs:Array Go.Value}{zs:List Int}{S xs:List Nat}{a b base c e i k m n:Nat}{T:Go.TypeId}{v:Go.Value}{w w':Go.World}
namespace Go.Proofs.YtniiekppgdkknaaGreat
open Go.RowKit
def quo(C:Nat)(F:Nat->Nat->Int)(r:Nat->Int)(i:Nat):Int:=if lead C F i<0 then 0 else r (lead C F i).toNat/F i (lead C F i).toNat
def zD3(C:Nat)(F:Nat->Nat->Int)(x:Nat->Int):Nat->Nat->Int
 |0=>x
 |i+1=>fun t=>zD3 C F x i t+-(quo C F (zD3 C F x i) i)*F i t
def zDl(C:Nat)(F:Nat->Nat->Int)(x:Nat->Int)(i:Nat):Int:=quo C F (zD3 C F x i) i
structure zW1(B R C:Nat)(F:Nat->Nat->Int)(x:Nat->Int):Prop where
 mat:okF B R C F
 rest:∀i,i<=R->∀t,t<C->(zD3 C F x i t).natAbs<B
 quot:∀i,i<R->(zDl C F x i).natAbs<B/\∀t,t<C->(-(zDl C F x i)*F i t).natAbs<B
theorem mkV(m:Int)(n:Nat)(b:m=n)(h:n<=1099511627776)(W:World):
  (Instr.makeSlice 32 (.int .i64 m) (.int .i64 m)).run Tryz.prog W= .ok (.slice (some ⟨W.heap.size,0,none⟩) n n) (W.alloc (.cells (zeroCells n) tI)):=by
 subst b;obtain⟨f,a,c,d,e⟩:=info_parts Tryz.infoI;have:=zC3 (P:=Tryz.prog) 32 tI f _ Tryz.underlying32 a c .i64 .i64 n n (xgf _) (by rw[e];omega) oM W;rw[this,d];rfl
def zRT(lo n:Nat):World->Value->Prop:=fun w v=>∃b,v= .slice (some ⟨b,0,none⟩) n n/\lo<=b/\yY w b (qQ n fun _=>0)
theorem zF0(lo n:Nat):zAA (zRT lo n):=fun _ _ _ e ⟨b,a,c,d⟩=>⟨b,a,c,d.I e⟩
theorem zFX{lo:Nat}(a:lo<=w.heap.size):zRT lo n (w.alloc (.cells (zeroCells n) tI)) (.slice (some ⟨w.heap.size,0,none⟩) n n):=
 ⟨_,rfl,a,by
  have h:=zGS w n
  rwa[show List.replicate n (0:Int)=qQ n fun _=>0 from qI (by simp[qQ]) fun i b c=>by simp[qQ]]at h⟩
def zXC(u v:Value):Prop:=∀a b n m c d,u= .slice (some ⟨a,0,none⟩) n c->v= .slice (some ⟨b,0,none⟩) m d->a≠b
theorem zI5(a b:Int):zAA (DMV a b):=fun _ _ _ x ⟨q,r,c,d,e⟩=>⟨q,r,c,d.ext (lx x),e.ext (lx x)⟩
def zUf(a b:Nat)(T:Array Value)(w:World):World:=
 match T[a]?,T[b]? with
 |some (.pointer (some ⟨g,o,none⟩)),some (.agg #[x,y])=>(w.setCell ⟨g,o,none⟩ x).setCell ⟨g,o+1,none⟩ y
 |_,_=>w
theorem zJ8{g o:Nat}{T:Array Value}{x y:Value}(c:T[a]?=some (.pointer (some ⟨g,o,none⟩)))(d:T[b]?=some (.agg #[x,y])):zUf a b T w=(w.setCell ⟨g,o,none⟩ x).setCell ⟨g,o+1,none⟩ y:=by
 unfold zUf;rw[c,d];rfl
theorem zHg{T:Array Value}(d:c≠a)(e:c≠b):zUf a b (T.setIfInBounds c v) w=zUf a b T w:=by
 unfold zUf;rw[xgc d,xgc e]
theorem zHb{W:World}(h:zA5 [] W w):Below W.heap.size W w:=⟨h.bel.os,h.bel.tape,h.bel.output,h.bel.size,fun k a=>h.old k a sI⟩
theorem zG6(f g:Nat->Int):qQ n (jD f g n)=qQ n f:=qZ fun t a=>by unfold jD;rw[zC a]
theorem zFU(f g:Nat->Int):qQ n (jD f g 0)=qQ n g:=qZ fun t _=>by unfold jD;rw[zA oM]
theorem zGb{j:Nat}(f g:Nat->Int):(qQ n (jD f g j)).set j (f j)=qQ n (jD f g (j+1)):=by
 rw[zDJ];exact qZ fun t _=>by
  unfold jD;by_cases b:t=j
  .subst b;rw[zC rfl,zC oM]
  rw[zA b];by_cases a:t<j
  .rw[zC a,zC oM]
  rw[zA a,zA oM]
theorem zF7{fn:Func}{a b c:Tmp}(h:fn.results=#[.tmp a,.tmp b,.tmp c])(tmps:Array Value)(P:Program)(W:World):(results fn tmps).run P W= .ok (.tuple #[tmps.getD a undef,tmps.getD b undef,tmps.getD c undef]) W:=by
 simp[results,h]
def zVD(R C:Nat)(q r:Nat->Int)(w:World)(e:Ending)(w':World):Prop:=∃qv rv,e= .returned (.tuple #[qv,rv,.int .i64 0])/\zAR w' qv (qQ R q)/\zAR w' rv (qQ C r)/\Below w.heap.size w w'
theorem zKl{B:Nat}(F:BSd B)(hv vv:Value)(R C:Nat)(M:List (List Int))(x:Nat->Int)(w:World)(h:zAo w hv R C M)(hF:zBe R C M)(hx:zAR w vv (qQ C x))(hR:R<=1000000)(hC:C<=1000000)(h3:zW1 B R C (ent M) x)(f8:0<B):
  Calls Tryz.prog 37 #[hv,vv] w (zVD R C (zDl C (ent M) x) (zD3 C (ent M) x R) w):=by
 have h0:=h;obtain⟨r9,rfl,h⟩:=h;obtain⟨ao,n,l3,rfl,Q,e3,e4,-⟩:=id h;obtain rfl:R=n:=by rw[<-Q,hF.1]
 obtain⟨xo,xn,x9,rfl,x2,x3,x4,-⟩:=id hx;rw[zO]at x2;subst x2;have g9:decide (zAq R C M)=true:=zT hF.valid;have HF:=xgv hF;have a3:=xgv h3;have H0:=xgv h0;have HR:=xgv h;have HX:=xgv hx;have l0:=xgv f8;clear h3 h0 hF Q h hx f8;go_enter Tryz.func37,Tryz.ntmps37;go_upto_region 1 with(fail)
 refine zE ?_;intro W0 f9;obtain⟨g4,f,s8⟩:=qL f9;obtain⟨O,P,X,Y,Z,c6⟩:=f.three;clear f9;go_wp2_with fail
 refine(zBM _ R C M W0 (H0.out.I g4)).mono ?_;rintro e J ⟨rfl,g6⟩;rw[g9];have f:=f.I g6;have hb:=nx g4 g6;clear O P X Y Z c6 g9;obtain⟨O,P,X,Y,Z,c6⟩:=f.three;have n6:=fun c0=>mkV (R:Int) R rfl oM c0
 have n5:=fun c0=>mkV (C:Int) C rfl oM c0
 have n0:=zF0 J.heap.size R;have n1:=zF0 J.heap.size C;go_upto_region 3 with(fail)
 refine zBJ rfl (RVP 2 26 5 29 zXC [⟨6,7,2,26⟩,⟨7,8,5,29⟩] J _ [⟨0,24,fun _ v=>v= .pointer (some ⟨w.heap.size,0,none⟩)⟩,⟨1,25,fun _ v=>v= .int .i64 R⟩,⟨2,26,zRT J.heap.size R⟩,⟨3,27,fun _ v=>v= .pointer (some ⟨w.heap.size,1,none⟩)⟩,⟨4,28,fun _ v=>v= .int .i64 C⟩,⟨5,29,zRT J.heap.size C⟩,⟨6,7,zRT J.heap.size R⟩,⟨7,8,zRT J.heap.size C⟩]) kR (RVP.start kR (by repeat' (first|exact zBU _|exact zBs _|exact zAl _ _ _|exact zAX _|assumption|refine xgm.2 ⟨?_,?_⟩|exact xgn _)) ⟨_,mm2⟩ ⟨_,mm5⟩ dE kR) ?fin1 ?steps1
 case steps1=>
  (repeat' constructor)<;>(intro L T o g hd l hI K hK;try refine zD rfl ?_)
  .have zt:T[2]?=some (.pointer (some ⟨w.heap.size,0,none⟩)):=hI.keep 2 sI
   go_simp;exact hK _ _ (hI.y mm0 rfl)
  .obtain⟨_,r0,rfl⟩:=hI.v mm0 (hd 0)
   have c7:=hI.cell O;go_simp;exact hK _ _ (hI.y mm1 rfl)
  .obtain⟨_,r4,rfl⟩:=hI.v mm1 (hd 1)
   go_simp;exact hK _ _ ((hI.world ((zB _ _).alloc (xgf _) _)).y mm2 (zFX hI.bel.size) (fun d9=>⟨fun _ E hl=>by obtain⟨v',u,b',z,q3,H⟩:=hI.v mm5 hl;have:=H.lt;cases u.symm.trans E;intro a b n m c a0 e1 Q;subst z;cases e1;cases Q;omega,fun e=>absurd e dE⟩))
  .have zt:T[2]?=some (.pointer (some ⟨w.heap.size,0,none⟩)):=hI.keep 2 sI
   go_simp;exact hK _ _ (hI.y mm3 rfl)
  .obtain⟨_,r7,rfl⟩:=hI.v mm3 (hd 3)
   have c7:=hI.cell P;go_simp;exact hK _ _ (hI.y mm4 rfl)
  .obtain⟨_,r8,rfl⟩:=hI.v mm4 (hd 4)
   go_simp;exact hK _ _ ((hI.world ((zB _ _).alloc (xgf _) _)).y mm5 (zFX hI.bel.size) (fun d9=>⟨fun e=>absurd e dE,fun _ E hl=>by obtain⟨v',u,b',z,q3,H⟩:=hI.v mm2 hl;have:=H.lt;cases u.symm.trans E;intro a b n m c a0 e1 Q;subst z;cases e1;cases Q;omega⟩))
  .obtain⟨vc,f7,d0⟩:=hI.v mm2 (hd 2)
   go_simp;exact hK _ _ (hI.y mm6 d0 (hc:=.inr (by repeat' (first|refine xgm.2 ⟨?_,?_⟩|exact xgn _|(intro e;exact absurd e dE)|(intro _;exact⟨hd 2 kR,f7⟩)))))
  obtain⟨vc,f7,d0⟩:=hI.v mm5 (hd 5);go_simp;exact hK _ _ (hI.y mm7 d0 (hc:=.inr (by repeat' (first|refine xgm.2 ⟨?_,?_⟩|exact xgn _|(intro e;exact absurd e dE)|(intro _;exact⟨hd 5 kR,f7⟩)))))
 intro T w3 hI;obtain⟨v0,q0,rfl⟩:=hI.v mm0 rfl;obtain⟨v1,u,rfl⟩:=hI.v mm1 rfl;obtain⟨e0,z,l7⟩:=hI.v mm2 rfl;obtain⟨v2,q3,rfl⟩:=hI.v mm3 rfl;obtain⟨v3,H,rfl⟩:=hI.v mm4 rfl;obtain⟨e5,q5,l8⟩:=hI.v mm5 rfl;obtain⟨f0,q6,m0⟩:=hI.v mm6 rfl;obtain⟨f5,q7,m5⟩:=hI.v mm7 rfl;have hT:=zCW [(24,.pointer (some ⟨w.heap.size,0,none⟩)),(25,.int .i64 R),(26,e0),(27,.pointer (some ⟨w.heap.size,1,none⟩)),(28,.int .i64 C),(29,e5),(7,f0),(8,f5)]
  (fun j hj=>hI.keep j (by simp only[xgm]at hj ⊢;simp[hj]))
  (by simp only[xgm];simp[q0,u,z,q3,H,q5,q6,q7]) hI.size
 obtain⟨o7,o8,o9,p0,i7⟩:=hI.pair rfl rfl;have d7:=hI.cpy;have g7:=hI.bel;clear hI;simp only[List.foldl_cons,List.foldl_nil,xgh,xgi,xgj,ptr]at hT;subst hT;clear q0 u z q3 H q5 q6 q7;have e6:f0=e0:=qC (d7 _ mm0 rfl).2;have e7:f5=e5:=qC (d7 _ mm1 rfl).2;have e8:e0=o7:=qC o9;have e9:e5=o8:=qC p0;subst e6 e7 e8 e9;obtain⟨I,rfl,s6,D⟩:zRT J.heap.size R w3 f0:=m0;obtain⟨A,rfl,s7,h9⟩:zRT J.heap.size C w3 f5:=m5;have d3:I≠A:=i7 _ _ _ _ _ _ rfl rfl;have s5:=f.lt;have m7:=nx hb g7;have f:=f.I g7;have t5:=hb.size;clear d7 i7 l7 l8 n6 n5 n0 n1 O P X Y Z c6;obtain⟨O,P,X,Y,Z,c6⟩:=f.three;have d:yY w3 A (qQ C (jD x (fun _=>0) 0)):=by rw[zFU];exact h9
 clear h9;go_wp2;go_loopw [32] (fun jv wr=>∃j:Nat,j<=C/\jv= .int .i64 j/\Below w.heap.size w wr/\Blk wr w.heap.size 29 #[.int .i64 R,.int .i64 C,.slice ao R l3]/\yY wr I (qQ R fun _=>0)/\yY wr A (qQ C (jD x (fun _=>0) j))) (fun jv _=>C-(intOf jv).toNat)
 case atStart=>exact⟨0,by omega,rfl,m7,f,D,d⟩
 clear f D d O P X Y Z c6;obtain⟨j,hj,rfl,S,f,D,d⟩:=hrel;by_cases r:j<C
 .obtain⟨bx,p9,d8,a,d6,k,rfl,s3,hz,p1,p2,a4⟩:=(HX.out.I S).cell (k:=j) (by rw[zO];exact r)
  rw[qU r]at hz;obtain rfl:x j=p9:=qC hz;clear hz;go_upto_region 7 with(fail)
  refine zE ?_;intro W6 g3;obtain⟨a5,T6,t0⟩:=qL g3;have f:=f.I a5;have D:=D.I a5;have d:=d.I a5;have a4:=a4.ext (lx a5);have S:=nx S a5;have sx:qS (Sm (x j)):=⟨F.bsm.sm _ (a3.out.rest 0 (zG _) j r)⟩;have sz:qS (Sm (0:Int)):=⟨F.bsm.sm _ (by simpa using l0.out)⟩;obtain⟨t1,t2,t3,t4⟩:=T6.two;clear p1 p2 g3;go_wp2_with fail
  refine(zEu _ _ (x j) 0 W6 a4.J (zCe W6).J sx.out sz.out).mono ?_;rintro e w7 ⟨d9,rfl,E,G⟩;rw[jN]at E;obtain⟨un,ua,ul,uc,ux,rfl,a7⟩:=id E;have HU:=xgw a7;have f:=f.I G;have D:=D.I G;have d:=d.I G;have S:=nx S G;clear a7 t1 t2 t3 t4;obtain⟨z0,z1,z2,z3,f1,f2,f3,f4,-⟩:=d.cell (qU r);have W:=d.set (k:=j) (by rw[zO];exact r) E;rw[zGb]at W;have lb:=f.lt;have lq:=D.lt;go_wp2;go_roundw
  case rel=>
   exact⟨j+1,by omega,by simp,yM (yM S oM _ _) oM _ _,(yG _ _ _ _ _ _ _ oM).trans f,D.old (yG _ _ _ _ _ _ _ d3) W.2,W.1⟩
  case measure=>simp[intOf];omega
 obtain rfl:j=C:=by omega
 rw[zG6]at d;obtain⟨O,P,X,Y,Z,c6⟩:=f.three;have s:yY wr I (qQ R (jD (zDl j (ent M) x) (fun _=>0) 0)):=by rw[zFU];exact D
 clear D;go_wp2;go_loopw [47] (fun iv wt=>∃i:Nat,i<=R/\iv= .int .i64 i/\Below w.heap.size w wt/\yY wt I (qQ R (jD (zDl j (ent M) x) (fun _=>0) i))/\yY wt A (qQ j (zD3 j (ent M) x i))) (fun iv _=>R-(intOf iv).toNat)
 case atStart=>exact⟨0,by omega,rfl,S,s,d⟩
 rename World=>wt
 clear S s d f O P X Y Z c6;obtain⟨i,hi,rfl,U,s,d⟩:=hrel;by_cases r:i<R
 .obtain⟨b,ra,rn,rc,zs,rfl,m9,hz,p1,b7⟩:=HR.out.row (k:=i) (by rw[HF.out.1];exact r)
  obtain rfl:=HF.out.row_eq hz;have i0:=b7.len.1;have p1:=(U.cell (p:=⟨b,i,none⟩) m9).trans p1;have b6:=b7.I U;rw[zO]at i0;subst i0;clear hz;go_wp2_with fail
  refine(zDr _ (qQ j (ent M i)) wt b6).mono ?_;rintro e w7 ⟨rfl,G⟩;obtain⟨a0,hd⟩:∃a0,zEp 0 (qQ j (ent M i))=a0:=⟨_,rfl⟩;rw[hd];have HD:=xgw (show lead j (ent M) i=a0 from hd);have U:=nx U G;have s:=s.I G;have d:=d.I G;have b6:=b6.I G;clear hd p1;by_cases a6:a0<0
  .have s4:decide (0<=a0)=false:=zR oM
   have HN:=xgw a6;clear a6;go_wp2;go_roundw
   case rel=>
    have h7:zDl j (ent M) x i=0:=by unfold zDl quo;rw[zC (by rw[HD.out];exact HN.out)]
    have e1:qQ R (jD (zDl j (ent M) x) (fun _=>0) i)=qQ R (jD (zDl j (ent M) x) (fun _=>0) (i+1)):=qZ fun t _=>by
     unfold jD;by_cases h1:t<i
     .rw[zC h1,zC oM]
     by_cases h2:t=i
     .rw[zA h1,zC oM,h2,h7]
     rw[zA h1,zA oM]
    have Q:qQ j (zD3 j (ent M) x i)=qQ j (zD3 j (ent M) x (i+1)):=qZ fun t _=>by
     show _=zD3 j (ent M) x i t+-(zDl j (ent M) x i)*ent M i t;rw[h7];omega
    rw[e1]at s;rw[Q]at d;exact⟨i+1,by omega,by simp,U,s,d⟩
   case measure=>simp[intOf];omega
  obtain⟨c,rfl⟩:=Int.eq_ofNat_of_zero_le (Int.not_lt.1 a6);obtain⟨b4,g8⟩:=zDs HD.out;have d2:zDl j (ent M) x i=zD3 j (ent M) x i c/ent M i c:=by unfold zDl quo;rw[HD.out,zA a6];rfl
  obtain⟨y,hy⟩:∃y,zD3 j (ent M) x i c=y:=⟨_,rfl⟩;obtain⟨p,hp⟩:∃p,ent M i c=p:=⟨_,rfl⟩;obtain⟨q,V⟩:∃q,zDl j (ent M) x i=q:=⟨_,rfl⟩;have o4:qS (Sm y):=⟨by rw[<-hy];exact F.bsm.sm _ (a3.out.rest i oM c b4)⟩;have n8:qS (Sm p):=⟨by rw[<-hp];exact F.bsm.sm _ (a3.out.mat i r c b4)⟩;have d1:qS (q.natAbs<B/\∀t,t<j->(-q*ent M i t).natAbs<B):=⟨by rw[<-V];exact a3.out.quot i r⟩;have n7:qS (p≠0):=⟨by rw[<-hp];exact g8⟩;rw[V,hy,hp]at d2;obtain⟨_,_,_,e1,-,g1,g2,g5⟩:=id b7;cases e1;obtain⟨N,rfl,i3⟩:=g5 (fun h=>by have:=congrArg List.length h;rw[zO]at this;simp at this;omega);have s1:=i3.lt;have i4:=i3.I U;obtain⟨d8,a,d6,k,u,z,-,-,a4⟩:=i4.cell (qU b4);rw[hp]at a4;clear g5;obtain⟨s2,a2,l2,k2,o1,o2,-,-,h4⟩:=d.cell (qU b4);rw[hy]at h4;have HY:=xgw hy;have HP:=xgw hp;have HQ:=xgw V;have l1:=xgw d2;have lq:=s.lt;have lr:=d.lt;have n2:=zI5 y p;have n3:zAA (fun _ _=>True):=fun _ _ _ _ _=>trivial
  clear hy hp V d2 g8 a6 b6 b7;go_upto_region 14 with(fail)
  refine zBJ rfl (RAS ([]) 99 w7 _ [⟨0,57,fun _ v=>v= .slice (some ⟨I,0,none⟩) R R⟩,⟨1,58,fun _ v=>v= .int .i64 i⟩,⟨2,59,fun _ v=>v= .slice (some ⟨A,0,none⟩) j j⟩,⟨3,60,fun _ v=>v= .int .i64 c⟩,⟨4,61,fun _ v=>v= .pointer (some ⟨A,c*2,none⟩)⟩,⟨5,62,fun _ v=>v= .agg #[.bool s2,.slice a2 l2 k2]⟩,⟨6,63,fun _ v=>v= .slice (some ⟨N,0,none⟩) j rc⟩,⟨7,64,fun _ v=>v= .int .i64 c⟩,⟨8,65,fun _ v=>v= .pointer (some ⟨N,c*2,none⟩)⟩,⟨9,66,fun _ v=>v= .agg #[.bool d8,.slice a d6 k]⟩,⟨10,67,DMV y p⟩,⟨11,56,DMV y p⟩,⟨12,68,fun w v=>yA w v (y/p)⟩,⟨13,69,fun _ _=>True⟩,⟨14,70,fun _ v=>v= .int .i64 0⟩,⟨15,71,fun _ v=>v= .pointer (some ⟨I,i*2,none⟩)⟩] 16 (zUf 71 68)) kR (zBt (zCK kR (by repeat' (first|exact zBU _|exact zBs _|exact zAl _ _ _|exact zAX _|assumption|refine xgm.2 ⟨?_,?_⟩|exact xgn _)))) ?fin2 ?steps2
  case steps2=>
   refine⟨?_,?_,?_,?_,?_,?_,?_,?_,?_,?_,?_,?_,?_,?_,?_,?_,?_,trivial⟩
   .refine zV.liftA kR dE ?_
    intro L T o g hd l hI K hK;try refine zD rfl ?_
    have zt:T[7]?=some (.slice (some ⟨I,0,none⟩) R R):=hI.keep 7 sI;go_simp;exact hK _ _ (hI.y mm0 rfl)
   .refine zV.liftA kR dE ?_
    intro L T o g hd l hI K hK;try refine zD rfl ?_
    have zt:T[11]?=some (.int .i64 i):=hI.keep 11 sI;go_simp;exact hK _ _ (hI.y mm1 rfl)
   .refine zV.liftA kR dE ?_
    intro L T o g hd l hI K hK;try refine zD rfl ?_
    have zt:T[8]?=some (.slice (some ⟨A,0,none⟩) j j):=hI.keep 8 sI;go_simp;exact hK _ _ (hI.y mm2 rfl)
   .refine zV.liftA kR dE ?_
    intro L T o g hd l hI K hK;try refine zD rfl ?_
    have zt:T[13]?=some (.int .i64 c):=hI.keep 13 sI;go_simp;exact hK _ _ (hI.y mm3 rfl)
   .refine zV.liftA kR dE ?_
    intro L T o g hd l hI K hK;try refine zD rfl ?_
    obtain⟨_,A2,rfl⟩:=hI.v mm2 (hd 2);obtain⟨_,r7,rfl⟩:=hI.v mm3 (hd 3);go_simp;exact hK _ _ (hI.y mm4 rfl)
   .refine zV.liftA kR dE ?_
    intro L T o g hd l hI K hK;try refine zD rfl ?_
    obtain⟨_,r8,rfl⟩:=hI.v mm4 (hd 4);have c7:=hI.cell (sI) oM o1;have l4:=hI.cell (sI) oM o2;go_simp;exact hK _ _ (hI.y mm5 rfl)
   .refine zV.liftA kR dE ?_
    intro L T o g hd l hI K hK;try refine zD rfl ?_
    have zt:T[12]?=some (.slice (some ⟨N,0,none⟩) j rc):=hI.keep 12 sI;go_simp;exact hK _ _ (hI.y mm6 rfl)
   .refine zV.liftA kR dE ?_
    intro L T o g hd l hI K hK;try refine zD rfl ?_
    have zt:T[13]?=some (.int .i64 c):=hI.keep 13 sI;go_simp;exact hK _ _ (hI.y mm7 rfl)
   .refine zV.liftA kR dE ?_
    intro L T o g hd l hI K hK;try refine zD rfl ?_
    obtain⟨_,A4,rfl⟩:=hI.v mm6 (hd 6);obtain⟨_,A5,rfl⟩:=hI.v mm7 (hd 7);go_simp;exact hK _ _ (hI.y mm8 rfl)
   .refine zV.liftA kR dE ?_
    intro L T o g hd l hI K hK;try refine zD rfl ?_
    obtain⟨_,A6,rfl⟩:=hI.v mm8 (hd 8);have c7:=hI.cell (sI) oM u;have l4:=hI.cell (sI) oM z;go_simp;exact hK _ _ (hI.y mm9 rfl)
   .refine zV.liftA kR dE ?_
    intro L T o g hd l hI K hK;try refine zD rfl ?_
    obtain⟨_,A3,rfl⟩:=hI.v mm5 (hd 5);obtain⟨_,A7,rfl⟩:=hI.v mm9 (hd 9);go_simp;refine(zL4 _ _ y p _ (h4.ext hI.onl.lext).J (a4.ext hI.onl.lext).J o4.out n8.out n7.out).mono ?_;rintro e wa ⟨v,rfl,hv,m8⟩;exact hK _ _ ((hI.world m8).y zHa hv)
   .refine zV.liftA kR dE ?_
    intro L T o g hd l hI K hK;try refine zD rfl ?_
    obtain⟨t7,A1,l5⟩:=hI.v zHa (hd 10);go_simp;exact hK _ _ (hI.y zHH l5)
   .refine zV.liftA kR dE ?_
    intro L T o g hd l hI K hK;try refine zD rfl ?_
    obtain⟨t9,k9,l6⟩:=hI.v zHH (hd 11);obtain⟨qq,rr,rfl,V,hr⟩:=l6;go_simp;exact hK _ _ (hI.y zHT V)
   .intro L T o g hd l hI K hK
    try refine zD rfl ?_
    obtain⟨w0,hJ,-,-⟩:=id hI;obtain⟨f6,k9,b0⟩:=hJ.val _ zHH (hd 11);obtain⟨qq,rr,rfl,V,hr⟩:DMV y p w0 f6:=b0;go_simp;exact hK _ _ (hI.pure ⟨13,69,_⟩ zIh rfl (fun _=>trivial) dE (fun _=>zHg dE dE))
   .intro L T o g hd l hI K hK
    try refine zD rfl ?_
    obtain⟨w0,hJ,-,-⟩:=id hI;obtain⟨f6,k9,b0⟩:=hJ.val _ zHH (hd 11);obtain⟨qq,rr,rfl,V,hr⟩:DMV y p w0 f6:=b0;go_simp;exact hK _ _ (hI.pure ⟨14,70,_⟩ zKJ rfl (fun _=>rfl) dE (fun _=>zHg dE dE))
   .refine zV.liftA kR dE ?_
    intro L T o g hd l hI K hK;try refine zD rfl ?_
    obtain⟨_,r0,rfl⟩:=hI.v mm0 (hd 0);obtain⟨_,r4,rfl⟩:=hI.v mm1 (hd 1);go_simp;exact hK _ _ (hI.y zJ3 rfl)
   intro L T o g hd l hI K hK;try refine zD rfl ?_
   replace hI:=hI.here g;obtain⟨_,r6,rfl⟩:=hI.v zJ3 (hd 15);obtain⟨A0,r5,a1⟩:=hI.v zHT (hd 12);obtain⟨v8,v4,v6,v5,v7,rfl,t6⟩:=id a1;obtain⟨_,_,_,_,k1,k2,k3,k4,-⟩:=(s.only hI.onl sI).cell (qU r);go_simp;exact hK _ _ (zBu hI g (by repeat' (first|exact xgn _|refine xgm.2 ⟨by dsimp only;decide,?_⟩)) dE (zJ8 r6 r5).symm)
  intro T b9 hJ;obtain⟨w8,hI,-,b8⟩:=hJ;replace b8:=b8 kR;obtain⟨v9,q0,rfl⟩:=hI.v mm0 rfl;obtain⟨w2,u,rfl⟩:=hI.v mm1 rfl;obtain⟨w6,z,rfl⟩:=hI.v mm2 rfl;obtain⟨w9,q3,rfl⟩:=hI.v mm3 rfl;obtain⟨x0,H,rfl⟩:=hI.v mm4 rfl;obtain⟨x1,q5,rfl⟩:=hI.v mm5 rfl;obtain⟨x5,q6,rfl⟩:=hI.v mm6 rfl;obtain⟨x6,q7,rfl⟩:=hI.v mm7 rfl;obtain⟨x7,q8,rfl⟩:=hI.v mm8 rfl;obtain⟨x8,q9,rfl⟩:=hI.v mm9 rfl;obtain⟨p4,i8,o5⟩:=hI.v zHa rfl;obtain⟨p5,i9,b0⟩:=hI.v zHH rfl;obtain⟨k8,k0,a1⟩:=hI.v zHT rfl;replace a1:yA w8 k8 (y/p):=a1;obtain⟨p6,k5,o6⟩:=hI.v zIh rfl;obtain⟨w4,k6,rfl⟩:=hI.v zKJ rfl;obtain⟨w5,k7,rfl⟩:=hI.v zJ3 rfl;have hT:=zCW [(57,.slice (some ⟨I,0,none⟩) R R),(58,.int .i64 i),(59,.slice (some ⟨A,0,none⟩) j j),(60,.int .i64 c),(61,.pointer (some ⟨A,c*2,none⟩)),(62,.agg #[.bool s2,.slice a2 l2 k2]),(63,.slice (some ⟨N,0,none⟩) j rc),(64,.int .i64 c),(65,.pointer (some ⟨N,c*2,none⟩)),(66,.agg #[.bool d8,.slice a d6 k]),(67,p4),(56,p5),(68,k8),(69,p6),(70,.int .i64 0),(71,.pointer (some ⟨I,i*2,none⟩))]
   (fun j hj=>hI.keep j (by simp only[xgm]at hj ⊢;simp[hj]))
   (by simp only[xgm];simp[q0,u,z,q3,H,q5,q6,q7,q8,q9,i8,i9,k0,k5,k6,k7]) hI.size
  have h5:=hI.onl;clear hI;simp only[List.foldl_cons,List.foldl_nil,xgh,xgi,xgj,ptr]at hT;subst hT;clear q0 u z q3 H q5 q6 q7 q8 q9 i8 i9 k0 k5 k6 k7;have b3:=zHb h5;obtain⟨qn,qa,ql,qc,qx,rfl,h6⟩:=id a1;have s0:=xgw h6;have a8:=b8.trans (zJ8 rfl rfl);have o0:=s.I b3;have W:=o0.set (k:=i) (by rw[zO];exact r) a1;rw[<-a8,show y/p=zDl j (ent M) x i from by rw[HQ.out,l1.out],zGb]at W;have i6:=W.2;have d4:yY b9 A (qQ j (zD3 j (ent M) x i)):=(d.I b3).old (by rw[a8];exact yG _ _ _ _ _ _ _ (zL d3)) i6;have d5:yY b9 N (qQ j (ent M i)):=(i4.I b3).old (by rw[a8];exact yG _ _ _ _ _ _ _ oM) i6;have c8:Below w.heap.size w b9:=by rw[a8];exact yM (yM (nx U b3) oM _ _) oM _ _
  have b5:=W.1;obtain⟨s9,a9,l9,c9,f1,f2,-,-,i5⟩:=b5.cell (qU r);rw[show jD (zDl j (ent M) x) (fun _=>0) (i+1) i=q from by unfold jD;rw[zC oM,HQ.out]]at i5;have sq:qS (Sm q):=⟨F.bsm.sm _ d1.out.1⟩;have p3:qS (Sm (-q)):=⟨F.bsm.sm _ (by rw[qO];exact d1.out.1)⟩;have n4:A≠N:=by omega
  clear W a8 h6 b8 a1 u z o1 o2 o5 b0 o6 n2 n3 h5;go_wp2_with fail
  refine(zCN _ q b9 i5.J sq.out).mono ?_;rintro e p7 ⟨d9,rfl,E,b2⟩;obtain⟨un,ua,ul,uc,ux,rfl,a7⟩:=id E;have HU:=xgw a7;have d4:=d4.I b2;have d5:=d5.I b2;have b5:=b5.I b2;have c8:=nx c8 b2;clear f1 f2 a7;go_wp2_with fail
  refine(zI1 A N j j rc (zD3 j (ent M) x i) (ent M i) _ (-q) p7 d4 d5 n4 E hC (xgf _) oM oM oM (fun t ht=>⟨F.bsm.sm _ (a3.out.rest i oM t ht),F.bsm.sm _ (a3.out.mat i r t ht),F.bsm.sm _ (d1.out.2 t ht)⟩) p3.out).mono ?_;rintro e p8 ⟨⟨u11,rfl⟩,ho,h8⟩;have m6:Below w.heap.size w p8:=Below.only c8 ho (xgf _) (fun b hb=>by simp at hb;omega);have n9:=b5.only ho (by simpa using d3);have o3:qQ j (fun t=>zD3 j (ent M) x i t+-q*ent M i t)=qQ j (zD3 j (ent M) x (i+1)):=qZ fun t _=>by
   show _=zD3 j (ent M) x i t+-(zDl j (ent M) x i)*ent M i t;rw[HQ.out]
  rw[o3]at h8;go_wp2;go_roundw
  case rel=>exact⟨i+1,by omega,by simp,m6,n9,h8⟩
  case measure=>simp[intOf];omega
 obtain rfl:i=R:=by omega
 rw[zG6]at s;go_wp2;refine bodyPost_ret (zF7 rfl _ _ _) rfl ?_;exact⟨_,_,rfl,s.vec (zO _ _) (xgf _) oM,d.vec (zO _ _) (xgf _) oM,U⟩
abbrev tBe:TypeId:=158
theorem zHc{u:Value}(c:zBC w ((w.setCell ⟨b,i,none⟩ u).setCell ⟨b,i+1,none⟩ v)):zA5 [b] w ((w.setCell ⟨b,i,none⟩ u).setCell ⟨b,i+1,none⟩ v):=
 ⟨yM (yM (zB _ _) (zG _) _ _) (zG _) _ _,c,fun k d a=>yG w b i (i+1) k u v (fun e=>a (by rw[e];simp))⟩
theorem zGB{z:Int}:zAB z 0=0↔z=0:=by
 unfold zAB;split;constructor<;>intro h<;>omega
 split;constructor<;>intro h<;>omega
 constructor<;>intro h<;>omega
theorem zHM{e:Nat}(b m c:Nat)(xo zo:Option Addr)(xc zc:Nat)(rv pv:Value)(ln od:Bool)(la:Option Addr)(ll lc:Nat)(x z:Nat->Int)(q:Int)(w:World)(l:Blk w b tBe #[rv,.bool ln,.slice la ll lc,.bool od,pv])(U:yA w (.agg #[.bool ln,.slice la ll lc]) q)
  (hx:zAR w (.slice xo m xc) (qQ m x)) (hz:zAR w (.slice zo m zc) (qQ m z)) (hc:c<m) (hm:m<=1000000) (f6:q≠0) (he:2*e+1<=1000000) (f7:q.natAbs<2^e) (X:∀j,j<m->(x j).natAbs<2^e) (Z:∀j,j<m->(z j).natAbs<2^e):
  Calls Tryz.prog 172 #[.pointer (some ⟨b,0,none⟩),.slice xo m xc,.slice zo m zc,.int .i64 c] w fun e w'=>e= .returned (.slice (some ⟨w.heap.size,0,none⟩) m m)/\yY w' w.heap.size (qQ m fun j=>(z c*x j-x c*z j)/q)/\Below w.heap.size w w':=by
 have HX:=xgv hx;have HZ:=xgv hz;have HQ:=xgv U;have c0:qS (Sm q/\(∀j,j<m->Sm (x j)/\Sm (z j)/\Sm (z c*x j)/\Sm (x c*z j)/\Sm (z c*x j-x c*z j))):=⟨jX f7 oM,fun j r=>⟨jX (X j r) oM,jX (Z j r) oM,jX (zSD (Z c hc) (X j r)) oM,jX (zSD (X c hc) (Z j r)) oM,jX (zW7 (zSD (Z c hc) (X j r)) (zSD (X c hc) (Z j r))) oM⟩⟩;have i4:=xgv f6;obtain⟨F,hF⟩:∃F:Nat->Int,(fun j=>(z c*x j-x c*z j)/q)=F:=⟨_,rfl⟩;have i0:qS (∀j,F j=(z c*x j-x c*z j)/q):=⟨fun j=>by rw[<-hF]⟩;rw[hF];have n7:=l.lt;clear hx hz U f6 he f7 X Z hF;have o0:∀a0:World,(Instr.makeSlice 31 (.int .i64 (m:Int)) (.int .i64 (m:Int))).run Tryz.prog a0= .ok (.slice (some ⟨a0.heap.size,0,none⟩) (m) (m)) (a0.alloc (.cells (zeroCells (m)) tI)):=fun a0=>mkI (m:Int) m rfl oM a0
 go_enter Tryz.func172,Tryz.ntmps172;go_upto_region 2 with(fail)
 refine zE ?_;intro W0 c4;have d9:Below w.heap.size w W0:=by rw[c4.out];exact(zB _ _).alloc (xgf _) _
 have h:yY W0 w.heap.size (qQ m (jD F (fun _=>0) 0)):=by
  rw[zFU,c4.out];obtain⟨_,N,-,h2⟩:=zFX (w:=w) (lo:=0) (n:=m) (zG _);injection N with N
  injection N with N
  injection N with N
  rw[N];exact h2
 clear c4;go_wp2;go_loopw [18] (fun iv wr=>∃j:Nat,j<=m/\iv= .int .i64 j/\Below w.heap.size w wr/\yY wr w.heap.size (qQ m (jD F (fun _=>0) j))) (fun iv _=>m-(intOf iv).toNat)
 case atStart=>exact⟨0,by omega,rfl,d9,h⟩
 clear d9 h;obtain⟨j,r,rfl,G,h⟩:=hrel;by_cases S:j<m
 .have l:=l.I G
  have HX:=xgv (HX.out.I G);have HZ:=xgv (HZ.out.I G);have HQ:=xgv (HQ.out.I G (xgf _));obtain⟨xb,xj,s1,a1,l1,k1,rfl,g8,a7,p1,p2,f8⟩:=HX.out.cell (k:=j) (by rw[zO];exact S);obtain⟨t0,u,s2,a2,l2,k2,E,-,W,I,J,f9⟩:=HX.out.cell (k:=c) (by rw[zO];exact hc);injection E with E
  injection E with E
  subst E;obtain⟨zb,A,s3,a3,l3,k3,rfl,g9,a9,s,t,g5⟩:=HZ.out.cell (k:=j) (by rw[zO];exact S);obtain⟨t4,b3,s4,a4,l4,k4,e4,-,Y,p7,p8,g6⟩:=HZ.out.cell (k:=c) (by rw[zO];exact hc);injection e4 with e4
  injection e4 with e4
  subst e4;rw[qU S]at a7 a9;rw[qU hc]at W Y;injection a7 with a7
  injection a9 with a9
  injection W with W
  injection Y with Y
  have R:=xgv (c0.out.2 j S);have b9:=xgv (c0.out.2 c hc);have b8:=xgv (i0.out j);rw[a7,a9,W,Y]at R b8;rw[W,Y]at b9;have V1:=xgv f8;have C:=xgv f9;have D:=xgv g5;have V4:=xgv g6;clear f8 f9 g5 g6 a7 a9 W Y;go_upto_region 5 with(fail)
  refine zE ?_;intro W4 e9;obtain⟨a,T4,o1⟩:=qL e9;have I:=qK I a;have J:=qK J a;have s:=qK s a;have t:=qK t a;have p7:=qK p7 a;have p8:=qK p8 a;have l:=l.I a;have h:=h.I a;have e0:=nx G a;have e6:=HQ.out.I a (xgf _);have V1:=xgv (V1.out.I a (xgf _));have C:=xgv (C.out.I a (xgf _));have D:=xgv (D.out.I a (xgf _));have V4:=xgv (V4.out.I a (xgf _));have HQ:=xgv e6;obtain⟨g1,g2,g3,g4⟩:=T4.two;have o7:=g9;have o6:=g8;have o3:=T4.lt;have q4:=a.size;have o5:=h.lt;clear e9 p1 p2 e6;refine zBK [pcI 5 (b3*xj),pbA 6 51 2,pbS 7 6 51 2] ?_;refine sRd ?_;refine sRc (fun d hI Gk hG=>?_) (fun o8 H=>?_)
  .go_simp
   exact ck hG (zCD _ _ b3 xj _ (V4.out.ext hI.lext).J (V1.out.ext hI.lext).J b9.out.2.1 R.out.1)
  obtain⟨h6,h9,rfl,m6⟩:=zNr H;clear H;refine sRa (cs:=#[.bool false,.slice none 0 0]) fun B d8=>?_
  refine sRs B (.agg #[h6,h9]) ?_ m6;refine sRb ?_;simp only[FA,FC,FN,ptr,List.nil_append,List.cons_append,Act.put,xgh,xgi,xgj];intro w5 p f0 b2 m5;replace b2:Blk w5 B 51 #[h6,h9]:=b2 _ rfl;have g7:=f0;clear m5;have f:=zCa.mk b2 g7;have l:=l.I p;have h:=h.I p;have e3:=nx e0 p;have C:=xgv (C.out.ext (lx p));obtain⟨t1,ta,tl,tc,f,b0⟩:=id f;have M:=xgv b0;have I:=qK I p;have J:=qK J p;have s:=qK s p;have t:=qK t p;have e7:=HQ.out.ext (lx p);have D:=xgv (D.out.ext (lx p));have HQ:=xgv e7;have o4:=b2.lt;clear e7 b0 b2 g7 f0 g1 g2 g3 g4 p7 p8;have ga:=d8;go_upto_region 6 with(fail)
  rename_i K1 e5 K0 k5;have d4:=xgv e5;obtain⟨V,hV⟩:∃V,b3*xj-u*A=V:=⟨_,rfl⟩;have c1:=xgv hV;have i5:qS (Sm V):=⟨by rw[<-hV];exact R.out.2.2.2.2⟩;have i3:qS (F j=V/q):=⟨by rw[b8.out,hV]⟩;clear e5 hV b8 d8;have d7:∀{u19 u20 u21 u22 u23 u24 u25 u26 u27 u28 u29 u30 u31 u32 u33 u34 u35 u36 u37 u38 u39 u40 u41 u42 u43 u44 u45 u46 u47 u48 u49 u50 u51 u52 u53 u54 u55 u56 u57 u58 u59 u60 u61 u62 u63 u64 u65 u66 u67:Value} (Q:World),zA5 [B] w5 Q->zCa Q B V->K1 {tmps:=#[.pointer (some ⟨b,0,none⟩),.slice (some ⟨xb,0,none⟩) m xc,.slice (some ⟨zb,0,none⟩) m zc,.int .i64 c,undef,undef,undef,undef,.slice none 0 0,.slice (some ⟨w.heap.size,0,none⟩) m m,.int .i64 j,.pointer (some ⟨wr.heap.size,0,none⟩),.pointer (some ⟨B,0,none⟩),.slice (some ⟨xb,0,none⟩) m xc,.int .i64 m,.slice (some ⟨w.heap.size,0,none⟩) m m,.slice (some ⟨xb,0,none⟩) m xc,.int .i64 m,.int .i64 j,u19,u20,u21,u22,u23,u24,u25,u26,u27,u28,u29,u30,u31,u32,u33,u34,u35,u36,u37,u38,u39,u40,u41,u42,u43,u44,u45,u46,u47,u48,u49,u50,u51,u52,u53,u54,u55,u56,u57,u58,u59,u60,u61,u62,u63,u64,u65,u66,u67,undef],defers:=[]} Q:=by
   intro u19 u20 u21 u22 u23 u24 u25 u26 u27 u28 u29 u30 u31 u32 u33 u34 u35 u36 u37 u38 u39 u40 u41 u42 u43 u44 u45 u46 u47 u48 u49 u50 u51 u52 u53 u54 u55 u56 u57 u58 u59 u60 u61 u62 u63 u64 u65 u66 u67 Q hX hT;refine d4.out _ _ ?_;have qB:=G.size;have c7:Blk Q b tBe #[rv,.bool ln,.slice la ll lc,.bool od,pv]:=(hX.old _ l.lt (by simp;omega)).trans l;have c9:=h.only hX (by simp;omega);have e8:=HQ.out.ext hX.lext;have k0:Below w.heap.size w Q:=Below.only e3 hX (xgf _) (fun k hk=>by simp at hk;omega);obtain⟨t1,ta,tl,tc,f,b0⟩:=hT;have M:=xgv b0;have HQ:=xgv e8;have e1:=c7.cell 1;have E:=c7.cell 2;obtain⟨f1,f2,f3,f4⟩:=f.two;have n1:=c7.lt;have n2:=c9.lt;have n3:=f.lt;have k8:=zI5 V q;have k9:zAA (fun _ _=>True):=fun _ _ _ _ _=>trivial
   clear d4 k5 hX l h e8 e3 b0 e0 a G I J s t g8 g9;refine zBJ rfl (RAS ([]) 99 Q _ [⟨0,55,fun _ v=>v= .slice (some ⟨w.heap.size,0,none⟩) m m⟩,⟨1,56,fun _ v=>v= .int .i64 j⟩,⟨2,57,fun _ v=>v= .agg #[.bool t1,.slice ta tl tc]⟩,⟨3,58,fun _ v=>v= .pointer (some ⟨b,0,none⟩)⟩,⟨4,59,fun _ v=>v= .pointer (some ⟨b,0,none⟩)⟩,⟨5,60,fun _ v=>v= .pointer (some ⟨b,1,none⟩)⟩,⟨6,61,fun _ v=>v= .agg #[.bool ln,.slice la ll lc]⟩,⟨7,62,DMV V q⟩,⟨8,54,DMV V q⟩,⟨9,63,fun w v=>yA w v (V/q)⟩,⟨10,64,fun _ _=>True⟩,⟨11,65,fun _ v=>v= .int .i64 0⟩,⟨12,66,fun _ v=>v= .pointer (some ⟨w.heap.size,j*2,none⟩)⟩] 13 (zUf 66 63)) kR (zBt (zCK kR (by repeat' (first|exact zBU _|exact zBs _|exact zAl _ _ _|exact zAX _|assumption|refine xgm.2 ⟨?_,?_⟩|exact xgn _)))) ?fin2 ?steps2
   case steps2=>
    refine⟨?_,?_,?_,?_,?_,?_,?_,?_,?_,?_,?_,?_,?_,?_,trivial⟩
    .refine zV.liftA kR dE ?_
     intro L T d g hd i hI K hK;try refine zD rfl ?_
     have zt:T[9]?=some (.slice (some ⟨w.heap.size,0,none⟩) m m):=hI.keep 9 sI;go_simp;exact hK _ _ (hI.y mm0 rfl)
    .refine zV.liftA kR dE ?_
     intro L T d g hd i hI K hK;try refine zD rfl ?_
     have zt:T[10]?=some (.int .i64 j):=hI.keep 10 sI;go_simp;exact hK _ _ (hI.y mm1 rfl)
    .refine zV.liftA kR dE ?_
     intro L T d g hd i hI K hK;try refine zD rfl ?_
     have zt:T[12]?=some (.pointer (some ⟨B,0,none⟩)):=hI.keep 12 sI;have i8:=hI.cell (sI) oM f1;have i9:=hI.cell (sI) oM f2;go_simp;exact hK _ _ (hI.y mm2 rfl)
    .refine zV.liftA kR dE ?_
     intro L T d g hd i hI K hK;try refine zD rfl ?_
     have zt:T[0]?=some (.pointer (some ⟨b,0,none⟩)):=hI.keep 0 sI;go_simp;exact hK _ _ (hI.y mm3 rfl)
    .refine zV.liftA kR dE ?_
     intro L T d g hd i hI K hK;try refine zD rfl ?_
     obtain⟨_,t9,rfl⟩:=hI.v mm3 (hd 3);go_simp;exact hK _ _ (hI.y mm4 rfl)
    .refine zV.liftA kR dE ?_
     intro L T d g hd i hI K hK;try refine zD rfl ?_
     obtain⟨_,v0,rfl⟩:=hI.v mm4 (hd 4);go_simp;exact hK _ _ (hI.y mm5 rfl)
    .refine zV.liftA kR dE ?_
     intro L T d g hd i hI K hK;try refine zD rfl ?_
     obtain⟨_,v1,rfl⟩:=hI.v mm5 (hd 5);have i8:=hI.cell (sI) oM e1;have i9:=hI.cell (sI) oM E;go_simp;exact hK _ _ (hI.y mm6 rfl)
    .refine zV.liftA kR dE ?_
     intro L T d g hd i hI K hK;try refine zD rfl ?_
     obtain⟨_,t7,rfl⟩:=hI.v mm2 (hd 2);obtain⟨_,v2,rfl⟩:=hI.v mm6 (hd 6);go_simp;refine(zL4 _ _ V q _ (M.out.ext hI.onl.lext).J (HQ.out.ext hI.onl.lext).J i5.out c0.out.1 i4.out).mono ?_;rintro e wa ⟨v,rfl,H,k7⟩;exact hK _ _ ((hI.world k7).y mm7 H)
    .refine zV.liftA kR dE ?_
     intro L T d g hd i hI K hK;try refine zD rfl ?_
     obtain⟨v7,v3,h7⟩:=hI.v mm7 (hd 7);go_simp;exact hK _ _ (hI.y mm8 h7)
    .refine zV.liftA kR dE ?_
     intro L T d g hd i hI K hK;try refine zD rfl ?_
     obtain⟨v8,v4,h8⟩:=hI.v mm8 (hd 8);obtain⟨qq,rr,rfl,U,h⟩:=h8;go_simp;exact hK _ _ (hI.y mm9 U)
    .intro L T d g hd i hI K hK
     try refine zD rfl ?_
     obtain⟨w0,hJ,-,-⟩:=id hI;obtain⟨d3,n4,d2⟩:=hJ.val _ mm8 (hd 8);obtain⟨qq,rr,rfl,U,h⟩:DMV V q w0 d3:=d2;go_simp;exact hK _ _ (hI.pure ⟨10,64,_⟩ zHa rfl (fun _=>trivial) dE (fun _=>zHg dE dE))
    .intro L T d g hd i hI K hK
     try refine zD rfl ?_
     obtain⟨w0,hJ,-,-⟩:=id hI;obtain⟨d3,n4,d2⟩:=hJ.val _ mm8 (hd 8);obtain⟨qq,rr,rfl,U,h⟩:DMV V q w0 d3:=d2;go_simp;exact hK _ _ (hI.pure ⟨11,65,_⟩ zHH rfl (fun _=>rfl) dE (fun _=>zHg dE dE))
    .refine zV.liftA kR dE ?_
     intro L T d g hd i hI K hK;try refine zD rfl ?_
     obtain⟨_,t5,rfl⟩:=hI.v mm0 (hd 0);obtain⟨_,t6,rfl⟩:=hI.v mm1 (hd 1);go_simp;exact hK _ _ (hI.y zHT rfl)
    intro L T d g hd i hI K hK;try refine zD rfl ?_
    replace hI:=hI.here g;obtain⟨_,n6,rfl⟩:=hI.v zHT (hd 12);obtain⟨t3,n5,l8⟩:=hI.v mm9 (hd 9);obtain⟨r6,o9,r4,r0,r5,rfl,o2⟩:=id l8;obtain⟨_,_,_,_,y1,y2,y3,y4,-⟩:=(c9.only hI.onl sI).cell (qU S);go_simp;exact hK _ _ (zBu hI g (by repeat' (first|exact xgn _|refine xgm.2 ⟨by dsimp only;decide,?_⟩)) dE (zJ8 n6 n5).symm)
   intro T n0 hJ;obtain⟨w8,hI,-,b4⟩:=hJ;replace b4:=b4 kR;obtain⟨r7,q0,rfl⟩:=hI.v mm0 rfl;obtain⟨r8,q1,rfl⟩:=hI.v mm1 rfl;obtain⟨s5,q2,rfl⟩:=hI.v mm2 rfl;obtain⟨s6,q3,rfl⟩:=hI.v mm3 rfl;obtain⟨s7,q4,rfl⟩:=hI.v mm4 rfl;obtain⟨s8,q5,rfl⟩:=hI.v mm5 rfl;obtain⟨s9,q6,rfl⟩:=hI.v mm6 rfl;obtain⟨m8,q7,l9⟩:=hI.v mm7 rfl;obtain⟨m9,q8,m0⟩:=hI.v mm8 rfl;obtain⟨h5,q9,a8⟩:=hI.v mm9 rfl;replace a8:yA w8 h5 (V/q):=a8;obtain⟨m7,h0,l7⟩:=hI.v zHa rfl;obtain⟨r9,h3,rfl⟩:=hI.v zHH rfl;obtain⟨s0,h4,rfl⟩:=hI.v zHT rfl;have hT:=zCW [(55,.slice (some ⟨w.heap.size,0,none⟩) m m),(56,.int .i64 j),(57,.agg #[.bool t1,.slice ta tl tc]),(58,.pointer (some ⟨b,0,none⟩)),(59,.pointer (some ⟨b,0,none⟩)),(60,.pointer (some ⟨b,1,none⟩)),(61,.agg #[.bool ln,.slice la ll lc]),(62,m8),(54,m9),(63,h5),(64,m7),(65,.int .i64 0),(66,.pointer (some ⟨w.heap.size,j*2,none⟩))]
    (fun j r=>hI.keep j (by simp only[xgm]at r ⊢;simp[r]))
    (by simp only[xgm];simp[q0,q1,q2,q3,q4,q5,q6,q7,q8,q9,h0,h3,h4]) hI.size
   have f5:=hI.onl;clear hI;simp only[List.foldl_cons,List.foldl_nil,xgh,xgi,xgj,ptr]at hT;subst hT;clear q0 q1 q2 q3 q4 q5 q6 q7 q8 q9 h0 h3 h4;have a6:=zHb f5;obtain⟨qn,qa,ql,qc,qx,rfl,l5⟩:=id a8;have d1:=b4.trans (zJ8 rfl rfl);have l0:=c9.I a6;have d0:=l0.set (k:=j) (by rw[zO];exact S) a8;rw[<-d1,<-i3.out,zGb]at d0;have a5:Below w.heap.size w n0:=by rw[d1];exact yM (yM (nx k0 a6) (xgf _) _ _) (xgf _) _ _
   have l6:=d0.1;clear d0 d1 l5 b4 a8 l9 m0 l7 k8 k9 f5 e1 E f1 f2 f3 f4;go_wp2;go_roundw
   case rel=>exact⟨j+1,by omega,by simp,a5,l6⟩
   case measure=>simp[intOf];omega
  obtain⟨kx,c8⟩:∃k,zAB u 0=k:=⟨_,rfl⟩;obtain⟨kz,P⟩:∃k,zAB A 0=k:=⟨_,rfl⟩;have i6:qS (∀(v:Value) (w:World),yA w v u->Calls Tryz.prog 76 #[v] w fun e w'=>e= .returned (.int .i64 kx)/\Below w.heap.size w w'):=⟨fun v w H=>c8 ▸ zAn v u w H.J⟩;have i7:qS (∀(v:Value) (w:World),yA w v A->Calls Tryz.prog 76 #[v] w fun e w'=>e= .returned (.int .i64 kz)/\Below w.heap.size w w'):=⟨fun v w H=>P ▸ zAn v A w H.J⟩;have d5:qS (kx=0↔u=0):=⟨by rw[<-c8];exact zGB⟩;have d6:qS (kz=0↔A=0):=⟨by rw[<-P];exact zGB⟩;have b7:=xgv @d7;clear c8 P d7;go_wp2_with fail
  refine(i6.out _ w5 C.out).mono ?_;rintro e w6 ⟨rfl,O⟩;by_cases b5:u=0
  .have hk:=d5.out.2 b5
   subst hk;have c2:zCa w6 B V:=⟨_,_,_,_,f.I O,by rw[<-c1.out,b5,zAM,Int.sub_zero];exact M.out.ext (lx O)⟩;go_wp2;exact b7.out w6 (zA5.of _ O) c2
  have hk:kx≠0:=fun c3=>b5 (d5.out.1 c3)
  have n8:(kx !=0)=true:=by simpa using hk
  have s:=qK s O;have t:=qK t O;clear b5;go_wp2_with fail
  refine(i7.out _ w6 (D.out.ext (lx O))).mono ?_;rintro e w7 ⟨rfl,c6⟩;have o:=nx O c6;by_cases b6:A=0
  .have P:=d6.out.2 b6
   subst P;have c2:zCa w7 B V:=⟨_,_,_,_,f.I o,by rw[<-c1.out,b6,zZ,Int.sub_zero];exact M.out.ext (lx o)⟩;go_wp2;exact b7.out w7 (zA5.of _ o) c2
  have P:kz≠0:=fun c3=>b6 (d6.out.1 c3)
  have n9:(kz !=0)=true:=by simpa using P
  have f:=f.I o;have M:=xgv (M.out.ext (lx o));have C:=xgv (C.out.ext (lx o));have D:=xgv (D.out.ext (lx o));have I:=qK I o;have J:=qK J o;have s:=qK s c6;have t:=qK t c6;clear b6;obtain⟨f1,f2,f3,f4⟩:=f.two;go_wp2;go_upto_region 7 with(fail)
  refine yD 11 [pcI 9 (u*A),pcD 10 [9] (fun w v=>yA w v (b3*xj-u*A))] ?_;refine sRd ?_;refine sRc (fun d hI Gk hG=>by go_simp;exact ck hG (zCD _ _ u A _ (C.out.ext (lx hI.bel)).J (D.out.ext (lx hI.bel)).J b9.out.1 R.out.2.1)) (fun p9 _=>?_);refine sRc (fun d hI a5 Gk hG=>by go_simp;exact ck hG (zMu _ _ (b3*xj) (u*A) _ (M.out.ext (lx hI.bel)).J a5.J R.out.2.2.1 R.out.2.2.2.1)) (fun p0 _=>?_);refine sRe ?_;intro w8 a6 a5 c5;obtain⟨u1,ua,ul,uc,rfl⟩:=(show yA _ _ _ from c5).parts;have f:=f.I a6;have W1:=xgv (show yA _ _ _ from c5);rw[c1.out]at W1;have k6:=nx o a6;clear f1 f2 f3 f4 I J s t a5 c5;obtain⟨f1,f2,f3,f4⟩:=f.two;go_wp2;refine b7.out _ ((zA5.of [B] k6).trans (zHc (f.lext2 dE _ _))) (zCa.put f W1.out)
 obtain rfl:j=m:=by omega
 rw[zG6]at h;go_wp2;go_ret;exact⟨rfl,h,G⟩
def zFe(w:World)(b n m:Nat)(E:Nat->Nat->Int):Prop:=∃cs:Array Value,Blk w b tR cs/\n<=cs.size/\∀i,i<n->∃o c,cs[i]?=some (.slice o m c)/\zAR w (.slice o m c) (qQ m (E i))
theorem zFe.lt{E:Nat->Nat->Int}(h:zFe w b n m E):b<w.heap.size:=by
 obtain⟨cs,a,-⟩:=h;exact a.lt
theorem zFe.I{E:Nat->Nat->Int}(h:zFe w b n m E)(a:Below w.heap.size w w'):zFe w' b n m E:=by
 obtain⟨cs,f,g,j⟩:=h;refine⟨cs,f.I a,g,fun i k=>?_⟩;obtain⟨o,c,d,e⟩:=j i k;exact⟨o,c,d,e.I a⟩
theorem zAR.gone(h:zAR w v zs)(a:Blk w b T cs)(r:¬ T=tI)(t:∀k,k<w.heap.size->k≠b->w'.heap[k]?=w.heap[k]?)(x:zBC w w'):zAR w' v zs:=by
 obtain⟨d,n,f,l,m,o,p,q⟩:=h;refine⟨d,n,f,l,m,o,p,fun s=>?_⟩;obtain⟨g,i,c⟩:=q s;refine⟨g,i,c.old (t g c.lt fun e=>?_) x⟩;subst e;obtain⟨y,j,-⟩:=c;unfold Blk at a;rw[j]at a;injection a with a
 injection a with _ u
 exact r u.symm
theorem zFe.put{E:Nat->Nat->Int}{x:Nat->Int}{o:Option Addr}(h:zFe w b n m E)(v:k<n)(hv:zAR w (.slice o m c) (qQ m x)):
  zFe (w.setCell ⟨b,k,none⟩ (.slice o m c)) b n m (fun i=>if i=k then x else E i)/\zBC w (w.setCell ⟨b,k,none⟩ (.slice o m c))/\∀g,g≠b->(w.setCell ⟨b,k,none⟩ (.slice o m c)).heap[g]?=w.heap[g]?:=by
 obtain⟨cs,d,r,s⟩:=h;have j:=d.lext (by decide:tR≠tU) k (.slice o m c);have f:∀g,g≠b->(w.setCell ⟨b,k,none⟩ (.slice o m c)).heap[g]?=w.heap[g]?:=fun g a=>yO w b k g _ a
 refine⟨⟨cs.setIfInBounds k (.slice o m c),d.set_ k _,by simpa using r,fun i t=>?_⟩,j,f⟩;by_cases e:i=k
 .subst e
  refine⟨o,c,Array.getElem?_setIfInBounds_self_of_lt oM,?_⟩;show zAR _ _ (qQ m (if i=i then x else E i));rw[zC rfl];exact hv.gone d dE (fun g _ a=>f g a) j
 obtain⟨u,l,p,q⟩:=s i t;refine⟨u,l,by rw[xgc (zL e)];exact p,?_⟩;show zAR _ _ (qQ m (if i=k then x else E i));rw[zA e];exact q.gone d dE (fun g _ a=>f g a) j
theorem zFe.row{E:Nat->Nat->Int}(h:zFe w b n m E)(g:i<n):∃o c,w.cell? ⟨b,i,none⟩=some (.slice o m c)/\w.frozen? ⟨b,i,none⟩=false/\zAR w (.slice o m c) (qQ m (E i)):=by
 obtain⟨cs,a,j,f⟩:=h;obtain⟨o,c,d,e⟩:=f i g;exact⟨o,c,(a.cell i).trans d,a.frozen i,e⟩
theorem zFe.congr{E F:Nat->Nat->Int}(h:zFe w b n m E)(e:∀i,i<n->∀j,j<m->E i j=F i j):zFe w b n m F:=by
 obtain⟨cs,g,k,l⟩:=h;refine⟨cs,g,k,fun i a=>?_⟩;obtain⟨o,c,d,f⟩:=l i a;exact⟨o,c,d,by rw[qZ fun j p=>(e i a j p).symm];exact f⟩
theorem zJY(h:Blk w b T cs)(a:k<cs.size):∃u,w.cell? ⟨b,k,none⟩=some u:=⟨_,(h.cell k).trans (Array.getElem?_eq_getElem a)⟩
theorem zTr{E:Nat->Nat->Int}:bx E k k=E:=by
 funext a
 unfold bx;by_cases e:a=k
 .rw[zC e,e]
 rw[zA e,zA e]
theorem zPF(d b n m i k p:Nat)(E:Nat->Nat->Int)(ln r:Bool)(Z:Option Addr)(ll lc:Nat)(pv:Value)(w:World)(z:Blk w d tBe #[.slice (some ⟨b,0,none⟩) n p,.bool ln,.slice Z ll lc,.bool r,pv])(J:zFe w b n m E)(hi:i<n)(hk:k<n)(a5:d≠b):
  Calls Tryz.prog 150 #[.pointer (some ⟨d,0,none⟩),.int .i64 i,.int .i64 k] w fun e w'=>(∃u,e= .returned u)/\zA5 [d,b] w w'/\zFe w' b n m (bx E i k)/\Blk w' d tBe #[.slice (some ⟨b,0,none⟩) n p,.bool ln,.slice Z ll lc,.bool (r^^decide (i≠k)),pv]:=by
 by_cases a4:i=k
 .subst a4
  have R:(r^^decide (i≠i))=r:=by simp
  rw[R,zTr];go_enter Tryz.func150,Tryz.ntmps150;go_wp2;exact bodyPost_end (results_none rfl _ _ _) rfl ⟨⟨_,rfl⟩,zA5.refl _ _,J,z⟩
 have R:(r^^decide (i≠k))= !r:=by simp[a4]
 rw[R];obtain⟨x,s,p1,p2,a6⟩:=J.row hi;obtain⟨q,ck,p3,p4,a7⟩:=J.row hk;obtain⟨cs,V,a3,-⟩:=id J;have HR:=xgv J;have VI:=xgv a6;have VK:=xgv a7;have HB:=xgv z;have lb:=z.lt;have lh:=V.lt;have M:=z.cell 0;have c2:=z.cell 3;have c3:=z.frozen 3;have d6:((i:Int)=(k:Int))=False:=by simp;omega
 have d7:((i:Int) !=(k:Int))=true:=by simp;omega
 have c9:=xgv a3;have a0:=xgv V;clear J a6 a7 z R a3 V;go_enter Tryz.func150,Tryz.ntmps150;go_upto_region 1 with(fail)
 refine zBJ rfl (RIS w (w.heap.size) _ 51
   [⟨0,9,fun _ v=>v= .pointer (some ⟨d,0,none⟩)⟩,⟨1,10,fun _ v=>v= .pointer (some ⟨d,0,none⟩)⟩,⟨2,11,fun _ v=>v= .pointer (some ⟨d,0,none⟩)⟩,⟨3,12,fun _ v=>v= .slice (some ⟨b,0,none⟩) n p⟩,⟨4,13,fun _ v=>v= .int .i64 i⟩,⟨5,14,fun _ v=>v= .pointer (some ⟨d,0,none⟩)⟩,⟨6,15,fun _ v=>v= .pointer (some ⟨d,0,none⟩)⟩,⟨7,16,fun _ v=>v= .pointer (some ⟨d,0,none⟩)⟩,⟨8,17,fun _ v=>v= .slice (some ⟨b,0,none⟩) n p⟩,⟨9,18,fun _ v=>v= .int .i64 k⟩,⟨10,19,fun _ v=>v= .pointer (some ⟨d,0,none⟩)⟩,⟨11,20,fun _ v=>v= .pointer (some ⟨d,0,none⟩)⟩,⟨12,21,fun _ v=>v= .pointer (some ⟨d,0,none⟩)⟩,⟨13,22,fun _ v=>v= .slice (some ⟨b,0,none⟩) n p⟩,⟨14,23,fun _ v=>v= .int .i64 k⟩,⟨15,24,fun _ v=>v= .pointer (some ⟨b,k,none⟩)⟩,⟨16,25,fun _ v=>v= .slice q m ck⟩,⟨17,26,fun _ v=>v= .pointer (some ⟨d,0,none⟩)⟩,⟨18,27,fun _ v=>v= .pointer (some ⟨d,0,none⟩)⟩,⟨19,28,fun _ v=>v= .pointer (some ⟨d,0,none⟩)⟩,⟨20,29,fun _ v=>v= .slice (some ⟨b,0,none⟩) n p⟩,⟨21,30,fun _ v=>v= .int .i64 i⟩,⟨22,31,fun _ v=>v= .pointer (some ⟨b,i,none⟩)⟩,⟨23,32,fun _ v=>v= .slice x m s⟩,⟨24,33,fun _ v=>v= .pointer (some ⟨b,i,none⟩)⟩,⟨26,34,fun _ v=>v= .pointer (some ⟨b,k,none⟩)⟩]
   [] [] 25 27 (fun w=>w.setCell ⟨b,i,none⟩ (.slice q m ck)) (fun _ w=>w.setCell ⟨b,k,none⟩ (.slice x m s))) kR (RIS.start RI.start) ?fin1 ?steps1
 case steps1=>
  refine⟨?_,?_,?_,?_,?_,?_,?_,?_,?_,?_,?_,?_,?_,?_,?_,?_,?_,?_,?_,?_,?_,?_,?_,?_,?_,?_,?_,?_,trivial⟩
  .refine zV.lift kR kR dE ?_
   intro L T o f hd l hI K hK;try refine zD rfl ?_
   have C:T[0]?=some (.pointer (some ⟨d,0,none⟩)):=hI.keep 0 sI sI;go_simp;exact hK _ _ (hI.y mm0 rfl)
  .refine zV.lift kR kR dE ?_
   intro L T o f hd l hI K hK;try refine zD rfl ?_
   obtain⟨v0,k2,rfl⟩:=hI.v mm0 (hd 0);go_simp;exact hK _ _ (hI.y mm1 rfl)
  .refine zV.lift kR kR dE ?_
   intro L T o f hd l hI K hK;try refine zD rfl ?_
   obtain⟨v1,k3,rfl⟩:=hI.v mm1 (hd 1);go_simp;exact hK _ _ (hI.y mm2 rfl)
  .refine zV.lift kR kR dE ?_
   intro L T o f hd l hI K hK;try refine zD rfl ?_
   obtain⟨v2,l4,rfl⟩:=hI.v mm2 (hd 2);have N:=hI.cell M oM aU;go_simp;exact hK _ _ (hI.y mm3 rfl)
  .refine zV.lift kR kR dE ?_
   intro L T o f hd l hI K hK;try refine zD rfl ?_
   have C:T[1]?=some (.int .i64 i):=hI.keep 1 sI sI;go_simp;exact hK _ _ (hI.y mm4 rfl)
  .refine zV.lift kR kR dE ?_
   intro L T o f hd l hI K hK;try refine zD rfl ?_
   have C:T[0]?=some (.pointer (some ⟨d,0,none⟩)):=hI.keep 0 sI sI;go_simp;exact hK _ _ (hI.y mm5 rfl)
  .refine zV.lift kR kR dE ?_
   intro L T o f hd l hI K hK;try refine zD rfl ?_
   obtain⟨v5,m7,rfl⟩:=hI.v mm5 (hd 5);go_simp;exact hK _ _ (hI.y mm6 rfl)
  .refine zV.lift kR kR dE ?_
   intro L T o f hd l hI K hK;try refine zD rfl ?_
   obtain⟨v6,m8,rfl⟩:=hI.v mm6 (hd 6);go_simp;exact hK _ _ (hI.y mm7 rfl)
  .refine zV.lift kR kR dE ?_
   intro L T o f hd l hI K hK;try refine zD rfl ?_
   obtain⟨v7,m9,rfl⟩:=hI.v mm7 (hd 7);have N:=hI.cell M oM aU;go_simp;exact hK _ _ (hI.y mm8 rfl)
  .intro L T o f hd l hI K hK
   try refine zD rfl ?_
   have C:T[2]?=some (.int .i64 k):=hI.keep sI sI;go_simp;exact hK _ _ (hI.value l kR f dE ⟨9,18,_⟩ mm9 rfl (fun _=>rfl))
  .refine zV.lift kR kR dE ?_
   intro L T o f hd l hI K hK;try refine zD rfl ?_
   have C:T[0]?=some (.pointer (some ⟨d,0,none⟩)):=hI.keep 0 sI sI;go_simp;exact hK _ _ (hI.y zHa rfl)
  .refine zV.lift kR kR dE ?_
   intro L T o f hd l hI K hK;try refine zD rfl ?_
   obtain⟨e0,k4,rfl⟩:=hI.v zHa (hd 10);go_simp;exact hK _ _ (hI.y zHH rfl)
  .refine zV.lift kR kR dE ?_
   intro L T o f hd l hI K hK;try refine zD rfl ?_
   obtain⟨e3,k5,rfl⟩:=hI.v zHH (hd 11);go_simp;exact hK _ _ (hI.y zHT rfl)
  .refine zV.lift kR kR dE ?_
   intro L T o f hd l hI K hK;try refine zD rfl ?_
   obtain⟨e4,k6,rfl⟩:=hI.v zHT (hd 12);have N:=hI.cell M oM aU;go_simp;exact hK _ _ (hI.y zIh rfl)
  .refine zV.lift kR kR dE ?_
   intro L T o f hd l hI K hK;try refine zD rfl ?_
   have C:T[2]?=some (.int .i64 k):=hI.keep 2 sI sI;go_simp;exact hK _ _ (hI.y zKJ rfl)
  .refine zV.lift kR kR dE ?_
   intro L T o f hd l hI K hK;try refine zD rfl ?_
   obtain⟨e5,k7,rfl⟩:=hI.v zIh (hd 13);obtain⟨e6,k8,rfl⟩:=hI.v zKJ (hd 14);go_simp;exact hK _ _ (hI.y zJ3 rfl)
  .refine zV.lift kR kR dE ?_
   intro L T o f hd l hI K hK;try refine zD rfl ?_
   obtain⟨e7,k9,rfl⟩:=hI.v zJ3 (hd 15);have N:=hI.cell p3 oM aU;go_simp;exact hK _ _ (hI.y zLe rfl)
  .refine zV.lift kR kR dE ?_
   intro L T o f hd l hI K hK;try refine zD rfl ?_
   have C:T[0]?=some (.pointer (some ⟨d,0,none⟩)):=hI.keep 0 sI sI;go_simp;exact hK _ _ (hI.y zLf rfl)
  .refine zV.lift kR kR dE ?_
   intro L T o f hd l hI K hK;try refine zD rfl ?_
   obtain⟨e8,l1,rfl⟩:=hI.v zLf (hd 17);go_simp;exact hK _ _ (hI.y zLg rfl)
  .refine zV.lift kR kR dE ?_
   intro L T o f hd l hI K hK;try refine zD rfl ?_
   obtain⟨e9,l2,rfl⟩:=hI.v zLg (hd 18);go_simp;exact hK _ _ (hI.y zLh rfl)
  .refine zV.lift kR kR dE ?_
   intro L T o f hd l hI K hK;try refine zD rfl ?_
   obtain⟨f0,l3,rfl⟩:=hI.v zLh (hd 19);have N:=hI.cell M oM aU;go_simp;exact hK _ _ (hI.y zLi rfl)
  .refine zV.lift kR kR dE ?_
   intro L T o f hd l hI K hK;try refine zD rfl ?_
   have C:T[1]?=some (.int .i64 i):=hI.keep 1 sI sI;go_simp;exact hK _ _ (hI.y zLj rfl)
  .refine zV.lift kR kR dE ?_
   intro L T o f hd l hI K hK;try refine zD rfl ?_
   obtain⟨f4,l5,rfl⟩:=hI.v zLi (hd 20);obtain⟨f5,l6,rfl⟩:=hI.v zLj (hd 21);go_simp;exact hK _ _ (hI.y zLk rfl)
  .refine zV.lift kR kR dE ?_
   intro L T o f hd l hI K hK;try refine zD rfl ?_
   obtain⟨f6,l7,rfl⟩:=hI.v zLk (hd 22);have N:=hI.cell p1 oM aU;go_simp;exact hK _ _ (hI.y zLl rfl)
  .refine zV.lift kR kR dE ?_
   intro L T o f hd l hI K hK;try refine zD rfl ?_
   obtain⟨v3,m5,rfl⟩:=hI.v mm3 (hd 3);obtain⟨v4,m6,rfl⟩:=hI.v mm4 (hd 4);go_simp;exact hK _ _ (hI.y zLm rfl)
  .intro L T o f hd l hI K hK
   try refine zD rfl ?_
   obtain⟨y,O⟩:=hI.first l kR f dE sI sI sI
   obtain⟨_,l9,rfl⟩:=y.v zLm (hd 24);obtain⟨_,l0,rfl⟩:=y.v zLe (hd 16);have B:=y.old b oM sI;have d0:=(zKZ B).trans p1;have d1:=(zH2 B).trans p2;clear B;go_simp;exact hK _ _ O
  .intro L T o f hd l hI K hK
   try refine zD rfl ?_
   obtain⟨v8,n0,X⟩:=hI.val mm8 (hd 8) (fun _ _ _ h=>h);replace X:v8= .slice (some ⟨b,0,none⟩) n p:=X o;subst X;obtain⟨v9,n1,Y⟩:=hI.val mm9 (hd 9) (fun _ _ _ h=>h);replace Y:v9= .int .i64 k:=Y o;subst Y;go_simp;exact hK _ _ (hI.value l kR f dE ⟨26,34,_⟩ zLn rfl (fun _=>rfl))
  intro L T o f hd l hI K hK;try refine zD rfl ?_
  obtain⟨w0,rfl,y,O⟩:=hI.second (hd 25) f sI sI sI;obtain⟨_,m0,rfl⟩:=y.v zLn (hd 26);obtain⟨_,l8,rfl⟩:=y.v zLl (hd 23);have B:Blk w0 b tR cs:=(y.old b oM sI).trans a0.out;have d1:=(B.set_ i (.slice q m ck)).frozen k;obtain⟨u,d0⟩:=zJY (B.set_ i (.slice q m ck)) (k:=k) (by have:=c9.out;simp;omega);clear B;go_simp;exact hK _ _ O
 intro T d5 O;obtain⟨Q,hI,a8⟩:=O.fin dE;obtain⟨f7,q0,rfl⟩:=hI.v mm0 rfl;obtain⟨f8,q1,rfl⟩:=hI.v mm1 rfl;obtain⟨h6,q2,rfl⟩:=hI.v mm2 rfl;obtain⟨i5,q3,rfl⟩:=hI.v mm3 rfl;obtain⟨i6,q4,rfl⟩:=hI.v mm4 rfl;obtain⟨i7,q5,rfl⟩:=hI.v mm5 rfl;obtain⟨i8,q6,rfl⟩:=hI.v mm6 rfl;obtain⟨i9,q7,rfl⟩:=hI.v mm7 rfl;obtain⟨k0,q8,rfl⟩:=hI.v mm8 rfl;obtain⟨k1,q9,rfl⟩:=hI.v mm9 rfl;obtain⟨f9,a9,rfl⟩:=hI.v zHa rfl;obtain⟨g7,b0,rfl⟩:=hI.v zHH rfl;obtain⟨g8,b2,rfl⟩:=hI.v zHT rfl;obtain⟨g9,b3,rfl⟩:=hI.v zIh rfl;obtain⟨h0,b4,rfl⟩:=hI.v zKJ rfl;obtain⟨h1,b5,rfl⟩:=hI.v zJ3 rfl;obtain⟨h2,b6,rfl⟩:=hI.v zLe rfl;obtain⟨h3,b7,rfl⟩:=hI.v zLf rfl;obtain⟨h4,b8,rfl⟩:=hI.v zLg rfl;obtain⟨h5,b9,rfl⟩:=hI.v zLh rfl;obtain⟨h7,c0,rfl⟩:=hI.v zLi rfl;obtain⟨h8,c4,rfl⟩:=hI.v zLj rfl;obtain⟨h9,c5,rfl⟩:=hI.v zLk rfl;obtain⟨i0,c6,rfl⟩:=hI.v zLl rfl;obtain⟨i3,c7,rfl⟩:=hI.v zLm rfl;obtain⟨i4,c8,rfl⟩:=hI.v zLn rfl;have hT:=zCW [(9,.pointer (some ⟨d,0,none⟩)),(10,.pointer (some ⟨d,0,none⟩)),(11,.pointer (some ⟨d,0,none⟩)),(12,.slice (some ⟨b,0,none⟩) n p),(13,.int .i64 i),(14,.pointer (some ⟨d,0,none⟩)),(15,.pointer (some ⟨d,0,none⟩)),(16,.pointer (some ⟨d,0,none⟩)),(17,.slice (some ⟨b,0,none⟩) n p),(18,.int .i64 k),(19,.pointer (some ⟨d,0,none⟩)),(20,.pointer (some ⟨d,0,none⟩)),(21,.pointer (some ⟨d,0,none⟩)),(22,.slice (some ⟨b,0,none⟩) n p),(23,.int .i64 k),(24,.pointer (some ⟨b,k,none⟩)),(25,.slice q m ck),(26,.pointer (some ⟨d,0,none⟩)),(27,.pointer (some ⟨d,0,none⟩)),(28,.pointer (some ⟨d,0,none⟩)),(29,.slice (some ⟨b,0,none⟩) n p),(30,.int .i64 i),(31,.pointer (some ⟨b,i,none⟩)),(32,.slice x m s),(33,.pointer (some ⟨b,i,none⟩)),(34,.pointer (some ⟨b,k,none⟩))]
  (fun j P=>hI.keep j (by simp only[xgm]at P ⊢;simp[P]) (by simp only[xgm]at P ⊢;simp[P]))
  (by simp only[xgm];simp[q0,q1,q2,q3,q4,q5,q6,q7,q8,q9,a9,b0,b2,b3,b4,b5,b6,b7,b8,b9,c0,c4,c5,c6,c7,c8]) hI.size
 have d8:=hI.lext;have A:=hI.bel (w.heap.size) oM aU;have d9:=hI.old;clear hI;simp only[List.foldl_cons,List.foldl_nil,xgh,xgi,xgj,ptr]at hT;subst hT;clear q0 q1 q2 q3 q4 q5 q6 q7 q8 q9 a9 b0 b2 b3 b4 b5 b6 b7 b8 b9 c0 c4 c5 c6 c7 c8;have d3:d5=(Q.setCell ⟨b,i,none⟩ (.slice q m ck)).setCell ⟨b,k,none⟩ (.slice x m s):=a8;subst d3;clear a8 M c2 c3 p1 p2 p3 p4;have a1:=HR.out.I A;have a2:=a0.out.I A;obtain⟨g1,S,U⟩:=a1.put hi (VK.out.I A);obtain⟨g4,g5,g6⟩:=g1.put hk ((VI.out.I A).gone a2 dE (fun g _ t=>U g t) S);have W:∀g,g<w.heap.size->g≠b->((Q.setCell ⟨b,i,none⟩ (.slice q m ck)).setCell ⟨b,k,none⟩ (.slice x m s)).heap[g]?=w.heap[g]?:=fun g t I=>((g6 g I).trans (U g I)).trans (A.block g t)
 have H:Blk ((Q.setCell ⟨b,i,none⟩ (.slice q m ck)).setCell ⟨b,k,none⟩ (.slice x m s)) d tBe #[.slice (some ⟨b,0,none⟩) n p,.bool ln,.slice Z ll lc,.bool r,pv]:=(W d lb a5).trans HB.out;have hO:zA5 [d,b] w ((Q.setCell ⟨b,i,none⟩ (.slice q m ck)).setCell ⟨b,k,none⟩ (.slice x m s)):=
  ⟨yM (yM (A.mono (zG _)) (zG _) _ _) (zG _) _ _,((lx A).trans S).trans g5,fun g t I=>W g t fun e=>I (by rw[e];simp)⟩
 have hS:=g4.congr (F:=bx E i k) fun a ha j P=>by
  show(if a=k then E i else if a=i then E k else E a) j=(if a=i then E k else if a=k then E i else E a) j;by_cases D:a=k
  .rw[zC D,zA oM,zC D]
  rw[zA D];by_cases G:a=i
  .rw[zC G,zC G]
  rw[zA G,zA G,zA D]
 generalize (Q.setCell ⟨b,i,none⟩ (.slice q m ck)).setCell ⟨b,k,none⟩ (.slice x m s)=W2 at hO hS H ⊢
 clear g1 S U g4 g5 g6 W a2 a1;have c2:=H.cell 3;have c3:=H.frozen 3;go_wp2;have hx:=H.lext (by decide:tBe≠tU) 3 (.bool (!r));obtain⟨d2,f1,f2,f3⟩:=hS;refine bodyPost_end (results_none rfl _ _ _) rfl ⟨⟨_,rfl⟩,hO.trans ⟨yM (zB _ _) (zG _) _ _,hx,fun g t I=>yO _ d 3 g _ fun e=>I (by rw[e];simp)⟩,⟨d2,(yO _ d 3 b _ (zL a5)).trans f1,f2,fun a ha=>?_⟩,by simpa using H.set_ 3 (.bool (!r))⟩;obtain⟨d4,c,D,G⟩:=f3 a ha;exact⟨d4,c,D,G.gone H dE (fun g _ t=>yO _ d 3 g _ t) hx⟩
theorem zAR.keepO(h:zAR w v zs)(a:zA5 [b] w w')(d:Blk w b T cs)(c:¬ T=tI):zAR w' v zs:=
 h.gone d c (fun k e f=>a.old k e (by simpa using f)) a.lext
def RpV(m:Nat)(x:Nat->Int):World->Value->Prop:=fun w v=>∃b,v= .slice (some ⟨b,0,none⟩) m m/\yY w b (qQ m x)
theorem zN8(m:Nat)(x:Nat->Int):zAA (RpV m x):=fun _ _ _ d ⟨b,a,c⟩=>⟨b,a,c.I d⟩
theorem zPJ{e:Nat}(o d n m k c G:Nat)(b:Nat->Nat->Int)(q:Int)(K L:Bool)(H:Option Addr)(J I:Nat)(M:Value)(w:World)(X:Blk w o tBe #[.slice (some ⟨d,0,none⟩) n G,.bool K,.slice H J I,.bool L,M])(f:zFe w d n m b)(hq:yA w (.agg #[.bool K,.slice H J I]) q)(hk:k<n)(hc:c<m)(hm:m<=1000000)(hn:n<=1000000)(Z:o≠d)
  (a8:q≠0) (he:2*e+1<=1000000) (a9:q.natAbs<2^e) (hE:∀i,i<n->∀j,j<m->(b i j).natAbs<2^e):
  Calls Tryz.prog 151 #[.pointer (some ⟨o,0,none⟩),.int .i64 k,.int .i64 c,.bool true] w fun e w'=>(∃u,e= .returned u)/\zA5 [o,d] w w'/\zFe w' d n m (zBT b k c q)/\∃s a l t,yA w' (.agg #[.bool s,.slice a l t]) (b k c)/\Blk w' o tBe #[.slice (some ⟨d,0,none⟩) n G,.bool s,.slice a l t,.bool L,M]:=by
 obtain⟨po,pc,c2,c3,U⟩:=f.row hk;obtain⟨cs,a4,-⟩:=id f;have E:=xgv U;have HB:=xgv X;have HQ:=xgv hq;have v:=xgv (And.intro a8 (And.intro he (And.intro a9 hE)));have a1:qS (o<w.heap.size/\d<w.heap.size):=⟨X.lt,a4.lt⟩;have a0:=xgv a4;have N:=X.cell 0;have b0:zFe w d n m (fun a=>if a<0 then zBT b k c q a else b a):=f.congr fun a _ j _=>by show _=(if a<0 then _ else b a) j;rw[zA oM]
 have b6:∀i:Nat,zAA (RpV m fun j=>(b k c*b i j-b i c*b k j)/q):=fun i=>zN8 _ _
 clear U X hq a8 he a9 hE a4 f;go_enter Tryz.func151,Tryz.ntmps151;go_wp2;clear N c2 c3;go_loopw [23] (fun iv wr=>∃i:Nat,i<=n/\iv= .int .i64 i/\zA5 [d] w wr/\zFe wr d n m (fun a=>if a<i then zBT b k c q a else b a)) (fun iv _=>n-(intOf iv).toNat)
 case atStart=>exact⟨0,by omega,rfl,zA5.refl _ _,b0⟩
 clear b0;obtain⟨i,hi,rfl,r,f⟩:=hrel;by_cases B:i<n
 .have c9:=b6 i
  by_cases Y:i=k
  .subst Y
   obtain⟨ro,rc,p1,p2,C⟩:=f.row B;have b7:=f.congr (F:=fun a=>if a<i+1 then zBT b i c q a else b a) fun a O j hj=>by
    show(if a<i then zBT b i c q a else b a) j=(if a<i+1 then zBT b i c q a else b a) j;by_cases x:a<i
    .rw[zC x,zC oM]
    rw[zA x];by_cases e3:a=i
    .rw[zC oM,e3];unfold zBT;rw[zC rfl]
    rw[zA oM]
   clear C f;go_wp2;go_roundw
   case rel=>exact⟨i+1,by omega,by simp,r,b7⟩
   case measure=>simp[intOf];omega
  rcases jG Y with hl|y
  .have c8:(i:Int)<k:=by omega
   obtain⟨ro,rc,p1,p2,C⟩:=f.row B;have Q:qQ m ((fun a=>if a<i then zBT b k c q a else b a) i)=qQ m (b i):=by
    show qQ m (if i<i then _ else b i)=_;rw[zA (Nat.lt_irrefl _)]
   rw[Q]at C;have VR:=xgv C;have E:=xgv (E.out.keepO r a0.out dE);have p:Blk wr o tBe #[.slice (some ⟨d,0,none⟩) n G,.bool K,.slice H J I,.bool L,M]:=(r.old o a1.out.1 (by simp;exact Z)).trans HB.out;have HQ:=xgv (HQ.out.ext r.lext);have HR:=xgv f;have N:=p.cell 0;have b8:=f.lt;have D:=xgv p;have P:=xgv (fun(W:World) (h:Below wr.heap.size wr W)=>zHM (e:=e) o m c ro po rc pc (.slice (some ⟨d,0,none⟩) n G) M K L H J I (b i) (b k) q W (D.out.I h) (HQ.out.ext (lx h)) (VR.out.I h) (E.out.I h) hc hm v.out.1 v.out.2.1 v.out.2.2.1 (v.out.2.2.2 i B) (v.out.2.2.2 k hk));clear C p f Q;go_upto_region 5 with(fail)
   refine yD 10 [pcD 9 [] (RpV m (fun j=>(b k c*b i j-b i c*b k j)/q))] ?_;refine sRd ?_;refine sRc (fun wS hI Gk hG=>?_) (fun c6 _=>?_)
   .go_simp
    refine(P.out wS hI.bel).mono ?_;rintro e wa ⟨rfl,hv,a3⟩;exact⟨_,rfl,hG _ _ ⟨_,rfl,hv⟩,a3⟩
   refine sRe ?_;intro wx S R;obtain⟨V,rfl,T⟩:=(show RpV m _ _ _ from R);have a2:=xgv T;have z:=HR.out.I S;obtain⟨c5,c0,p3,p4,-⟩:=z.row B;have z:=xgv z;clear T R N p1 p2 P;go_wp2;obtain⟨g1,g2,g3⟩:=z.out.put B (a2.out.vec (zO _ _) (xgf _) oM:zAR _ (.slice (some ⟨V,0,none⟩) m m) _);have a7:zA5 [d] w (wx.setCell ⟨d,i,none⟩ (.slice (some ⟨V,0,none⟩) m m)):=((r.trans (zA5.of [d] S))).trans ⟨yM (zB _ _) (zG _) _ _,g2,fun g _ y=>g3 g (by simpa using y)⟩;have a5:=g1.congr (F:=fun a=>if a<i+1 then zBT b k c q a else b a) fun a O j hj=>by
    show(if a=i then fun j=>(b k c*b i j-b i c*b k j)/q else if a<i then zBT b k c q a else b a) j=(if a<i+1 then zBT b k c q a else b a) j;by_cases A:a=i
    .rw[zC A,zC oM,A]
     unfold zBT;rw[zA Y]
    rw[zA A];by_cases x:a<i
    .rw[zC x,zC oM]
    rw[zA x,zA oM]
   go_roundw
   case rel=>exact⟨i+1,by omega,by simp,a7,a5⟩
   case measure=>simp[intOf];omega
  have c7:(k:Int)<i:=by omega
  obtain⟨ro,rc,p1,p2,C⟩:=f.row B;have Q:qQ m ((fun a=>if a<i then zBT b k c q a else b a) i)=qQ m (b i):=by
   show qQ m (if i<i then _ else b i)=_;rw[zA (Nat.lt_irrefl _)]
  rw[Q]at C;have VR:=xgv C;have E:=xgv (E.out.keepO r a0.out dE);have p:Blk wr o tBe #[.slice (some ⟨d,0,none⟩) n G,.bool K,.slice H J I,.bool L,M]:=(r.old o a1.out.1 (by simp;exact Z)).trans HB.out;have HQ:=xgv (HQ.out.ext r.lext);have HR:=xgv f;have N:=p.cell 0;have b8:=f.lt;have D:=xgv p;have P:=xgv (fun(W:World) (h:Below wr.heap.size wr W)=>zHM (e:=e) o m c ro po rc pc (.slice (some ⟨d,0,none⟩) n G) M K L H J I (b i) (b k) q W (D.out.I h) (HQ.out.ext (lx h)) (VR.out.I h) (E.out.I h) hc hm v.out.1 v.out.2.1 v.out.2.2.1 (v.out.2.2.2 i B) (v.out.2.2.2 k hk));clear C p f Q;go_upto_region 5 with(fail)
  refine yD 10 [pcD 9 [] (RpV m (fun j=>(b k c*b i j-b i c*b k j)/q))] ?_;refine sRd ?_;refine sRc (fun wS hI Gk hG=>?_) (fun c6 _=>?_)
  .go_simp
   refine(P.out wS hI.bel).mono ?_;rintro e wa ⟨rfl,hv,a3⟩;exact⟨_,rfl,hG _ _ ⟨_,rfl,hv⟩,a3⟩
  refine sRe ?_;intro wx S R;obtain⟨V,rfl,T⟩:=(show RpV m _ _ _ from R);have a2:=xgv T;have z:=HR.out.I S;obtain⟨c5,c0,p3,p4,-⟩:=z.row B;have z:=xgv z;clear T R N p1 p2 P;go_wp2;obtain⟨g1,g2,g3⟩:=z.out.put B (a2.out.vec (zO _ _) (xgf _) oM:zAR _ (.slice (some ⟨V,0,none⟩) m m) _);have a7:zA5 [d] w (wx.setCell ⟨d,i,none⟩ (.slice (some ⟨V,0,none⟩) m m)):=((r.trans (zA5.of [d] S))).trans ⟨yM (zB _ _) (zG _) _ _,g2,fun g _ y=>g3 g (by simpa using y)⟩;have a5:=g1.congr (F:=fun a=>if a<i+1 then zBT b k c q a else b a) fun a O j hj=>by
   show(if a=i then fun j=>(b k c*b i j-b i c*b k j)/q else if a<i then zBT b k c q a else b a) j=(if a<i+1 then zBT b k c q a else b a) j;by_cases A:a=i
   .rw[zC A,zC oM,A]
    unfold zBT;rw[zA Y]
   rw[zA A];by_cases x:a<i
   .rw[zC x,zC oM]
   rw[zA x,zA oM]
  go_roundw
  case rel=>exact⟨i+1,by omega,by simp,a7,a5⟩
  case measure=>simp[intOf];omega
 obtain rfl:i=n:=by omega
 have p:Blk wr o tBe #[.slice (some ⟨d,0,none⟩) i G,.bool K,.slice H J I,.bool L,M]:=(r.old o a1.out.1 (by simp;exact Z)).trans HB.out;have b2:=f.congr (F:=zBT b k c q) fun a O j hj=>by
  show(if a<i then zBT b k c q a else b a) j=_;rw[zC O]
 have U:=E.out.keepO r a0.out dE;obtain⟨zb,d0,s,a,l,t,rfl,zl,hz,z1,z2,b3⟩:=U.cell (k:=c) (by rw[zO];exact hc);rw[qU hc]at hz;injection hz with hz
 subst hz;have HZ:=xgv b3;have D:=xgv p;have b4:=xgv b2;have N:=p.cell 1;have c2:=p.cell 2;have c3:=p.frozen 1;have c4:=p.frozen 2;clear p b2 U b3 f;go_wp2;have hx:=(D.out.lext (by decide:tBe≠tU) 1 (.bool s)).trans ((D.out.set_ 1 (.bool s)).lext (by decide:tBe≠tU) 2 (.slice a l t));have a6:=fun g (y:g≠o)=>yG wr o 1 2 g (.bool s) (.slice a l t) y
 obtain⟨b5,f1,f2,f3⟩:=b4.out;refine bodyPost_end (results_none rfl _ _ _) rfl ⟨⟨_,rfl⟩,⟨yM (yM r.bel (zG _) _ _) (zG _) _ _,r.lext.trans hx,fun g y hn=>(a6 g fun e=>hn (by rw[e];simp)).trans (r.old g y fun e=>hn (by simp at e;rw[e];simp))⟩,⟨b5,(a6 d (zL Z)).trans f1,f2,fun a O=>?_⟩,s,a,l,t,HZ.out.ext hx,by simpa using(D.out.set_ 1 (.bool s)).set_ 2 (.slice a l t)⟩;obtain⟨b9,c,A,x⟩:=f3 a O;exact⟨b9,c,A,x.gone D.out dE (fun g _ y=>a6 g y) hx⟩
theorem zFe.rows{E:Nat->Nat->Int}(h:zFe w b n m E){d:Nat}(l:n<=d)(p:d<=9223372036854775807):zBl w (.slice (some ⟨b,0,none⟩) n d) (yV n m E):=by
 obtain⟨cs,i,q,j⟩:=h;refine⟨some ⟨b,0,none⟩,n,d,rfl,by simp[yV],l,p,fun _=>⟨b,cs,rfl,i,fun k zs a=>?_⟩⟩;have e:k<n:=by
  have:=(xge.1 a).1;simpa[yV]using this
 obtain⟨o,c,f,g⟩:=j k e;have:zs=qQ m (E k):=by
  rw[zCy n m E e]at a;injection a with a
  exact a.symm
 rw[this];exact⟨_,f,g⟩
theorem zFe.of_own{E:Nat->Nat->Int}(h:RsO w base v (yV n m E))(hv:v≠ .slice none 0 0):∃b a,v= .slice (some ⟨b,0,none⟩) n a/\base<=b/\n<=a/\a<=9223372036854775807/\zFe w b n m E:=by
 obtain⟨C,x,p,y⟩:=h;rcases x.2 with⟨rfl,F⟩|⟨g,a,j,rfl,s,t,l,u,D,d⟩
 exact absurd rfl hv;have q:(yV n m E).length=n:=by simp[yV]
 rw[q]at l d p;rw[q];have z:n<=j.size:=by
  have:=congrArg List.length d;rw[qM,p]at this;simp at this;omega
 refine⟨g,a,rfl,s,l,u,j,t,z,fun i A=>?_⟩;obtain⟨f,e⟩:∃f,C[i]?=some f:=⟨_,xga oM⟩;have r:=y i f _ e (zCy n m E A);obtain⟨o,k,c,rfl,B,-⟩:=id r;obtain rfl:m=k:=by rw[<-B];simp
 refine⟨o,c,?_,r⟩;rw[<-d,List.getElem?_take_of_lt oM]at e;simpa using e
theorem zNt(b n m a:Nat)(E:Nat->Nat->Int)(w:World)(h:zFe w b n m E)(t:n<=a)(u:a<=9223372036854775807)(D:n<=1000000)(F:1<=n):
  Calls Tryz.prog 149 #[.slice (some ⟨b,0,none⟩) n a] w fun e w'=>∃g c,e= .returned (.slice (some ⟨g,0,none⟩) n c)/\w.heap.size<=g/\n<=c/\c<=9223372036854775807/\zFe w' g n m E/\Below w.heap.size w w':=by
 have x:=xgv (h.rows t u);have j:qS ((yV n m E).length=n):=⟨by simp[yV]⟩;have C:=fun W=>Lib.run_eql_slice_nil (P:=Tryz.prog) W 27 tR (some ⟨b,0,none⟩) n a 0 0 Tryz.underlying27
 have i:Below w.heap.size w (w.alloc (.cells #[] tR)):=(zB _ _).alloc (xgf _) _;go_enter Tryz.func149,Tryz.ntmps149;go_wp2_with (at_builtin;refine zWS rfl _ _ rfl w.heap.size (.slice (some ⟨w.heap.size,0,none⟩) 0 0) [] rfl ⟨[],World.ownsRow_made w #[] 0 (xgf _) (zG _) rfl,rfl,fun k _ _ h=>by simp at h⟩ (.slice (some ⟨b,0,none⟩) n a) (yV n m E) rfl (x.out.I i) (by rw[j.out,List.length_nil];omega) sI ?_;intro I w' d y G)
 rw[zA6]at d;obtain⟨g,c,rfl,o,p,q,r⟩:=zFe.of_own d (fun e=>by
  obtain⟨H,l,B,-⟩:=d;rcases l.2 with⟨-,s⟩|⟨g,a,A,f,-⟩
  rw[j.out]at s;omega;rw[e]at f;cases f)
 have v:Below w.heap.size w w':=i.grown y sI (fun k z=>by simp[Value.ownBlock]at z;omega);go_ret;exact⟨g,c,rfl,o,p,q,r,v⟩
theorem zDV.onlyS(h:zDV w base v xs)(n:zA5 S w w')(m:∀g,v.ownBlock=some g->g ∉ S):zDV w' base v xs:=by
 obtain⟨i,j,k⟩:=h;refine⟨i,j,?_⟩;rcases k with l|⟨g,c,d,a,e,b,f⟩
 exact .inl l;exact .inr ⟨g,c,d,a,e,(n.old g (Array.getElem?_eq_some_iff.1 b).1 (m g (by rw[a];rfl))).trans b,f⟩
theorem zDV.neB(h:zDV w base v xs)(a:Blk w b T cs)(e:T≠tNn):∀g,v.ownBlock=some g->g≠b:=by
 rintro g c rfl;rcases h.2.2 with⟨rfl,-⟩|⟨k,i,j,rfl,-,d,-⟩
 cases c;simp only[Value.ownBlock,Option.some.injEq]at c;subst c;unfold Blk at a;rw[d]at a;injection a with a
 injection a with _ f
 exact e f.symm
theorem zFe.onlyS{E:Nat->Nat->Int}(h:zFe w b n m E)(a:zA5 S w w')(p:b ∉ S)(q:∀g zs,yY w g zs->g ∉ S):zFe w' b n m E:=by
 obtain⟨cs,d,k,l⟩:=h;refine⟨cs,(a.old b d.lt p).trans d,k,fun i r=>?_⟩;obtain⟨o,c,f,j⟩:=l i r;exact⟨o,c,f,j.sameB (fun g e=>a.old g e.lt (q g _ e)) a.lext⟩
structure BeV(w:World)(base be n m:Nat)(s:BE):Prop where
 ex:∃bh cap ln la ll lc pv,Blk w be tBe #[.slice (some ⟨bh,0,none⟩) n cap,.bool ln,.slice la ll lc,.bool s.odd,pv]/\n<=cap/\cap<=9223372036854775807/\base<=be/\base<=bh/\be≠bh/\zFe w bh n m s.E/\yA w (.agg #[.bool ln,.slice la ll lc]) s.last/\zDV w base pv s.pv
theorem BeV.I{b:Nat}{s:BE}(h:BeV w base b n m s)(a:Below w.heap.size w w'):BeV w' base b n m s:=by
 obtain⟨c,d,u,q,t,r,v,e,f,g,i,j,k,l,o,p⟩:=h.ex;exact⟨c,d,u,q,t,r,v,e.I a,f,g,i,j,k,l.I a,o.ext (lx a),p.I a⟩
theorem zKY{n:Nat}{L:Nat->Nat->Int}{c:Nat}(h:¬ (zDH n L c).pv.length<n):∀d,zDH n L (c+d)=zDH n L c
 |0=>rfl
 |d+1=>by
  show zKU n (c+d) (zDH n L (c+d))=_;rw[zKY h d];unfold zKU;rw[zA fun a=>h a.1]
theorem zTq{s:BE}(a:s.pv.length<=i)(g:i<n)(b:s.E i c≠0)(d:∀j,s.pv.length<=j->j<i->s.E j c=0):zIe n c s=i:=by
 unfold zIe;exact zDp a oM (by simpa using b) fun j e f=>by simpa using d j e f
theorem zNp{s:BE}(b:s.pv.length<=i)(a:i<n)(d:s.E i c≠0)(e:∀j,s.pv.length<=j->j<i->s.E j c=0):
  zKU n c s=⟨zBT (bx s.E i s.pv.length) s.pv.length c s.last,bx s.E i s.pv.length s.pv.length c,s.odd^^decide (i≠s.pv.length),s.pv++ [c]⟩:=by
 unfold zKU;rw[zTq b a d e,zC ⟨by omega,a⟩]
theorem zPE{s:BE}(b:s.pv.length<=n)(a:∀j,s.pv.length<=j->j<n->s.E j c=0):zKU n c s=s:=by
 unfold zKU;rw[zA fun h=>?_];have:=zDM (fun i=>decide (s.E i c≠0)) s.pv.length (n-s.pv.length) (by have:=h.2;unfold zIe at this;omega);rw[decide_eq_true_eq]at this;exact this (a _ (zDN _ _ _).1 (by have:=h.2;unfold zIe at this;exact this))
theorem zRU(b n m t u:Nat)(L:Nat->Nat->Int)(w:World)(h:zFe w b n m L)(o:n<=t)(I:t<=9223372036854775807)(hn:n<=1000000)(f8:1<=n)(hm:m<=1000000)(h0:u<=m)(he:2*e+1<=1000000)
  (hS:∀c,c<=u->(zDH n L c).pv.length<=n/\(zDH n L c).last≠0/\(zDH n L c).last.natAbs<2^e/\∀i,i<n->∀j,j<m->((zDH n L c).E i j).natAbs<2^e):
  Calls Tryz.prog 118 #[.slice (some ⟨b,0,none⟩) n t,.int .i64 u,.bool true] w fun e w'=>∃l,e= .returned (.pointer (some ⟨l,0,none⟩))/\BeV w' w.heap.size l n m (zDH n L u)/\Below w.heap.size w w':=by
 have HS:=xgv hS;have e6:=xgv h;clear hS h;go_enter Tryz.func118,Tryz.ntmps118;go_wp2;refine wp_scope_straight ?_;go_wp2_with fail
 refine(zNt b n m t L w e6.out o I hn f8).mono ?_;rintro e' w1 ⟨C,f5,rfl,g1,g2,g3,g4,d1⟩;have HG:=xgv g4;clear g4;go_wp2_with fail
 refine(zDt 1 w1 dE dE).mono ?_;rintro e' w2 ⟨k0,rfl,ho,b3⟩;obtain⟨N,J,M,K,rfl⟩:=ho.parts;have HO:=xgv ho;have d:=nx d1 b3;have HG:=xgv (HG.out.I b3);clear ho;go_upto_region 2 with(fail)
 refine zE ?_;intro W3 d0;obtain⟨b0,T7,i4⟩:=qL d0;have q1:=d1.size;have q2:=b3.size;have q3:=HG.out.lt;have b4:BeV W3 w.heap.size w2.heap.size n m (zDH n L 0):=⟨C,f5,N,J,M,K,_,T7,g2,g3,by omega,g1,by omega,HG.out.I b0,HO.out.ext (lx b0),⟨by simp[zDH],World.ownsRow_nil _ _ _ _⟩⟩;have d:=nx d b0;clear d0;obtain⟨l,r⟩:∃l,w2.heap.size=l:=⟨_,rfl⟩;rw[r]at b4 ⊢
 clear r T7;go_wp2;refine wp_label ?_;go_wp2;go_loopw [8] (fun cv wr=>∃c:Nat,c<=u/\cv= .int .i64 c/\Below w.heap.size w wr/\BeV wr w.heap.size l n m (zDH n L c)) (fun cv _=>u-(intOf cv).toNat)
 case atStart=>exact⟨0,by omega,rfl,d,b4⟩
 clear d b4;obtain⟨c,hc,rfl,d,r⟩:=hrel;obtain⟨C,t,N,J,M,K,O,o,I,h3,X,h5,Q,x,D,z⟩:=r.ex;obtain⟨po,k1,rfl,p1,p2,p3⟩:=z.at_;have p:=xgv r;have c1:=o.cell 0;have W:=o.cell 4;obtain⟨f1,f2,f3,f4⟩:=HS.out c hc;clear r;by_cases g9:c<u
 .obtain⟨k,R⟩:∃k,(zDH n L c).pv.length=k:=⟨_,rfl⟩
  have G:=xgv R;rw[R]at f1 W;by_cases b8:k<n
  .have i3:(k:Int)<n:=by omega
   go_upto_region 3 with(fail)
   refine zBK [] ?_;refine sRd ?_;refine sRf ?_;intro w4 F;have d:=nx d F;have p:=xgv (p.out.I F);have W:=qK W F;clear c1 o x D z p3;go_wp2;clear W;go_loopw [10] (fun iv wt=>∃i:Nat,k<=i/\i<=n/\iv= .int .i64 i/\Below w.heap.size w wt/\BeV wt w.heap.size l n m (zDH n L c)/\qS (∀j,k<=j->j<i->(zDH n L c).E j c=0)) (fun iv _=>n-(intOf iv).toNat)
   case atStart=>exact⟨k,xgf _,by omega,rfl,d,p.out,⟨fun j o I=>by omega⟩⟩
   rename World=>wt
   clear d p;obtain⟨i,d8,i0,rfl,d,r,Z⟩:=hrel;by_cases a6:i<n
   .obtain⟨C,t,N,J,M,K,O,o,I,h3,X,h5,Q,x,D,z⟩:=r.ex
    obtain⟨ro,rc,r1,r2,e3⟩:=x.row a6;obtain⟨zb,a2,s1,a1,l1,t1,rfl,zl,a0,z1,z2,e5⟩:=e3.cell (k:=c) (by rw[zO];omega);rw[qU oM]at a0;injection a0 with a0
    have p:=xgv r;have c7:=xgv e5;have a9:=xgv a0;have c1:=o.cell 0;obtain⟨kz,b9⟩:∃k,zAB a2 0=k:=⟨_,rfl⟩;have c4:qS (∀(v:Value) (w:World),yA w v a2->Calls Tryz.prog 76 #[v] w fun e w'=>e= .returned (.int .i64 kz)/\Below w.heap.size w w'):=⟨fun v w hv=>b9 ▸ zAn v a2 w hv.J⟩;have a3:qS (kz=0↔a2=0):=⟨by rw[<-b9];exact zGB⟩;clear r e5 a0 b9 e3 o x D z;go_wp2_with fail
    refine(c4.out _ wt c7.out).mono ?_;rintro e' w5 ⟨rfl,d2⟩;have d:=nx d d2;have p:=xgv (p.out.I d2);clear c1 r1 r2 z1 z2 c4 c7;by_cases U:a2=0
    .have a5:=a3.out.2 U
     subst a5;have g8:qS (∀j,k<=j->j<i+1->(zDH n L c).E j c=0):=⟨fun j g1 g2=>by
      rcases zJ j i with h|h
      exact Z.out j g1 h;obtain rfl:j=i:=by omega
      exact a9.out.trans U⟩
     clear U a3;go_wp2;go_roundw
     case rel=>exact⟨i+1,by omega,by omega,by simp,d,p.out,g8⟩
     case measure=>simp[intOf];omega
    have a5:kz≠0:=fun h=>U (a3.out.1 h)
    have f7:(kz !=0)=true:=by simpa using a5
    have HF:=xgv (zNp (n:=n) (c:=c) (i:=i) (s:=zDH n L c) (by rw[G.out];exact d8) a6 (by rw[a9.out];exact U) (by rw[G.out];exact Z.out));obtain⟨C,t,N,J,M,K,O,o,I,h3,X,h5,Q,x,D,z⟩:=p.out.ex;rw[G.out]at HF;have H:=xgv (HS.out c hc);obtain⟨S,b2⟩:∃S,zDH n L c=S:=⟨_,rfl⟩;have f0:=xgv b2;rw[b2]at o x D z HF H G;have B:=xgv x;have V:=xgv D;have q:=xgv z;have y:=xgv o;have i7:=o.lt;have i9:=x.lt;clear U a3 a9 Z p b2 o x D z;go_wp2_with fail
    refine(zPF l C n m i k t S.E N S.odd J M K O w5 y.out B.out a6 b8 Q).mono ?_;rintro e' w6 ⟨⟨u6,rfl⟩,a8,e1,d3⟩;have c8:Below w.heap.size w w6:=Below.only d a8 (xgf _) (fun g f=>by simp at f;omega);have q:=xgv (q.out.onlyS a8 (fun g f=>by
     have n1:=q.out.neB y.out dE g f;have n2:=q.out.neB (B.out).choose_spec.1 dE g f;simp;omega))
    have V:=xgv (V.out.ext a8.lext);have y:=xgv d3;have B:=xgv e1;clear d3 e1 a8;go_wp2_with fail
    refine(zPJ (e:=e) l C n m k c t (bx S.E i k) S.last N _ J M K O w6 y.out B.out V.out b8 oM hm hn Q H.out.2.1 he H.out.2.2.1 (fun a ha j hj=>by
     unfold bx;split;exact H.out.2.2.2 k b8 j hj;split;exact H.out.2.2.2 i a6 j hj;exact H.out.2.2.2 a ha j hj)).mono ?_
    rintro e' P ⟨⟨u7,rfl⟩,c0,e2,s7,a7,l7,t7,e0,a4⟩;have q6:=c8.size;have i8:=y.out.lt;have c9:Below w.heap.size w P:=Below.only c8 c0 (xgf _) (fun g f=>by simp at f;omega);have q:=xgv (q.out.onlyS c0 (fun g f=>by
     have n1:=q.out.neB y.out dE g f;have n2:=q.out.neB (B.out).choose_spec.1 dE g f;simp;omega))
    have y:=xgv a4;have B:=xgv e2;have V:=xgv e0;have W:=a4.cell 4;have c6:=a4.frozen 4;have q7:=c9.size;have g7:∀w':World,zBI (w'.alloc (.cells #[.int .i64 c] tNn)) (some ⟨w'.heap.size,0,none⟩) [c]:=fun w'=>⟨by simp;omega,fun _=>⟨_,0,_,rfl,heap_alloc_new w' _,fun k k2 R=>by
     match k with
     |0=>simp at R;subst R;rfl
     |k+1=>simp at R⟩⟩
    clear a4 e2 c0 e0;have Y:Below P.heap.size P (P.alloc (.cells #[.int .i64 c] tNn)):=(zB _ _).alloc (xgf _) _;have e8:=xgv (q.out.neB y.out dE);have e9:=xgv (q.out.neB (B.out).choose_spec.1 dE);have f9:S.pv.length+1<=17592186044416:=by have:=H.out.1;omega
    have qa:=Y.size;have i5:=y.out.lt;have i6:=B.out.lt;clear a5 f7;go_wp2_with (at_builtin;refine zV9 rfl _ _ rfl w.heap.size O S.pv rfl (q.out.I Y) (some ⟨P.heap.size,0,none⟩) 1 1 [c] rfl (g7 P) rfl f9 (by simp;omega) ?_;intro v' w' c3 b7;have A:Blk w' l tBe _:=(b7.block l (by simp;omega) (fun e=>e8.out l e.symm rfl)).trans (y.out.I Y);have d5:=A.cell 4;have d6:=A.frozen 4;obtain⟨vo,vc,rfl,-,-,-⟩:=c3.at_)
    have g6:=zCA (q.out.I Y).2 dE b7;have c2:zA5 O.ownBlock.toList P w':=(zA5.of _ Y).trans (zJD b7 g6);have e4:=A.lext (by decide:tBe≠tU) 4 (.slice vo (S.pv.length+1) vc);have g5:=B.out.onlyS c2 (by simpa using fun e=>e9.out C e rfl) (fun g zs f=>by
     obtain⟨cs,b6,-⟩:=f;simpa using fun e=>q.out.neB (T:=tI) (cs:=cs) b6 dE g e rfl)
    have d9:zA5 [l] w' (w'.setCell ⟨l,4,none⟩ (.slice vo (S.pv.length+1) vc)):=⟨yM (zB _ _) (zG _) _ _,e4,fun g _ f=>yO w' l 4 g _ (by simpa using f)⟩;have f6:Below w.heap.size w w':=Below.only c9 c2 (xgf _) (fun g f=>(q.out.own g (by simpa using f)).1);go_roundw
    case rel=>
     refine⟨c+1,by omega,by simp,yM f6 X _ _,?_⟩;show BeV _ _ _ _ _ (zKU n c (zDH n L c));rw[f0.out,HF.out];refine⟨C,t,s7,a7,l7,t7,.slice vo (S.pv.length+1) vc,by simpa using A.set_ 4 (.slice vo (S.pv.length+1) vc),I,h3,X,h5,Q,g5.onlyS d9 (by simp;omega) (fun g zs f=>by
      obtain⟨cs,b6,-⟩:=f;simp only[List.mem_singleton];rintro rfl;unfold Blk at A;rw[b6]at A;injection A with A
      injection A with _ ht
      exact absurd ht dE),(V.out.ext (c2.lext.trans e4)),?_⟩
     have:=c3.onlyS d9 (fun g f=>by simpa using c3.neB A dE g f);simpa using this
    case measure=>simp[intOf];omega
   obtain rfl:i=n:=by omega
   have d4:=zPE (c:=c) (by rw[G.out];exact d8) (by rw[G.out];exact Z.out);have b5:BeV wt w.heap.size l i m (zDH i L (c+1)):=by
    show BeV _ _ _ _ _ (zKU i c (zDH i L c));rw[d4];exact r
   clear d4 r Z;obtain⟨C,t,N,J,M,K,O,o,I,h3,X,h5,Q,x,D,z⟩:=b5.ex;have c1:=o.cell 0;have e7:=xgv b5;clear b5 x D z o;go_wp2;go_roundw
   case rel=>exact⟨c+1,by omega,by simp,d,e7.out⟩
   case measure=>simp[intOf];omega
  obtain rfl:k=n:=by omega
  have d7:=zKY (n:=k) (L:=L) (c:=c) (by rw[G.out];omega) (u-c);rw[show c+(u-c)=u by omega]at d7;go_upto_region 3 with(fail)
  refine zBK [] ?_;refine sRd ?_;refine sRf ?_;intro w4 F;have d:=nx d F;have p:=xgv (p.out.I F);go_wp2;unfold Exit.noGoto;go_ret;exact⟨l,rfl,by rw[d7];exact p.out,d⟩
 obtain rfl:c=u:=by omega
 go_upto_region 3 with(fail)
 refine zBK [] ?_;refine sRd ?_;refine sRf ?_;intro w4 F;have d:=nx d F;have p:=xgv (p.out.I F);go_wp2;unfold Exit.noGoto;go_ret;exact⟨l,rfl,p.out,d⟩
end Go.Proofs.YtniiekppgdkknaaGreat
