/- Joined. -/
import Derived.Test.YtkidaebmhlijlaaGreatH01
set_option linter.unusedVariables false
set_option linter.unusedSimpArgs false
set_option linter.unusedSectionVars false
set_option maxHeartbeats 16000000
set_option maxRecDepth 100000
variable{C R i:Nat}{f g:Nat->Nat->Int}
namespace Go.Proofs.YtkidaebmhlijlaaGreat
open Go.RowKit
theorem zOf{xs:List Nat}(a:zA1 xs)(h:nat xs<=9):xs= []∨∃d,xs= [d]:=by
 match xs with
 | []=>exact .inl rfl
 | [d]=>exact .inr ⟨d,rfl⟩
 |d::x::b=>
  have c:0<nat (x::b):=zMa a.tail sI;rw[zBp,zB5]at h;omega
theorem zMh(v:Value)(z:Int)(w:World)(h:jE w v z)(i:z.natAbs<=9):
  CPq 55 #[v] w fun e w'=>e= .returned (.tuple #[niq z,.bool true])/\BWq w w':=by
 obtain⟨neg,I,n,J,H,rfl,u,L,K,x,q,a,s⟩:=h;have r:nat H<=9:=by
  rw[a]at i;unfold sgn at i;split at i<;>omega
 rcases zOf q r with rfl|⟨d,rfl⟩
 .obtain rfl:0=n:=u
  obtain rfl:=s rfl;have F:z=0:=by rw[a];rfl
  subst F;clear a s i r q;go_enter Tryz.func55,Tryz.ntmps55;go_upto_region 1 with(fail)
  refine zF ?_;intro m g;obtain⟨f,o,E⟩:=qJ g;have C:=o.two;clear g;go_wp2;go_loopw [4,5] (fun l c wr=>c=niq (-1)/\l= .int .u64 0/\wr=m) (fun _ _ _=>0)
  case atStart=>exact⟨rfl,rfl,rfl⟩
  obtain⟨rfl,rfl,rfl⟩:=hrel;go_wp2;exact bodyPost_ret (zHP rfl _ _ _) rfl ⟨rfl,f⟩
 obtain rfl:1=n:=u;have hd:nat [d]=d:=by simp[zBp]
 rw[hd]at a r;obtain⟨b,y,rfl,D,j⟩:=x.cell (k:=0) sI;have j:w.cell? ⟨b,y,none⟩=some (.int .u32 (d:Nat)):=j;have G:IntKind.u64.wrap (d:Int)=(d:Int):=by simp only[IntKind.wrap_u64];omega
 have A:IntKind.i64.wrap (d:Int)=(d:Int):=yC _ oM;have B:IntKind.i64.wrap (-(d:Int))=-(d:Int):=yC _ oM;have t:=xgv a;have M:(d:Int)<=9223372036854775807:=oM;have N:(d:Int)<=9223372036854775808:=oM;clear a s i x q hd;go_enter Tryz.func55,Tryz.ntmps55;go_upto_region 1 with(fail)
 refine zF ?_;intro m g;obtain⟨f,o,E⟩:=qJ g;have C:=o.two;have j:=(f.cell (p:=⟨b,y,none⟩) D).trans j;clear g;go_wp2;go_loopw [4,5] (fun l c wr=>wr=m/\((c=niq 0/\l= .int .u64 0)∨(c=niq (-1)/\l= .int .u64 d))) (fun _ c _=>(intOf c+1).toNat)
 case atStart=>exact⟨rfl,.inl ⟨rfl,rfl⟩⟩
 obtain⟨rfl,⟨rfl,rfl⟩|⟨rfl,rfl⟩⟩:=hrel
 .go_wp2
  go_roundw
  case rel=>simp[G]
  case measure=>simp[intOf]
 cases neg with
 |true=>
  go_wp2;refine bodyPost_ret (zHP rfl _ _ _) rfl ⟨?_,f⟩;rw[t.out];simp[sgn,A,B]
 |false=>
  go_wp2;refine bodyPost_ret (zHP rfl _ _ _) rfl ⟨?_,f⟩;rw[t.out];simp[sgn,A,B]
def zQN(f g:Nat->Nat->Int)(i j:Nat):Nat->Nat->Int:=fun a b=>if a<i∨(a=i/\b<j)then f a b else g a b
theorem zRc(R C:Nat)(f g:Nat->Nat->Int):genM R C g=genM R C (zQN f g 0 0):=jX fun i _ j _=>by unfold zQN;rw[zA oM]
theorem zWD:genM R C (zQN f g i C)=genM R C (zQN f g (i+1) 0):=jX fun a c b d=>by
 unfold zQN;by_cases h:a<i∨(a=i/\b<C)
 .rw[zB h,zB oM]
 rw[zA h,zA oM]
theorem zWC:genM R C (zQN f g R 0)=genM R C f:=jX fun a c b _=>by unfold zQN;rw[zB oM]
theorem zTt{j:Nat}(d:i<R)(e:j<C):zQf (genM R C (zQN f g i j)) i j (f i j)=genM R C (zQN f g i (j+1)):=by
 rw[zDx _ d e];exact jX fun a _ b _=>by
  unfold zQN;by_cases h:a=i/\b=j
  .obtain⟨rfl,rfl⟩:=h
   rw[zB ⟨rfl,rfl⟩,zB oM]
  rw[zA h];by_cases c:a<i∨(a=i/\b<j)
  .rw[zB c,zB oM]
  rw[zA c,zA oM]
def zVN(C:Nat)(ls:List Int)(i j:Nat):Int:=(zSY C ls i j).tmod 4
theorem zTL(C:Nat)(a:List Int)(i j:Nat):(zVN C a i j).natAbs<=3:=zZ8
theorem zND(v sv:Value)(r R C h:Nat)(k:List Int)(M:List (List Int))(w:World)(U:zAQ w v R C M)(hF:zBW R C M)(hI:I8V w sv k)(hr:r<=255)(hR:R<=3)(hC:C<=3){Q:Nat}(hQ:Q=r%4)(S:zGh (genM Q R (zVN R k)) M Q R C):
  CPq 14 #[v,.agg #[.int .u8 r,sv]] w fun e w'=>∃u,e= .returned u/\zAQ w' u (Q:Nat) C (genM Q C (zHU (genM Q R (zVN R k)) M R))/\BWq w w':=by
 obtain⟨o1,n1,k1,rfl⟩:=U.agg;obtain⟨so,sn,sk,rfl,-,-,-,-,-⟩:=id hI;have e1:(r:Int)%4=(Q:Int):=oM;have c4:Q<=3:=oM;obtain⟨F,N⟩:∃F,zVN R k=F:=⟨_,rfl⟩;obtain⟨G,P⟩:∃G,zSY R k=G:=⟨_,rfl⟩;have a0:jI (∀i j,F i j=(G i j).tmod 4/\(G i j).natAbs<=9):=⟨fun i j=>by rw[<-N,<-P];exact⟨rfl,zJn R k i j⟩⟩;have b4:jI (∀w,I8V w (.slice so sn sk) k->CPq 54 #[.int .i64 Q,.int .i64 R,.slice so sn sk] w (zDl w Q R (genM Q R G))):=⟨fun w h=>P ▸ zK9 _ Q R k w h oM oM⟩;rw[N]at S ⊢
 have HM:=xgv U;have HF:=xgv hF;have HI:=xgv hI;have HS:=xgv S;clear N P hQ U hF hI S;go_enter Tryz.func14,Tryz.ntmps14;go_upto_region 1 with(fail)
 refine zF ?_;intro J a3;obtain⟨a2,c,a1,a,d0⟩:=zBc a3;have K:=c.three;have d1:=a1.two;clear a3;go_wp2_with fail
 refine(b4.out J (HI.out.I a2)).mono ?_;rintro e w2 ⟨u,bs,rfl,⟨c5,A2,rfl,b⟩,B⟩;obtain⟨I,on,H,rfl,a9,-,-,-⟩:=id b.rows;obtain rfl:Q=on:=by rw[<-a9];simp[genM]
 clear a9;have b8:=b.lts;have d4:=a.lt;have L:=nx a2 B;have c:=c.I B;have a:=a.I B;have q2:=B.size;clear K d1 a1;go_upto_region 2 with(fail)
 refine zF ?_;intro W3 a4;obtain⟨A,d,d2⟩:=qJ a4;have c:=c.I A;have a:=a.I A;have b:=b.I A;rw[zRc Q R F G]at b;have L:=nx L A;have d3:=a.lt;have l5:=d.lt;clear a4;go_wp2;go_loopw [6] (fun Y wr=>∃i:Nat,i<=Q/\Y= .int .i64 i/\BWq w wr/\Blk wr w.heap.size 32 #[.int .i64 R,.int .i64 C,.slice o1 n1 k1]∧
  Blk wr (w.heap.size+1+1) 32 #[.int .i64 0,.int .i64 0,.slice none 0 0]/\Blk wr w2.heap.size 32 #[.int .i64 Q,.int .i64 R,.slice I Q H]/\qH wr J.heap.size (.slice I Q H) R bs (genM Q R (zQN F G i 0))) (fun Y _=>Q-(intOf Y).toNat)
 case atStart=>exact⟨0,oM,rfl,L,c,a,d,b⟩
 obtain⟨i,hi,rfl,f,c,a,d,b⟩:=hrel;by_cases a7:i<Q
 .obtain⟨l,m,n,o,p,q⟩:=d.three
  go_wp2;clear l m n o p q;go_loopw [7] (fun Z wt=>∃j:Nat,j<=R/\Z= .int .i64 j/\BWq w wt/\Blk wt w.heap.size 32 #[.int .i64 R,.int .i64 C,.slice o1 n1 k1]∧
   Blk wt (w.heap.size+1+1) 32 #[.int .i64 0,.int .i64 0,.slice none 0 0]/\Blk wt w2.heap.size 32 #[.int .i64 Q,.int .i64 R,.slice I Q H]/\qH wt J.heap.size (.slice I Q H) R bs (genM Q R (zQN F G i j))) (fun Z _=>R-(intOf Z).toNat)
  case atStart=>exact⟨0,oM,rfl,f,c,a,d,b⟩
  rename World=>wt
  obtain⟨j,hj,rfl,f,c,a,d,b⟩:=hrel;obtain⟨l,m,n,o,p,q⟩:=d.three;by_cases z:j<R
  .obtain⟨g,bo,rfl,hg,b7,c6,p1,W⟩:=b.at_ (i:=i) oM
   obtain⟨tn,ta,tl,tc,y1,y2,y3,y4,E⟩:=b.cellAt b7 z;have b3:ent (genM Q R (zQN F G i j)) i j=G i j:=by rw[yZ a7 z];unfold zQN;rw[zA oM]
   rw[b3]at E;obtain⟨y,D⟩:∃y,G i j=y:=⟨_,rfl⟩;rw[D]at E;have c0:y.natAbs<=9:=D ▸ (a0.out i j).2;have HY:jI (F i j=y.tmod 4):=⟨D ▸ (a0.out i j).1⟩;have b9:(y.tmod 4).natAbs<=3:=zZ8;obtain⟨t,X⟩:∃t,y.tmod 4=t:=⟨_,rfl⟩;have HT:=xgv X;rw[X]at HY b9;clear W b3 D X;go_wp2_with fail
   refine(zMh _ y wt E c0).mono ?_;rintro e w4 ⟨rfl,s⟩;have f:=nx f s;have c:=c.I s;have a:=a.I s;have d:=d.I s;have b:=b.I s;clear l m n o p q p1 y1 y2 y3 y4 E hg;go_upto_region 9 with(fail)
   obtain⟨g',b',e9,hg,T,c7,p1,W⟩:=b.at_ (i:=i) oM;cases e9;obtain⟨l,m,n,o,p,q⟩:=d.three;have d5:=d.lt;have d6:=a.lt;have d7:=c.lt;have c9:=f.size;clear W;refine yA 10 [pcD 7 [] (fun _ v=>v= .int .i64 t),pcI 8 (t)] ?_;refine sRd ?_;refine sRc (fun wS hI Gk O=>?_) (fun _ hv=>?_)
   .go_simp
    exact⟨O _ _ (congrArg (Value.int .i64) HT.out),zC _ _⟩
   obtain⟨_,-,rfl⟩:=hv;refine sRc (fun wS hI Gk O=>by go_simp;exact ck O (zBa t _ oM oM)) (fun e3 _=>?_);refine sRd ?_;refine sRe ?_;intro w9 x _ a5;obtain⟨pn,pa,pl,pc,px,rfl,b0⟩:=id a5;have c2:=xgw b0;clear b0;have a8:=b.I x;obtain⟨e2,d8,e0,d9,z1,z2,z3,z4,-⟩:=a8.cellAt T z;have c8:=b8 i b' T;have b2:=a8.set T z a5;go_wp2;go_roundw
   case rel=>
    rw[<-HY.out,zTt a7 z]at b2;exact⟨j+1,oM,by simp,yB (yB (nx f x) oM _ _) oM _ _,(yL _ _ _ _ _ _ _ oM).trans (c.I x),(yL _ _ _ _ _ _ _ oM).trans (a.I x),(yL _ _ _ _ _ _ _ oM).trans (d.I x),b2.1⟩
   case measure=>exact meq
  obtain rfl:j=R:=oM;rw[zWD]at b;go_wp2;go_roundw
  case rel=>exact⟨i+1,oM,by simp,f,c,a,d,b⟩
  case measure=>exact meq
 obtain rfl:i=Q:=oM;rw[zWC]at b;obtain⟨l,m,n,o,p,q⟩:=d.three;have K:=c.three;have HO:=xgv b.rows;go_wp2_with fail
 refine(zMi _ _ i R C _ M wr ⟨_,rfl,HO.out⟩ (HM.out.I f) (jJ _ _ _) HF.out oM oM oM HS.out).mono ?_;rintro e w9 ⟨u9,c3,rfl,V,a6⟩;obtain⟨o9,n9,k9,rfl⟩:=V.mat.1.agg;have b6:=nx f a6;have a:=a.I a6;have b5:=xgv V.mat.1;clear l m n o p q K V;have r1:=a.three;go_wp2;refine zAD (r:=w.heap.size+1+1) rfl rfl rfl (a.put3 _ _ _) ⟨_,rfl,b5.out.keep3 a _ _ _,yB (yB (yB b6 oM 0 _) oM 1 _) oM 2 _⟩
theorem zJi{L:(Nat->Int)->Prop}(v k:Value)(r:Nat)(c:List Int)(w:World)(q:C<=3)(z:MX C 4 L w v)(hI:I8V w k c)(A:r<=255):
  CPq 14 #[v,.agg #[.int .u8 r,k]] w fun e w'=>∃u l,e= .returned u/\MX C 8 l w' u/\(∀x,l x->L x)/\BWq w w':=by
 obtain⟨R,M,F,p,G,m,H⟩:=z;have hF:leM 3 (r%4) R (zVN R c):=fun a _ b _=>zTL R c a b
 have s:zGh (genM (r%4) R (zVN R c)) M (r%4) R C:=zLZ (h1:=3) (h2:=2^4) (e:=20) (fun i d j g=>by rw[yZ d g];exact hF i d j g) m oM dE dE;refine(zND v k r R C 0 c M w F p hI A G q rfl s).mono ?_;rintro e w' ⟨u,rfl,D,y⟩;have o:∀i,i<r%4->∀j,j<C->ent (genM (r%4) C (zHU (genM (r%4) R (zVN R c)) M R)) i j=qS R fun t=>zVN R c i t*ent M t j:=fun i d j g=>by
  rw[yZ d g];unfold zHU;rw[zIX];exact zL fun t h=>by rw[yZ d h]
 refine⟨u,_,rfl,⟨r%4,_,D,jJ _ _ _,oM,fun i d j g=>?_,fun x=>yF⟩,fun x E=>(H x).1 (yD.sub (fun i d=>⟨zVN R c i,fun j g=>o i d j g⟩) E),y⟩;rw[o i d j g];have:=zD9 (n:=R) (f:=fun t=>zVN R c i t*ent M t j) (B:=48) fun t h=>by
  rw[qU];exact qO (zTL R c i t) (m t h j g)
 exact zD this oM
end Go.Proofs.YtkidaebmhlijlaaGreat
