/- Joined. -/
import Derived.ChangeArms
import Derived.ProofKit
import Derived.OpenShut
import Derived.Test.YtkidaebmhlijlaaGreatE09
import Derived.Test.YtkidaebmhlijlaaGreatE10
set_option linter.unusedVariables false
set_option linter.unusedSimpArgs false
set_option linter.unusedSectionVars false
set_option maxHeartbeats 16000000
set_option maxRecDepth 100000
variable{M:List (List Int)}{ls:List Int}{C R b0 base f i j n:Nat}{v:Go.Value}{w w':Go.World}
namespace Go.Proofs.YtkidaebmhlijlaaGreat
open Go.RowKit
theorem qBA(m:Int)(n:Nat)(b:m=n)(h:n<=1099511627776)(W:World):
  (Instr.makeSlice 46 (.int .i64 0) (.int .i64 m)).run Tryz.prog W= .ok (.slice (some ⟨W.heap.size,0,none⟩) 0 n) (W.alloc (.cells (zeroCells n) tI)):=by
 subst b;obtain⟨f,a,c,d,e⟩:=info_parts zEW;have:=zCn (P:=Tryz.prog) 46 tI f _ zCQ a c .i64 .i64 0 n (zH _) (by rw[e];omega) oM W;rw[show(Value.int IntKind.i64 0)= .int .i64 ((0:Nat):Int) from rfl,this,d];rfl
theorem zKw(n:Nat):(zeroCells n).size=n*2:=by simp[zeroCells,madeCells]
theorem zEt.made{b:Nat}(h:Blk w b tI (zeroCells n))(a:base<=b)(c:n<=1099511627776):zEt w base (slq b 0 n) []:=
 ⟨[],⟨rfl,.inr ⟨b,n,zeroCells n,rfl,a,h,zH _,by simp[maxLen];omega,zKw n,by simp⟩⟩,fun k z h=>by simp at h⟩
theorem zRv(v:Value)(zs:List Int)(w:World)(h:zBy w v zs)(R:zs.length<=1000000)(q:∀z∈zs,Sm z):
  CPq 98 #[v,.slice none 0 0] w fun e w'=>∃u,e= .returned u/\zEt w' w.heap.size u zs/\BWq w w':=by
 obtain⟨ao,n,a4,rfl,p,e3,e4,-⟩:=id h;have f:=xgw p;have a6:n<=1000000:=oM;have D:=xgv q;have P:=fun W=>qBA (n:Int) n rfl oM W
 have Q:=fun W=>qBA ((n:Int)+0) n oM oM W
 clear p R q;go_enter Tryz.func98,Tryz.ntmps98;go_upto_block 0 with(fail)
 refine zF ?_;intro G r;obtain⟨K,I,a7⟩:=qJ r;have S:zEt G w.heap.size (slq w.heap.size 0 n) []:=zEt.made I (xgf _) oM;clear P Q r;go_wp2;go_loopw [5,18] (fun u c wr=>∃k:Nat,k<=n/\c=niq k/\zEt wr w.heap.size u (zs.take k)/\BWq w wr) (fun _ c _=>n-(intOf c).toNat)
 case atStart=>exact⟨0,oM,rfl,by rw[jW];exact S,K⟩
 obtain⟨k,hk,rfl,a,b⟩:=hrel;by_cases O:k<n
 .obtain⟨a1,z,b2,a0,b0,a3,rfl,a5,l,X,Y,V⟩:=(h.I b).cell (k:=k) (by rw[f.out];exact O)
  have hd:Hid (zs.take (k+1)=zs.take k++ [z]):=by rw[jH,l];exact xgw rfl
  have E:=xgv (D.out z (xgd l));clear l;go_upto_region 5 with(fail)
  refine zF ?_;intro H s;obtain⟨i,F,a8⟩:=qJ s;have J:=F.two;clear X Y s;go_wp2_with fail
  refine(zPK _ z H (V.ext (lx i)) E.out).mono ?_;rintro e C ⟨b3,rfl,x,t⟩;obtain⟨B,m,A,o,xs,rfl,y⟩:=id x;have Z:=xgw y;clear y J;have T:=(a.I i).I t;have d:=nx (nx b i) t;have N:(zs.take k).length=k:=by rw[qR,f.out];omega
  go_wp2_with (at_builtin;refine qAK rfl _ _ rfl w.heap.size u5 (zs.take k) rfl (T.I ((zC _ _).alloc (xgf _) _)) C.heap.size 1 B m A o z rfl (yG _ _ _) (x.ext (lx ((zC _ _).alloc (xgf _) _))) (by rw[N];omega) (by have:=d.size;simp;omega) ?_;intro v' w' U j a9)
  have j:World.grownBy (C.alloc (.cells #[.bool B,.slice m A o] tI)) w' (Value.ownBlock u5):=j;have L:BWq w w':=(d.alloc d.size _).grown j (by have:=d.size;simp;omega) (fun g M=>a.own g M);go_roundw
  case rel=>exact⟨k+1,oM,by simp,by rw[hd.out];exact U,L⟩
  case measure=>exact meq
 obtain rfl:k=n:=oM;rw[<-f.out,jO]at a;go_wp2;go_loopw [5,30] (fun u c wr=>c=niq 0/\BWq w wr/\zEt wr w.heap.size u zs) (fun _ _ _=>0)
 case atStart=>exact⟨rfl,b,a⟩
 obtain⟨rfl,b,a⟩:=hrel;go_wp2;go_ret;exact⟨_,rfl,a,b⟩
def RsO(w:World)(base:Nat)(v:Value)(M:List (List Int)):Prop:=
 ∃rvs,w.ownsRow base tR 1 v M.length rvs/\rvs.length=M.length/\∀(k:Nat) (rv:Value) (zs:List Int),rvs[k]?=some rv->M[k]?=some zs->zBy w rv zs
theorem RsO.I(h:RsO w base v M)(a:BWq w w'):RsO w' base v M:=by
 obtain⟨j,d,e,f⟩:=h;exact⟨j,d.kept (row:=none) ⟨a.os,a.tape,a.output,a.size,fun k g _=>a.block k g⟩ (by cases m:v.ownBlock<;>simp),e,fun k i l b c=>(f k i l b c).I a⟩
theorem RsO.own(h:RsO w base v M):∀g,v.ownBlock=some g->base<=g/\g<w.heap.size:=by
 obtain⟨b,a,-⟩:=h;exact zDa a
theorem RsO.rows(h:RsO w base v M):zBg w v M:=by
 obtain⟨q,n,u,o⟩:=h;rcases n.2 with⟨rfl,c⟩|⟨g,e,f,rfl,s,i,j,l,t,m⟩
 exact⟨none,0,0,rfl,c,xgf _,oM,fun p=>absurd (qL c) p⟩;refine⟨some ⟨g,0,none⟩,M.length,e,rfl,rfl,j,l,fun _=>⟨g,f,rfl,i,fun k r d=>?_⟩⟩;have x:=(xge.1 d).1;obtain⟨a,b⟩:∃a,q[k]?=some a:=⟨_,xga oM⟩;refine⟨a,?_,o k a r b d⟩;rw[<-m,List.getElem?_take_of_lt oM]at b;simpa using b
theorem zGK(P:Program)(w:World)(t k e:TypeId)(i:TypeInfo)(f:P.underlying t=some (.slice e))(d:P.info? e=some i)
  (g:Option Addr) (n a:Nat) (h:g=none->n=0/\a=0) (j:n<=a) (b:Option Addr) (c:Nat):
  (Builtin.append_ #[t,t] k #[.slice g n a,.slice b 0 c]).run P w= .ok (.slice g n a) w:=by
 cases g with
 |none=>
  obtain⟨rfl,rfl⟩:=h rfl;cases b<;>simp[Builtin.append_,run_underlying f,sizeOf,typeInfo,d,Builtin.lenOf,Builtin.firstCells,loadCells,loadCellsFrom]
 |some g=>
  cases b<;>simp[Builtin.append_,run_underlying f,sizeOf,typeInfo,d,Builtin.lenOf,Builtin.firstCells,loadCells,loadCellsFrom,storeCells,j]
theorem zBy.sameB{zs:List Int}(h:zBy w v zs)(e:∀b,jY w b zs->w'.heap[b]?=w.heap[b]?)(x:zBq w w'):zBy w' v zs:=by
 obtain⟨a,n,c,d,f,g,i,j⟩:=h;exact⟨a,n,c,d,f,g,i,fun k=>(j k).elim fun b h=>⟨b,h.1,h.2.old (e b h.2) x⟩⟩
theorem zXw{w:World}{ops:Array Oper}{rest:List Oper}{o:Oper}{a:Act}{Q:Exit->Act->World->Prop}(H:o.guard=none)(s x:Operand)
  (J:o.op= .call {callee:=.builtin .append,args:=#[s,x],argTypes:=#[30,30]})
  (base:Nat) (v:Value) (M:List (List Int)) (L:a.eval s=v) (K:RsO w base v M) (T:Value) (N:List (List Int)) (O:a.eval x=T) (hy:zBg w T N)
  (b2:M.length+N.length<=1099511627776) (X:base<=w.heap.size)
  (h:∀t w',RsO w' base t (M++N)->w.grownBy w' v.ownBlock->zBq w w'->wpList Tryz.prog ops Q rest (a.put o.dst t) w'):wpList Tryz.prog ops Q (o::rest) a w:=by
 obtain⟨E,z,a3,a4,a5⟩:=info_parts zDp;obtain⟨y,n,c,rfl,A,b3,b0,Z⟩:=hy;by_cases p:N= []
 .subst p
  obtain rfl:0=n:=by simpa using A
  have hr:(Builtin.append_ #[30,30] o.type #[v,.slice y 0 c]).run Tryz.prog w= .ok v w:=by
   obtain⟨a7,m,-⟩:=K;rcases m.2 with⟨rfl,p⟩|⟨a9,U,a8,rfl,e2,e3,V,-⟩
   exact zGK Tryz.prog w _ o.type tR E zA5 z none 0 0 (fun _=>⟨rfl,rfl⟩) (xgf _) y c;exact zGK Tryz.prog w _ o.type tR E zA5 z _ _ U (fun e=>by cases e) V y c
  have h:=h v w (by rwa[zBS]) ⟨rfl,rfl,rfl,xgf _,fun _ _ _=>rfl⟩ (lx (zC _ _));refine wpList_plain H fun a6 hK=>?_
  unfold Oper.wp execOp;simp only[J,resolve,invoke,builtin,Sem.run_bind,Sem.run_pure,Result.andThen_ok,List.map_toArray,List.map_cons,List.map_nil,L,O,hr];exact hK _ _ h
 obtain⟨b,g,rfl,Y,C⟩:=Z p;obtain⟨S,m,G,W⟩:=K;have b4:n<=g.size:=by
  have hp:0<N.length:=List.length_pos_iff.2 p;obtain⟨R,q,-⟩:=C (N.length-1) _ (xga oM);have:=(Array.getElem?_eq_some_iff.1 q).1;omega
 have B:∀(k:Nat) (u:Value),(g.toList.take n)[k]?=some u->k<n/\g[k]?=some u:=fun k u i=>by
  rw[List.getElem?_take]at i;split at i;exact⟨by assumption,by simpa using i⟩;cases i
 refine wpList_append_own w H s x 30 J base tR E _ 1 24 zA5 z a3 a4 a5 rfl oM v M.length _ L m ⟨b,0,none⟩ n c (g.toList.take n) O (by simp;omega) ?_ ?_ (by simp[maxLen];omega) oM X ?_
 .intro j u hj
  rw[zAg,zAM,cell_of_row w b j g tR _ Y];exact(B j u hj).2
 .intro u D
  obtain⟨k,i⟩:=List.getElem?_of_mem D;obtain⟨a1,d⟩:=B k u i;obtain⟨R,q,_,_,_,rfl,-⟩:=C k _ (xga (by omega:k<N.length));rw[q]at d;injection d with d
  subst d;rfl
 intro t w' k1 F _;have P:=zEf m dE F;have I:∀u l,zBy w u l->zBy w' u l:=fun u l D=>zBy.sameB D (fun b f=>F.block b f.lt (zGw m f)) P
 refine h t w' ⟨S++g.toList.take n,by rw[zAY,A];exact k1,by simp[G,A];omega,?_⟩ F P;intro k u l r f;rcases zK k S.length with a2|a0
 .rw[List.getElem?_append_left a2]at r
  rw[List.getElem?_append_left oM]at f;exact I _ _ (W k u l r f)
 rw[List.getElem?_append_right a0]at r;rw[List.getElem?_append_right oM,<-G]at f;obtain⟨a1,d⟩:=B _ u r;obtain⟨R,q1,q2⟩:=C _ l f;rw[q1]at d;injection d with d
 subst d;exact I _ _ q2
structure qA3(w:World)(f:Value)(R C:Nat)(S U V W X:List (List Int)):Prop where
 ex:∃s u v x y,f= .agg #[niq R,niq C,s,niq R,niq R,u,niq R,niq R,v,niq C,niq C,x,niq C,niq C,y]/\zBg w s S/\zBg w u U/\zBg w v V/\zBg w x W/\zBg w y X
theorem zZh(a:i<R)(b:j<C):i*C+j<R*C:=by
 have:(i+1)*C<=R*C:=zP _ a;rw[zW]at this;omega
theorem zV2(v:Value)(R C:Nat)(e:List Int)(w:World)(h:zHS w v e)(hl:e.length=R*C)(Y:R<=1000)(W:C<=1000):
  CPq 51 #[niq R,niq C,v] w (zDl w R C (genM R C (fun i j=>e.getD (i*C+j) 0))):=by
 obtain⟨ao,n,b4,rfl,D,h3,h4,-,-⟩:=id h;have S:=xgw D;have J:n=R*C:=oM;have B:=xgw J;obtain⟨f,x⟩:∃f:Nat->Nat->Int,(fun i j=>e.getD (i*C+j) 0)=f:=⟨_,rfl⟩;rw[x];have Q:jI (∀i j,f i j=e.getD (i*C+j) 0):=⟨fun i j=>by rw[<-x]⟩;clear x D hl J;go_enter Tryz.func51,Tryz.ntmps51;go_upto_region 1 with(fail)
 refine zF ?_;intro q F;obtain⟨E,b,c4⟩:=qJ F;go_wp2_with fail
 refine(zFR R C q oM oM).mono ?_;rintro b5 P ⟨c7,r,rfl,⟨Z,A2,rfl,a⟩,t⟩;obtain⟨p,on,o,rfl,-,-,-,-⟩:=id a.rows;have a2:=a.lts;go_upto_region 2 with(fail)
 refine zF ?_;intro W3 G;obtain⟨s,c,c5⟩:=qJ G;have b:=(b.I t).I s;have a:=a.I s;rw[zFW R C f]at a;have V:=nx (nx E t) s;have q2:=t.size;clear G F;go_wp2;go_loopw [8] (fun y wr=>∃i:Nat,i<=R/\y=niq i/\BWq w wr/\Blk wr w.heap.size 32 #[niq 0,niq 0,.slice none 0 0]/\Blk wr P.heap.size 32 #[niq R,niq C,.slice p on o]/\qH wr q.heap.size (.slice p on o) C r (genM R C (zH9 f i 0))) (fun y _=>R-(intOf y).toNat)
 case atStart=>exact⟨0,oM,rfl,V,b,c,a⟩
 obtain⟨i,hi,rfl,d,b,c,a⟩:=hrel;by_cases I:i<R
 .go_wp2
  go_loopw [9] (fun A wr=>∃j:Nat,j<=C/\A=niq j/\BWq w wr/\Blk wr w.heap.size 32 #[niq 0,niq 0,.slice none 0 0]/\Blk wr P.heap.size 32 #[niq R,niq C,.slice p on o]/\qH wr q.heap.size (.slice p on o) C r (genM R C (zH9 f i j))) (fun A _=>C-(intOf A).toNat)
  case atStart=>exact⟨0,oM,rfl,d,b,c,a⟩
  obtain⟨j,hj,rfl,d,b,c,a⟩:=hrel;by_cases k:j<C
  .have c2:i*C+j<n:=by rw[B.out];exact zZh I k
   have c3:n<=1000000:=by rw[B.out];exact zD (qO Y W) oM
   obtain⟨m,l⟩:∃m,i*C+j=m:=⟨_,rfl⟩;have a3:(i:Int)*(C:Int)+(j:Int)=(m:Int):=by rw[<-l,zAX,yJ]
   have a5:0<=(i:Int)*(C:Int):=oM;have a6:(i:Int)*(C:Int)<=1000000:=oM;have a7:IntKind.i64.wrap ((i:Int)*(C:Int))=(i:Int)*(C:Int):=yC _ oM;have a8:IntKind.i64.wrap (m:Int)=(m:Int):=yC _ oM;have a4:m<n:=oM;have a1:(i:Int)*(C:Int)+(j:Int)<(n:Int):=oM;obtain⟨b3,z,rfl,b7,O,c1,z1,z2⟩:=(h.I d).cell (k:=m) (by rw[S.out];exact a4);have a0:Hid (f i j=z):=by rw[Q.out,l,zB8 O];exact xgw rfl
   obtain⟨b6,T,rfl,hg,u,b8,o1,K⟩:=a.at_ (i:=i) oM;have U:=c.three;have c0:i<on:=oM;have b0:=xgw K;have HM:=xgw l;clear K l O;have c6:=c.lt;go_upto_region 8 with(fail)
   refine yA 16 [pcI 14 (z)] ?_;refine sRd ?_;refine sRc (fun wS hI Gk X=>by go_simp;exact ck X (zBa z _ z1 z2)) (fun c8 _=>?_);refine sRd ?_;refine sRe ?_;intro w9 g H;obtain⟨pn,pa,pl,pc,px,rfl,M⟩:=id H;have b2:=xgw M;clear M;have L:=a.I g;obtain⟨sn,sa,sl,sc,y1,y2,y3,y4,-⟩:=L.cellAt u k;have b9:=a2 i T u;have N:=L.set u k H;clear a7 a8 a3 a5 a6 a1;go_wp2;go_roundw
   case rel=>
    rw[<-a0.out,zIC I k]at N;exact⟨j+1,oM,by simp,yB (yB (nx d g) oM _ _) oM _ _,(yL _ _ _ _ _ _ _ oM).trans (b.I g),(yL _ _ _ _ _ _ _ oM).trans (c.I g),N.1⟩
   case measure=>exact meq
  obtain rfl:j=C:=oM;rw[zIB]at a;go_wp2;go_roundw
  case rel=>exact⟨i+1,oM,by simp,d,b,c,a⟩
  case measure=>exact meq
 obtain rfl:i=R:=oM;rw[zIA]at a;have U:=c.three;have r1:=b.three;have q1:=E.size;go_wp2;refine zAD rfl rfl rfl (b.put3 _ _ _) ⟨_,r,rfl,⟨Z,_,rfl,?_⟩,yB (yB (yB d oM 0 _) oM 1 _) oM 2 _⟩;exact(a.keep (fun a9 hk=>zAm _ _ a9 _ _ _ oM) (b.lext3 dE _ _ _)).mono q1
def I8V(w:World)(v:Value)(ls:List Int):Prop:=
 ∃ao n cap,v= .slice ao n cap/\ls.length=n/\n<=cap/\cap<=9223372036854775807/\(∀z∈ls,-128<=z/\z<=127)∧
  (ls≠ []->∃b off,ao=some ⟨b,off,none⟩/\b<w.heap.size/\∀(k:Nat) (z:Int),ls[k]?=some z->w.cell? ⟨b,off+k,none⟩=some (.int .i8 z))
theorem I8V.cell{c:Option Addr}{f:Nat}(h:I8V w (.slice c n f) ls){k:Nat}(d:k<ls.length):
  ∃b off z,c=some ⟨b,off,none⟩/\b<w.heap.size/\ls[k]?=some z/\w.cell? ⟨b,off+k,none⟩=some (.int .i8 z)/\-128<=z/\z<=127:=by
 obtain⟨p,x,q,i,t,u,v,j,l⟩:=h;injection i with g r s
 subst g;obtain⟨b,off,e,m,o⟩:=l (by rintro rfl;simp at d);have a:=xga d;have:=j _ (xgd a);exact⟨b,off,_,e,m,a,o _ _ a,this.1,this.2⟩
theorem I8V.I(h:I8V w v ls)(a:BWq w w'):I8V w' v ls:=by
 obtain⟨f,n,g,i,j,l,m,o,q⟩:=h;refine⟨f,n,g,i,j,l,m,o,fun s=>?_⟩;obtain⟨b,d,e,c,r⟩:=q s;exact⟨b,d,e,zM c a.size,fun k z t=>(a.cell (p:=⟨b,d+k,none⟩) c).trans (r k z t)⟩
def zSY(C:Nat)(ls:List Int):Nat->Nat->Int:=fun i j=>(ls.getD (i*C+j) 0).tmod 10
theorem zVZ(h:ls.length<=i*C+j):zSY C ls i j=0:=by
 unfold zSY;rw[xgb,List.getElem?_eq_none h];rfl
theorem zXj{z:Int}:(Int.tmod z 10).natAbs<=9:=by
 rcases zCX 0 z with h|h
 rw[zAr h];omega;have:Int.tmod z 10=-(Int.tmod (-z) 10):=by rw[Int.neg_tmod];omega
 rw[this,zAr oM];omega
theorem zJn(C:Nat)(a:List Int)(i j:Nat):(zSY C a i j).natAbs<=9:=zXj
theorem zVE{f:Nat->Nat->Int}(h:∀b,j<=b->f i b=0):genM R C (zH9 f i j)=genM R C (zH9 f (i+1) 0):=
 jX fun a _ b _=>by
  unfold zH9;by_cases e:a<i∨(a=i/\b<j)
  .rw[zB e,zB oM]
  rw[zA e];by_cases c:a<i+1∨a=i+1/\b<0
  .rw[zB c]
   obtain rfl:a=i:=oM;exact(h b oM).symm
  rw[zA c]
theorem zK9(v:Value)(R C:Nat)(q:List Int)(w:World)(h:I8V w v q)(hR:R<=16)(hC:C<=16):
  CPq 54 #[.int .i64 R,.int .i64 C,v] w (zDl w R C (genM R C (zSY C q))):=by
 obtain⟨ao,n,b8,rfl,S,h3,h4,-,-⟩:=id h;have O:=xgw S;obtain⟨f,D⟩:∃f:Nat->Nat->Int,zSY C q=f:=⟨_,rfl⟩;rw[D];have N:jI (∀i j,f i j=zSY C q i j):=⟨fun i j=>by rw[<-D]⟩;clear D S;go_enter Tryz.func54,Tryz.ntmps54;go_upto_region 1 with(fail)
 refine zF ?_;intro u U;obtain⟨T,c,c6⟩:=qJ U;have e1:min (R:Int) 16=R:=oM;have e2:min (C:Int) 16=C:=oM;go_wp2_with fail
 refine(zFR R C u oM oM).mono ?_;rintro b9 w2 ⟨c9,x,rfl,⟨a7,A2,rfl,a⟩,A⟩;obtain⟨s,on,r,rfl,-,-,-,-⟩:=id a.rows;have b0:=a.lts;go_upto_region 2 with(fail)
 refine zF ?_;intro W3 V;obtain⟨y,d,c7⟩:=qJ V;have c:=(c.I A).I y;have a:=a.I y;rw[zFW R C f]at a;have a6:=nx (nx T A) y;have q2:=A.size;clear V U e1 e2;go_wp2;go_loopw [8] (fun K wr=>∃i:Nat,i<=R/\K= .int .i64 i/\BWq w wr/\Blk wr w.heap.size 32 #[.int .i64 0,.int .i64 0,.slice none 0 0]/\Blk wr w2.heap.size 32 #[.int .i64 R,.int .i64 C,.slice s on r]/\qH wr u.heap.size (.slice s on r) C x (genM R C (zH9 f i 0))) (fun K _=>R-(intOf K).toNat)
 case atStart=>exact⟨0,oM,rfl,a6,c,d,a⟩
 obtain⟨i,hi,rfl,e,c,d,a⟩:=hrel;have Q:=d.three;by_cases a9:i<R
 .go_wp2
  clear Q;go_loopw [9] (fun L wr=>∃j:Nat,j<=C/\L= .int .i64 j/\BWq w wr/\Blk wr w.heap.size 32 #[.int .i64 0,.int .i64 0,.slice none 0 0]/\Blk wr w2.heap.size 32 #[.int .i64 R,.int .i64 C,.slice s on r]/\qH wr u.heap.size (.slice s on r) C x (genM R C (zH9 f i j))) (fun L _=>C-(intOf L).toNat)
  case atStart=>exact⟨0,oM,rfl,e,c,d,a⟩
  obtain⟨j,hj,rfl,e,c,d,a⟩:=hrel;have Q:=d.three;obtain⟨m,k⟩:∃m,i*C+j=m:=⟨_,rfl⟩;have o:(i:Int)*(C:Int)+(j:Int)=(m:Int):=by rw[<-k,zAX,yJ]
  have Y:i*C<=16*16:=qO oM hC;have F:0<=(i:Int)*(C:Int):=by rw[<-yJ];omega
  have G:(i:Int)*(C:Int)<=1000000:=by rw[<-yJ];omega
  have a5:IntKind.i64.wrap ((i:Int)*(C:Int))=(i:Int)*(C:Int):=yC _ oM;have J:IntKind.i64.wrap (m:Int)=(m:Int):=yC _ oM;have Z:IntKind.i64.wrap ((i:Int)*(C:Int)+(j:Int))=(m:Int):=by rw[o,J]
  by_cases E:j<C
  .by_cases b2:m<n
   .obtain⟨b,b5,z,rfl,a8,hz,P,z1,z2⟩:=h.cell (k:=m) (by rw[O.out];exact b2)
    have c4:=(e.cell (p:=⟨b,b5+m,none⟩) a8).trans P;have X:Hid (f i j=Int.tmod z 10):=xgw (by rw[N.out];unfold zSY;rw[k,zB8 hz]);have a4:(Int.tmod z 10).natAbs<=9:=zXj;obtain⟨t,H⟩:∃t,Int.tmod z 10=t:=⟨_,rfl⟩;rw[H]at X a4;obtain⟨c0,bo,rfl,hg,B,c2,o1,a0⟩:=a.at_ (i:=i) oM;have c5:i<on:=oM;have b6:=xgw a0;have HM:=xgw k;have HT:=xgv H;have c8:=d.lt;clear a0 k hz Y P H;go_upto_region 8 with(fail)
    refine yA 19 [pcD 15 [] (fun _ v=>v= .int .i8 t),pcD 16 [] (fun _ v=>v= .int .i64 t),pcI 17 (t)] ?_;refine sRd ?_;refine sRc (fun wS hI M g=>?_) (fun _ I=>?_)
    .go_simp
     exact⟨g _ _ (congrArg (Value.int .i8) HT.out),zC _ _⟩
    obtain⟨_,-,rfl⟩:=I;refine sRc (fun wS hI M g=>?_) (fun _ I=>?_)
    .go_simp
     exact⟨g _ _ (congrArg (Value.int .i64) (yC _ oM)),zC _ _⟩
    obtain⟨_,-,rfl⟩:=I;refine sRc (fun wS hI M g=>by go_simp;exact ck g (zBa t _ oM oM)) (fun d0 _=>?_);refine sRd ?_;refine sRe ?_;intro w9 l _ _ W;obtain⟨pn,pa,pl,pc,px,rfl,a2⟩:=id W;have b7:=xgw a2;clear a2;have a1:=a.I l;obtain⟨sn,sa,sl,sc,y1,y2,y3,y4,-⟩:=a1.cellAt B E;have c3:=b0 i bo B;have a3:=a1.set B E W;clear a5 J o F G Z a4;go_wp2;go_roundw
    case rel=>
     rw[<-X.out,zIC a9 E]at a3;exact⟨j+1,oM,by simp,yB (yB (nx e l) oM _ _) oM _ _,(yL _ _ _ _ _ _ _ oM).trans (c.I l),(yL _ _ _ _ _ _ _ oM).trans (d.I l),a3.1⟩
    case measure=>exact meq
   have b3:∀b,j<=b->f i b=0:=fun b e=>by
    rw[N.out];exact zVZ (by rw[O.out];omega)
   rw[zVE b3]at a;clear o F G Y k;go_wp2;go_roundw
   case rel=>exact⟨i+1,oM,by simp,e,c,d,a⟩
   case measure=>exact meq
  obtain rfl:j=C:=oM;rw[zIB]at a;clear o F G Z a5 J;go_wp2;go_roundw
  case rel=>exact⟨i+1,oM,by simp,e,c,d,a⟩
  case measure=>exact meq
 obtain rfl:i=R:=oM;rw[zIA]at a;have r1:=c.three;have q1:=T.size;go_wp2;refine zAD rfl rfl rfl (c.put3 _ _ _) ⟨_,x,rfl,⟨a7,_,rfl,?_⟩,yB (yB (yB e oM 0 _) oM 1 _) oM 2 _⟩;exact(a.keep (fun b4 hk=>zAm _ _ b4 _ _ _ oM) (c.lext3 dE _ _ _)).mono q1
def qBs(F:Nat->Nat->Int)(i j:Nat)(k:Int):Nat->Nat->Int:=fun a b=>if b=i then F a i+k*F a j else F a b
def qBS(F:Nat->Nat->Int)(i j:Nat)(k:Int)(c:Nat):Nat->Nat->Int:=fun a b=>if a=i/\b<c then F i b+k*F j b else F a b
def qBR(F:Nat->Nat->Int)(i j:Nat)(k:Int)(c:Nat):Nat->Nat->Int:=fun a b=>if b=i/\a<c then F a i+k*F a j else F a b
open Go.ChangeShapes Go.WideShapes Go.ChangeAt
theorem Tryz.own:ownKnob Tryz.prog.godebug=none:=by kernel_rfl
theorem Tryz.laidOut:laidOutB Tryz.prog=true:=by kernel_rfl
abbrev zCa:=@Tryz.laidOut
theorem zXG:Tryz.prog.cellsOf 5=1:=by kernel_rfl
theorem zYe{H:Type}{enc:TypeId × Value->H}{cs:List Value}{y:DataW H × List MemPlace}(t:DataW.trod enc Tryz.prog w 0 (fun _=>true) true f 22 cs=some y)(B:∀x∈y.2,x.block<w.heap.size):
  ∃j n c ls,cs= [.slice j n c]/\I8V w (.slice j n c) ls:=by
 rcases open_ints Tryz.underlying22 Tryz.underlying66 kR t with⟨e,-⟩|⟨a,i,c,d,e,-,A,C,E,q,s,D⟩
 exact⟨none,0,0,[],e,none,0,0,rfl,rfl,xgf _,oM,fun z g=>(by cases g),fun h=>absurd rfl h⟩;simp only[if_true]at E;unfold maxLen at C;refine⟨some a,i,c,d.take i,e,some a,i,c,rfl,by simp;omega,A,oM,fun z g=>?_,fun h=>?_⟩
 .have:=D z (zCj g)
  exact bounds_i8 this
 have o:0<d.length:=by
  rcases qV d.length with h0|h0
  exact absurd (by rw[qL h0];simp) h;exact h0
 obtain⟨b,p,rfl,u⟩:=ints_at s o;refine⟨b,p,rfl,?_,fun k z v=>?_⟩;exact B (.cell b p) (by rw[q];exact MemPlace.mem_row.2 ⟨0,o,rfl⟩);obtain⟨r,l⟩:=xge.1 v;rw[zDD]at l;have m:k<d.length:=by
  simp at r;omega
 rw[u k m,<-l];simp[m]
theorem zFm{H:Type}{enc:TypeId × Value->H}{w:World}{f:Nat}{b:List Value}{d:DataW H}{p:List MemPlace}
  (u:DataW.trod enc Tryz.prog w 0 (fun _=>true) true f 24 b=some (d,p)) (v:∀x∈p,x.block<w.heap.size):∃(a:Nat) (q:Value) (ls:List Int),b= [.int .u8 a,q]/\a<=255/\I8V w q ls:=by
 obtain⟨h,m,B,i,j,t,k⟩:=DataW.trod_struct Tryz.underlying24 u;have s:Tryz.prog.cellsOf 24=2:=by kernel_rfl
 have r:Tryz.prog.cellsOf 22=1:=by kernel_rfl
 have c:DataW.trod enc Tryz.prog w 0 (fun _=>true) true m 5 (List.take (Tryz.prog.cellsOf 5) (List.drop 0 b))=h[0]?:=k 0 _ rfl;have e:DataW.trod enc Tryz.prog w 0 (fun _=>true) true m 22 (List.take (Tryz.prog.cellsOf 22) (List.drop 1 b))=h[1]?:=k 1 _ rfl;rw[s]at j;rw[zXG]at c;rw[r]at e;match h,t with
 | [E,F],_=>
  match b,j with
  | [C,D],_=>
   simp at c e;obtain⟨a,l,-,g⟩:=DataW.trod_int zDZ c;simp only[Prod.mk.injEq]at i;obtain⟨z,n,A,ls,o,hI⟩:=zYe e (fun x y=>v x (by rw[i.2];simp[y]));simp at l o;subst l;subst o;have g:=bounds_u8 g;exact⟨a.toNat,_,ls,by rw[Int.toNat_of_nonneg g.1],oM,hI⟩
theorem zRt{H:Type}{enc:TypeId × Value->H}{r:Reach}{d:DataW H}{f:List MemPlace}(c:Value.okWide Tryz.prog w r b0 24 v)
  (h:DataW.Trod enc Tryz.prog w 0 (fun _=>true) true 24 v d f) (l:∀x∈f,x.block<w.heap.size):∃(a:Nat) (b:Value) (ls:List Int),v= .agg #[.int .u8 a,b]/\a<=255/\I8V w b ls:=by
 simp only[Value.okWide,Tryz.underlying24]at c;obtain⟨g,rfl,o,-⟩:=c;obtain⟨n,k⟩:=h;obtain⟨a,b,ls,e,i,j⟩:=zFm k l;obtain⟨m⟩:=g;simp only[Value.cells]at e;subst e;exact⟨a,b,ls,rfl,i,j⟩
theorem zFl{H:Type}{enc:TypeId × Value->H}{r:Reach}{d:DataW H}{K:List MemPlace}(J:Value.okWide Tryz.prog w r b0 26 v)
  (h:DataW.Trod enc Tryz.prog w 0 (fun _=>true) true 26 v d K) (t:∀x∈K,x.block<w.heap.size):∃(c o p q:Nat) (A B C:Value) (u y z:List Int),v= .agg #[.int .u8 c,.int .u8 o,A,.int .u8 p,B,.int .u8 q,C]/\c<=255/\o<=255/\p<=255/\q<=255/\I8V w A u/\I8V w B y/\I8V w C z:=by
 simp only[Value.okWide,Tryz.underlying26]at J;obtain⟨b,rfl,Y,-⟩:=J;obtain⟨W,S⟩:=h;obtain⟨f,m,X,l,s,R,n⟩:=DataW.trod_struct Tryz.underlying26 S;have O:Tryz.prog.cellsOf 26=7:=by kernel_rfl
 have P:Tryz.prog.cellsOf 24=2:=by kernel_rfl
 have g:DataW.trod enc Tryz.prog w 0 (fun _=>true) true m 5 (List.take (Tryz.prog.cellsOf 5) (List.drop 0 (Value.agg b).cells.toList))=f[0]?:=n 0 _ rfl;have i:DataW.trod enc Tryz.prog w 0 (fun _=>true) true m 24 (List.take (Tryz.prog.cellsOf 24) (List.drop 1 (Value.agg b).cells.toList))=f[1]?:=n 1 _ rfl;have j:DataW.trod enc Tryz.prog w 0 (fun _=>true) true m 24 (List.take (Tryz.prog.cellsOf 24) (List.drop 3 (Value.agg b).cells.toList))=f[2]?:=n 2 _ rfl;have k:DataW.trod enc Tryz.prog w 0 (fun _=>true) true m 24 (List.take (Tryz.prog.cellsOf 24) (List.drop 5 (Value.agg b).cells.toList))=f[3]?:=n 3 _ rfl;rw[O]at s;rw[zXG]at g;rw[P]at i j k;simp only[Value.cells]at g i j k s;obtain⟨Q⟩:=b;match f,R with
 | [y0,(y1,p1),(y2,p2),(y3,p3)],_=>
  match Q,s with
  | [Z,k1,k2,k3,k4,k5,k6],_=>
   simp at g i j k;obtain⟨a,I,-,D⟩:=DataW.trod_int zDZ g;simp only[Prod.mk.injEq]at l;obtain⟨o,A,u,E,T,L⟩:=zFm i (fun x e=>t x (by rw[l.2];simp[e]));obtain⟨p,B,y,F,U,M⟩:=zFm j (fun x e=>t x (by rw[l.2];simp[e]));obtain⟨q,C,z,G,V,N⟩:=zFm k (fun x e=>t x (by rw[l.2];simp[e]));simp at I E F G;obtain⟨rfl,rfl⟩:=E;obtain⟨rfl,rfl⟩:=F;obtain⟨rfl,rfl⟩:=G;subst I;have D:=bounds_u8 D;exact⟨a.toNat,o,p,q,_,_,_,u,y,z,by rw[Int.toNat_of_nonneg D.1],oM,T,U,V,L,M,N⟩
end Go.Proofs.YtkidaebmhlijlaaGreat
