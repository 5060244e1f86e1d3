/- Joined. -/
import Derived.Test.YtkidaebmhlijlaaGreatE04
set_option linter.unusedVariables false
set_option linter.unusedSimpArgs false
set_option linter.unusedSectionVars false
set_option maxHeartbeats 16000000
set_option maxRecDepth 100000
variable{xs ys zs:List Nat}{i k x y:Nat}
namespace Go.Proofs.YtkidaebmhlijlaaGreat
open Go.RowKit
theorem zGs(m:Nat):nat (List.replicate m 0)=0:=by
 induction m with
 |zero=>rfl
 |succ m a=>rw[List.replicate_succ,zBp,a];rfl
theorem zJp(a:k<=zs.length)(h:nat zs<B32^k):nat (zs.drop k)=0:=by
 have b:=zDP zs k a;rcases qV (nat (zs.drop k))with h0|h0
 exact h0;have:=zO (B32^k) h0;omega
theorem zJz(a:k<zs.length)(h:nat zs<B32^k):zs.getD k 0=0:=by
 have b:=zJp (zAi a) h;have c:=zC7 zs k a;omega
theorem zYc{a:List Nat}(b:nat a=nat (xs.take i)*nat ys)(j:xs.getD i 0=x)(hd:zs.drop (i+k)=a.drop (i+k))(f:i+k<=zs.length)(g:i+k<=a.length)
  (h:nat (zs.take (i+k))+0*B32^(i+k)=nat (a.take (i+k))+x*B32^i*nat (ys.take k)) (e:ys.length<=k):nat zs=nat (xs.take (i+1))*nat ys:=by
 have c:=zDP zs (i+k) f;have d:=zDP a (i+k) g;rw[qY ys e,zA8,zAK]at h;rw[c,h,hd,yR,j,zW,<-b,d];omega
theorem zTz{a:Nat}(b:zA3 xs)(c:zA3 ys)(h2:ys.length<=a):nat (xs.take i)*nat ys<B32^(i+a):=by
 have d:=zDO (b.take i);have e:=zDO c;have f:B32^(xs.take i).length<=B32^i:=zX zCU (by simp;omega);have g:B32^ys.length<=B32^a:=zX zCU h2;rw[yM];exact Nat.mul_lt_mul_of_lt_of_le oM oM (qG zCU)
theorem zC8(v1 v2:Value)(H I:Int)(w:World)(h1:jE w v1 H)(h2:jE w v2 I)(s1:Sm H)(s2:Sm I):CPq 44 #[v1,v2] w (zDJ w (H*I)):=by
 obtain⟨e0,e7,d,e9,xs,rfl,W,g5,f4,a0,f2,a4,c9,d5⟩:=h1.len s1;obtain⟨e2,e8,a,f0,ys,rfl,X,g6,f5,a1,f3,a5,d0,d6⟩:=h2.len s2;have e5:=zJ W;have e6:=zJ X;have a6:=zJ a4;have a7:=zJ a5;have c6:xs.length<=d:=oM;have g7:d<=xs.length:=oM;have V:ys.length<=a:=oM;have g8:a<=ys.length:=oM;clear W X a4 a5 s1 s2 h1 h2 c9 d0;rw[zBf]at d5 d6;have c8:=fun a8=>mkU ((d:Int)+a+1) (d+a+1) oM oM a8
 go_enter Tryz.func44,Tryz.ntmps44;go_upto_region 1 with(fail)
 refine zF ?_;intro h Q;obtain⟨A,s,t,br,h7⟩:=zBc Q;have n:=s.two;have o:=t.two;go_upto_block 0 with(fail)
 clear c8;refine zF ?_;intro J B;obtain⟨q,C⟩:∃b0,h.heap.size=b0:=⟨_,rfl⟩;have b4:zC1 J q (List.replicate (d+a+1) 0):=by rw[B.out,<-C];exact zC1.made _ _
 have b3:BWq h J:=by rw[B.out];exact(zC _ _).alloc (xgf _) _
 have U:h.heap.size<=q:=oM;have d7:=a0.ext (lx A);have d8:=a1.ext (lx A);rw[C];clear n o B Q C;go_wp2;go_loopw [6] (fun E wr=>∃(i:Nat) (zs:List Nat),i<=d/\E= .int .i64 i/\zC1 wr q zs/\BWq h wr/\d+a+1<=zs.length∧
   Hid (zs.length=d+a+1/\zA3 zs/\nat zs=nat (xs.take i)*nat ys)) (fun E _=>d-(intOf E).toNat)
 case atStart=>exact⟨0,_,oM,rfl,b4,b3,by simp,⟨by simp,fun x hx=>by rw[List.eq_of_mem_replicate hx];exact zCU,by rw[zGs,jW,nat_nil,zA8]⟩⟩
 obtain⟨i,m,hi,rfl,S,j,c7,f⟩:=hrel;obtain⟨wo,rfl⟩:∃wo:World,wo=wr:=⟨_,rfl⟩;obtain⟨n,K,L,M⟩:=(s.I j).two;obtain⟨o,N,O,P⟩:=(t.I j).two;by_cases g1:i<d
 .obtain⟨a9,e3,x,rfl,b5,a2,HX,b7⟩:=d7.limb (k:=i) oM
  go_wp2;go_loopw [7,8] (fun cv F wr=>∃(k c:Nat) (zs:List Nat),k<=a+1/\F= .int .i64 k/\cv= .int .u64 c/\c<4294967296/\(k=a+1->c=0)/\zC1 wr q zs/\BWq h wr/\d+a+1<=zs.length∧
    Hid (zs.length=d+a+1/\zA3 zs/\zs.drop (i+k)=m.drop (i+k)/\nat (zs.take (i+k))+c*B32^(i+k)=nat (m.take (i+k))+x*B32^i*nat (ys.take k))) (fun _ F _=>a+1-(intOf F).toNat)
  case atStart=>exact⟨0,0,m,oM,rfl,rfl,oM,oM,S,j,c7,⟨f.out.1,f.out.2.1,rfl,by simp⟩⟩
  obtain⟨k,c,zs,hk,rfl,rfl,hc,g3,l,g,D,b⟩:=hrel;obtain⟨G,rfl⟩:∃G:World,G=wr:=⟨_,rfl⟩;clear n K L M o N O P;obtain⟨n,K,L,M⟩:=(s.I g).two;obtain⟨o,N,O,P⟩:=(t.I g).two;have f6:=(g.cell (p:=⟨a9,e3+i,none⟩) b5).trans b7;have f9:=l.frozen (i+k);by_cases c5:a<=k/\c=0
  .obtain⟨g2,rfl⟩:=c5
   have h6:¬ k<a:=oM;go_wp2;go_roundw
   case rel=>exact⟨i+1,zs,oM,by go_num,l,g,D,⟨b.out.1,b.out.2.1,zYc f.out.2.2 HX.out b.out.2.2.1 (by have:=b.out.1;omega) (by have:=f.out.1;omega) b.out.2.2.2 oM⟩⟩
   case measure=>exact meq
  obtain⟨z,e⟩:∃z,zs.getD (i+k) 0=z:=⟨_,rfl⟩;have h9:z<4294967296:=by rw[<-e];exact b.out.2.1.get _
  have b9:=l.cell (k:=i+k) oM;rw[e]at b9;have e:=zJ e;by_cases g4:k<a
  .obtain⟨b2,e4,y,rfl,b6,a3,HY,T⟩:=d8.limb (k:=k) oM
   have f8:=(g.cell (p:=⟨b2,e4+k,none⟩) b6).trans T;clear T;have h3:=zHs a2 a3;obtain⟨h4,h5⟩:=zHt a2 a3;go_wp2;have g9:c+(x*y+z)<18446744073709551616:=by generalize x*y=d9 at*;omega
   go_quiet (fail);have u:(((c+(x*y+z))/4294967296:Nat):Int)=((c:Int)+(z:Int)+(x:Int)*(y:Int))/4294967296:=by
    simp only[Int.natCast_ediv,Int.natCast_add,Int.natCast_mul];congr 1;omega
   have v:(((c+(x*y+z))%4294967296:Nat):Int)=((c:Int)+(z:Int)+(x:Int)*(y:Int))%4294967296:=by
    simp only[Int.natCast_emod,Int.natCast_add,Int.natCast_mul];congr 1;omega
   have b8:(c+(x*y+z))/4294967296<4294967296:=by generalize x*y=d9 at*;omega
   go_wp2;go_roundw
   case rel=>
    refine⟨k+1,(c+(x*y+z))/4294967296,zs.set (i+k) ((c+(x*y+z))%4294967296),oM,by go_num,by rw[u],b8,oM,zC1.set' (w:=G.drewN _) l _ _ _ (by rw[<-v]),(nx g (drN _ _)).setCell U _,by simpa using D,
     ⟨by simpa using b.out.1,b.out.2.1.set _ _ (yQ _ oM),?_,zIb b.out.2.2.2 oM HY.out e.out ((zEy b.out.2.2.1 (xgf _)).symm.trans e.out)⟩⟩
    rw[show i+(k+1)=i+k+1 from rfl,zDr];exact zF9 b.out.2.2.1
   case measure=>exact meq
  have f7:0<c:=oM;obtain rfl:a=k:=oM;go_wp2;have h8:z=0:=by
   have h0:=f.out.2.2;have h1:nat m<B32^(i+a):=by
    rw[h0];exact zTz a0.1 a1.1 V
   have h2:=zJz (k:=i+a) oM h1;rw[<-e.out];refine Eq.trans ?_ h2;exact zEy b.out.2.2.1 (xgf _)
  have c0:(c+z)/4294967296=0:=oM;have u:(((c+z)/4294967296:Nat):Int)=((c:Int)+(z:Int))/4294967296:=by simp
  have v:(((c+z)%4294967296:Nat):Int)=((c:Int)+(z:Int))%4294967296:=by simp
  go_roundw
  case rel=>
   have Y:=zIb b.out.2.2.2 oM (zGC V) e.out ((zEy b.out.2.2.1 (xgf _)).symm.trans e.out);rw[zCZ,zAM]at Y;refine⟨a+1,(c+z)/4294967296,zs.set (i+a) ((c+z)%4294967296),oM,by go_num,by rw[u],oM,fun _=>c0,l.set' _ _ _ (by rw[<-v]),g.setCell U _,by simpa using D,
    ⟨by simpa using b.out.1,b.out.2.1.set _ _ (yQ _ oM),?_,Y⟩⟩
   rw[show i+(a+1)=i+a+1 from rfl,zDr];exact zF9 b.out.2.2.1
  case measure=>simp[intOf]
 obtain rfl:d=i:=oM;go_wp2_with fail
 refine(zB3 _ _ _ m (e0 !=e2) _ f.out.1 (xgf _) oM (by rw[zBf];omega) (S.at_ f.out.2.1)).mono ?_;rintro f1 w2 ⟨i0,rfl,hv,R⟩;have r:=(br.I j).I R;have e1:=r.two;obtain⟨vn,va,vl,vc,vx,rfl,Z⟩:=hv;go_wp2_with fail
 refine jL rfl rfl rfl (r.put2 _ _) ?_ (yB (yB (nx (nx A j) R) oM 0 _) oM 1 _);refine jE.ext ?_ (r.lext2 dE _ _);rw[f.out.2.2,qY xs c6]at Z;rw[a6.out,a7.out,<-zUn];exact⟨vn,va,vl,vc,vx,rfl,Z⟩
theorem zKN(l:Option Addr)(n z:Nat)(xs:List Nat)(d:Nat)(w:World)(q:xs.length=n)(A:n<=4*LIM)(j:qW w l xs)(o:0<d)(hd:d<4294967296):
  CPq 139 #[.slice l n z,.int .u32 (d:Nat)] w fun e w'=>
   ∃g f r,e= .returned (.tuple #[.slice (some ⟨g,0,none⟩) n n,.int .u32 (r:Nat)])/\zC1 w' g f/\zA3 f/\f.length=n/\r<d/\nat xs=nat f*d+r/\BWq w w':=by
 have I:=zJ q;have C:xs.length<=n:=oM;have N:n<=xs.length:=oM;clear q;rw[zBf]at A;have E:=fun W=>mkU (n:Int) n oM oM W
 go_enter Tryz.func139,Tryz.ntmps139;go_wp2;clear E;go_loopw [7,8] (fun H i wr=>∃(k r:Nat) (zs:List Nat),k<=n/\i= .int .i64 ((k:Int)-1)/\H= .int .u64 r/\r<d/\zC1 wr w.heap.size zs/\BWq w wr/\n<=zs.length∧
   Hid (zs.length=n/\zA3 zs/\nat (xs.drop k)=nat (zs.drop k)*d+r)) (fun _ i _=>(intOf i+1).toNat)
 case atStart=>exact⟨n,0,List.replicate n 0,oM,by go_num,rfl,oM,zC1.made _ _,(zC _ _).alloc (xgf _) _,by simp,⟨by simp,fun x j=>by rw[List.eq_of_mem_replicate j];exact zCU,by rw[qP C,qP sI];simp⟩⟩
 obtain⟨k,r,zs,M,rfl,rfl,t,c,h,D,a⟩:=hrel;cases k with
 |zero=>
  go_wp2;go_ret2;refine⟨_,zs,r,by congr 3,c,a.out.2.1,a.out.1,t,by simpa using a.out.2.2,h⟩
 | succ k=>
  have L:=c.frozen k;obtain⟨b,G,x,rfl,B,O,y,m⟩:=j.limb (k:=k) oM;have J:=(h.cell (p:=⟨b,G+k,none⟩) B).trans m;have K:=c.cell (k:=k) oM;clear m;have s:(r*4294967296+x)/d<4294967296:=by
   rw[zBn o];have:(r+1)*4294967296<=d*4294967296:=zP _ t;omega
  have F:(r*4294967296+x)%d<d:=yQ _ o;have u:Hid (((r:Int)*4294967296+x)/d=(((r*4294967296+x)/d:Nat):Int)):=by show _=_;simp
  have v:Hid (((r:Int)*4294967296+x)%d=(((r*4294967296+x)%d:Nat):Int)):=by show _=_;simp
  go_wp2;go_roundw
  case rel=>exact⟨k,(r*4294967296+x)%d,zs.set k ((r*4294967296+x)/d),oM,by go_num,by rw[v.out],F,c.set' _ _ _ (by rw[u.out];exact zIe _ s),h.setCell (xgf _) _,by simpa using D,
    ⟨by simpa using a.out.1,a.out.2.1.set _ _ s,zLn a.out.2.2 oM oM y.out⟩⟩
  case measure=>simp[intOf]
theorem qBX{n:Nat}(j:xs.length=n+1)(k:ys.length=n+1)(i:zA3 ys)(g:xs.getD n 0=x)(h:ys.getD n 0=y):x/(y+1)*nat ys<=nat xs:=by
 have a:=yR xs n;have b:=yR ys n;rw[qY _ oM,g]at a;rw[qY _ oM,h]at b;have c:=zDO (i.take n);have d:(ys.take n).length=n:=by simp;omega
 rw[d]at c;have e:nat ys<=(y+1)*B32^n:=by rw[zW,zAR];omega
 have f:x/(y+1)*(y+1)<=x:=Nat.div_mul_le_self _ _
 calc x/(y+1)*nat ys<=x/(y+1)*((y+1)*B32^n):=zG _ e
  _=x/(y+1)*(y+1)*B32^n:=by rw[zE]
  _<=x*B32^n:=zP _ f
  _<=nat xs:=oM
theorem qBY{m a:Nat}(p:xs.length=m+k+2)(r:ys.length=m+1)(o:zA3 ys)(j:xs.getD (m+k+1) 0=x)(l:xs.getD (m+k) 0=a)(n:ys.getD m 0=y):
  (x*4294967296+a)/(y+1)*B32^k*nat ys<=nat xs:=by
 have b:=yR xs (m+k+1);have c:=yR xs (m+k);have d:=yR ys m;rw[qY _ oM,j,c,l]at b;rw[qY _ oM,n]at d;have e:=zDO (o.take m);have f:(ys.take m).length=m:=by simp;omega
 rw[f]at e;have g:nat ys<=(y+1)*B32^m:=by rw[zW,zAR];omega
 have h:(x*4294967296+a)/(y+1)*(y+1)<=x*4294967296+a:=Nat.div_mul_le_self _ _;have i:(x*4294967296+a)*B32^(m+k)<=nat xs:=by
  rw[zW,b,qE,<-zB5,zN (B32^_) B32,<-zE x];omega
 generalize (x*4294967296+a)/(y+1)=q at*
 calc q*B32^k*nat ys<=q*B32^k*((y+1)*B32^m):=zG _ g
  _=q*(y+1)*B32^(m+k):=by rw[yM];simp only[Nat.mul_assoc,Nat.mul_comm,Nat.mul_left_comm]
  _<=(x*4294967296+a)*B32^(m+k):=zP _ h
  _<=nat xs:=i
theorem zYB(k q:Nat):nat (List.replicate k 0++ [q%4294967296,q/4294967296])=q*B32^k:=by
 rw[zFM,zGs,zAM,List.length_replicate,zN];congr 1;simp[zBp,zB5];omega
theorem zJa.made0(w:World)(base k:Nat)(h:base<=w.heap.size)(b:k<=70368744177664):zJa (w.alloc (.cells (zCF (List.replicate k 0)) tU)) base (slq w.heap.size k k) (List.replicate k 0):=by
 refine⟨fun x a=>by rw[List.eq_of_mem_replicate a];exact zCU,?_⟩;have:=World.ownsRow_lit (base:=base) (e:=tU) (size:=1) w (zCF (List.replicate k 0)) k h (by simp[maxLen];omega) (by simp[zCF]);simpa[zCF]using this
theorem zHW{fn:Func}{a:Act}{w W:World}{z:Int}{r:Nat}{v:Array Value}{p:Tmp}{Q:Ending->World->Prop}(h:fn.results=#[.cell p 43])(hd:a.defers= [])
  (j:a.tmps.getD p undef=ptq r 0) (i:Blk W r 43 v) (hv:jE W (.agg v) z) (hbel:BWq w W) (g:∀e w',zDJ w z e w'->Q e w'):bodyPost Tryz.prog fn Q .ret a W:=by
 obtain⟨neg,c,n,d,xs,b,f⟩:=hv;injection b with b
 subst b;exact bodyPost_ret (results_cell_row h _ W r _ _ _ _ j i zCP rfl (by rw[zEX];rfl)) hd (g _ _ ⟨_,rfl,⟨neg,c,n,d,xs,rfl,f⟩,hbel⟩)
def zZP(w:World)(a b:Nat)(e:Ending)(w':World):Prop:=
 ∃v z,e= .returned v/\jE w' v (z:Nat)/\0<z/\z*b<=a/\BWq w w'
theorem zUR(O P:Option Addr)(b a6 a a7:Nat)(xs ys:List Nat)(w:World)(u:xs.length=b+1)(X:ys.length=a+1)
  (a9:b+1<=4*LIM) (a0:qW w O xs) (E:qW w P ys) (R:zA1 xs) (c4:a<=b) (Z:nat ys<=nat xs):
  CPq 140 #[.slice O (b+1) a6,.slice P (a+1) a7] w (zZP w (nat xs) (nat ys)):=by
 have K:=zJ u;have L:=zJ X;have HV:=zJ Z;have c5:b+1<=xs.length:=oM;have c6:a+1<=ys.length:=oM;obtain⟨b1,a1,x,rfl,T,c9,r,U⟩:=a0.limb (k:=b) oM;obtain⟨b2,b9,y,rfl,b0,d3,N,W⟩:=E.limb (k:=a) oM;have d2:0<x:=by have:=R b u;rw[r.out]at this;omega
 clear u X Z R;rw[zBf]at a9;go_enter Tryz.func140,Tryz.ntmps140;go_upto_region 1 with(fail)
 refine zF ?_;intro c a8;obtain⟨h,s,c8⟩:=qJ a8;have d1:=s.two;have c2:=(h.cell (p:=⟨b1,a1+b,none⟩) T).trans U;have c3:=(h.cell (p:=⟨b2,b9+a,none⟩) b0).trans W;clear U W;go_quiet (fail);by_cases hk:b=a
 .subst hk
  go_wp2_with fail
  have Y:x/(y+1)<=x:=zBm _ _;have b6:wrap64 (max 1 (IntKind.u64.wrap ((x:Int)/((y:Int)+1))))=((max 1 (x/(y+1)):Nat):Int):=by
   rw[show(x:Int)/((y:Int)+1)=((x/(y+1):Nat):Int) by simp,zAp];generalize x/(y+1)=q at*;simp[wrap64];omega
  rw[b6];refine(zBa _ _ oM oM).mono ?_;rintro e w2 ⟨v,rfl,C,i⟩;have d:=(s.drewN _).I i;obtain⟨e1,e2,f,t⟩:=d.two;obtain⟨I,F,H,G,J,rfl,D⟩:=C;go_wp2_with fail
  refine zHW rfl rfl rfl (d.put2 _ _) (hv:=jE.ext ⟨I,F,H,G,J,rfl,D⟩ (d.lext2 dE _ _)) (hbel:=yB (yB (nx (nx h (drN _ _)) i) oM 0 _) oM 1 _) ?_;rintro e o ⟨v,rfl,n,j⟩;refine⟨v,_,rfl,n,oM,?_,j⟩;rcases Nat.le_total 1 (x/(y+1))with h1|h1
  rw[Nat.max_eq_right h1];exact qBX K.out L.out E.1 r.out N.out;rw[Nat.max_eq_left h1,zAR];exact HV.out
 obtain⟨k,rfl⟩:∃k,b=a+k+1:=⟨b-a-1,oM⟩;obtain⟨b3,d4,g,f,c1,d0,a2,V⟩:=a0.limb (k:=a+k) oM;injection f with f
 injection f with f t
 subst f;subst t;have V:=(h.cell (p:=⟨_,a1+(a+k),none⟩) T).trans V;go_wp2;have hd:Hid (((x:Int)*4294967296+g)/((y:Int)+1)=(((x*4294967296+g)/(y+1):Nat):Int)):=by
  show _=_;rw[Int.natCast_ediv,show((x*4294967296+g:Nat):Int)=(x:Int)*4294967296+g by omega,show((y+1:Nat):Int)=(y:Int)+1 by omega]
 have Y:(x*4294967296+g)/(y+1)<18446744073709551616:=zI (zBm _ _) oM;go_quiet (fail);rw[hd.out];obtain⟨q,l⟩:∃q,(x*4294967296+g)/(y+1)=q:=⟨_,rfl⟩;rw[l];rw[l]at Y;have M:=zJ l;clear l hd;have c7:=fun a3=>mkU ((a:Int)+k+1+1-(a+1)-1) k oM oM a3
 have b8:0<q:=by
  rw[<-M.out];exact Nat.div_pos oM oM
 clear d1;go_wp2_with (at_builtin;refine zPw rfl _ _ rfl c.heap.size (slq c.heap.size k k) (List.replicate k 0) rfl ?h1 _ 2 2 [q%4294967296,q/4294967296] rfl ?h2 rfl ?h3 ?h4 ?h5)
 case h1=>exact((zJa.made0 (c.drewN _) c.heap.size k (xgf _) oM).alloc _)
 case h2=>
  refine zTp (m:=(q:Int)%4294967296) (k:=(q:Int)/4294967296) ?_ oM oM sI sI;exact(zAU (w:=c.drewN _) (A:=zCF (List.replicate k 0)) (T1:=tU) (B:=#[.int .u32 ((q:Int)%4294967296),.int .u32 ((q:Int)/4294967296)]) (T2:=tU) (W0:=_) rfl).2.2.1
 case h3=>simp;omega
 case h4=>simp;omega
 intro v' o b7 b4;have S:BWq c o:=by
  refine Below.grown (w:=_) ?_ b4 (by simp;omega) (fun c0 hg=>by simp[Value.ownBlock]at hg;omega);exact((drN c _).alloc (xgf _) _).alloc sI _
 obtain⟨a4,a5,rfl,n,j,q3⟩:=b7.at_;go_wp2_with fail
 have b5:(List.replicate k 0++ [q%4294967296,q/4294967296]).length=k+2:=by simp
 have hz:=zYB k q;generalize List.replicate k 0++ [q%4294967296,q/4294967296]=zs at*;have Q:=zB3 a4 (k+2) a5 zs false o b5 oM j (by rw[zBf];omega) q3;rw[hz]at Q;refine Q.mono ?_;rintro e w2 ⟨v,rfl,C,i⟩;have d:=(s.I S).I i;obtain⟨e1,e2,f,t⟩:=d.two;obtain⟨I,F,H,G,J,rfl,D⟩:=C;go_wp2_with fail
 refine zHW (z:=((q*B32^k:Nat):Int)) rfl rfl rfl (d.put2 _ _) (hv:=jE.ext ⟨I,F,H,G,J,rfl,D⟩ (d.lext2 dE _ _)) (hbel:=yB (yB (nx (nx h S) i) oM 0 _) oM 1 _) ?_;rintro e o ⟨v,rfl,n,j⟩;exact⟨v,_,rfl,n,qM b8 (qG zCU),by rw[<-M.out];exact qBY K.out L.out E.1 r.out a2.out N.out,j⟩
end Go.Proofs.YtkidaebmhlijlaaGreat
