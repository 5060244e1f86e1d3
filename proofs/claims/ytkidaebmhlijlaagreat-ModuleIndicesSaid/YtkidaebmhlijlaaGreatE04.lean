/- Joined. -/
import Derived.Test.YtkidaebmhlijlaaGreatE03
set_option linter.unusedVariables false
set_option linter.unusedSimpArgs false
set_option linter.unusedSectionVars false
set_option maxHeartbeats 16000000
set_option maxRecDepth 100000
variable{z:Int}{ms qs rs ul us xs ys zs:List Nat}{V X a b d j k m n off s v x y:Nat}{W w:Go.World}
namespace Go.Proofs.YtkidaebmhlijlaaGreat
open Go.RowKit
/-! ### plain -/
theorem zDP(xs:List Nat)(k:Nat)(h:k<=xs.length):nat xs=nat (xs.take k)+B32^k*nat (xs.drop k):=by
 have:=zFM (xs.take k) (xs.drop k);rw[List.take_append_drop,qR,zA6 h]at this;exact this
theorem zWS(h:off<=us.length):(put us off ms).drop off=ms++us.drop (off+ms.length):=by
 unfold put;rw[zAu,List.drop_append,qP (by simp;omega)];simp[Nat.min_eq_left h]
theorem zWT(h:off<=us.length):(put us off ms).take off=us.take off:=by
 unfold put;rw[zAu,zAf (by simp;omega),zD2,Nat.min_self]
theorem zTA(a V p B t q r:Nat):a*V*(p*B)+(t+p*(q*V+r))=(q+B*a)*V*p+(t+p*r):=by
 simp only[Nat.add_mul,Nat.mul_add];have b:a*V*(p*B)=B*a*V*p:=by simp only[Nat.mul_assoc,Nat.mul_comm,Nat.mul_left_comm]
 have c:p*(q*V)=q*V*p:=zN _ _;omega
structure zJV(X V:Nat)(n k:Nat)(ul qs:List Nat):Prop where
 lim:zA3 ul
 qlim:zA3 qs
 eq:X=nat (qs.drop k)*V*B32^k+nat ul
 lt:nat (ul.drop k)<V
theorem zJV.zero(h:zJV X V n k ul qs)(c:V<B32^n)(d:k+n<=ul.length):nat (ul.drop (k+n))=0:=by
 have a:=zDP (ul.drop k) n (by simp;omega);rw[List.drop_drop]at a;have b:=h.lt;rcases qV (nat (ul.drop (k+n)))with h0|h0
 exact h0;have:=zO (B32^n) h0;omega
theorem zJV.seg_eq(h:zJV X V n (j+1) ul qs)(b:V<B32^n)(c:j+1+n<=ul.length):nat (seg ul j (n+1))=nat (ul.drop j):=by
 have a:=zDP (ul.drop j) (n+1) (by simp;omega);rw[List.drop_drop,show j+(n+1)=j+1+n by omega,h.zero b c]at a;unfold seg;omega
theorem zJV.small(h:zJV X V n (j+1) ul qs)(c:j<ul.length):nat (ul.drop j)<V*4294967296:=by
 have a:=zC7 ul j c;have b:=h.lim.get j;have e:=h.lt;rw[zB5]at a b;rw[a];clear a h;generalize nat (List.drop (j+1) ul)=d at*;generalize ul.getD j 0=x at*;omega
theorem zJV.step{q:Nat}{rs:List Nat}(h:zJV X V n (j+1) ul qs)(d:V<B32^n)(e:j+1+n<=ul.length)(f:j<qs.length)(k:q<4294967296)
  (l:rs.length=n+1) (m:zA3 rs) (g:nat (seg ul j (n+1))=q*V+nat rs) (i:nat rs<V):zJV X V n j (put ul j rs) (qs.set j q):=by
 have o:=h.zero d e;have hd:nat ((put ul j rs).drop j)=nat rs:=by
  rw[zWS oM,zFM,l,show j+(n+1)=j+1+n by omega,o,zCZ,zAK]
 refine⟨zUK h.lim m,h.qlim.set _ _ k,?_,by rw[hd];exact i⟩;have b:=zDP ul j oM;have c:=zDP (put ul j rs) j (by rw[zFO oM];omega);rw[hd,zWT oM]at c;rw[<-h.seg_eq d e,g]at b;have a:=zC7 (qs.set j q) j (by simpa using f);rw[zDr,xgb,List.getElem?_set_self f]at a;simp only[Option.getD_some]at a;rw[a,c,h.eq,b,qE];exact zTA _ _ _ _ _ _ _
theorem zOH(x:s<32)(u:a<4294967296)(v:b<4294967296):
  ((a*4294967296+b)/2^s%4294967296)*2^s+b%2^s=b+a%2^s*4294967296:=by
 obtain⟨t,d⟩:∃t,2^s*t=4294967296:=⟨2^(32-s),by rw[<-yM,show s+(32-s)=32 by omega]⟩;have f:0<2^s:=qG oM;generalize 2^s=p at*;have o:=zAI b p;have m:=zAI a p;have q:=yQ b f;have n:=yQ a f;generalize b/p=c at*;generalize b%p=r at*;generalize a/p=g at*;generalize a%p=e at*;have i:(a*4294967296+b)/p=a*t+c:=by
  rw[<-d,<-o,<-zE,zN a p,zE,<-zER,<-zAH];rw[Nat.mul_add_div f,Nat.div_eq_of_lt q,zAK]
 have w:c<t:=by
  rcases zK c t with h|h
  exact h;have:=zG p h;omega
 have j:a*t+c=e*t+c+4294967296*g:=by
  rw[<-d,<-m,zW,zE p t,zE,zN t g];omega
 have k:e*t+c<4294967296:=by
  have l:(e+1)*t<=p*t:=zP t n;rw[zW,zAR,d]at l;omega
 rw[i,j,Nat.add_mul_mod_self_left,Nat.mod_eq_of_lt k,zW,zE,zN t p,d,zN c p];omega
theorem zOI{v:Nat}(i:s<32)(d:a<4294967296)(f:b<4294967296)(j:ul.getD (k+1) 0=a)(l:ul.getD k 0=b)(g:k<rs.length)
  (hv:v=(a*4294967296+b)/2^s%4294967296) (h:nat (rs.take k)*2^s=nat (ul.take k)+(ul.getD k 0%2^s)*B32^k):
  nat ((rs.set k v).take (k+1))*2^s=nat (ul.take (k+1))+(ul.getD (k+1) 0%2^s)*B32^(k+1):=by
 have c:=zOH i d f;rw[<-hv]at c;rw[zCG _ _ _ g,yR,zW,h,j,l,qE,zB5];generalize 2^s=p at*;generalize 4294967296^k=P;have e:=congrArg (· *P) c;simp only[Nat.add_mul]at e;have m:v*P*p=v*p*P:=by rw[zE,zN P,<-zE]
 have n:a%p*(P*4294967296)=a%p*4294967296*P:=by rw[zE,zN P]
 omega
theorem zWu{vs:List Nat}{t:Nat}(e:zA3 vs)(f:vs.length=m+1)(h:t*B32^m<=nat vs):t<=vs.getD m 0:=by
 have b:=yR vs m;rw[qY vs oM]at b;have c:=zDO (e.take m);rw[qR,zA6 oM]at c;rcases zK (vs.getD m 0) t with a|a
 .exfalso
  have d:=zP (B32^m) a;rw[Nat.succ_mul]at d;omega
 exact a
theorem zYd(b:ys.length=m+1)(hd:ys.getD m 0=d):d*B32^m<=nat ys:=by
 have a:=yR ys m;rw[qY ys oM,hd]at a;omega
theorem zX4{T:Nat}(b:k<=us.length)(h:nat us<B32^k*T):nat (us.drop k)<T:=by
 have c:=zDP us k b;have a:B32^k*nat (us.drop k)<B32^k*T:=oM;exact Nat.lt_of_mul_lt_mul_left a
theorem zYW(d:s<32)(b:0<ul.length):nat ul%2^s=ul.getD 0 0%2^s:=by
 obtain⟨t,c⟩:∃t,2^s*t=4294967296:=⟨2^(32-s),by rw[<-yM,show s+(32-s)=32 by omega]⟩;have a:=zC7 ul 0 b;rw[xgk,zB5,<-c,zE]at a;rw[a,Nat.add_mul_mod_self_left]
theorem zQu(f:Option Addr)(n j:Nat)(xs:List Nat)(w:World)(r:xs.length=n)(y:n<=2)(c:qW w f xs):
  CPq 205 #[.slice f n j] w fun e w'=>e= .returned (.int .u64 (nat xs:Nat))/\w=w':=by
 match n,xs,r with
 |0,[],_=>
  go_enter Tryz.func205,Tryz.ntmps205;go_wp2;refine wp_loop_rounds 1 ?_;rw[rounds_succ];go_wp2;go_ret;exact⟨rfl,rfl⟩
 |1,[a],_=>
  obtain⟨b,off,x,rfl,p,z,g,q⟩:=c.limb (k:=0) sI;have s:x=a:=g.out.symm;subst s;rw[zAK]at q;have l:bits BinOp.or IntKind.u64 0 (x:Int)=(x:Int):=by have:=u64_or_nat 0 x oM oM;simpa using this
  have E:Hid (nat [x]=x):=by show _=_;simp[zBp]
  go_enter Tryz.func205,Tryz.ntmps205;go_wp2;refine wp_loop_rounds 2 ?_;rw[rounds_succ];go_wp2;rw[rounds_succ];go_wp2;go_ret;exact⟨by rw[E.out];rfl,rfl⟩
 | 2,[a,b],_=>
  obtain⟨t,off,o,p,d⟩:=c.cells sI;subst o;have h:=d 0 sI;have i:=d 1 sI;have m:a<4294967296:=c.1 a sI;have v:b<4294967296:=c.1 b sI;have l:bits BinOp.or IntKind.u64 0 (a:Int)=(a:Int):=by have:=u64_or_nat 0 a oM oM;simpa using this
  have u:bits BinOp.or IntKind.u64 (a:Int) ((b:Int)*4294967296)=((a+b*4294967296:Nat):Int):=by
   have:=u64_or_nat a (b*4294967296) oM oM;rw[Nat.or_comm,zQR b a m,zDn]at this;rw[<-this];simp
  have E:Hid (nat [a,b]=a+b*4294967296):=by show _=_;simp[zBp,zB5];omega
  clear d;simp at h i;go_enter Tryz.func205,Tryz.ntmps205;go_wp2;refine wp_loop_rounds 3 ?_;rw[rounds_succ];go_wp2;rw[rounds_succ];go_wp2;rw[rounds_succ];go_wp2;go_ret;exact⟨by rw[E.out];rfl,rfl⟩
def zJb(w:World)(a b:Nat)(e:Ending)(w':World):Prop:=
 ∃qo ql qc qs ro rl rc rs,e= .returned (.tuple #[.slice qo ql qc,.slice ro rl rc])/\qs.length=ql/\ql<=qc/\qc<=9223372036854775807/\qW w' qo qs∧
  rs.length=rl/\rl<=rc/\rc<=9223372036854775807/\qW w' ro rs/\a=nat qs*b+nat rs/\nat rs<b/\BWq w w'
section
variable (ao1 ao2:Option Addr) (n1 cap1 n2 cap2:Nat) (xs ys:List Nat) (w:World) (hn1:xs.length=n1) (hn2:ys.length=n2) (hl1:n1<=cap1) (hl2:n2<=cap2)
  (hc1:cap1<=9223372036854775807) (hc2:cap2<=9223372036854775807) (hb1:n1<=2*LIM) (hb2:n2<=2*LIM) (hx1:qW w ao1 xs) (hx2:qW w ao2 ys) (hN1:zA1 xs) (hN2:zA1 ys) (hy:0<nat ys)
include hn1 hn2 hl1 hl2 hc1 hc2 hb1 hb2 hx1 hx2 hN1 hN2 hy
theorem zOg(i:nat xs<nat ys):CPq 191 #[.slice ao1 n1 cap1,.slice ao2 n2 cap2] w (zJb w (nat xs) (nat ys)):=by
 have c:=fun W a b=>zDb ao1 ao2 n1 cap1 n2 cap2 xs ys W hn1 hn2 hl1 hl2 hc1 hc2 a b hN1 hN2
 rw[zBj oM]at c;have d:=zJ hn1;clear hn1 hn2;go_enter Tryz.func191,Tryz.ntmps191;go_wp2_with (go_at_call 124;refine(c _ hx1 hx2).mono ?_;rintro e n ⟨rfl,j,rfl⟩)
 refine(zGO ao1 n1 cap1 xs _ d.out oM (hx1.ext (lx (drN _ _)))).mono ?_;rintro e o ⟨m,l,k,rfl,a,b,f,g,h⟩;go_wp2_with fail
 go_ret2;exact⟨_,_,_,[],_,_,_,xs,rfl,rfl,oM,oM,qW.nil _ _,a,b,f,g,by simp,i,nx (drN _ _) h⟩
theorem zRB(g:nat ys<=nat xs)(h2:n1<=2):CPq 191 #[.slice ao1 n1 cap1,.slice ao2 n2 cap2] w (zJb w (nat xs) (nat ys)):=by
 have a6:n2<=n1:=by rw[<-hn1,<-hn2];exact zDg hx1.1 hN2 g
 have n:=fun W E h2=>zDb ao1 ao2 n1 cap1 n2 cap2 xs ys W hn1 hn2 hl1 hl2 hc1 hc2 E h2 hN1 hN2
 obtain⟨d,m,a5⟩:∃d:Int,zAv (nat xs) (nat ys)=d/\0<=d:=⟨_,rfl,zD5 oM⟩;rw[m]at n;clear m;have y:=fun W h=>zQu ao1 n1 cap1 xs W hn1 h2 h
 have z:=fun W h=>zQu ao2 n2 cap2 ys W hn2 oM h
 have x:nat xs<18446744073709551616:=by
  have F:=zDO hx1.1;have j:=zEb (show xs.length<=2 by omega);rw[zB5]at j;have G:(4294967296:Nat)^2=18446744073709551616:=by decide
  rw[G]at j;rw[zB5]at F;omega
 have H:nat ys<18446744073709551616:=oM;obtain⟨a,k⟩:∃a,nat xs=a:=⟨_,rfl⟩;obtain⟨b,l⟩:∃b,nat ys=b:=⟨_,rfl⟩;rw[k]at y x g ⊢
 rw[l]at z H g hy ⊢
 clear hn1 hn2 k l;have s:=zHm (a/b);have v:=zHm (a%b);have p:a/b<18446744073709551616:=zI (zBm _ _) x;have u:a%b<b:=yQ _ hy;have f:(a:Int)/(b:Int)=((a/b:Nat):Int):=by simp
 have i:(a:Int)%(b:Int)=((a%b:Nat):Int):=by simp
 have D:IntKind.u64.wrap ((a:Int)/(b:Int))=((a/b:Nat):Int):=by rw[f,zAp];generalize a/b=a7 at*;omega
 have c:Hid (a=a/b*b+a%b):=by show _=_;rw[zN];exact(zAI a b).symm
 obtain⟨q,o⟩:∃q,a/b=q:=⟨_,rfl⟩;obtain⟨r,t⟩:∃r,a%b=r:=⟨_,rfl⟩;rw[o]at s p f D c;rw[t]at v u i c;clear o t;have Z:(a:Int).tdiv (b:Int)=(q:Int):=by rw[Int.tdiv_eq_ediv_of_nonneg oM];exact f
 have a0:(a:Int).tmod (b:Int)=(r:Int):=by rw[zAr oM];exact i
 have a1:IntKind.u64.wrap (q:Int)=(q:Int):=by rw[zAp];omega
 have a2:IntKind.u64.wrap (r:Int)=(r:Int):=by rw[zAp];omega
 have a4:¬ b=0:=oM;have a3:((b:Int)==0)=false:=by simp;omega
 go_enter Tryz.func191,Tryz.ntmps191;go_wp2_with (first
  |(go_at_call 124;refine(n _ hx1 hx2).mono ?_;rintro e C ⟨rfl,nd,rfl⟩)
  |(go_at_call_of 205 ao1;refine(y _ (hx1.ext (lx (drN _ _)))).mono ?_;rintro e C ⟨rfl,rfl⟩)
  |(go_at_call_of 205 ao2;refine(z _ (hx2.ext (lx (drN _ _)))).mono ?_;rintro e C ⟨rfl,rfl⟩))
 go_region_held3 (fun _=>True) (exact trivial)
  (first
   |(go_at_call_of 113 q;refine(s _ p).mono ?_;rintro e w1 ⟨Q,P,O,qs,rfl,I,J,K,L,M,N⟩)
   |(go_at_call_of 113 r;refine(v _ oM).mono ?_;rintro e w2 ⟨T,S,R,rs,rfl,U,V,X,Y,A,B⟩))
 go_wp2_with fail
 go_ret2;exact⟨Q,P,O,qs,T,S,R,rs,rfl,I,J,K,L.ext (lx B),U,V,X,Y,by rw[M,A];exact c.out,by rw[A];exact u,nx (nx (nx (drN _ _) (dr _)) N) B⟩
theorem zNM(q:nat ys<=nat xs)(h2:2<n1)(h1:n2=1):CPq 191 #[.slice ao1 n1 cap1,.slice ao2 n2 cap2] w (zJb w (nat xs) (nat ys)):=by
 have j:=fun W h1 h2=>zDb ao1 ao2 n1 cap1 n2 cap2 xs ys W hn1 hn2 hl1 hl2 hc1 hc2 h1 h2 hN1 hN2
 obtain⟨c,i,D⟩:∃c:Int,zAv (nat xs) (nat ys)=c/\0<=c:=⟨_,rfl,zD5 oM⟩;rw[i]at j;clear i;subst h1;obtain⟨b,off,d,rfl,C,p,m,o⟩:=hx2.limb (k:=0) oM;rw[zAK]at o;have l:nat ys=d:=by
  match ys,hn2,m.out with
  | [y],_,h=>simp at h;simp[zBp,h]
 have s:=fun W h=>zUo ao1 n1 cap1 xs d W hn1 oM h oM p
 rw[l]at q hy ⊢
 have B:=zJ hn1;clear hn1 hn2 l;go_enter Tryz.func191,Tryz.ntmps191;go_wp2_with (first
  |(go_at_call 124;refine(j _ hx1 hx2).mono ?_;rintro e F ⟨rfl,E,rfl⟩)
  |(go_at_call 206;refine(s _ (hx1.ext (lx (drN _ _)))).mono ?_;rintro e a ⟨g,qs,r,rfl,t,u,v,x,z,A⟩))
 go_ret2;have n:BWq w a:=nx (drN _ _) A;have f:BWq a (a.alloc (.cells #[.int .u32 (r:Nat)] tU)):=(zC _ _).alloc (xgf _) _;exact⟨_,_,_,qs,_,_,_,[r],rfl,v,xgf _,oM,(t.at_ u).ext (lx f),rfl,xgf _,oM,qW.one a r oM _ rfl,by simp[zBp];exact z,by simp[zBp];exact x,nx n f⟩
end
theorem zOh(D a4:Option Addr)(f E c F:Nat)(xs ys:List Nat)(w:World)(A:xs.length=f)(K:ys.length=c)(k0:f<=E)(k1:c<=F)
  (h6:E<=9223372036854775807) (h7:F<=9223372036854775807) (h5:f<=2*LIM) (Z:qW w D xs) (a0:qW w a4 ys) (g3:zA1 xs) (R:zA1 ys)
  (b2:nat ys<=nat xs) (h2:2<f) (h1:2<=c):CPq 191 #[.slice D f E,.slice a4 c F] w (zJb w (nat xs) (nat ys)):=by
 have n5:c<=f:=by rw[<-A,<-K];exact zDg Z.1 R b2
 have b0:=fun W h1 h2=>zDb D a4 f E c F xs ys W A K k0 k1 h6 h7 h1 h2 g3 R
 obtain⟨cc,c9,l8⟩:∃cc:Int,zAv (nat xs) (nat ys)=cc/\0<=cc:=⟨_,rfl,zD5 oM⟩;rw[c9]at b0;clear c9;obtain⟨b,off,d,rfl,l7,i0,N,l9⟩:=a0.limb (k:=c-1) oM;have h9:0<d:=by
  have:=R (c-1) oM;rw[N.out]at this;omega
 obtain⟨s,V,d6,U,d4⟩:=zV7 d w h9 i0;have d7:=fun W a6=>zN1 D f E xs s W A oM a6 V
 have d8:=fun W a6=>zN1 (some ⟨b,off,none⟩) c F ys s W K oM a6 V
 have c5:nat ys*2^s<B32^c:=by
  obtain⟨m,rfl⟩:∃m,c=m+1:=⟨c-1,oM⟩;have y:=yR ys m;rw[qY ys oM]at y;have e2:=zDO (a0.1.take m);rw[qR,zA6 oM]at e2;rw[show m+1-1=m by omega]at N;rw[N.out]at y;have e3:nat ys<(d+1)*B32^m:=by rw[y,zW,zAR];omega
  have e4:nat ys*2^s<(d+1)*B32^m*2^s:=(zCl (qG oM)).2 e3;have e5:(d+1)*B32^m*2^s=(d+1)*2^s*B32^m:=by rw[zE,zN (B32^m),<-zE]
  have e6:(d+1)*2^s<=B32:=by
   obtain⟨e9,ht⟩:∃e9,2^s*e9=4294967296:=⟨2^(32-s),by rw[<-yM,show s+(32-s)=32 by omega]⟩;rw[<-ht,zN d]at U;have:=Nat.lt_of_mul_lt_mul_left U;rw[zB5,<-ht,zN];exact zG _ this
  have e7:=zP (B32^m) e6;rw[e5]at e4;rw[qE,zN (B32^m)];exact zM e4 e7
 have c6:nat xs*2^s<B32^f*2^s:=(zCl (qG oM)).2 (by have:=zDO Z.1;rwa[A]at this);have O:=zJ c5;have a3:=zJ c6;have l1:=zJ A;have b4:=zJ K;have l0:=zJ b2;have f4:=zJ d6;have l2:=zJ U;clear A K c5 c6 d6 U b2;have f1:(c:Int)<=(c:Int)+1:=oM;have f2:(0:Int)<=(c:Int):=oM;rw[zBf]at h5;go_enter Tryz.func191,Tryz.ntmps191;go_wp2_with (first
  |(go_at_call 124;refine(b0 _ Z a0).mono ?_;rintro e w' ⟨rfl,nd,rfl⟩)
  |(go_at_call 207;refine(d4 _).mono ?_;rintro e w' ⟨rfl,rfl⟩))
 refine zF ?_;intro P h4;have a7:BWq w P:=by rw[h4.out];exact drN _ _
 have e8:=lx (nx a7 (dr P));go_region_held3 (fun _=>True) (exact trivial)
  (first
   |(go_at_call_of 208 D;refine(d7 _ (Z.ext e8)).mono ?_;rintro e w1 ⟨h,us,rfl,p2,p3,p4,p5,p7,p6⟩)
   |(go_at_call_of 208 off;refine(d8 _ ((a0.ext e8).ext (lx p6))).mono ?_;rintro e M ⟨t,i,rfl,s2,s3,s1,s4,s5,s6⟩))
 have k4:=fun W=>mkU ((f:Int)-c+1) (f-c+1) oM oM W
 go_upto_block 1 with(fail)
 clear k4;refine zF ?_;intro C H;have b3:nat (i.take c)=nat ys*2^s:=by
  have y:=zDP i c (by rw[s4];omega);rcases qV (nat (i.drop c))with h0|h0
  rw[h0,zCZ,zAK,s5]at y;exact y.symm;exfalso;have h1:=zO (B32^c) h0;have h2:=O.out;rw[<-s5]at h2;omega
 have m9:P.heap.size<=h:=p2;have n0:h<w1.heap.size:=p3.lt;have n3:w1.heap.size<=t:=s2;have i9:t<M.heap.size:=s3.lt;have b7:BWq w M:=nx (nx (nx a7 (dr P)) p6) s6;have f9:BWq w C:=by rw[H.out];exact b7.alloc b7.size _
 have g6:zC1 C h us:=by rw[H.out];exact(p3.ext (lx s6)).alloc _
 have g8:zC1 C t i:=by rw[H.out];exact s3.alloc _
 have b9:zC1 C M.heap.size (List.replicate (f-c+1) 0):=by rw[H.out];exact zC1.made _ _
 have n8:w.heap.size<=h:=by have:=a7.size;omega
 have d9:zJV (nat xs*2^s) (nat ys*2^s) c (f-c+1) us (List.replicate (f-c+1) 0):=by
  refine⟨p4,fun x hx=>by rw[List.eq_of_mem_replicate hx];exact zCU,?_,?_⟩;rw[qP sI,p7,nat_nil,zA8,zA8,zAM];refine zX4 oM ?_;rw[p7];refine zM a3.out ?_;have h1:=zIp R (n:=c-1) (by rw[b4.out];omega);have h2:B32^f=B32^(f-c+1)*B32^(c-1):=by rw[<-yM];congr 1;omega
  rw[h2,zE];exact zG _ (zP _ h1)
 have Y:(i.take c).length=c:=by rw[qR,s4];omega
 have d3:2147483648<=(i.take c).getD (c-1) 0:=by
  refine zWu (s1.take c) (by rw[Y];omega) ?_;rw[b3];have h1:=zYd (ys:=ys) (m:=c-1) (by rw[b4.out];omega) N.out;have h2:=zP (2^s) h1;refine zD ?_ h2;rw[zE,zN (B32^(c-1)),<-zE];exact zP _ f4.out
 have d0:=fun W j f8 ul G X L k2 l=>zS6 h j f8 t 0 c c ul (i.take c) W G X L oM Y h1 k2 (by rw[zBf];omega) d3 l
 have f0:=zJ d0;have b6:=zJ b3;have f5:=zJ d9;have l3:=zJ Y;clear d0 b3 d9 Y d3 H d7 d8 b0 d4 s5 p7;obtain⟨W4,rfl⟩:∃W:World,W=C:=⟨_,rfl⟩;obtain⟨r,d2⟩:∃a5,M.heap.size=a5:=⟨_,rfl⟩;rw[d2]at i9 b9 ⊢
 have m6:r<=M.heap.size:=oM;clear d2;go_wp2;go_loopw [15] (fun u wr=>∃(k:Nat) (ul qs:List Nat),k<=f-c+1/\u= .int .i64 ((k:Int)-1)/\zC1 wr h ul/\zC1 wr r qs/\zC1 wr t i/\BWq w wr/\ul.length=f+1/\qs.length=f-c+1∧
   Hid (zJV (nat xs*2^s) (nat ys*2^s) c k ul qs)) (fun u _=>(intOf u+1).toNat)
 case atStart=>exact⟨f-c+1,us,_,xgf _,by go_num,g6,b9,g8,f9,p5,by simp,f5.out⟩
 obtain⟨k,ul,qs,T,rfl,G,l,hV,Q,X,d5,g⟩:=hrel;have f6:=zJ X;have b5:=zJ d5;have n7:f+1<=ul.length:=oM;have n6:f-c+1<=qs.length:=oM;clear X d5;cases k with
 | zero=>
  have k5:=fun W=>mkU (c:Int) c rfl oM W
  go_upto_block 3 with(fail)
  clear k5;refine zF ?_;intro W5 I;obtain⟨z,J⟩:∃a5,wr.heap.size=a5:=⟨_,rfl⟩;have g7:zC1 W5 h ul:=by rw[I.out];exact G.alloc _
  have g4:zC1 W5 r qs:=by rw[I.out];exact l.alloc _
  have g5:zC1 W5 z (List.replicate c 0):=by rw[I.out,<-J];exact zC1.made _ _
  have g2:BWq w W5:=by rw[I.out];exact Q.alloc Q.size _
  have m8:h<z:=by rw[<-J];exact G.lt
  have m7:r<z:=by rw[<-J];exact l.lt
  rw[J];have k6:Hid (ul.getD 0 0%2^s=0):=by
   show _=_;rw[<-zYW V oM];have h1:=g.out.eq;rw[xgk,zB1,jS,<-zE]at h1;have h2:(nat xs*2^s)%2^s=0:=Nat.mul_mod_left _ _;rw[h1,zN (nat qs*nat ys),Nat.mul_add_mod]at h2;exact h2
  have k3:Hid (nat ul<nat ys*2^s):=by have:=g.out.lt;rwa[xgk]at this
  have e0:Hid (ul.getD c 0=0/\nat (ul.take c)=nat ul):=by
   have h0:=g.out.zero O.out oM;rw[zAM]at h0;have h1:=zDP ul c oM;have h2:=zC7 ul c oM;rw[h0]at h1 h2;exact⟨oM,by rw[h1,zCZ,zAK]⟩
  clear I J;obtain⟨W6,rfl⟩:∃W:World,W=W5:=⟨_,rfl⟩;go_wp2;go_loopw [103] (fun u wr=>∃(k:Nat) (rs:List Nat),k<=c/\u= .int .i64 k/\zC1 wr h ul/\zC1 wr r qs/\zC1 wr z rs/\BWq w wr/\c<=rs.length∧
    Hid (rs.length=c/\zA3 rs/\nat (rs.take k)*2^s=nat (ul.take k)+(ul.getD k 0%2^s)*B32^k)) (fun u _=>c-(intOf u).toNat)
  case atStart=>exact⟨0,_,oM,rfl,g7,g4,g5,g2,by simp,⟨by simp,fun x hx=>by rw[List.eq_of_mem_replicate hx];exact zCU,by rw[k6.out,jW,jW,nat_nil,zA8,zA8]⟩⟩
  obtain⟨k,rs,T,rfl,a9,c0,S,b8,k7,q⟩:=hrel;by_cases n4:k<c
  .obtain⟨o,a1⟩:∃a,ul.getD (k+1) 0=a:=⟨_,rfl⟩
   obtain⟨B,a2⟩:∃a,ul.getD k 0=a:=⟨_,rfl⟩;have c7:o<4294967296:=by rw[<-a1];exact g.out.lim.get _
   have c8:B<4294967296:=by rw[<-a2];exact g.out.lim.get _
   have c1:=a9.cell (k:=k+1) oM;have c2:=a9.cell (k:=k) oM;have c3:=S.cell (k:=k) oM;have c4:=S.frozen k;rw[a1]at c1;rw[a2]at c2;have f7:=zJ a1;have a3:=zJ a2;obtain⟨m,hm⟩:∃m,o*4294967296+B=m:=⟨_,rfl⟩;have eo:=zQS o B c7 c8;rw[hm]at eo;have HM:=zJ hm;clear hm;have l4:IntKind.u64.wrap (o:Int)=(o:Int):=by rw[zAp];omega
   have l5:IntKind.u64.wrap (B:Int)=(B:Int):=by rw[zAp];omega
   have l6:IntKind.u64.wrap ((o:Int)*4294967296)=(o:Int)*4294967296:=by rw[zAp];omega
   have i1:IntKind.i64.wrap ((k:Int)+1)=(k:Int)+1:=yC _ oM;have i2:((k:Int)+1).toNat=k+1:=oM;have i3:(0:Int)<=(k:Int)+1:=oM;have i4:(0:Int)<=(k:Int):=oM;have i5:(k:Int)<(c:Int):=oM;have i6:(k:Int)+1<(f:Int)+1:=oM;have i7:(k:Int)<(f:Int)+1:=oM;clear a1 a2;go_wp2;go_region_held3 (fun w'=>w'.cell? ⟨h,k+1,none⟩=some (.int .u32 (o:Nat))/\w'.cell? ⟨h,k,none⟩=some (.int .u32 (B:Nat)))
    ((((try go_split_ands);(repeat' apply And.intro))<;>first|exact zBu (by assumption)|exact zDN (by assumption) oM)) (fail)
   go_wp2;go_roundw
   case rel=>
    have L:((m/2^s%4294967296:Nat):Int)=IntKind.u32.wrap ((m:Int)/2^s):=by rw[zBD];simp
    have k8:=zOI (ul:=ul) (rs:=rs) (k:=k) (s:=s) (v:=m/2^s%4294967296) V c7 c8 f7.out a3.out oM (by rw[HM.out]) q.out.2.2
    (repeat apply Exists.intro)
    exact⟨⟨k+1,rs.set k (m/2^s%4294967296),oM,by go_num,(yX _ _ _ _ (by simp;omega)).trans a9,(yX _ _ _ _ (by simp;omega)).trans c0,S.set' _ _ _ (by first|exact L.symm|(rw[L];done)|(rw[L];simp)),(b8.setCell (p:=⟨z,k,none⟩) (by show _<=z;omega) _).drew,by simpa using k7,
     ⟨by simpa using q.out.1,q.out.2.1.set _ _ (yQ _ dE),k8⟩⟩,rfl⟩
   case measure=>exact meq
  obtain rfl:c=k:=oM;go_wp2;go_ret2;have h1:=q.out.2.2;rw[e0.out.1,Nat.zero_mod,zA8,zAK,e0.out.2,qY rs (by rw[q.out.1];exact xgf _)]at h1;have h2:=g.out.eq;rw[xgk,zB1,jS,<-h1,<-zE,<-zW]at h2;have h3:=k3.out;rw[<-h1]at h3;have hp:0<2^s:=qG oM;exact⟨_,_,_,qs,_,_,_,rs,rfl,b5.out,xgf _,oM,c0.at_ g.out.qlim,q.out.1,xgf _,oM,S.at_ q.out.2.1,Nat.eq_of_mul_eq_mul_right hp h2,Nat.lt_of_mul_lt_mul_right h3,b8⟩
 | succ k=>
  have i8:=l.frozen k;have h8:=l.cell (k:=k) oM;go_wp2_with fail
  rw[show k+c+1-k=c+1 by omega];refine(f0.out _ _ _ ul G g.out.lim ((hV.at_ s1).take c) oM ?_).mono ?_
  .rw[g.out.seg_eq O.out oM,b6.out]
   exact g.out.small oM
  rintro e w4 ⟨k9,rs,rfl,t1,t2,t3,t4,t5,t6,t7⟩;have a8:zC1 w4 r qs:=(t7.block r l.lt (by simp;omega)).trans l;have g9:zC1 w4 t i:=(t7.block t hV.lt (by simp;omega)).trans hV;have m5:=a8.frozen k;have m0:=a8.cell (k:=k) oM;have g1:BWq w w4:=Q.grown t7 Q.size (fun k T=>by injection T with T;omega);rw[b6.out]at t4 t5;have d1:=g.out.step O.out oM oM t1 t2 t3 t4 t5;have f3:=zJ d1;clear h8 i8 t4 t5 d1;go_wp2;go_roundw
  case rel=>
   refine⟨k,put ul k rs,qs.set k k9,oM,by go_num,?_,?_,?_,?_,?_,?_,f3.out⟩;exact(yX _ _ _ _ (by simp;omega)).trans t6;exact a8.set' _ _ _ rfl;exact(yX _ _ _ _ (by simp;omega)).trans g9;exact g1.setCell (by simp;omega) _;rw[zFO (by rw[t2];omega)];exact f6.out;simp[b5.out]
  case measure=>simp[intOf]
theorem zK5(e f:Option Addr)(b c a d:Nat)(xs ys:List Nat)(w:World)(p:xs.length=b)(g:ys.length=a)(n:b<=c)(o:a<=d)
  (l:c<=9223372036854775807) (m:d<=9223372036854775807) (k:b<=2*LIM) (t:a<=2*LIM) (q:qW w e xs) (r:qW w f ys) (i:zA1 xs) (j:zA1 ys) (s:0<nat ys):
  CPq 191 #[.slice e b c,.slice f a d] w (zJb w (nat xs) (nat ys)):=by
 rcases zK (nat xs) (nat ys)with h|h
 exact zOg e f b c a d xs ys w p g n o l m k t q r i j s h;by_cases v:b<=2
 .exact zRB e f b c a d xs ys w p g n o l m k t q r i j s h v
 by_cases u:a=1
 .exact zNM e f b c a d xs ys w p g n o l m k t q r i j s h oM u
 have x:a≠0:=by
  rintro rfl;have:ys= []:=qL g;subst this;simp at s
 exact zOh e f b c a d xs ys w p g n o l m k q r i j h oM oM
def zZO(w:World)(z1 z2:Int)(e:Ending)(w':World):Prop:=
 ∃v1 v2,e= .returned (.tuple #[v1,v2,niq 0])/\jE w' v1 (z1/z2)/\jE w' v2 (z1%z2)/\BWq w w'
def dmQ(neg:Bool)(a b:Nat):Nat:=if neg=true/\0<a%b then a/b+1 else a/b
def dmR(neg:Bool)(a b:Nat):Nat:=if neg=true/\0<a%b then b-a%b else a%b
theorem zTC(c f:Bool)(a b:Nat)(n:0<b):sgn c a/sgn f b=sgn (c !=f) (dmQ c a b)/\sgn c a%sgn f b=(dmR c a b:Nat):=by
 have o:=yQ a n;have i:=zAI a b;have j:∀(z:Int) (q r:Int),z=q*b+r->0<=r->r<b->z/(b:Int)=q/\z%(b:Int)=r:=fun z q r k l m=>
  (Int.ediv_emod_unique oM).2 ⟨by rw[k,zZ];omega,l,m⟩
 have g:sgn c a/(b:Int)=sgn c (dmQ c a b)/\sgn c a%(b:Int)=(dmR c a b:Nat):=by
  cases c with
  |false=>
   have d:dmQ false a b=a/b:=by unfold dmQ;rw[zA sI]
   have e:dmR false a b=a%b:=by unfold dmR;rw[zA sI]
   rw[d,e];simp
  | true=>
   by_cases h:0<a%b
   .have d:dmQ true a b=a/b+1:=by unfold dmQ;rw[zB ⟨rfl,h⟩]
    have e:dmR true a b=b-a%b:=by unfold dmR;rw[zB ⟨rfl,h⟩]
    rw[d,e];refine j _ _ _ ?_ oM oM;simp only[sgn_true];rw[yE,zAX,zBx,zN]at*;have:((a/b*b:Nat):Int)+((a%b:Nat):Int)=(a:Int):=by exact_mod_cast i
    rw[yJ]at this;omega
   have d:dmQ true a b=a/b:=by unfold dmQ;rw[zA (by simp;omega)]
   have e:dmR true a b=a%b:=by unfold dmR;rw[zA (by simp;omega)]
   rw[d,e];refine j _ _ _ ?_ oM oM;simp only[sgn_true];rw[yE,zN]at*;have:((a/b*b:Nat):Int)+((a%b:Nat):Int)=(a:Int):=by exact_mod_cast i
   rw[yJ]at this;omega
 cases f with
 |false=>simp only[sgn_false,Bool.bne_false];exact g
 |true=>
  simp only[sgn_true,Int.ediv_neg,Int.emod_neg,Bool.bne_true];rw[g.1,g.2,zMn];exact⟨rfl,rfl⟩
theorem zKe(d:xs.length=n)(e:zA3 xs):zBM xs n=0↔nat xs=0:=by
 subst d;have a:=zEA xs;have b:=zKv xs;have c:=zFA xs;rw[<-b,<-a];constructor;intro h;rw[qL h];rfl;intro h;rw[(zHK c).1 h];rfl
theorem zJb.mod{w':World}{e:Ending}(h:zJb w a b e w'):
 ∃i d c qs j g f rs,e= .returned (.tuple #[.slice i d c,.slice j g f])/\qs.length=d/\d<=c/\c<=9223372036854775807/\qW w' i qs∧
  rs.length=g/\g<=f/\f<=9223372036854775807/\qW w' j rs/\Hid (nat qs=a/b/\nat rs=a%b)/\BWq w w':=by
 obtain⟨i,d,c,qs,j,g,f,rs,z,m,q,r,s,t,u,v,x,l,k,n⟩:=h;have y:0<b:=oM;have o:a/b=nat qs:=by rw[l,zN,Nat.mul_add_div y,Nat.div_eq_of_lt k];rfl
 have p:a%b=nat rs:=by rw[l,zN,Nat.mul_add_mod,Nat.mod_eq_of_lt k]
 exact⟨i,d,c,qs,j,g,f,rs,z,m,q,r,s,t,u,v,x,⟨o.symm,p.symm⟩,n⟩
theorem zDc{r:Nat}{v:Array Value}(a:Blk W r 43 v)(h2:v.size=2):(loadVar 43 ⟨r,0,none⟩).run Tryz.prog W= .ok (.agg v) W:=
 run_loadVar_row W r _ _ v _ _ a zCP rfl (by rw[zEX,h2])
theorem zFq{fn:Func}{a b u:Tmp}(h:fn.results=#[.cell a 43,.cell b 43,.tmp u])(tmps:Array Value){W:World}{c d:Nat}{e f:Array Value}
  (j:tmps.getD a undef=ptq c 0) (l:tmps.getD b undef=ptq d 0) (g:Blk W c 43 e) (i:Blk W d 43 f) (h1:e.size=2) (h2:f.size=2):
  (results fn tmps).run Tryz.prog W= .ok (.tuple #[.agg e,.agg f,tmps.getD u undef]) W:=by
 have k:tmps[a]?.getD undef=ptq c 0:=by simpa using j
 have m:tmps[b]?.getD undef=ptq d 0:=by simpa using l
 simp[results,h,k,m,asAddr,zDc g h1,zDc i h2]
theorem zKT{fn:Func}{a b c:Tmp}(h:fn.results=#[.cell a 43,.cell b 43,.cell c 43])(tmps:Array Value){W:World}{d e f:Nat}{g i j:Array Value}
  (o:tmps.getD a undef=ptq d 0) (q:tmps.getD b undef=ptq e 0) (s:tmps.getD c undef=ptq f 0)
  (l:Blk W d 43 g) (m:Blk W e 43 i) (n:Blk W f 43 j) (h1:g.size=2) (h2:i.size=2) (k:j.size=2):
  (results fn tmps).run Tryz.prog W= .ok (.tuple #[.agg g,.agg i,.agg j]) W:=by
 have p:tmps[a]?.getD undef=ptq d 0:=by simpa using o
 have r:tmps[b]?.getD undef=ptq e 0:=by simpa using q
 have t:tmps[c]?.getD undef=ptq f 0:=by simpa using s
 simp[results,h,p,r,t,asAddr,zDc l h1,zDc m h2,zDc n k]
theorem zD6(v1 v2:Value)(z1 U:Int)(w:World)(h1:zIh w v1 z1)(h2:zIh w v2 U)(s1:Sm z1)(s2:Sm U)(hz:U≠0):CPq 162 #[v1,v2] w (zZO w z1 U):=by
 obtain⟨a3,ao1,n1,cap1,xs,rfl,hn1,hl1,hc1,hx1,hN1,c5,a6⟩:=h1.len s1;obtain⟨o,ao2,n2,cap2,ys,rfl,hn2,hl2,hc2,hx2,hN2,b8,a7⟩:=h2.len s2;have b2:=fun W v=>zDC ao1 n1 cap1 xs W hn1 hl1 hc1 v
 rw[<-hn1,zBB hN1,hn1]at b2;have b3:=fun W v=>zDC ao2 n2 cap2 ys W hn2 hl2 hc2 v
 rw[<-hn2,zBB hN2,hn2]at b3;have P:Hid (0<nat ys):=by
  show _<_;rcases qV (nat ys)with h|h
  exact absurd (by rw[b8,h,zJN]) hz;exact h
 have d3:0<n2:=by
  rcases qV n2 with h|h
  .rw[h]at hn2
   have:=qL hn2;subst this;exact absurd P.out sI
  exact h
 have y:Hid (z1/U=sgn (a3 !=o) (dmQ a3 (nat xs) (nat ys))/\z1%U=(dmR a3 (nat xs) (nat ys):Nat)):=by
  rw[c5,b8];exact zTC a3 o _ _ P.out
 have a9:=zJ hn1;have a4:=zJ hn2;have d4:((n2:Int)==0)=false:=by simp;omega
 have c7:n1<=2*LIM:=oM;have c8:n2<=2*LIM:=oM;clear hn1 hn2 c5 b8 s1 s2 h1 h2 hz;rw[zBf]at a6 a7;replace a6:=c7;replace a7:=c8;cases a3 with
 | false=>
  have a1:(false !=o)=o:=by cases o<;>rfl
  rw[a1]at y;clear a1;go_enter Tryz.func162,Tryz.ntmps162;go_upto_region 1 with(fail)
  refine zF ?_;intro W0 b0;obtain⟨K,b,c,k,l,c9⟩:=zLy b0;have b6:=hx1.ext (lx K);have b7:=hx2.ext (lx K);have I:=b.two;have J:=c.two;go_quiet ((first|(go_at_call_of 120 ao1;exact jA ((b2 _ (b6.ext (lx (drN _ _)))).mono (by rintro e T ⟨rfl,rfl⟩;exact⟨rfl,rfl⟩)))|(go_at_call_of 120 ao2;exact jA ((b3 _ (b7.ext (lx (drN _ _)))).mono (by rintro e T ⟨rfl,rfl⟩;exact⟨rfl,rfl⟩)))));go_upto_region 4 with(fail)
  refine zF ?_;intro W1 j;have L:BWq w W1:=by rw[j.out];exact nx K (drN _ _)
  have Y:=yI j b;have Z:=yI j c;have V:=yI j k;have X:=yI j l;clear I J j b c k l;go_wp2_with fail
  refine(zK5 ao1 ao2 n1 n1 n2 n2 xs ys _ a9.out a4.out (xgf _) (xgf _) oM oM a6 a7 (hx1.ext (lx L)) (hx2.ext (lx L)) hN1 hN2 P.out).mono ?_;intro e w2 a0;obtain⟨qo,O,qc,qs,S,x,rc,rs,rfl,p1,p2,p3,p4,N,p6,p7,D,a,hb2⟩:=a0.mod;have b:=Y.I hb2;have c:=Z.I hb2;have k:=V.I hb2;have l:=X.I hb2;have a5:=nx L hb2;have I:=b.two;have J:=c.two;have b5:=zEq rs x;obtain⟨t,i⟩:∃t,zBM rs x=t:=⟨_,rfl⟩;rw[i]at b5;have a2:=fun W v=>zDC S x rc rs W N p6 p7 v
  rw[i]at a2;have g:Hid ((t=0↔nat rs=0)/\nat (rs.take t)=nat rs/\(rs.take t).length=t/\zA1 (rs.take t)):=by
   refine⟨by rw[<-i];exact zKe N D.1,?_,?_,by rw[<-i];exact zDy rs x oM⟩
   .have h1:=zEA rs
    unfold zEr at h1;rw[N,i]at h1;exact h1
   rw[qR];omega
  clear i a0 Y Z V X;go_wp2_with fail
  refine(a2 _ D).mono ?_;rintro e T ⟨rfl,rfl⟩;go_wp2_with fail
  have hQ:nat qs=dmQ false (nat xs) (nat ys):=by rw[a.out.1];unfold dmQ;rw[zA sI]
  have hR:sgn false (nat (rs.take t))=(dmR false (nat xs) (nat ys):Nat):=by rw[g.out.2.1,a.out.2];unfold dmR;rw[zA sI];rfl
  refine(zCH o qo O qc qs _ p1 p2 p3 p4).mono ?_;rintro e w5 ⟨v1,rfl,A,d⟩;go_wp2_with fail
  refine(zCH false S t t (rs.take t) _ g.out.2.2.1 (xgf _) oM ((D.take t).ext (lx d))).mono ?_;rintro e w6 ⟨v2,rfl,C,f⟩;have m:=(k.I d).I f;have n:=(l.I d).I f;have e1:=m.two;have g1:=n.two;have B:=A.ext (lx f);rw[hQ]at B;rw[hR]at C;clear A;obtain⟨s,p,r,q,qx,rfl,hq⟩:=B;obtain⟨H,E,G,F,rx,rfl,hr⟩:=C;go_wp2_with fail
  refine bodyPost_ret (zFq rfl _ rfl rfl (((m.put2 _ _).far oM _ _).far oM _ _) (((n.far oM _ _).far oM _ _).put2 _ _) rfl rfl) rfl ?_;have z:=(m.lext2 dE (.bool s) (.slice p r q)).trans (((n.far oM 0 (.bool s)).far oM 1 (.slice p r q)).lext2 dE (.bool H) (.slice E G F));refine⟨_,_,rfl,?_,?_,yB (yB (yB (yB (nx (nx a5 d) f) oM 0 _) oM 1 _) oM 0 _) oM 1 _⟩
  .rw[y.out.1]
   exact jE.ext ⟨s,p,r,q,qx,rfl,hq⟩ z
  rw[y.out.2];exact jE.ext ⟨H,E,G,F,rx,rfl,hr⟩ z
 | true=>
  have a1:(true !=o)=(!o):=by cases o<;>rfl
  rw[a1]at y;clear a1;go_enter Tryz.func162,Tryz.ntmps162;go_upto_region 1 with(fail)
  refine zF ?_;intro W0 b0;obtain⟨K,b,c,k,l,c9⟩:=zLy b0;have b6:=hx1.ext (lx K);have b7:=hx2.ext (lx K);have I:=b.two;have J:=c.two;go_quiet ((first|(go_at_call_of 120 ao1;exact jA ((b2 _ (b6.ext (lx (drN _ _)))).mono (by rintro e T ⟨rfl,rfl⟩;exact⟨rfl,rfl⟩)))|(go_at_call_of 120 ao2;exact jA ((b3 _ (b7.ext (lx (drN _ _)))).mono (by rintro e T ⟨rfl,rfl⟩;exact⟨rfl,rfl⟩)))));go_upto_region 4 with(fail)
  refine zF ?_;intro W1 j;have L:BWq w W1:=by rw[j.out];exact nx K (drN _ _)
  have Y:=yI j b;have Z:=yI j c;have V:=yI j k;have X:=yI j l;clear I J j b c k l;go_wp2_with fail
  refine(zK5 ao1 ao2 n1 n1 n2 n2 xs ys _ a9.out a4.out (xgf _) (xgf _) oM oM a6 a7 (hx1.ext (lx L)) (hx2.ext (lx L)) hN1 hN2 P.out).mono ?_;intro e w2 a0;obtain⟨qo,O,qc,qs,S,x,rc,rs,rfl,p1,p2,p3,p4,N,p6,p7,D,a,hb2⟩:=a0.mod;have b:=Y.I hb2;have c:=Z.I hb2;have k:=V.I hb2;have l:=X.I hb2;have a5:=nx L hb2;have I:=b.two;have J:=c.two;have b5:=zEq rs x;obtain⟨t,i⟩:∃t,zBM rs x=t:=⟨_,rfl⟩;rw[i]at b5;have a2:=fun W v=>zDC S x rc rs W N p6 p7 v
  rw[i]at a2;have g:Hid ((t=0↔nat rs=0)/\nat (rs.take t)=nat rs/\(rs.take t).length=t/\zA1 (rs.take t)):=by
   refine⟨by rw[<-i];exact zKe N D.1,?_,?_,by rw[<-i];exact zDy rs x oM⟩
   .have h1:=zEA rs
    unfold zEr at h1;rw[N,i]at h1;exact h1
   rw[qR];omega
  clear i a0 Y Z V X;go_wp2_with fail
  refine(a2 _ D).mono ?_;rintro e T ⟨rfl,rfl⟩;by_cases b4:t=0
  .have c4:Hid (nat rs=0):=g.out.1.1 b4
   have c3:Hid (nat (rs.take t)=nat rs/\(rs.take t).length=t):=⟨g.out.2.1,g.out.2.2.1⟩;clear g;subst b4;go_wp2_with fail
   have hQ:nat qs=dmQ true (nat xs) (nat ys):=by rw[a.out.1];unfold dmQ;rw[zA (by rw[<-a.out.2,c4.out];simp)]
   have hR:sgn false (nat (rs.take 0))=(dmR true (nat xs) (nat ys):Nat):=by rw[c3.out.1,a.out.2];unfold dmR;rw[zA (by rw[<-a.out.2,c4.out];simp)];rfl
   refine(zCH (!o) qo O qc qs _ p1 p2 p3 p4).mono ?_;rintro e w5 ⟨v1,rfl,A,d⟩;go_wp2_with fail
   refine(zCH false S 0 0 (rs.take 0) _ c3.out.2 (xgf _) oM ((D.take 0).ext (lx d))).mono ?_;rintro e w6 ⟨v2,rfl,C,f⟩;have m:=(k.I d).I f;have n:=(l.I d).I f;have e1:=m.two;have g1:=n.two;have B:=A.ext (lx f);rw[hQ]at B;rw[hR]at C;clear A;obtain⟨s,p,r,q,qx,rfl,hq⟩:=B;obtain⟨H,E,G,F,rx,rfl,hr⟩:=C;go_wp2_with fail
   refine bodyPost_ret (zFq rfl _ rfl rfl (((m.put2 _ _).far oM _ _).far oM _ _) (((n.far oM _ _).far oM _ _).put2 _ _) rfl rfl) rfl ?_;have z:=(m.lext2 dE (.bool s) (.slice p r q)).trans (((n.far oM 0 (.bool s)).far oM 1 (.slice p r q)).lext2 dE (.bool H) (.slice E G F));refine⟨_,_,rfl,?_,?_,yB (yB (yB (yB (nx (nx a5 d) f) oM 0 _) oM 1 _) oM 0 _) oM 1 _⟩
   .rw[y.out.1]
    exact jE.ext ⟨s,p,r,q,qx,rfl,hq⟩ z
   rw[y.out.2];exact jE.ext ⟨H,E,G,F,rx,rfl,hr⟩ z
  have d5:(0:Int)<(t:Int):=oM;have c0:Hid (0<nat rs):=Nat.pos_of_ne_zero (fun h=>b4 (g.out.1.2 h));have c2:=fun W v=>zDC qo O qc qs W p1 p2 p3 v
  have d0:=zEq qs O;obtain⟨u,HU⟩:∃u,zBM qs O=u:=⟨_,rfl⟩;rw[HU]at c2 d0;have a8:Hid (nat (qs.take u)=nat qs/\(qs.take u).length=u):=by
   refine⟨?_,by rw[qR];omega⟩;have h1:=zEA qs;unfold zEr at h1;rw[p1,HU]at h1;exact h1
  have d2:u<=4*LIM:=by
   have h1:zA1 (qs.take u):=by rw[<-HU];exact zDy qs O oM
   have h2:=zDg hx1.1 h1 (by rw[a8.out.1,a.out.1];exact zBm _ _);rw[a8.out.2,a9.out]at h2;omega
  clear HU;go_wp2_with fail
  refine(c2 _ p4).mono ?_;rintro e T ⟨rfl,rfl⟩;go_wp2_with fail
  have M:BWq w2 (w2.alloc (.cells #[.int .u32 1] tU)):=(zC _ _).alloc (xgf _) _;refine(zQW qo (some ⟨w2.heap.size,0,none⟩) u u 1 1 (qs.take u) [1] _ a8.out.2 rfl (xgf _) (xgf _) oM oM d2 (by rw[zBf];omega) ((p4.take u).ext (lx M)) (qW.one w2 1 oM 1 rfl)).mono ?_;rintro e w3 ⟨ko,kl,kc,ks,rfl,k1,k2,k3,k4,k5,Q⟩;have b9:=nx (nx a5 M) Q;go_wp2_with fail
  refine(zKA ao2 S n2 n2 t t ys (rs.take t) _ a4.out g.out.2.2.1 (xgf _) (xgf _) oM oM oM (hx2.ext (lx b9)) ((D.take t).ext (lx (nx M Q))) (by have h:=zDg hx2.1 g.out.2.2.2 (by rw[g.out.2.1,a.out.2];exact zAi (yQ _ P.out));rw[g.out.2.2.1,a4.out]at h;exact h) (by rw[g.out.2.1,a.out.2];exact zAi (yQ _ P.out))).mono ?_;rintro e w4 ⟨lo,ll,lc,ls,rfl,l1,l2,l3,l4,l5,R⟩;have c6:=nx b9 R;replace k:=((k.I M).I Q).I R;replace l:=((l.I M).I Q).I R;replace b:=((b.I M).I Q).I R;replace c:=((c.I M).I Q).I R;clear I J;have I:=b.two;have J:=c.two;go_wp2_with fail
  have hQ:nat ks=dmQ true (nat xs) (nat ys):=by
   rw[k5,a8.out.1,a.out.1];unfold dmQ;rw[zB ⟨rfl,by rw[<-a.out.2];exact c0.out⟩];rfl
  have hR:sgn false (nat ls)=(dmR true (nat xs) (nat ys):Nat):=by
   rw[l5,g.out.2.1,a.out.2];unfold dmR;rw[zB ⟨rfl,by rw[<-a.out.2];exact c0.out⟩];rfl
  refine(zCH (!o) ko kl kc ks _ k1 k2 k3 (k4.ext (lx R))).mono ?_;rintro e w5 ⟨v1,rfl,A,d⟩;go_wp2_with fail
  refine(zCH false lo ll lc ls _ l1 l2 l3 (l4.ext (lx d))).mono ?_;rintro e w6 ⟨v2,rfl,C,f⟩;have m:=(k.I d).I f;have n:=(l.I d).I f;have e1:=m.two;have g1:=n.two;have B:=A.ext (lx f);rw[hQ]at B;rw[hR]at C;clear A;obtain⟨s,p,r,q,qx,rfl,hq⟩:=B;obtain⟨H,E,G,F,rx,rfl,hr⟩:=C;go_wp2_with fail
  refine bodyPost_ret (zFq rfl _ rfl rfl (((m.put2 _ _).far oM _ _).far oM _ _) (((n.far oM _ _).far oM _ _).put2 _ _) rfl rfl) rfl ?_;have z:=(m.lext2 dE (.bool s) (.slice p r q)).trans (((n.far oM 0 (.bool s)).far oM 1 (.slice p r q)).lext2 dE (.bool H) (.slice E G F));refine⟨_,_,rfl,?_,?_,yB (yB (yB (yB (nx (nx c6 d) f) oM 0 _) oM 1 _) oM 0 _) oM 1 _⟩
  .rw[y.out.1]
   exact jE.ext ⟨s,p,r,q,qx,rfl,hq⟩ z
  rw[y.out.2];exact jE.ext ⟨H,E,G,F,rx,rfl,hr⟩ z
theorem zB3(M:Option Addr)(n l:Nat)(xs:List Nat)(neg:Bool)(w:World)(G:xs.length=n)(W:n<=l)(T:l<=9223372036854775807)(P:n<=8*LIM)(Q:qW w M xs):
  CPq 91 #[.slice M n l,.bool neg] w (zDJ w (sgn neg (nat xs))):=by
 have R:=zJ G;have X:xs.length<=n:=oM;have Y:n<=xs.length:=oM;rw[zBf]at P;have O:Hid (∀k,zBM xs k=zBM xs n->zBM xs n=k->(zA1 (xs.take k)/\nat (xs.take k)=nat xs)):=fun k _ h=>by
  have d:=zEA xs;have e:=zFA xs;unfold zEr at d e;rw[G,h]at d e;exact⟨e,d⟩
 clear G;go_enter Tryz.func91,Tryz.ntmps91;go_upto_region 1 with(fail)
 refine zF ?_;intro a N;obtain⟨z,B,Z⟩:=qJ N;have I:=Q.ext (lx z);clear N;go_wp2;go_loop [5] (fun v=>∃k:Nat,k<=n/\v=niq k/\Hid (zBM xs k=zBM xs n)) (fun v=>(intOf v).toNat)
 case atStart=>exact⟨n,xgf _,rfl,rfl⟩
 obtain⟨k,V,rfl,s⟩:=hrel;have y:Hid ((xs.take k).length=k):=by show _=_;rw[qR];omega
 cases k with
 | zero=>
  have u:Hid (zA1 (xs.take 0)/\nat (xs.take 0)=nat xs):=O.out 0 s.out s.out.symm;have K:Hid (nat xs=0):=u.out.2.symm;cases neg with
  |false=>
   go_wp2_with (at_builtin;refine zPw rfl _ _ rfl a.heap.size (slq a.heap.size 0 0) [] rfl (zJa.empty a _ (xgf _)) _ 0 l ([]:List Nat) rfl (qW.nil _ _) rfl (by first|(simp;done)|(simp;omega)) sI ?_;intro J t r q;have f:BWq a t:=((zC _ _).alloc (xgf _) _).grown q sI (fun g p=>by simp[Value.ownBlock]at p;omega);have c:=B.I f;obtain⟨C,D,E,F⟩:=c.two;obtain⟨j,m,i,d,e,o⟩:=r.at_;rw[zCD,show([]:List Nat).length=0 from rfl]at i d;subst i)
   refine jL rfl rfl rfl (c.put2 _ _) ?_ (yB (yB (nx z f) oM 0 _) oM 1 _);refine jE.ext ?_ (c.lext2 dE _ _);exact⟨false,j,0,m,[],rfl,rfl,d,e,by simpa using o,zA1.nil,by rw[K.out];rfl,by simp⟩
  |true=>
   go_wp2_with (at_builtin;refine zPw rfl _ _ rfl a.heap.size (slq a.heap.size 0 0) [] rfl (zJa.empty a _ (xgf _)) _ 0 l ([]:List Nat) rfl (qW.nil _ _) rfl (by first|(simp;done)|(simp;omega)) sI ?_;intro J t r q;have f:BWq a t:=((zC _ _).alloc (xgf _) _).grown q sI (fun g p=>by simp[Value.ownBlock]at p;omega);have c:=B.I f;obtain⟨C,D,E,F⟩:=c.two;obtain⟨j,m,i,d,e,o⟩:=r.at_;rw[zCD,show([]:List Nat).length=0 from rfl]at i d;subst i)
   refine jL rfl rfl rfl (c.put2 _ _) ?_ (yB (yB (nx z f) oM 0 _) oM 1 _);refine jE.ext ?_ (c.lext2 dE _ _);exact⟨false,j,0,m,[],rfl,rfl,d,e,by simpa using o,zA1.nil,by rw[K.out];rfl,by simp⟩
 | succ k=>
  obtain⟨b,off,x,rfl,S,a0,L,U⟩:=I.limb (k:=k) oM;by_cases A:x=0
  .have H:Hid (zBM xs k=zBM xs n):=by
    have:=s.out;rw[show zBM xs (k+1)=if xs.getD k 0=0 then zBM xs k else k+1 from rfl,zB (L.out.trans A)]at this;exact this
   subst A;clear s;go_wp2;go_round
   case rel=>exact⟨k,oM,by go_num,H⟩
   case measure=>simp[intOf]
  have H:Hid (zBM xs n=k+1):=by
   have:=s.out;rw[show zBM xs (k+1)=if xs.getD k 0=0 then zBM xs k else k+1 from rfl,zA (by rw[L.out];exact A)]at this;exact this.symm
  have u:Hid (zA1 (xs.take (k+1))/\nat (xs.take (k+1))=nat xs):=O.out (k+1) s.out H.out;have a1:((x:Int)==0)=false:=by simpa using A
  clear A s;cases neg with
  |false=>
   go_wp2_with (at_builtin;refine zPw rfl _ _ rfl a.heap.size (slq a.heap.size 0 0) [] rfl (zJa.empty a _ (xgf _)) _ (k+1) l (xs.take (k+1)) rfl ((I.take (k+1)).ext (lx ((zC _ _).alloc (xgf _) _))) y.out (by first|(simp;done)|(simp;omega)) sI ?_;intro J t r q;have f:BWq a t:=((zC _ _).alloc (xgf _) _).grown q sI (fun g p=>by simp[Value.ownBlock]at p;omega);have c:=B.I f;obtain⟨C,D,E,F⟩:=c.two;obtain⟨j,m,i,d,e,o⟩:=r.at_;rw[zCD,show(xs.take (k+1)).length=(k+1) from y.out]at i d;subst i)
   refine jL rfl rfl rfl (c.put2 _ _) ?_ (yB (yB (nx z f) oM 0 _) oM 1 _);refine jE.ext ?_ (c.lext2 dE _ _);exact⟨false,j,k+1,m,xs.take (k+1),rfl,y.out,d,e,by simpa using o,u.out.1,by rw[u.out.2];rfl,by simp⟩
  |true=>
   go_wp2_with (at_builtin;refine zPw rfl _ _ rfl a.heap.size (slq a.heap.size 0 0) [] rfl (zJa.empty a _ (xgf _)) _ (k+1) l (xs.take (k+1)) rfl ((I.take (k+1)).ext (lx ((zC _ _).alloc (xgf _) _))) y.out (by first|(simp;done)|(simp;omega)) sI ?_;intro J t r q;have f:BWq a t:=((zC _ _).alloc (xgf _) _).grown q sI (fun g p=>by simp[Value.ownBlock]at p;omega);have c:=B.I f;obtain⟨C,D,E,F⟩:=c.two;obtain⟨j,m,i,d,e,o⟩:=r.at_;rw[zCD,show(xs.take (k+1)).length=(k+1) from y.out]at i d;subst i)
   refine jL rfl rfl rfl (c.put2 _ _) ?_ (yB (yB (nx z f) oM 0 _) oM 1 _);refine jE.ext ?_ (c.lext2 dE _ _);exact⟨true,j,k+1,m,xs.take (k+1),rfl,y.out,d,e,by simpa using o,u.out.1,by rw[u.out.2];rfl,by simp⟩
theorem zEI{P:Program}{f:FuncId}{args:Array Value}{R:Ending->World->Prop}(h:∀W0,Hid (W0=w)->Calls P f args W0 R):Calls P f args w R:=h w rfl
theorem zTp{g:Nat}{m k:Int}(h:Blk w g tU #[.int .u32 m,.int .u32 k])(f:a<4294967296)(i:b<4294967296)(d:m=a)(c:k=b):qW w (some ⟨g,0,none⟩) [a,b]:=by
 subst d;subst c;exact zC1.at_ (xs:=[a,b]) h (fun x e=>by simp at e;unfold B32;omega)
theorem zBa(n:Int)(w:World)(h1:-9223372036854775808<=n)(h2:n<=9223372036854775807):
  CPq 37 #[niq n] w (zDJ w n):=by
 obtain⟨m,r⟩:∃m,n.natAbs=m:=⟨_,rfl⟩;have D:m<=9223372036854775808:=oM;have z:([m%4294967296,m/4294967296]:List Nat).length=2:=rfl;have t:nat [m%4294967296,m/4294967296]=m:=by simp[zBp,zB5];omega
 have u:Hid (sgn (decide (n<0)) (nat [m%4294967296,m/4294967296])=n):=by show _=_;rw[t];by_cases h:n<0<;>simp[h,sgn]<;>omega
 clear t z;by_cases s:n<0
 .have e:IntKind.u64.wrap (-IntKind.u64.wrap n)=((m:Nat):Int):=by simp only[IntKind.wrap_u64];omega
  have j:Hid (sgn true (nat [m%4294967296,m/4294967296])=n):=by have:=u.out;rw[show decide (n<0)=true by simpa using s]at this;exact this
  clear r;go_enter Tryz.func37,Tryz.ntmps37;go_wp2_with fail
  refine zEI ?_;intro x g;obtain⟨f,d,c,A⟩:=zAU g;refine(zB3 _ 2 2 [m%4294967296,m/4294967296] true _ rfl (xgf _) oM (by rw[zBf];omega) (zTp c oM oM (by simp[IntKind.wrap_u32]) (by simp[IntKind.wrap_u32]))).mono ?_;rintro y C ⟨v,rfl,b,hb2⟩;have a:=d.I hb2;have B:=a.two;rw[j.out]at b;obtain⟨p,k,o,l,q,rfl,i⟩:=b;go_wp2_with fail
  refine jL rfl rfl rfl (a.put2 _ _) ?_ (yB (yB (nx f hb2) oM 0 _) oM 1 _);exact jE.ext ⟨p,k,o,l,q,rfl,i⟩ (a.lext2 dE _ _)
 have e:IntKind.u64.wrap n=((m:Nat):Int):=by simp only[IntKind.wrap_u64];omega
 have j:Hid (sgn false (nat [m%4294967296,m/4294967296])=n):=by have:=u.out;rw[show decide (n<0)=false by simpa using s]at this;exact this
 clear r;go_enter Tryz.func37,Tryz.ntmps37;go_wp2_with fail
 refine zEI ?_;intro x g;obtain⟨f,d,c,A⟩:=zAU g;refine(zB3 _ 2 2 [m%4294967296,m/4294967296] false _ rfl (xgf _) oM (by rw[zBf];omega) (zTp c oM oM (by simp[IntKind.wrap_u32]) (by simp[IntKind.wrap_u32]))).mono ?_;rintro y C ⟨v,rfl,b,hb2⟩;have a:=d.I hb2;have B:=a.two;rw[j.out]at b;obtain⟨p,k,o,l,q,rfl,i⟩:=b;go_wp2_with fail
 refine jL rfl rfl rfl (a.put2 _ _) ?_ (yB (yB (nx f hb2) oM 0 _) oM 1 _);exact jE.ext ⟨p,k,o,l,q,rfl,i⟩ (a.lext2 dE _ _)
theorem jE.len{v:Value}(h:jE w v z)(s:Sm z):
  ∃neg b n a xs,v= .agg #[.bool neg,.slice b n a]/\xs.length=n/\n<=a/\a<=9223372036854775807/\qW w b xs/\zA1 xs/\z=sgn neg (nat xs)/\(n=0->neg=false)/\n<=LIM:=by
 obtain⟨neg,b,n,a,xs,f,c,g,i,j,d,e,k⟩:=h;exact⟨neg,b,n,a,xs,f,c,g,i,j,d,e,k,by rw[<-c];exact Sm.len (neg:=neg) (by rw[<-e];exact s) d⟩
theorem zBz(v:Value)(z:Int)(w:World)(h:jE w v z):
  CPq 48 #[v] w fun e w'=>e= .returned (niq (zAv z 0))/\BWq w w':=by
 obtain⟨neg,f,n,g,xs,rfl,b,k,j,m,d,a,_⟩:=h;by_cases c:n=0
 .have E:Hid (zAv z 0=0):=by
   have:xs= []:=qL oM;subst this;exact zCw (by rw[a];simp[zJN])
  clear a b;subst c;go_enter Tryz.func48,Tryz.ntmps48;go_wp2;go_ret;exact⟨by rw[E.out];rfl,(zC _ _).alloc (xgf _) _⟩
 have l:0<nat xs:=zMa d (by rintro rfl;simp at b;omega);have i:((n:Int)==0)=false:=by simpa using c
 cases neg with
 |true=>
  have E:Hid (zAv z 0=-1):=zBj (by rw[a];simp;omega);clear a b;go_enter Tryz.func48,Tryz.ntmps48;go_wp2;go_ret;exact⟨by rw[E.out];rfl,(zC _ _).alloc (xgf _) _⟩
 |false=>
  have E:Hid (zAv z 0=1):=zCb (by rw[a];simp;omega);clear a b;go_enter Tryz.func48,Tryz.ntmps48;go_wp2;go_ret;exact⟨by rw[E.out];rfl,(zC _ _).alloc (xgf _) _⟩
theorem zKO(d:Value)(z:Int)(w:World)(h1:jE w d z):CPq 45 #[d] w fun e w'=>e= .returned (.bool true)/\BWq w w':=by
 obtain⟨neg,l,n,m,xs,rfl,a,r,p,h,g,i,c⟩:=h1;have j:=zJ a;clear i;cases n with
 |zero=>
  obtain rfl:=c rfl;clear a;go_enter Tryz.func45,Tryz.ntmps45;go_wp2;go_ret;exact⟨rfl,(zC _ _).alloc (xgf _) _⟩
 | succ n=>
  obtain⟨b,off,x,rfl,o,t,f,q⟩:=h.limb (k:=n) oM;have s:((x:Int) !=0)=true:=by
   have:=g n a;rw[f.out]at this;simpa using this
  clear a c;go_enter Tryz.func45,Tryz.ntmps45;go_wp2;go_ret;exact⟨rfl,(zC _ _).alloc (xgf _) _⟩
theorem zEN(h:Value)(z:Int)(w:World)(h1:zIh w h z)(g:Sm z):CPq 39 #[h] w (zDJ w (-z)):=by
 obtain⟨neg,k,n,m,xs,rfl,d,q,p,u,H,f,I⟩:=h1.len g;have i:=zJ d;have j:=zJ f;clear d f g h1;have r:n<=8*LIM:=oM;go_enter Tryz.func39,Tryz.ntmps39;go_upto_region 1 with(fail)
 refine zF ?_;intro D o;obtain⟨c,l,b,J⟩:=zAU o;have E:=l.two;have F:=b.two;go_wp2_with fail
 refine(zB3 k n m xs (!neg) _ i.out q p r (u.ext (lx c))).mono ?_;rintro e K ⟨v,rfl,s,hb2⟩;have a:=b.I hb2;have G:=a.two;obtain⟨B,x,A,y,C,rfl,t⟩:=s;go_wp2_with fail
 refine jL rfl rfl rfl (a.put2 _ _) ?_ (yB (yB (nx c hb2) oM 0 _) oM 1 _);refine jE.ext ?_ (a.lext2 dE _ _);rw[j.out,<-zMn];exact⟨B,x,A,y,C,rfl,t⟩
theorem zUQ(h:Value)(z:Int)(w:World)(h1:zIh w h z)(g:Sm z):CPq 42 #[h] w (zDJ w (z.natAbs:Nat)):=by
 obtain⟨neg,k,n,m,xs,rfl,d,q,p,u,H,f,I⟩:=h1.len g;have i:=zJ d;have j:=zJ f;clear d f g h1;have r:n<=8*LIM:=oM;go_enter Tryz.func42,Tryz.ntmps42;go_upto_region 1 with(fail)
 refine zF ?_;intro D o;obtain⟨c,l,b,J⟩:=zAU o;have E:=l.two;have F:=b.two;go_wp2_with fail
 refine(zB3 k n m xs false _ i.out q p r (u.ext (lx c))).mono ?_;rintro e K ⟨v,rfl,s,hb2⟩;have a:=b.I hb2;have G:=a.two;obtain⟨B,x,A,y,C,rfl,t⟩:=s;go_wp2_with fail
 refine jL rfl rfl rfl (a.put2 _ _) ?_ (yB (yB (nx c hb2) oM 0 _) oM 1 _);refine jE.ext ?_ (a.lext2 dE _ _);rw[show((z.natAbs:Nat):Int)=sgn false (nat xs) by rw[j.out,zAF];rfl];exact⟨B,x,A,y,C,rfl,t⟩
theorem zJJ(z A:Option Addr)(a p d r:Nat)(xs ys:List Nat)(w:World)(n:xs.length=a)(o:ys.length=d)(Y:a<=p)(Z:d<=r)
  (T:p<=9223372036854775807) (U:r<=9223372036854775807) (u:qW w z xs) (v:qW w A ys) (L:zA1 xs) (M:zA1 ys):
  CPq 81 #[.slice z a p,.slice A d r] w fun e w'=>e= .returned (.bool (decide (nat xs<nat ys)))/\∃q,w'=w.drewN q:=by
 have O:=zJ n;have P:=zJ o;by_cases G:a=d
 .subst G
  have a0:xs.length<=a:=oM;have a1:a<=xs.length:=oM;have a2:ys.length<=a:=oM;have a3:a<=ys.length:=oM;clear n o;go_enter Tryz.func81,Tryz.ntmps81;go_wp2;go_loopw [5] (fun i wr=>∃k q:Nat,k<=a/\i=niq ((k:Int)-1)/\Hid (xs.drop k=ys.drop k)/\Hid (wr=w.drewN q)) (fun i _=>(intOf i+1).toNat)
  case atStart=>exact⟨a,0,xgf _,rfl,by show _=_;rw[qP oM,qP oM],rfl⟩
  obtain⟨k,q,X,rfl,g,f⟩:=hrel;cases k with
  | zero=>
   have E:Hid (decide (nat xs<nat ys)=false):=by
    have:xs=ys:=by simpa using g.out
    subst this;show _=_;simp
   go_wp2;go_ret;exact⟨by rw[E.out];rfl,_,f.out⟩
  | succ k=>
   obtain⟨b,off,x,rfl,R,a4,j,C⟩:=u.limb (k:=k) oM;obtain⟨J,N,y,rfl,S,a5,m,D⟩:=v.limb (k:=k) oM;have V:wr.cell? ⟨b,off+k,none⟩=some (.int .u32 (x:Nat)):=by rw[f.out];exact C
   have W:wr.cell? ⟨J,N+k,none⟩=some (.int .u32 (y:Nat)):=by rw[f.out];exact D
   have Q:IntKind.i64.wrap ((k:Int)+1-1)=k:=by rw[yC _ oM];omega
   clear C D;by_cases H:x=y
   .subst H
    have I:Hid (xs.drop k=ys.drop k):=by
     show _=_;rw[jV (l:=xs) (i:=k) oM,jV (l:=ys) (i:=k) oM,g.out];have s:=j.out;have t:=m.out;rw[xgb,xga oM]at s t;simp at s t;rw[s,t]
    have B:((x:Int) !=x)=false:=by simp
    clear g j m;go_wp2;go_quiet (fail);go_wp2;go_roundw
    case rel=>exact⟨k,_,oM,by go_num,I,by show _=_;rw[f.out,zAS]⟩
    case measure=>simp[intOf]
   have B:((x:Int) !=y)=true:=by simp;omega
   have E:Hid (decide (nat xs<nat ys)=decide (x<y)):=by
    show _=_;rcases zAb H with h|h
    .have:=zP2 u.1 oM oM g.out j.out m.out h
     simp[this,h]
    have:=zP2 v.1 oM oM g.out.symm m.out j.out h;simp;constructor<;>intro<;>omega
   by_cases F:x<y
   .have K:decide ((x:Int)<(y:Int))=true:=by simp;omega
    have c:Hid (decide (nat xs<nat ys)=true):=by show _=_;rw[E.out];simp[F]
    go_wp2;go_quiet (fail);go_wp2;go_quiet (fail);go_wp2;go_ret;exact⟨by rw[c.out];rfl,_,by rw[f.out];simp only[World.drewN_drewN];rfl⟩
   have K:decide ((x:Int)<(y:Int))=false:=by simp;omega
   have c:Hid (decide (nat xs<nat ys)=false):=by show _=_;rw[E.out];simp[F]
   go_wp2;go_quiet (fail);go_wp2;go_quiet (fail);go_wp2;go_ret;exact⟨by rw[c.out];rfl,_,by rw[f.out];simp only[World.drewN_drewN];rfl⟩
 have B:((a:Int) !=d)=true:=by simp;omega
 rcases zAb G with h|h
 .have c:Hid (decide (nat xs<nat ys)=true):=by
   have:=zL4 u.1 M oM;show _=_;simp[this]
  clear n o;go_enter Tryz.func81,Tryz.ntmps81;go_wp2;go_ret;exact⟨by rw[c.out];first|rfl|(show Ending.returned (.bool (decide (a<d)))=_;first|rw[zQ h]|rw[zT oM]),0,rfl⟩
 have c:Hid (decide (nat xs<nat ys)=false):=by
  have:=zL4 v.1 L oM;show _=_;simp;omega
 clear n o;go_enter Tryz.func81,Tryz.ntmps81;go_wp2;go_ret;exact⟨by rw[c.out];first|rfl|(show Ending.returned (.bool (decide (a<d)))=_;first|rw[zQ h]|rw[zT oM]),0,rfl⟩
def zM0(w:World)(n:Nat)(e:Ending)(w':World):Prop:=
 ∃ao len cap xs,e= .returned (.slice ao len cap)/\xs.length=len/\len<=cap/\cap<=9223372036854775807/\qW w' ao xs/\nat xs=n/\BWq w w'/\len<=8*LIM
theorem zHx(c:zs.length=k)(h:nat zs+d*B32^k=nat (xs.take k)+nat (ys.take k))(e:xs.getD k 0=x)(f:ys.getD k 0=y):
  nat (zs++ [(d+x+y)%4294967296])+(d+x+y)/4294967296*B32^(k+1)=nat (xs.take (k+1))+nat (ys.take (k+1)):=by
 have a:=zGF (xs:=xs) (ys:=ys) (zs:=zs++ [0]) (k:=k) (d:=d) (x:=x) (y:=y) (by rw[zAf oM,qY zs oM];exact h) (by simp;omega) e f;have b:(zs++ [0]).set k ((d+x+y)%4294967296)=zs++ [(d+x+y)%4294967296]:=by
  rw[zBI _ _ oM,c,zAL];rfl
 rw[b,qY _ (by simp;omega)]at a;exact a
theorem zGC(h:xs.length<=k):xs.getD k 0=0:=by rw[xgb,List.getElem?_eq_none h];rfl
theorem zJa.base_le{base:Nat}{v:Value}(h:zJa w base v xs):∀g,v.ownBlock=some g->base<=g:=fun g a=>(h.2.lt g a).1
theorem zR2(E F:Option Addr)(j N h O:Nat)(xs ys:List Nat)(w:World)(I:xs.length=j)(J:ys.length=h)
  (Q:j<=4*LIM) (R:h<=4*LIM) (V:qW w E xs) (K:qW w F ys):
  CPq 141 #[.slice E j N,.slice F h O] w (zM0 w (nat xs+nat ys)):=by
 have a0:=zJ I;have a1:=zJ J;have a4:xs.length<=j:=oM;have a5:j<=xs.length:=oM;have a6:ys.length<=h:=oM;have a7:h<=ys.length:=oM;clear I J;rw[zBf]at Q R;obtain⟨z,a8,a9,b0⟩:∃m,j<=m/\h<=m/\m<=4*1099511627776:=⟨max j h,oM,oM,oM⟩;go_enter Tryz.func141,Tryz.ntmps141;go_wp2;go_loopw [5,6,7] (fun v c i wr=>∃(k d:Nat) (zs:List Nat),k<=z+1/\i=niq k/\c= .int .u64 d/\d<=1/\k+d<=z+1/\zs.length<=z+1/\zJa wr w.heap.size v zs/\BWq w wr∧
   Hid (zs.length=k/\nat zs+d*B32^k=nat (xs.take k)+nat (ys.take k))) (fun _ _ i _=>z+1-(intOf i).toNat)
 case atStart=>exact⟨0,0,[],oM,rfl,rfl,oM,oM,by simp,zJa.empty w _ (xgf _),(zC _ _).alloc (xgf _) _,⟨rfl,by simp⟩⟩
 obtain⟨k,d,zs,hk,rfl,rfl,hd,a3,b6,f,a,e⟩:=hrel;have b5:zs.length<=k:=zBT e.out.1;by_cases h1:k<j
 .obtain⟨b,off,x,rfl,S,b4,t,H⟩:=V.limb (k:=k) oM
  have a2:=(a.cell (p:=⟨b,off+k,none⟩) S).trans H;clear H;by_cases P:k<h
  .obtain⟨A,C,y,rfl,B,W,l,u⟩:=K.limb (k:=k) oM
   have T:=(a.cell (p:=⟨A,C+k,none⟩) B).trans u;clear u;go_wp2_with (at_builtin;refine zPw rfl _ _ rfl w.heap.size u5 zs rfl (f.alloc _) _ 1 _ [(d+x+y)%4294967296] rfl (qW.one _ ((d+x+y)%4294967296) (yQ _ dE) _ (by first|rfl|omega|simp)) rfl oM (by have:=a.size;simp;omega) ?_;intro D s r q;have n:BWq w s:=(a.alloc a.size _).grown q (by have:=a.size;simp;omega) (fun g o=>f.base_le g o))
   go_roundw
   case rel=>exact⟨k+1,(d+x+y)/4294967296,zs++ [(d+x+y)%4294967296],oM,by go_num,by go_num,oM,oM,by simp;omega,r,n,⟨by simp[e.out.1],zHx e.out.1 e.out.2 t.out l.out⟩⟩
   case measure=>exact meq
  have l:Hid (ys.getD k 0=0):=zGC oM;have b3:d+x+0=d+x:=rfl;go_wp2_with (at_builtin;refine zPw rfl _ _ rfl w.heap.size u5 zs rfl (f.alloc _) _ 1 _ [(d+x+0)%4294967296] rfl (qW.one _ ((d+x+0)%4294967296) (yQ _ dE) _ (by first|rfl|omega|simp)) rfl oM (by have:=a.size;simp;omega) ?_;intro D s r q;have n:BWq w s:=(a.alloc a.size _).grown q (by have:=a.size;simp;omega) (fun g o=>f.base_le g o))
  go_roundw
  case rel=>exact⟨k+1,(d+x+0)/4294967296,zs++ [(d+x+0)%4294967296],oM,by go_num,by go_num,oM,oM,by simp;omega,r,n,⟨by simp[e.out.1],zHx e.out.1 e.out.2 t.out l.out⟩⟩
  case measure=>exact meq
 have t:Hid (xs.getD k 0=0):=zGC oM;by_cases P:k<h
 .obtain⟨A,C,y,rfl,B,W,l,u⟩:=K.limb (k:=k) oM
  have T:=(a.cell (p:=⟨A,C+k,none⟩) B).trans u;clear u;go_wp2_with (at_builtin;refine zPw rfl _ _ rfl w.heap.size u5 zs rfl (f.alloc _) _ 1 _ [(d+0+y)%4294967296] rfl (qW.one _ ((d+0+y)%4294967296) (yQ _ dE) _ (by first|rfl|omega|simp)) rfl oM (by have:=a.size;simp;omega) ?_;intro D s r q;have n:BWq w s:=(a.alloc a.size _).grown q (by have:=a.size;simp;omega) (fun g o=>f.base_le g o))
  go_roundw
  case rel=>exact⟨k+1,(d+0+y)/4294967296,zs++ [(d+0+y)%4294967296],oM,by go_num,by go_num,oM,oM,by simp;omega,r,n,⟨by simp[e.out.1],zHx e.out.1 e.out.2 t.out l.out⟩⟩
  case measure=>exact meq
 have l:Hid (ys.getD k 0=0):=zGC oM;by_cases h3:0<d
 .
  go_wp2_with (at_builtin;refine zPw rfl _ _ rfl w.heap.size u5 zs rfl (f.alloc _) _ 1 _ [(d+0+0)%4294967296] rfl (qW.one _ ((d+0+0)%4294967296) (yQ _ dE) _ (by first|rfl|omega|simp)) rfl oM (by have:=a.size;simp;omega) ?_;intro D s r q;have n:BWq w s:=(a.alloc a.size _).grown q (by have:=a.size;simp;omega) (fun g o=>f.base_le g o))
  go_roundw
  case rel=>exact⟨k+1,(d+0+0)/4294967296,zs++ [(d+0+0)%4294967296],oM,by go_num,by go_num,oM,oM,by simp;omega,r,n,⟨by simp[e.out.1],zHx e.out.1 e.out.2 t.out l.out⟩⟩
  case measure=>exact meq
 obtain rfl:0=d:=oM;go_wp2;go_ret;obtain⟨L,M,U,X,Y,Z⟩:=f.at_;have G:=e.out.2;rw[zA8,zAK,qY xs oM,qY ys oM]at G;exact⟨L,_,M,zs,by rw[U];rfl,rfl,X,Y,Z,G,a,by rw[zBf];omega⟩
theorem zGY{e:Nat}(c:zs.length=k)(h:nat zs+nat (ys.take k)=nat (xs.take k)+d*B32^k)(f:xs.getD k 0=x)(g:ys.getD k 0=y)(hv:v+y+d=x+e*4294967296):
  nat (zs++ [v])+nat (ys.take (k+1))=nat (xs.take (k+1))+e*B32^(k+1):=by
 have a:=zIL (xs:=xs) (ys:=ys) (zs:=zs++ [0]) (k:=k) (d:=d) (x:=x) (y:=y) (v:=v) (e:=e) (by rw[zAf oM,qY zs oM];exact h) (by simp;omega) f g hv;have b:(zs++ [0]).set k v=zs++ [v]:=by
  rw[zBI _ _ oM,c,zAL];rfl
 rw[b,qY _ (by simp;omega)]at a;exact a
theorem zKL(u z:Option Addr)(f K p L:Nat)(xs ys:List Nat)(w:World)(D:xs.length=f)(E:ys.length=p)
  (N:f<=4*LIM) (S:qW w u xs) (T:qW w z ys) (a2:p<=f) (F:nat ys<=nat xs):
  CPq 142 #[.slice u f K,.slice z p L] w (zM0 w (nat xs-nat ys)):=by
 have Y:=zJ D;have Z:=zJ E;have G:=zJ F;have a3:xs.length<=f:=oM;have a4:f<=xs.length:=oM;have a5:ys.length<=p:=oM;have a6:p<=ys.length:=oM;clear D E F;rw[zBf]at N;go_enter Tryz.func142,Tryz.ntmps142;go_wp2;go_loopw [5,6,7] (fun v c i wr=>∃(k d:Nat) (zs:List Nat),k<=f/\i=niq k/\c=niq d/\d<=1/\zJa wr w.heap.size v zs/\BWq w wr∧
   Hid (zs.length=k/\nat zs+nat (ys.take k)=nat (xs.take k)+d*B32^k)) (fun _ _ i _=>f-(intOf i).toNat)
 case atStart=>exact⟨0,0,[],oM,rfl,rfl,oM,zJa.empty w _ (xgf _),(zC _ _).alloc (xgf _) _,⟨rfl,by simp⟩⟩
 obtain⟨k,d,zs,hk,rfl,rfl,hd,h,a,e⟩:=hrel;have a9:zs.length<=k:=zBT e.out.1;by_cases h1:k<f
 .obtain⟨b,off,x,rfl,O,a7,r,B⟩:=S.limb (k:=k) oM
  have a0:=(a.cell (p:=⟨b,off+k,none⟩) O).trans B;clear B;by_cases s:k<p
  .obtain⟨I,U,y,rfl,P,a8,q,C⟩:=T.limb (k:=k) oM
   have a1:=(a.cell (p:=⟨I,U+k,none⟩) P).trans C;clear C;by_cases Q:y+d<=x
   .
    go_wp2_with (at_builtin;refine zPw rfl _ _ rfl w.heap.size u5 zs rfl (h.alloc _) _ 1 _ [(x-d-y)] rfl (qW.one _ ((x-d-y)) oM _ (by first|rfl|omega|(rw[zBD];omega))) rfl oM (by have:=a.size;simp;omega) ?_;intro t o n m;have j:BWq w o:=(a.alloc a.size _).grown m (by have:=a.size;simp;omega) (fun g l=>h.base_le g l))
    go_roundw
    case rel=>exact⟨k+1,0,zs++ [(x-d-y)],oM,by go_num,rfl,oM,n,j,⟨by simp[e.out.1],zGY e.out.1 e.out.2 r.out q.out oM⟩⟩
    case measure=>exact meq
   go_wp2_with (at_builtin;refine zPw rfl _ _ rfl w.heap.size u5 zs rfl (h.alloc _) _ 1 _ [(x+4294967296-d-y)] rfl (qW.one _ ((x+4294967296-d-y)) oM _ (by first|rfl|omega|(rw[zBD];omega))) rfl oM (by have:=a.size;simp;omega) ?_;intro t o n m;have j:BWq w o:=(a.alloc a.size _).grown m (by have:=a.size;simp;omega) (fun g l=>h.base_le g l))
   go_roundw
   case rel=>exact⟨k+1,1,zs++ [(x+4294967296-d-y)],oM,by go_num,rfl,oM,n,j,⟨by simp[e.out.1],zGY e.out.1 e.out.2 r.out q.out oM⟩⟩
   case measure=>exact meq
  have q:Hid (ys.getD k 0=0):=zGC oM;by_cases Q:d<=x
  .
   go_wp2_with (at_builtin;refine zPw rfl _ _ rfl w.heap.size u5 zs rfl (h.alloc _) _ 1 _ [(x-d)] rfl (qW.one _ ((x-d)) oM _ (by first|rfl|omega|(rw[zBD];omega))) rfl oM (by have:=a.size;simp;omega) ?_;intro t o n m;have j:BWq w o:=(a.alloc a.size _).grown m (by have:=a.size;simp;omega) (fun g l=>h.base_le g l))
   go_roundw
   case rel=>exact⟨k+1,0,zs++ [(x-d)],oM,by go_num,rfl,oM,n,j,⟨by simp[e.out.1],zGY e.out.1 e.out.2 r.out q.out oM⟩⟩
   case measure=>exact meq
  go_wp2_with (at_builtin;refine zPw rfl _ _ rfl w.heap.size u5 zs rfl (h.alloc _) _ 1 _ [(x+4294967296-d)] rfl (qW.one _ ((x+4294967296-d)) oM _ (by first|rfl|omega|(rw[zBD];omega))) rfl oM (by have:=a.size;simp;omega) ?_;intro t o n m;have j:BWq w o:=(a.alloc a.size _).grown m (by have:=a.size;simp;omega) (fun g l=>h.base_le g l))
  go_roundw
  case rel=>exact⟨k+1,1,zs++ [(x+4294967296-d)],oM,by go_num,rfl,oM,n,j,⟨by simp[e.out.1],zGY e.out.1 e.out.2 r.out q.out oM⟩⟩
  case measure=>exact meq
 obtain rfl:f=k:=oM;go_wp2;go_ret;obtain⟨H,J,R,V,W,X⟩:=h.at_;have A:=e.out.2;rw[qY xs oM,qY ys oM]at A;have s:=zDO h.1;rw[e.out.1]at s;have h3:=G.out;refine⟨H,_,J,zs,by rw[R];rfl,rfl,V,W,X,?_,a,by rw[zBf];omega⟩;generalize B32^f=b0 at A s;have M:d=0∨d=1:=oM;rcases M with rfl|rfl<;>omega
theorem zFQ(v1 v2:Value)(M N:Int)(w:World)(h1:jE w v1 M)(h2:jE w v2 N)(s1:Sm M)(s2:Sm N):
  CPq 94 #[v1,v2] w (zDJ w (M+N)):=by
 obtain⟨m,ao1,n1,cap1,xs,rfl,hn1,hl1,hc1,hx1,hN1,h,a0,a2⟩:=h1.len s1;obtain⟨J,ao2,n2,cap2,ys,rfl,hn2,hl2,hc2,hx2,hN2,i,a1,a3⟩:=h2.len s2;have k:=zJ hn1;have l:=zJ hn2;have K:=zJ h;have L:=zJ i;clear hn1 hn2 h i s1 s2 h1 h2 a0 a1;have X:n1<=4*LIM:=oM;have Y:n2<=4*LIM:=oM;clear a2 a3;by_cases I:m=J
 .subst I
  go_enter Tryz.func94,Tryz.ntmps94;go_upto_region 1 with(fail)
  refine zF ?_;intro b t;obtain⟨c,q,r,o,Z⟩:=zBc t;have P:=q.two;have Q:=r.two;go_wp2_with fail
  have j:=lx (nx c (dr b));go_region_held3 (fun a=>a.cell? ⟨w.heap.size,1,none⟩=some (.slice ao1 n1 cap1)/\a.cell? ⟨w.heap.size+1,1,none⟩=some (.slice ao2 n2 cap2)/\a.cell? ⟨w.heap.size,0,none⟩=some (.bool m))
   ((((try go_split_ands);(repeat' apply And.intro))<;>first|exact zBu (by assumption)|exact jP (by assumption) hb1|exact jP (by assumption) hb2|exact zDN (zDN (by assumption) oM) oM))
   (first
    |(go_at_call 141;refine(zR2 ao1 ao2 n1 cap1 n2 cap2 xs ys _ k.out l.out X Y (hx1.ext j) (hx2.ext j)).mono ?_;rintro e w1 ⟨n,B,s,zs,rfl,h,i,x,y,z,hb1,A⟩;have p:=o.drew.I hb1)
    |(go_at_call 91;refine(zB3 n B s zs m _ h i x A y).mono ?_;rintro e w2 ⟨v,rfl,u,hb2⟩;have d:=p.I hb2;obtain⟨R,S,T,U⟩:=d.two;obtain⟨F,C,E,D,G,rfl,g⟩:=u))
  go_wp2_with fail
  refine jL rfl rfl rfl (d.put2 _ _) ?_ (yB (yB (nx (nx (nx c (dr b)) hb1) hb2) oM 0 _) oM 1 _);refine jE.ext ?_ (d.lext2 dE _ _);rw[z]at g;rw[K.out,L.out,<-zUm];exact⟨F,C,E,D,G,rfl,g⟩
 have a4:(m==J)=false:=by simpa using I
 have O:=zJ I;clear I;have H:=fun W h1 h2=>zJJ ao1 ao2 n1 cap1 n2 cap2 xs ys W k.out l.out hl1 hl2 hc1 hc2 h1 h2 hN1 hN2
 by_cases V:nat xs<nat ys
 .rw[zQ V]at H
  go_enter Tryz.func94,Tryz.ntmps94;go_upto_region 1 with(fail)
  refine zF ?_;intro b t;obtain⟨c,q,r,o,Z⟩:=zBc t;have P:=q.two;have Q:=r.two;go_wp2_with (go_at_call 81;refine(H _ (hx1.ext (lx c)) (hx2.ext (lx c))).mono ?_;rintro e a ⟨rfl,f,rfl⟩)
  have j:=lx (nx (nx c (drN b f)) (dr (b.drewN f)));go_region_held3 (fun a=>a.cell? ⟨w.heap.size,1,none⟩=some (.slice ao1 n1 cap1)/\a.cell? ⟨w.heap.size+1,1,none⟩=some (.slice ao2 n2 cap2)/\a.cell? ⟨(w.heap.size+1),0,none⟩=some (.bool J))
   ((((try go_split_ands);(repeat' apply And.intro))<;>first|exact zBu (by assumption)|exact jP (by assumption) hb1|exact jP (by assumption) hb2|exact zDN (zDN (by assumption) oM) oM))
   (first
    |(go_at_call 142;refine(zKL ao2 ao1 n2 cap2 n1 cap1 ys xs _ l.out k.out Y (hx2.ext j) (hx1.ext j) (by rw[<-k.out,<-l.out];exact zDg hx2.1 hN1 oM) oM).mono ?_;rintro e w1 ⟨n,B,s,zs,rfl,h,i,x,y,z,hb1,A⟩;have p:=(o.drewN f).drew.I hb1)
    |(go_at_call 91;refine(zB3 n B s zs J _ h i x A y).mono ?_;rintro e w2 ⟨v,rfl,u,hb2⟩;have d:=p.I hb2;obtain⟨R,S,T,U⟩:=d.two;obtain⟨F,C,E,D,G,rfl,g⟩:=u))
  go_wp2_with fail
  refine jL rfl rfl rfl (d.put2 _ _) ?_ (yB (yB (nx (nx (nx (nx c (drN b f)) (dr (b.drewN f))) hb1) hb2) oM 0 _) oM 1 _);refine jE.ext ?_ (d.lext2 dE _ _);rw[z]at g;rw[K.out,L.out,<-zQi O.out _ _ oM];exact⟨F,C,E,D,G,rfl,g⟩
 rw[zT V]at H;go_enter Tryz.func94,Tryz.ntmps94;go_upto_region 1 with(fail)
 refine zF ?_;intro b t;obtain⟨c,q,r,o,Z⟩:=zBc t;have P:=q.two;have Q:=r.two;go_wp2_with (go_at_call 81;refine(H _ (hx1.ext (lx c)) (hx2.ext (lx c))).mono ?_;rintro e a ⟨rfl,f,rfl⟩)
 have j:=lx (nx (nx c (drN b f)) (dr (b.drewN f)));go_region_held3 (fun a=>a.cell? ⟨w.heap.size,1,none⟩=some (.slice ao1 n1 cap1)/\a.cell? ⟨w.heap.size+1,1,none⟩=some (.slice ao2 n2 cap2)/\a.cell? ⟨w.heap.size,0,none⟩=some (.bool m))
  ((((try go_split_ands);(repeat' apply And.intro))<;>first|exact zBu (by assumption)|exact jP (by assumption) hb1|exact jP (by assumption) hb2|exact zDN (zDN (by assumption) oM) oM))
  (first
   |(go_at_call 142;refine(zKL ao1 ao2 n1 cap1 n2 cap2 xs ys _ k.out l.out X (hx1.ext j) (hx2.ext j) (by rw[<-k.out,<-l.out];exact zDg hx1.1 hN2 oM) oM).mono ?_;rintro e w1 ⟨n,B,s,zs,rfl,h,i,x,y,z,hb1,A⟩;have p:=(o.drewN f).drew.I hb1)
   |(go_at_call 91;refine(zB3 n B s zs m _ h i x A y).mono ?_;rintro e w2 ⟨v,rfl,u,hb2⟩;have d:=p.I hb2;obtain⟨R,S,T,U⟩:=d.two;obtain⟨F,C,E,D,G,rfl,g⟩:=u))
 go_wp2_with fail
 refine jL rfl rfl rfl (d.put2 _ _) ?_ (yB (yB (nx (nx (nx (nx c (drN b f)) (dr (b.drewN f))) hb1) hb2) oM 0 _) oM 1 _);refine jE.ext ?_ (d.lext2 dE _ _);rw[z]at g;rw[K.out,L.out,<-zQh O.out _ _ oM];exact⟨F,C,E,D,G,rfl,g⟩
theorem Sm.neg(h:Sm z):Sm (-z):=by unfold Sm at h ⊢;rwa[zY]
theorem zH1(m n:Value)(c a:Int)(w:World)(h1:jE w m c)(h2:jE w n a)(l:Sm c)(i:Sm a):
  CPq 92 #[m,n] w (zDJ w (c-a)):=by
 have o:=zJ h1;have p:=zJ h2;obtain⟨j,ao1,n1,cap1,xs,rfl,-⟩:=h1;obtain⟨k,ao2,n2,cap2,ys,rfl,-⟩:=h2;have z:=fun W h=>zEN (.agg #[.bool k,.slice ao2 n2 cap2]) a W h i
 have y:=fun v W h1 h2=>zFQ (.agg #[.bool j,.slice ao1 n1 cap1]) v c (-a) W h1 h2 l i.neg
 clear l i;go_enter Tryz.func92,Tryz.ntmps92;go_upto_region 1 with(fail)
 refine zF ?_;intro d x;obtain⟨g,s,t,q,Q⟩:=zBc x;have K:=s.two;have L:=t.two;have D:=lx (nx g (dr d));go_region_held3 (fun b=>b.cell? ⟨w.heap.size,0,none⟩=some (.bool j)/\b.cell? ⟨w.heap.size,1,none⟩=some (.slice ao1 n1 cap1)/\b.cell? ⟨w.heap.size+1,0,none⟩=some (.bool k)/\b.cell? ⟨w.heap.size+1,1,none⟩=some (.slice ao2 n2 cap2))
  ((((try go_split_ands);(repeat' apply And.intro))<;>first|exact zBu (by assumption)|exact jP (by assumption) hb1|exact jP (by assumption) hb2|exact zDN (zDN (by assumption) oM) oM))
  (first
   |(go_at_call 39;refine(z _ (p.out.J.ext D)).mono ?_;rintro e R ⟨I,rfl,C,hb1⟩;have r:=q.drew.I hb1;have u:=o.out.ext (lx (nx (nx g (dr d)) hb1)))
   |(go_at_call 94;refine(y I _ u C).mono ?_;rintro e S ⟨v,rfl,A,hb2⟩;have f:=r.I hb2;obtain⟨M,N,O,P⟩:=f.two;obtain⟨H,E,G,F,J,rfl,B⟩:=A))
 go_wp2_with fail
 refine jL rfl rfl rfl (f.put2 _ _) ?_ (yB (yB (nx (nx (nx g (dr d)) hb1) hb2) oM 0 _) oM 1 _);refine jE.ext ?_ (f.lext2 dE _ _);rw[Int.sub_eq_add_neg];exact⟨H,E,G,F,J,rfl,B⟩
theorem zNr(g i:Value)(a b:Int)(w:World)(h1:jE w g a)(h2:jE w i b)(d:Sm a)(f:Sm b):
  CPq 46 #[g,i] w fun e w'=>e= .returned (niq (zAv a b))/\BWq w w':=by
 have j:=zJ h1;have k:=zJ h2;obtain⟨q,ao1,n1,cap1,xs,rfl,-⟩:=h1;obtain⟨r,ao2,n2,cap2,ys,rfl,-⟩:=h2;have o:=fun W h1 h2=>zH1 (.agg #[.bool q,.slice ao1 n1 cap1]) (.agg #[.bool r,.slice ao2 n2 cap2]) a b W h1 h2 d f
 have E:Hid (zAv (a-b) 0=zAv a b):=by
  rcases zAt a b with h|h|h
  show _=_;rw[zBj h,zBj oM];show _=_;rw[zCw h,zCw oM];show _=_;rw[zCb h,zCb oM]
 clear d f;go_enter Tryz.func46,Tryz.ntmps46;go_upto_region 1 with(fail)
 refine zF ?_;intro s n;obtain⟨c,l,m,x⟩:=zAU n;have t:=l.two;have u:=m.two;go_wp2_with fail
 refine(o _ (j.out.ext (lx c)) (k.out.ext (lx c))).mono ?_;rintro e y ⟨v,rfl,p,hb1⟩;go_wp2_with fail
 refine(zBz v _ _ p).mono ?_;rintro e z ⟨rfl,hb2⟩;go_wp2_with fail
 go_ret;exact⟨by rw[<-E.out];rfl,nx (nx c hb1) hb2⟩
theorem zZ4{a b:Bool}(h:sgn a m=sgn b n):m=n/\(m≠0->a=b):=by
 have c:=congrArg Int.natAbs h;rw[zAF,zAF]at c;subst c;refine⟨rfl,fun d=>?_⟩;cases a<;>cases b<;>simp at h ⊢<;>omega
theorem zIS(D F:Value)(c d:Int)(w:World)(h1:jE w D c)(h2:jE w F d):
  CPq 29 #[D,F] w fun e w'=>e= .returned (.bool (decide (c=d)))/\BWq w w':=by
 obtain⟨o,ao1,n1,cap1,xs,rfl,hn1,hl1,hc1,hx1,hN1,A,x⟩:=h1;obtain⟨p,ao2,n2,cap2,ys,rfl,hn2,hl2,hc2,hx2,hN2,B,y⟩:=h2;have b:Hid (c=d↔(o=p/\¬ nat xs<nat ys/\¬ nat ys<nat xs)):=by
  show _↔_;rw[A,B];constructor
  .intro h
   obtain⟨u,v⟩:=zZ4 h;refine⟨?_,oM,oM⟩;by_cases t:nat xs=0
   .have G:=(zHK hN1).1 t
    have H:=(zHK hN2).1 oM;subst G;subst H;rw[x hn1.symm,y hn2.symm]
   exact v t
  rintro⟨u,v,J⟩;rw[u,show nat xs=nat ys by omega]
 have j:=fun W h1 h2=>zJJ ao1 ao2 n1 cap1 n2 cap2 xs ys W hn1 hn2 hl1 hl2 hc1 hc2 h1 h2 hN1 hN2
 have k:=fun W h1 h2=>zJJ ao2 ao1 n2 cap2 n1 cap1 ys xs W hn2 hn1 hl2 hl1 hc2 hc1 h1 h2 hN2 hN1
 clear hn1 hn2 A B x y;by_cases l:o=p
 .subst l
  by_cases m:nat xs<nat ys
  .rw[zQ m]at j
   have E:Hid (decide (c=d)=false):=by show _=_;rw[zT];rw[b.out];omega
   clear b;go_enter Tryz.func29,Tryz.ntmps29;go_upto_region 1 with(fail)
   refine zF ?_;intro q i;obtain⟨a,f,g,z⟩:=zAU i;have r:=f.two;have s:=g.two;go_wp2_with (go_at_call 81;refine(j _ (hx1.ext (lx a)) (hx2.ext (lx a))).mono ?_;rintro e w' ⟨rfl,C,rfl⟩)
   go_ret;exact⟨by rw[E.out];rfl,nx a (drN _ _)⟩
  rw[zT m]at j;by_cases n:nat ys<nat xs
  .rw[zQ n]at k
   have E:Hid (decide (c=d)=false):=by show _=_;rw[zT];rw[b.out];omega
   clear b;go_enter Tryz.func29,Tryz.ntmps29;go_upto_region 1 with(fail)
   refine zF ?_;intro q i;obtain⟨a,f,g,z⟩:=zAU i;have r:=f.two;have s:=g.two;go_wp2_with fail
   refine(j _ (hx1.ext (lx a)) (hx2.ext (lx a))).mono ?_;rintro e w' ⟨rfl,C,rfl⟩;go_wp2_with fail
   refine(k _ (hx2.ext (lx (nx a (drN _ _)))) (hx1.ext (lx (nx a (drN _ _))))).mono ?_;rintro e w' ⟨rfl,I,rfl⟩;go_wp2_with fail
   go_ret;exact⟨by rw[E.out];rfl,nx a (drN _ _)⟩
  rw[zT n]at k;have E:Hid (decide (c=d)=true):=by show _=_;rw[zQ];rw[b.out];exact⟨rfl,m,n⟩
  clear b;go_enter Tryz.func29,Tryz.ntmps29;go_upto_region 1 with(fail)
  refine zF ?_;intro q i;obtain⟨a,f,g,z⟩:=zAU i;have r:=f.two;have s:=g.two;go_wp2_with fail
  refine(j _ (hx1.ext (lx a)) (hx2.ext (lx a))).mono ?_;rintro e w' ⟨rfl,C,rfl⟩;go_wp2_with fail
  refine(k _ (hx2.ext (lx (nx a (drN _ _)))) (hx1.ext (lx (nx a (drN _ _))))).mono ?_;rintro e w' ⟨rfl,I,rfl⟩;go_wp2_with fail
  go_ret;exact⟨by rw[E.out];rfl,nx a (drN _ _)⟩
 have K:(o==p)=false:=by simpa using l
 have E:Hid (decide (c=d)=false):=by show _=_;rw[zT];rw[b.out];intro h;exact l h.1
 clear b l;go_enter Tryz.func29,Tryz.ntmps29;go_wp2_with fail
 go_ret;exact⟨by rw[E.out];rfl,((zC _ _).alloc (xgf _) _).alloc sI _⟩
end Go.Proofs.YtkidaebmhlijlaaGreat
