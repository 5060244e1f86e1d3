/- Joined. -/
import Derived.Test.YtniiekppgdkknaaGreatM05
set_option linter.unusedVariables false
set_option linter.unusedSimpArgs false
set_option linter.unusedSectionVars false
set_option maxHeartbeats 16000000
set_option maxRecDepth 100000
variable{z:Int}{xs ys zs:List Nat}{d i k m n x y:Nat}{v:Go.Value}{w:Go.World}
namespace Go.Proofs.YtniiekppgdkknaaGreat
open Go.RowKit
theorem yA.len(h:yA w v z)(s:Sm z):
  ∃neg b n a xs,v= .agg #[.bool neg,.slice b n a]/\xs.length=n/\n<=a/\a<=9223372036854775807/\qF w b xs/\zAL xs/\z=sgn neg (nat xs)/\(n=0->neg=false)/\n<=LIM:=by
 obtain⟨neg,b,n,a,xs,f,c,g,i,j,d,e,k⟩:=h;exact⟨neg,b,n,a,xs,f,c,g,i,j,d,e,k,by rw[<-c];exact Sm.len (neg:=neg) (by rw[<-e];exact s) d⟩
theorem zDA(v:Value)(z:Int)(w:World)(h:yA w v z):
  CPq 61 #[v] w fun e w'=>e= .returned (niq (zAB z 0))/\BWq w w':=by
 obtain⟨neg,f,n,g,xs,rfl,b,k,j,m,d,a,_⟩:=h;by_cases c:n=0
 .have E:Hid (zAB z 0=0):=by
   have:xs= []:=zY oM;subst this;exact zCZ (by rw[a];simp[zHh])
  clear a b;subst c;go_enter Tryz.func61,Tryz.ntmps61;go_wp2;go_ret;exact⟨by rw[E.out];rfl,(zB _ _).alloc (xgf _) _⟩
 have l:0<nat xs:=zMP d (by rintro rfl;simp at b;omega);have i:((n:Int)==0)=false:=by simpa using c
 cases neg with
 |true=>
  have E:Hid (zAB z 0=-1):=zBb (by rw[a];simp;omega);clear a b;go_enter Tryz.func61,Tryz.ntmps61;go_wp2;go_ret;exact⟨by rw[E.out];rfl,(zB _ _).alloc (xgf _) _⟩
 |false=>
  have E:Hid (zAB z 0=1):=zB0 (by rw[a];simp;omega);clear a b;go_enter Tryz.func61,Tryz.ntmps61;go_wp2;go_ret;exact⟨by rw[E.out];rfl,(zB _ _).alloc (xgf _) _⟩
theorem zF6(d:Value)(z:Int)(w:World)(g:yA w d z):CPq 87 #[d] w fun e w'=>e= .returned (.bool true)/\BWq w w':=by
 obtain⟨neg,m,n,o,xs,rfl,a,s,q,i,h,j,c⟩:=g;have l:=zH a;clear j;cases n with
 |zero=>
  obtain rfl:=c rfl;clear a;go_enter Tryz.func87,Tryz.ntmps87;go_wp2;go_ret;exact⟨rfl,(zB _ _).alloc (xgf _) _⟩
 | succ n=>
  obtain⟨b,v,x,rfl,p,u,f,r⟩:=i.limb (k:=n) oM;have t:((x:Int) !=0)=true:=by
   have:=h n a;rw[f.out]at this;simpa using this
  clear a c;go_enter Tryz.func87,Tryz.ntmps87;go_wp2;go_ret;exact⟨rfl,(zB _ _).alloc (xgf _) _⟩
theorem zE8(j:Value)(z:Int)(w:World)(c:zHR w j z)(i:Sm z):CPq 102 #[j] w (zBk w (-z)):=by
 obtain⟨neg,m,n,p,xs,rfl,g,s,r,y,J,h,K⟩:=c.len i;have k:=zH g;have l:=zH h;clear g h i c;have t:n<=8*LIM:=oM;go_enter Tryz.func102,Tryz.ntmps102;go_upto_region 1 with(fail)
 refine zE ?_;intro F q;obtain⟨d,o,b,L⟩:=jW q;have G:=o.two;have H:=b.two;go_wp2_with fail
 refine(zBQ m n p xs (!neg) _ k.out s r t (y.ext (lx d))).mono ?_;rintro e M ⟨v,rfl,u,f⟩;have a:=b.I f;have I:=a.two;obtain⟨D,A,C,B,E,rfl,x⟩:=u;go_wp2_with fail
 refine yS rfl rfl rfl (a.put2 _ _) ?_ (yM (yM (nx d f) oM 0 _) oM 1 _);refine yA.ext ?_ (a.lext2 dE _ _);rw[l.out,<-zKC];exact⟨D,A,C,B,E,rfl,x⟩
theorem zHZ(z A:Option Addr)(a p d r:Nat)(xs ys:List Nat)(w:World)(n:xs.length=a)(o:ys.length=d)(Z:a<=p)(a0:d<=r)
  (U:p<=9223372036854775807) (V:r<=9223372036854775807) (u:qF w z xs) (v:qF w A ys) (L:zAL xs) (M:zAL ys):
  CPq 86 #[.slice z a p,.slice A d r] w fun e w'=>e= .returned (.bool (decide (nat xs<nat ys)))/\∃q,w'=w.drewN q:=by
 have P:=zH n;have Q:=zH o;by_cases G:a=d
 .subst G
  have a1:xs.length<=a:=oM;have a2:a<=xs.length:=oM;have a3:ys.length<=a:=oM;have a4:a<=ys.length:=oM;clear n o;go_enter Tryz.func86,Tryz.ntmps86;go_wp2;go_loopw [5] (fun i wr=>∃k q:Nat,k<=a/\i=niq ((k:Int)-1)/\Hid (xs.drop k=ys.drop k)/\Hid (wr=w.drewN q)) (fun i _=>(intOf i+1).toNat)
  case atStart=>exact⟨a,0,xgf _,rfl,by show _=_;rw[qX oM,qX oM],rfl⟩
  obtain⟨k,q,Y,rfl,g,f⟩:=hrel;cases k with
  | zero=>
   have E:Hid (decide (nat xs<nat ys)=false):=by
    have:xs=ys:=by simpa using g.out
    subst this;show _=_;simp
   go_wp2;go_ret;exact⟨by rw[E.out];rfl,_,f.out⟩
  | succ k=>
   obtain⟨b,N,x,rfl,S,a5,j,C⟩:=u.limb (k:=k) oM;obtain⟨J,O,y,rfl,T,a6,m,D⟩:=v.limb (k:=k) oM;have W:wr.cell? ⟨b,N+k,none⟩=some (.int .u32 (x:Nat)):=by rw[f.out];exact C
   have X:wr.cell? ⟨J,O+k,none⟩=some (.int .u32 (y:Nat)):=by rw[f.out];exact D
   have R:IntKind.i64.wrap ((k:Int)+1-1)=k:=by rw[yB _ oM];omega
   clear C D;by_cases H:x=y
   .subst H
    have I:Hid (xs.drop k=ys.drop k):=by
     show _=_;rw[yX (l:=xs) (i:=k) oM,yX (l:=ys) (i:=k) oM,g.out];have s:=j.out;have t:=m.out;rw[xgb,xga oM]at s t;simp at s t;rw[s,t]
    have B:((x:Int) !=x)=false:=by simp
    clear g j m;go_wp2;go_quiet (fail);go_wp2;go_roundw
    case rel=>exact⟨k,_,oM,by go_num,I,by show _=_;rw[f.out,jL]⟩
    case measure=>simp[intOf]
   have B:((x:Int) !=y)=true:=by simp;omega
   have E:Hid (decide (nat xs<nat ys)=decide (x<y)):=by
    show _=_;rcases jG H with h|h
    .have:=zM8 u.1 oM oM g.out j.out m.out h
     simp[this,h]
    have:=zM8 v.1 oM oM g.out.symm m.out j.out h;simp;constructor<;>intro<;>omega
   by_cases F:x<y
   .have K:decide ((x:Int)<(y:Int))=true:=by simp;omega
    have c:Hid (decide (nat xs<nat ys)=true):=by show _=_;rw[E.out];simp[F]
    go_wp2;go_quiet (fail);go_wp2;go_quiet (fail);go_wp2;go_ret;exact⟨by rw[c.out];rfl,_,by rw[f.out];simp only[World.drewN_drewN];rfl⟩
   have K:decide ((x:Int)<(y:Int))=false:=by simp;omega
   have c:Hid (decide (nat xs<nat ys)=false):=by show _=_;rw[E.out];simp[F]
   go_wp2;go_quiet (fail);go_wp2;go_quiet (fail);go_wp2;go_ret;exact⟨by rw[c.out];rfl,_,by rw[f.out];simp only[World.drewN_drewN];rfl⟩
 have B:((a:Int) !=d)=true:=by simp;omega
 rcases jG G with h|h
 .have c:Hid (decide (nat xs<nat ys)=true):=by
   have:=zJd u.1 M oM;show _=_;simp[this]
  clear n o;go_enter Tryz.func86,Tryz.ntmps86;go_wp2;go_ret;exact⟨by rw[c.out];first|rfl|(show Ending.returned (.bool (decide (a<d)))=_;first|rw[zT h]|rw[zR oM]),0,rfl⟩
 have c:Hid (decide (nat xs<nat ys)=false):=by
  have:=zJd v.1 L oM;show _=_;simp;omega
 clear n o;go_enter Tryz.func86,Tryz.ntmps86;go_wp2;go_ret;exact⟨by rw[c.out];first|rfl|(show Ending.returned (.bool (decide (a<d)))=_;first|rw[zT h]|rw[zR oM]),0,rfl⟩
def zKO(w:World)(n:Nat)(e:Ending)(w':World):Prop:=
 ∃ao len cap xs,e= .returned (.slice ao len cap)/\xs.length=len/\len<=cap/\cap<=9223372036854775807/\qF w' ao xs/\nat xs=n/\BWq w w'/\len<=8*LIM
theorem zGP(c:zs.length=k)(h:nat zs+d*B32^k=nat (xs.take k)+nat (ys.take k))(e:xs.getD k 0=x)(f:ys.getD k 0=y):
  nat (zs++ [(d+x+y)%4294967296])+(d+x+y)/4294967296*B32^(k+1)=nat (xs.take (k+1))+nat (ys.take (k+1)):=by
 have a:=zE3 (xs:=xs) (ys:=ys) (zs:=zs++ [0]) (k:=k) (d:=d) (x:=x) (y:=y) (by rw[jV oM,qN zs oM];exact h) (by simp;omega) e f;have b:(zs++ [0]).set k ((d+x+y)%4294967296)=zs++ [(d+x+y)%4294967296]:=by
  rw[zAk _ _ oM,c,zAu];rfl
 rw[b,qN _ (by simp;omega)]at a;exact a
theorem zE1(h:xs.length<=k):xs.getD k 0=0:=by rw[xgb,List.getElem?_eq_none h];rfl
theorem zHp.base_le{base:Nat}(h:zHp w base v xs):∀g,v.ownBlock=some g->base<=g:=fun g a=>(h.2.lt g a).1
theorem zON(E F:Option Addr)(j N h O:Nat)(xs ys:List Nat)(w:World)(I:xs.length=j)(J:ys.length=h)
  (Q:j<=4*LIM) (R:h<=4*LIM) (V:qF w E xs) (K:qF w F ys):
  CPq 133 #[.slice E j N,.slice F h O] w (zKO w (nat xs+nat ys)):=by
 have a0:=zH I;have a1:=zH J;have a4:xs.length<=j:=oM;have a5:j<=xs.length:=oM;have a6:ys.length<=h:=oM;have a7:h<=ys.length:=oM;clear I J;rw[zAd]at Q R;obtain⟨z,a8,a9,b0⟩:∃m,j<=m/\h<=m/\m<=4*1099511627776:=⟨max j h,oM,oM,oM⟩;go_enter Tryz.func133,Tryz.ntmps133;go_wp2;go_loopw [5,6,7] (fun v c i wr=>∃(k d:Nat) (zs:List Nat),k<=z+1/\i=niq k/\c= .int .u64 d/\d<=1/\k+d<=z+1/\zs.length<=z+1/\zHp wr w.heap.size v zs/\BWq w wr∧
   Hid (zs.length=k/\nat zs+d*B32^k=nat (xs.take k)+nat (ys.take k))) (fun _ _ i _=>z+1-(intOf i).toNat)
 case atStart=>exact⟨0,0,[],oM,rfl,rfl,oM,oM,by simp,zHp.empty w _ (xgf _),(zB _ _).alloc (xgf _) _,⟨rfl,by simp⟩⟩
 obtain⟨k,d,zs,hk,rfl,rfl,hd,a3,b6,f,a,e⟩:=hrel;have b5:zs.length<=k:=zBo e.out.1;by_cases h1:k<j
 .obtain⟨b,X,x,rfl,S,b4,t,H⟩:=V.limb (k:=k) oM
  have a2:=(a.cell (p:=⟨b,X+k,none⟩) S).trans H;clear H;by_cases P:k<h
  .obtain⟨A,C,y,rfl,B,W,l,u⟩:=K.limb (k:=k) oM
   have T:=(a.cell (p:=⟨A,C+k,none⟩) B).trans u;clear u;go_wp2_with (at_builtin;refine zM5 rfl _ _ rfl w.heap.size u5 zs rfl (f.alloc _) _ 1 _ [(d+x+y)%4294967296] rfl (qF.one _ ((d+x+y)%4294967296) (yE _ dE) _ (by first|rfl|omega|simp)) rfl oM (by have:=a.size;simp;omega) ?_;intro D s r q;have n:BWq w s:=(a.alloc a.size _).grown q (by have:=a.size;simp;omega) (fun g o=>f.base_le g o))
   go_roundw
   case rel=>exact⟨k+1,(d+x+y)/4294967296,zs++ [(d+x+y)%4294967296],oM,by go_num,by go_num,oM,oM,by simp;omega,r,n,⟨by simp[e.out.1],zGP e.out.1 e.out.2 t.out l.out⟩⟩
   case measure=>exact meq
  have l:Hid (ys.getD k 0=0):=zE1 oM;have b3:d+x+0=d+x:=rfl;go_wp2_with (at_builtin;refine zM5 rfl _ _ rfl w.heap.size u5 zs rfl (f.alloc _) _ 1 _ [(d+x+0)%4294967296] rfl (qF.one _ ((d+x+0)%4294967296) (yE _ dE) _ (by first|rfl|omega|simp)) rfl oM (by have:=a.size;simp;omega) ?_;intro D s r q;have n:BWq w s:=(a.alloc a.size _).grown q (by have:=a.size;simp;omega) (fun g o=>f.base_le g o))
  go_roundw
  case rel=>exact⟨k+1,(d+x+0)/4294967296,zs++ [(d+x+0)%4294967296],oM,by go_num,by go_num,oM,oM,by simp;omega,r,n,⟨by simp[e.out.1],zGP e.out.1 e.out.2 t.out l.out⟩⟩
  case measure=>exact meq
 have t:Hid (xs.getD k 0=0):=zE1 oM;by_cases P:k<h
 .obtain⟨A,C,y,rfl,B,W,l,u⟩:=K.limb (k:=k) oM
  have T:=(a.cell (p:=⟨A,C+k,none⟩) B).trans u;clear u;go_wp2_with (at_builtin;refine zM5 rfl _ _ rfl w.heap.size u5 zs rfl (f.alloc _) _ 1 _ [(d+0+y)%4294967296] rfl (qF.one _ ((d+0+y)%4294967296) (yE _ dE) _ (by first|rfl|omega|simp)) rfl oM (by have:=a.size;simp;omega) ?_;intro D s r q;have n:BWq w s:=(a.alloc a.size _).grown q (by have:=a.size;simp;omega) (fun g o=>f.base_le g o))
  go_roundw
  case rel=>exact⟨k+1,(d+0+y)/4294967296,zs++ [(d+0+y)%4294967296],oM,by go_num,by go_num,oM,oM,by simp;omega,r,n,⟨by simp[e.out.1],zGP e.out.1 e.out.2 t.out l.out⟩⟩
  case measure=>exact meq
 have l:Hid (ys.getD k 0=0):=zE1 oM;by_cases h3:0<d
 .
  go_wp2_with (at_builtin;refine zM5 rfl _ _ rfl w.heap.size u5 zs rfl (f.alloc _) _ 1 _ [(d+0+0)%4294967296] rfl (qF.one _ ((d+0+0)%4294967296) (yE _ dE) _ (by first|rfl|omega|simp)) rfl oM (by have:=a.size;simp;omega) ?_;intro D s r q;have n:BWq w s:=(a.alloc a.size _).grown q (by have:=a.size;simp;omega) (fun g o=>f.base_le g o))
  go_roundw
  case rel=>exact⟨k+1,(d+0+0)/4294967296,zs++ [(d+0+0)%4294967296],oM,by go_num,by go_num,oM,oM,by simp;omega,r,n,⟨by simp[e.out.1],zGP e.out.1 e.out.2 t.out l.out⟩⟩
  case measure=>exact meq
 obtain rfl:0=d:=oM;go_wp2;go_ret;obtain⟨L,M,U,Y,Z,q3⟩:=f.at_;have G:=e.out.2;rw[jZ,jJ,qN xs oM,qN ys oM]at G;exact⟨L,_,M,zs,by rw[U];rfl,rfl,Y,Z,q3,G,a,by rw[zAd];omega⟩
theorem zFN{v e:Nat}(c:zs.length=k)(h:nat zs+nat (ys.take k)=nat (xs.take k)+d*B32^k)(f:xs.getD k 0=x)(g:ys.getD k 0=y)(hv:v+y+d=x+e*4294967296):
  nat (zs++ [v])+nat (ys.take (k+1))=nat (xs.take (k+1))+e*B32^(k+1):=by
 have a:=zGq (xs:=xs) (ys:=ys) (zs:=zs++ [0]) (k:=k) (d:=d) (x:=x) (y:=y) (v:=v) (e:=e) (by rw[jV oM,qN zs oM];exact h) (by simp;omega) f g hv;have b:(zs++ [0]).set k v=zs++ [v]:=by
  rw[zAk _ _ oM,c,zAu];rfl
 rw[b,qN _ (by simp;omega)]at a;exact a
theorem zII(u z:Option Addr)(f K p L:Nat)(xs ys:List Nat)(w:World)(D:xs.length=f)(E:ys.length=p)
  (N:f<=4*LIM) (S:qF w u xs) (T:qF w z ys) (a3:p<=f) (F:nat ys<=nat xs):
  CPq 134 #[.slice u f K,.slice z p L] w (zKO w (nat xs-nat ys)):=by
 have Z:=zH D;have a0:=zH E;have G:=zH F;have a4:xs.length<=f:=oM;have a5:f<=xs.length:=oM;have a6:ys.length<=p:=oM;have a7:p<=ys.length:=oM;clear D E F;rw[zAd]at N;go_enter Tryz.func134,Tryz.ntmps134;go_wp2;go_loopw [5,6,7] (fun v c i wr=>∃(k d:Nat) (zs:List Nat),k<=f/\i=niq k/\c=niq d/\d<=1/\zHp wr w.heap.size v zs/\BWq w wr∧
   Hid (zs.length=k/\nat zs+nat (ys.take k)=nat (xs.take k)+d*B32^k)) (fun _ _ i _=>f-(intOf i).toNat)
 case atStart=>exact⟨0,0,[],oM,rfl,rfl,oM,zHp.empty w _ (xgf _),(zB _ _).alloc (xgf _) _,⟨rfl,by simp⟩⟩
 obtain⟨k,d,zs,hk,rfl,rfl,hd,h,a,e⟩:=hrel;have b0:zs.length<=k:=zBo e.out.1;by_cases h1:k<f
 .obtain⟨b,U,x,rfl,O,a8,r,B⟩:=S.limb (k:=k) oM
  have a1:=(a.cell (p:=⟨b,U+k,none⟩) O).trans B;clear B;by_cases s:k<p
  .obtain⟨I,V,y,rfl,P,a9,q,C⟩:=T.limb (k:=k) oM
   have a2:=(a.cell (p:=⟨I,V+k,none⟩) P).trans C;clear C;by_cases Q:y+d<=x
   .
    go_wp2_with (at_builtin;refine zM5 rfl _ _ rfl w.heap.size u5 zs rfl (h.alloc _) _ 1 _ [(x-d-y)] rfl (qF.one _ ((x-d-y)) oM _ (by first|rfl|omega|(rw[zAg];omega))) rfl oM (by have:=a.size;simp;omega) ?_;intro t o n m;have j:BWq w o:=(a.alloc a.size _).grown m (by have:=a.size;simp;omega) (fun g l=>h.base_le g l))
    go_roundw
    case rel=>exact⟨k+1,0,zs++ [(x-d-y)],oM,by go_num,rfl,oM,n,j,⟨by simp[e.out.1],zFN e.out.1 e.out.2 r.out q.out oM⟩⟩
    case measure=>exact meq
   go_wp2_with (at_builtin;refine zM5 rfl _ _ rfl w.heap.size u5 zs rfl (h.alloc _) _ 1 _ [(x+4294967296-d-y)] rfl (qF.one _ ((x+4294967296-d-y)) oM _ (by first|rfl|omega|(rw[zAg];omega))) rfl oM (by have:=a.size;simp;omega) ?_;intro t o n m;have j:BWq w o:=(a.alloc a.size _).grown m (by have:=a.size;simp;omega) (fun g l=>h.base_le g l))
   go_roundw
   case rel=>exact⟨k+1,1,zs++ [(x+4294967296-d-y)],oM,by go_num,rfl,oM,n,j,⟨by simp[e.out.1],zFN e.out.1 e.out.2 r.out q.out oM⟩⟩
   case measure=>exact meq
  have q:Hid (ys.getD k 0=0):=zE1 oM;by_cases Q:d<=x
  .
   go_wp2_with (at_builtin;refine zM5 rfl _ _ rfl w.heap.size u5 zs rfl (h.alloc _) _ 1 _ [(x-d)] rfl (qF.one _ ((x-d)) oM _ (by first|rfl|omega|(rw[zAg];omega))) rfl oM (by have:=a.size;simp;omega) ?_;intro t o n m;have j:BWq w o:=(a.alloc a.size _).grown m (by have:=a.size;simp;omega) (fun g l=>h.base_le g l))
   go_roundw
   case rel=>exact⟨k+1,0,zs++ [(x-d)],oM,by go_num,rfl,oM,n,j,⟨by simp[e.out.1],zFN e.out.1 e.out.2 r.out q.out oM⟩⟩
   case measure=>exact meq
  go_wp2_with (at_builtin;refine zM5 rfl _ _ rfl w.heap.size u5 zs rfl (h.alloc _) _ 1 _ [(x+4294967296-d)] rfl (qF.one _ ((x+4294967296-d)) oM _ (by first|rfl|omega|(rw[zAg];omega))) rfl oM (by have:=a.size;simp;omega) ?_;intro t o n m;have j:BWq w o:=(a.alloc a.size _).grown m (by have:=a.size;simp;omega) (fun g l=>h.base_le g l))
  go_roundw
  case rel=>exact⟨k+1,1,zs++ [(x+4294967296-d)],oM,by go_num,rfl,oM,n,j,⟨by simp[e.out.1],zFN e.out.1 e.out.2 r.out q.out oM⟩⟩
  case measure=>exact meq
 obtain rfl:f=k:=oM;go_wp2;go_ret;obtain⟨H,J,R,W,X,Y⟩:=h.at_;have A:=e.out.2;rw[qN xs oM,qN ys oM]at A;have s:=zCY h.1;rw[e.out.1]at s;have h3:=G.out;refine⟨H,_,J,zs,by rw[R];rfl,rfl,W,X,Y,?_,a,by rw[zAd];omega⟩;generalize B32^f=b3 at A s;have M:d=0∨d=1:=oM;rcases M with rfl|rfl<;>omega
theorem zE6(v1 v2:Value)(Y Z:Int)(w:World)(R:yA w v1 Y)(S:yA w v2 Z)(s1:Sm Y)(s2:Sm Z):
  CPq 101 #[v1,v2] w (zBk w (Y+Z)):=by
 obtain⟨y,o,m,q,xs,rfl,a3,b2,a9,u,a0,j,b4,b6⟩:=R.len s1;obtain⟨V,p,n,r,ys,rfl,a4,b3,b0,x,a1,k,b5,b7⟩:=S.len s2;have s:=zH a3;have t:=zH a4;have W:=zH j;have X:=zH k;clear a3 a4 j k s1 s2 R S b4 b5;have a5:m<=4*LIM:=oM;have a6:n<=4*LIM:=oM;clear b6 b7;by_cases U:y=V
 .subst U
  go_enter Tryz.func101,Tryz.ntmps101;go_upto_region 1 with(fail)
  refine zE ?_;intro b F;obtain⟨c,C,D,A,a7⟩:=zBB F;have c1:=C.two;have d1:=D.two;go_wp2_with fail
  have l:=lx (nx c (dr b));go_region_held3 (fun a=>a.cell? ⟨w.heap.size,1,none⟩=some (.slice o m q)/\a.cell? ⟨w.heap.size+1,1,none⟩=some (.slice p n r)/\a.cell? ⟨w.heap.size,0,none⟩=some (.bool y))
   ((((try go_split_ands);(repeat' apply And.intro))<;>first|exact zBr (by assumption)|exact qK (by assumption) f|exact qK (by assumption) g|exact zCf (zCf (by assumption) oM) oM))
   (first
    |(go_at_call 133;refine(zON o p m q n r xs ys _ s.out t.out a5 a6 (u.ext l) (x.ext l)).mono ?_;rintro e w1 ⟨z,L,E,zs,rfl,j,k,H,I,J,f,K⟩;have B:=A.drew.I f)
    |(go_at_call 43;refine(zBQ z L E zs y _ j k H K I).mono ?_;rintro e w2 ⟨v,rfl,G,g⟩;have d:=B.I g;obtain⟨e1,e2,e3,e4⟩:=d.two;obtain⟨P,M,O,N,Q,rfl,i⟩:=G))
  go_wp2_with fail
  refine yS rfl rfl rfl (d.put2 _ _) ?_ (yM (yM (nx (nx (nx c (dr b)) f) g) oM 0 _) oM 1 _);refine yA.ext ?_ (d.lext2 dE _ _);rw[J]at i;rw[W.out,X.out,<-zQo];exact⟨P,M,O,N,Q,rfl,i⟩
 have b8:(y==V)=false:=by simpa using U
 have Hs:=zH U;clear U;have T:=fun a8 R S=>zHZ o p m q n r xs ys a8 s.out t.out b2 b3 a9 b0 R S a0 a1
 by_cases a2:nat xs<nat ys
 .rw[zT a2]at T
  go_enter Tryz.func101,Tryz.ntmps101;go_upto_region 1 with(fail)
  refine zE ?_;intro b F;obtain⟨c,C,D,A,a7⟩:=zBB F;have c1:=C.two;have d1:=D.two;go_wp2_with (go_at_call 86;refine(T _ (u.ext (lx c)) (x.ext (lx c))).mono ?_;rintro e a ⟨rfl,h,rfl⟩)
  have l:=lx (nx (nx c (drN b h)) (dr (b.drewN h)));go_region_held3 (fun a=>a.cell? ⟨w.heap.size,1,none⟩=some (.slice o m q)/\a.cell? ⟨w.heap.size+1,1,none⟩=some (.slice p n r)/\a.cell? ⟨(w.heap.size+1),0,none⟩=some (.bool V))
   ((((try go_split_ands);(repeat' apply And.intro))<;>first|exact zBr (by assumption)|exact qK (by assumption) f|exact qK (by assumption) g|exact zCf (zCf (by assumption) oM) oM))
   (first
    |(go_at_call 134;refine(zII p o n r m q ys xs _ t.out s.out a6 (x.ext l) (u.ext l) (by rw[<-s.out,<-t.out];exact zCV x.1 a0 oM) oM).mono ?_;rintro e w1 ⟨z,L,E,zs,rfl,j,k,H,I,J,f,K⟩;have B:=(A.drewN h).drew.I f)
    |(go_at_call 43;refine(zBQ z L E zs V _ j k H K I).mono ?_;rintro e w2 ⟨v,rfl,G,g⟩;have d:=B.I g;obtain⟨e1,e2,e3,e4⟩:=d.two;obtain⟨P,M,O,N,Q,rfl,i⟩:=G))
  go_wp2_with fail
  refine yS rfl rfl rfl (d.put2 _ _) ?_ (yM (yM (nx (nx (nx (nx c (drN b h)) (dr (b.drewN h))) f) g) oM 0 _) oM 1 _);refine yA.ext ?_ (d.lext2 dE _ _);rw[J]at i;rw[W.out,X.out,<-zNe Hs.out _ _ oM];exact⟨P,M,O,N,Q,rfl,i⟩
 rw[zR a2]at T;go_enter Tryz.func101,Tryz.ntmps101;go_upto_region 1 with(fail)
 refine zE ?_;intro b F;obtain⟨c,C,D,A,a7⟩:=zBB F;have c1:=C.two;have d1:=D.two;go_wp2_with (go_at_call 86;refine(T _ (u.ext (lx c)) (x.ext (lx c))).mono ?_;rintro e a ⟨rfl,h,rfl⟩)
 have l:=lx (nx (nx c (drN b h)) (dr (b.drewN h)));go_region_held3 (fun a=>a.cell? ⟨w.heap.size,1,none⟩=some (.slice o m q)/\a.cell? ⟨w.heap.size+1,1,none⟩=some (.slice p n r)/\a.cell? ⟨w.heap.size,0,none⟩=some (.bool y))
  ((((try go_split_ands);(repeat' apply And.intro))<;>first|exact zBr (by assumption)|exact qK (by assumption) f|exact qK (by assumption) g|exact zCf (zCf (by assumption) oM) oM))
  (first
   |(go_at_call 134;refine(zII o p m q n r xs ys _ s.out t.out a5 (u.ext l) (x.ext l) (by rw[<-s.out,<-t.out];exact zCV u.1 a1 oM) oM).mono ?_;rintro e w1 ⟨z,L,E,zs,rfl,j,k,H,I,J,f,K⟩;have B:=(A.drewN h).drew.I f)
   |(go_at_call 43;refine(zBQ z L E zs y _ j k H K I).mono ?_;rintro e w2 ⟨v,rfl,G,g⟩;have d:=B.I g;obtain⟨e1,e2,e3,e4⟩:=d.two;obtain⟨P,M,O,N,Q,rfl,i⟩:=G))
 go_wp2_with fail
 refine yS rfl rfl rfl (d.put2 _ _) ?_ (yM (yM (nx (nx (nx (nx c (drN b h)) (dr (b.drewN h))) f) g) oM 0 _) oM 1 _);refine yA.ext ?_ (d.lext2 dE _ _);rw[J]at i;rw[W.out,X.out,<-zNd Hs.out _ _ oM];exact⟨P,M,O,N,Q,rfl,i⟩
theorem Sm.neg(h:Sm z):Sm (-z):=by unfold Sm at h ⊢;rwa[qO]
theorem zIK(y z:Value)(g a:Int)(w:World)(b:yA w y g)(c:yA w z a)(x:Sm g)(m:Sm a):
  CPq 127 #[y,z] w (zBk w (g-a)):=by
 have A:=zH b;have B:=zH c;obtain⟨t,n,r,p,xs,rfl,-⟩:=b;obtain⟨u,o,s,q,ys,rfl,-⟩:=c;have J:=fun W h=>zE8 (.agg #[.bool u,.slice o s q]) a W h m
 have I:=fun v W b c=>zE6 (.agg #[.bool t,.slice n r p]) v g (-a) W b c x m.neg
 clear x m;go_enter Tryz.func127,Tryz.ntmps127;go_upto_region 1 with(fail)
 refine zE ?_;intro i H;obtain⟨k,E,F,C,a0⟩:=zBB H;have U:=E.two;have V:=F.two;have N:=lx (nx k (dr i));go_region_held3 (fun f=>f.cell? ⟨w.heap.size,0,none⟩=some (.bool t)/\f.cell? ⟨w.heap.size,1,none⟩=some (.slice n r p)/\f.cell? ⟨w.heap.size+1,0,none⟩=some (.bool u)/\f.cell? ⟨w.heap.size+1,1,none⟩=some (.slice o s q))
  ((((try go_split_ands);(repeat' apply And.intro))<;>first|exact zBr (by assumption)|exact qK (by assumption) d|exact qK (by assumption) l|exact zCf (zCf (by assumption) oM) oM))
  (first
   |(go_at_call 102;refine(J _ (B.out.J.ext N)).mono ?_;rintro e w1 ⟨S,rfl,M,d⟩;have D:=C.drew.I d;have G:=A.out.ext (lx (nx (nx k (dr i)) d)))
   |(go_at_call 101;refine(I S _ G M).mono ?_;rintro e w2 ⟨v,rfl,K,l⟩;have j:=D.I l;obtain⟨X,Y,Z,e4⟩:=j.two;obtain⟨R,O,Q,P,T,rfl,L⟩:=K))
 go_wp2_with fail
 refine yS rfl rfl rfl (j.put2 _ _) ?_ (yM (yM (nx (nx (nx k (dr i)) d) l) oM 0 _) oM 1 _);refine yA.ext ?_ (j.lext2 dE _ _);rw[Int.sub_eq_add_neg];exact⟨R,O,Q,P,T,rfl,L⟩
theorem zK1(j k:Value)(a b:Int)(w:World)(c:yA w j a)(d:yA w k b)(g:Sm a)(i:Sm b):
  CPq 91 #[j,k] w fun e w'=>e= .returned (niq (zAB a b))/\BWq w w':=by
 have l:=zH c;have m:=zH d;obtain⟨C,n,A,r,xs,rfl,-⟩:=c;obtain⟨D,o,B,s,ys,rfl,-⟩:=d;have y:=fun W c d=>zIK (.agg #[.bool C,.slice n A r]) (.agg #[.bool D,.slice o B s]) a b W c d g i
 have E:Hid (zAB (a-b) 0=zAB a b):=by
  rcases zAI a b with h|h|h
  show _=_;rw[zBb h,zBb oM];show _=_;rw[zCZ h,zCZ oM];show _=_;rw[zB0 h,zB0 oM]
 clear g i;go_enter Tryz.func91,Tryz.ntmps91;go_upto_region 1 with(fail)
 refine zE ?_;intro F t;obtain⟨f,p,q,I⟩:=jW t;have G:=p.two;have H:=q.two;go_wp2_with fail
 refine(y _ (l.out.ext (lx f)) (m.out.ext (lx f))).mono ?_;rintro e J ⟨v,rfl,z,u⟩;go_wp2_with fail
 refine(zDA v _ _ z).mono ?_;rintro e K ⟨rfl,x⟩;go_wp2_with fail
 go_ret;exact⟨by rw[<-E.out];rfl,nx (nx f u) x⟩
theorem zVv{a b:Bool}(h:sgn a m=sgn b n):m=n/\(m≠0->a=b):=by
 have c:=congrArg Int.natAbs h;rw[jA,jA]at c;subst c;refine⟨rfl,fun d=>?_⟩;cases a<;>cases b<;>simp at h ⊢<;>omega
theorem zOO(X Y:Value)(c d:Int)(w:World)(i:yA w X c)(j:yA w Y d):
  CPq 45 #[X,Y] w fun e w'=>e= .returned (.bool (decide (c=d)))/\BWq w w':=by
 obtain⟨x,A,T,D,xs,rfl,p,M,K,m,u,R,O⟩:=i;obtain⟨y,B,U,F,ys,rfl,q,N,L,n,v,S,P⟩:=j;have b:Hid (c=d↔(x=y/\¬ nat xs<nat ys/\¬ nat ys<nat xs)):=by
  show _↔_;rw[R,S];constructor
  .intro h
   obtain⟨I,J⟩:=zVv h;refine⟨?_,oM,oM⟩;by_cases H:nat xs=0
   .have Z:=(zF1 u).1 H
    have e2:=(zF1 v).1 oM;subst Z;subst e2;rw[O p.symm,P q.symm]
   exact J H
  rintro⟨I,J,h5⟩;rw[I,show nat xs=nat ys by omega]
 have l:=fun W i j=>zHZ A B T D U F xs ys W p q M N K L i j u v
 have o:=fun W i j=>zHZ B A U F T D ys xs W q p N M L K i j v u
 clear p q R S O P;by_cases r:x=y
 .subst r
  by_cases s:nat xs<nat ys
  .rw[zT s]at l
   have E:Hid (decide (c=d)=false):=by show _=_;rw[zR];rw[b.out];omega
   clear b;go_enter Tryz.func45,Tryz.ntmps45;go_upto_region 1 with(fail)
   refine zE ?_;intro z k;obtain⟨a,f,g,Q⟩:=jW k;have C:=f.two;have G:=g.two;go_wp2_with (go_at_call 86;refine(l _ (m.ext (lx a)) (n.ext (lx a))).mono ?_;rintro e w' ⟨rfl,V,rfl⟩)
   go_ret;exact⟨by rw[E.out];rfl,nx a (drN _ _)⟩
  rw[zR s]at l;by_cases t:nat ys<nat xs
  .rw[zT t]at o
   have E:Hid (decide (c=d)=false):=by show _=_;rw[zR];rw[b.out];omega
   clear b;go_enter Tryz.func45,Tryz.ntmps45;go_upto_region 1 with(fail)
   refine zE ?_;intro z k;obtain⟨a,f,g,Q⟩:=jW k;have C:=f.two;have G:=g.two;go_wp2_with fail
   refine(l _ (m.ext (lx a)) (n.ext (lx a))).mono ?_;rintro e w' ⟨rfl,V,rfl⟩;go_wp2_with fail
   refine(o _ (n.ext (lx (nx a (drN _ _)))) (m.ext (lx (nx a (drN _ _))))).mono ?_;rintro e w' ⟨rfl,a0,rfl⟩;go_wp2_with fail
   go_ret;exact⟨by rw[E.out];rfl,nx a (drN _ _)⟩
  rw[zR t]at o;have E:Hid (decide (c=d)=true):=by show _=_;rw[zT];rw[b.out];exact⟨rfl,s,t⟩
  clear b;go_enter Tryz.func45,Tryz.ntmps45;go_upto_region 1 with(fail)
  refine zE ?_;intro z k;obtain⟨a,f,g,Q⟩:=jW k;have C:=f.two;have G:=g.two;go_wp2_with fail
  refine(l _ (m.ext (lx a)) (n.ext (lx a))).mono ?_;rintro e w' ⟨rfl,V,rfl⟩;go_wp2_with fail
  refine(o _ (n.ext (lx (nx a (drN _ _)))) (m.ext (lx (nx a (drN _ _))))).mono ?_;rintro e w' ⟨rfl,a0,rfl⟩;go_wp2_with fail
  go_ret;exact⟨by rw[E.out];rfl,nx a (drN _ _)⟩
 have a1:(x==y)=false:=by simpa using r
 have E:Hid (decide (c=d)=false):=by show _=_;rw[zR];rw[b.out];intro h;exact r h.1
 clear b r;go_enter Tryz.func45,Tryz.ntmps45;go_wp2_with fail
 go_ret;exact⟨by rw[E.out];rfl,((zB _ _).alloc (xgf _) _).alloc sI _⟩
theorem zFj(m:Nat):nat (List.replicate m 0)=0:=by
 induction m with
 |zero=>rfl
 |succ m a=>rw[List.replicate_succ,zBR,a];rfl
theorem zHz(a:k<=zs.length)(h:nat zs<B32^k):nat (zs.drop k)=0:=by
 have b:=zCg zs k a;rcases qY (nat (zs.drop k))with h0|h0
 exact h0;have:=qJ (B32^k) h0;omega
theorem zH5(a:k<zs.length)(h:nat zs<B32^k):zs.getD k 0=0:=by
 have b:=zHz (zAc a) h;have c:=zCM zs k a;omega
theorem zUU{a:List Nat}(b:nat a=nat (xs.take i)*nat ys)(j:xs.getD i 0=x)(hd:zs.drop (i+k)=a.drop (i+k))(f:i+k<=zs.length)(g:i+k<=a.length)
  (h:nat (zs.take (i+k))+0*B32^(i+k)=nat (a.take (i+k))+x*B32^i*nat (ys.take k)) (e:ys.length<=k):nat zs=nat (xs.take (i+1))*nat ys:=by
 have c:=zCg zs (i+k) f;have d:=zCg a (i+k) g;rw[qN ys e,jZ,jJ]at h;rw[c,h,hd,yC,j,zS,<-b,d];omega
theorem zP9{a:Nat}(c:zAV xs)(d:zAV ys)(b:ys.length<=a):nat (xs.take i)*nat ys<B32^(i+a):=by
 have e:=zCY (c.take i);have f:=zCY d;have g:B32^(xs.take i).length<=B32^i:=zX zBj (by simp;omega);have h:B32^ys.length<=B32^a:=zX zBj b;rw[zAS];exact Nat.mul_lt_mul_of_lt_of_le oM oM (jH zBj)
theorem zB8(v1 v2:Value)(L M:Int)(w:World)(s:yA w v1 L)(t:yA w v2 M)(s1:Sm L)(s2:Sm M):CPq 41 #[v1,v2] w (zBk w (L*M)):=by
 obtain⟨e4,f0,d,f2,xs,rfl,a0,g8,f7,a4,f5,a8,d7,d9⟩:=s.len s1;obtain⟨e5,f1,a,f3,ys,rfl,a1,g9,f8,a5,f6,a9,d8,e0⟩:=t.len s2;have e8:=zH a0;have e9:=zH a1;have b0:=zH a8;have b3:=zH a9;have d0:xs.length<=d:=oM;have h3:d<=xs.length:=oM;have Z:ys.length<=a:=oM;have h4:a<=ys.length:=oM;clear a0 a1 a8 a9 s1 s2 s t d7 d8;rw[zAd]at d9 e0;have d6:=fun b4=>mkU ((d:Int)+a+1) (d+a+1) oM oM b4
 go_enter Tryz.func41,Tryz.ntmps41;go_upto_region 1 with(fail)
 refine zE ?_;intro h U;obtain⟨E,A,B,br,i0⟩:=zBB U;have o:=A.two;have q:=B.two;go_upto_block 0 with(fail)
 clear d6;refine zE ?_;intro N F;obtain⟨r,G⟩:∃b6,h.heap.size=b6:=⟨_,rfl⟩;have b8:zCG N r (List.replicate (d+a+1) 0):=by rw[F.out,<-G];exact zCG.made _ _
 have b7:BWq h N:=by rw[F.out];exact(zB _ _).alloc (xgf _) _
 have Y:h.heap.size<=r:=oM;have e2:=a4.ext (lx E);have e3:=a5.ext (lx E);rw[G];clear o q F U G;go_wp2;go_loopw [6] (fun I wr=>∃(i:Nat) (zs:List Nat),i<=d/\I= .int .i64 i/\zCG wr r zs/\BWq h wr/\d+a+1<=zs.length∧
   Hid (zs.length=d+a+1/\zAV zs/\nat zs=nat (xs.take i)*nat ys)) (fun I _=>d-(intOf I).toNat)
 case atStart=>exact⟨0,_,oM,rfl,b8,b7,by simp,⟨by simp,fun x hx=>by rw[List.eq_of_mem_replicate hx];exact zBj,by rw[zFj,zAW,nat_nil,jZ]⟩⟩
 obtain⟨i,n,hi,rfl,W,j,d5,f⟩:=hrel;obtain⟨wo,rfl⟩:∃wo:World,wo=wr:=⟨_,rfl⟩;obtain⟨o,O,P,Q⟩:=(A.I j).two;obtain⟨q,R,S,T⟩:=(B.I j).two;by_cases g4:i<d
 .obtain⟨b5,e6,x,rfl,b9,a6,HX,c5⟩:=e2.limb (k:=i) oM
  go_wp2;go_loopw [7,8] (fun cv J wr=>∃(k c:Nat) (zs:List Nat),k<=a+1/\J= .int .i64 k/\cv= .int .u64 c/\c<4294967296/\(k=a+1->c=0)/\zCG wr r zs/\BWq h wr/\d+a+1<=zs.length∧
    Hid (zs.length=d+a+1/\zAV zs/\zs.drop (i+k)=n.drop (i+k)/\nat (zs.take (i+k))+c*B32^(i+k)=nat (n.take (i+k))+x*B32^i*nat (ys.take k))) (fun _ J _=>a+1-(intOf J).toNat)
  case atStart=>exact⟨0,0,n,oM,rfl,rfl,oM,oM,W,j,d5,⟨f.out.1,f.out.2.1,rfl,by simp⟩⟩
  obtain⟨k,c,zs,hk,rfl,rfl,hc,g6,l,g,H,b⟩:=hrel;obtain⟨K,rfl⟩:∃K:World,K=wr:=⟨_,rfl⟩;clear o O P Q q R S T;obtain⟨o,O,P,Q⟩:=(A.I g).two;obtain⟨q,R,S,T⟩:=(B.I g).two;have f9:=(g.cell (p:=⟨b5,e6+i,none⟩) b9).trans c5;have g3:=l.frozen (i+k);by_cases c9:a<=k/\c=0
  .obtain⟨g5,rfl⟩:=c9
   have h9:¬ k<a:=oM;go_wp2;go_roundw
   case rel=>exact⟨i+1,zs,oM,by go_num,l,g,H,⟨b.out.1,b.out.2.1,zUU f.out.2.2 HX.out b.out.2.2.1 (by have:=b.out.1;omega) (by have:=f.out.1;omega) b.out.2.2.2 oM⟩⟩
   case measure=>exact meq
  obtain⟨z,e⟩:∃z,zs.getD (i+k) 0=z:=⟨_,rfl⟩;have i4:z<4294967296:=by rw[<-e];exact b.out.2.1.get _
  have c7:=l.cell (k:=i+k) oM;rw[e]at c7;have e:=zH e;by_cases g7:k<a
  .obtain⟨b2,e7,y,rfl,c0,a7,HY,X⟩:=e3.limb (k:=k) oM
   have g2:=(g.cell (p:=⟨b2,e7+k,none⟩) c0).trans X;clear X;have h6:=zGI a6 a7;obtain⟨h7,h8⟩:=zGJ a6 a7;go_wp2;have h5:c+(x*y+z)<18446744073709551616:=by generalize x*y=m at*;omega
   go_quiet (fail);have C:(((c+(x*y+z))/4294967296:Nat):Int)=((c:Int)+(z:Int)+(x:Int)*(y:Int))/4294967296:=by
    simp only[Int.natCast_ediv,Int.natCast_add,Int.natCast_mul];congr 1;omega
   have D:(((c+(x*y+z))%4294967296:Nat):Int)=((c:Int)+(z:Int)+(x:Int)*(y:Int))%4294967296:=by
    simp only[Int.natCast_emod,Int.natCast_add,Int.natCast_mul];congr 1;omega
   have c6:(c+(x*y+z))/4294967296<4294967296:=by generalize x*y=m at*;omega
   go_wp2;go_roundw
   case rel=>
    refine⟨k+1,(c+(x*y+z))/4294967296,zs.set (i+k) ((c+(x*y+z))%4294967296),oM,by go_num,by rw[C],c6,oM,zCG.set' (w:=K.drewN _) l _ _ _ (by rw[<-D]),(nx g (drN _ _)).setCell Y _,by simpa using H,
     ⟨by simpa using b.out.1,b.out.2.1.set _ _ (yE _ oM),?_,zG5 b.out.2.2.2 oM HY.out e.out ((zDq b.out.2.2.1 (xgf _)).symm.trans e.out)⟩⟩
    rw[show i+(k+1)=i+k+1 from rfl,zCw];exact zEz b.out.2.2.1
   case measure=>exact meq
  have g1:0<c:=oM;obtain rfl:a=k:=oM;go_wp2;have i3:z=0:=by
   have h0:=f.out.2.2;have s:nat n<B32^(i+a):=by
    rw[h0];exact zP9 a4.1 a5.1 Z
   have t:=zH5 (k:=i+a) oM s;rw[<-e.out];refine Eq.trans ?_ t;exact zDq b.out.2.2.1 (xgf _)
  have c8:(c+z)/4294967296=0:=oM;have C:(((c+z)/4294967296:Nat):Int)=((c:Int)+(z:Int))/4294967296:=by simp
  have D:(((c+z)%4294967296:Nat):Int)=((c:Int)+(z:Int))%4294967296:=by simp
  go_roundw
  case rel=>
   have a2:=zG5 b.out.2.2.2 oM (zE1 Z) e.out ((zDq b.out.2.2.1 (xgf _)).symm.trans e.out);rw[zBp,jC]at a2;refine⟨a+1,(c+z)/4294967296,zs.set (i+a) ((c+z)%4294967296),oM,by go_num,by rw[C],oM,fun _=>c8,l.set' _ _ _ (by rw[<-D]),g.setCell Y _,by simpa using H,
    ⟨by simpa using b.out.1,b.out.2.1.set _ _ (yE _ oM),?_,a2⟩⟩
   rw[show i+(a+1)=i+a+1 from rfl,zCw];exact zEz b.out.2.2.1
  case measure=>simp[intOf]
 obtain rfl:d=i:=oM;go_wp2_with fail
 refine(zBQ _ _ _ n (e4 !=e5) _ f.out.1 (xgf _) oM (by rw[zAd];omega) (W.at_ f.out.2.1)).mono ?_;rintro f4 w2 ⟨v,rfl,hv,V⟩;have u:=(br.I j).I V;have e1:=u.two;obtain⟨vn,va,vl,vc,vx,rfl,a3⟩:=hv;go_wp2_with fail
 refine yS rfl rfl rfl (u.put2 _ _) ?_ (yM (yM (nx (nx E j) V) oM 0 _) oM 1 _);refine yA.ext ?_ (u.lext2 dE _ _);rw[f.out.2.2,qN xs d0]at a3;rw[b0.out,b3.out,<-zQp];exact⟨vn,va,vl,vc,vx,rfl,a3⟩
theorem zIJ(l:Option Addr)(n z:Nat)(xs:List Nat)(d:Nat)(w:World)(q:xs.length=n)(A:n<=4*LIM)(j:qF w l xs)(o:0<d)(hd:d<4294967296):
  CPq 173 #[.slice l n z,.int .u32 (d:Nat)] w fun e w'=>
   ∃g f r,e= .returned (.tuple #[.slice (some ⟨g,0,none⟩) n n,.int .u32 (r:Nat)])/\zCG w' g f/\zAV f/\f.length=n/\r<d/\nat xs=nat f*d+r/\BWq w w':=by
 have I:=zH q;have C:xs.length<=n:=oM;have N:n<=xs.length:=oM;clear q;rw[zAd]at A;have E:=fun W=>mkU (n:Int) n oM oM W
 go_enter Tryz.func173,Tryz.ntmps173;go_wp2;clear E;go_loopw [7,8] (fun H i wr=>∃(k r:Nat) (zs:List Nat),k<=n/\i= .int .i64 ((k:Int)-1)/\H= .int .u64 r/\r<d/\zCG wr w.heap.size zs/\BWq w wr/\n<=zs.length∧
   Hid (zs.length=n/\zAV zs/\nat (xs.drop k)=nat (zs.drop k)*d+r)) (fun _ i _=>(intOf i+1).toNat)
 case atStart=>exact⟨n,0,List.replicate n 0,oM,by go_num,rfl,oM,zCG.made _ _,(zB _ _).alloc (xgf _) _,by simp,⟨by simp,fun x j=>by rw[List.eq_of_mem_replicate j];exact zBj,by rw[qX C,qX sI];simp⟩⟩
 obtain⟨k,r,zs,M,rfl,rfl,t,c,h,D,a⟩:=hrel;cases k with
 |zero=>
  go_wp2;go_ret2;refine⟨_,zs,r,by congr 3,c,a.out.2.1,a.out.1,t,by simpa using a.out.2.2,h⟩
 | succ k=>
  have L:=c.frozen k;obtain⟨b,G,x,rfl,B,O,y,m⟩:=j.limb (k:=k) oM;have J:=(h.cell (p:=⟨b,G+k,none⟩) B).trans m;have K:=c.cell (k:=k) oM;clear m;have s:(r*4294967296+x)/d<4294967296:=by
   rw[zA7 o];have:(r+1)*4294967296<=d*4294967296:=zK _ t;omega
  have F:(r*4294967296+x)%d<d:=yE _ o;have u:Hid (((r:Int)*4294967296+x)/d=(((r*4294967296+x)/d:Nat):Int)):=by show _=_;simp
  have v:Hid (((r:Int)*4294967296+x)%d=(((r*4294967296+x)%d:Nat):Int)):=by show _=_;simp
  go_wp2;go_roundw
  case rel=>exact⟨k,(r*4294967296+x)%d,zs.set k ((r*4294967296+x)/d),oM,by go_num,by rw[v.out],F,c.set' _ _ _ (by rw[u.out];exact zG8 _ s),h.setCell (xgf _) _,by simpa using D,
    ⟨by simpa using a.out.1,a.out.2.1.set _ _ s,zJL a.out.2.2 oM oM y.out⟩⟩
  case measure=>simp[intOf]
theorem zXS(j:xs.length=n+1)(k:ys.length=n+1)(i:zAV ys)(g:xs.getD n 0=x)(h:ys.getD n 0=y):x/(y+1)*nat ys<=nat xs:=by
 have a:=yC xs n;have b:=yC ys n;rw[qN _ oM,g]at a;rw[qN _ oM,h]at b;have c:=zCY (i.take n);have d:(ys.take n).length=n:=by simp;omega
 rw[d]at c;have e:nat ys<=(y+1)*B32^n:=by rw[zS,yU];omega
 have f:x/(y+1)*(y+1)<=x:=Nat.div_mul_le_self _ _
 calc x/(y+1)*nat ys<=x/(y+1)*((y+1)*B32^n):=qA _ e
  _=x/(y+1)*(y+1)*B32^n:=by rw[zN]
  _<=x*B32^n:=zK _ f
  _<=nat xs:=oM
theorem zXT{a:Nat}(p:xs.length=m+k+2)(r:ys.length=m+1)(o:zAV ys)(j:xs.getD (m+k+1) 0=x)(l:xs.getD (m+k) 0=a)(n:ys.getD m 0=y):
  (x*4294967296+a)/(y+1)*B32^k*nat ys<=nat xs:=by
 have b:=yC xs (m+k+1);have c:=yC xs (m+k);have d:=yC ys m;rw[qN _ oM,j,c,l]at b;rw[qN _ oM,n]at d;have e:=zCY (o.take m);have f:(ys.take m).length=m:=by simp;omega
 rw[f]at e;have g:nat ys<=(y+1)*B32^m:=by rw[zS,yU];omega
 have h:(x*4294967296+a)/(y+1)*(y+1)<=x*4294967296+a:=Nat.div_mul_le_self _ _;have i:(x*4294967296+a)*B32^(m+k)<=nat xs:=by
  rw[zS,b,qE,<-zBV,zP (B32^_) B32,<-zN x];omega
 generalize (x*4294967296+a)/(y+1)=q at*
 calc q*B32^k*nat ys<=q*B32^k*((y+1)*B32^m):=qA _ g
  _=q*(y+1)*B32^(m+k):=by rw[zAS];simp only[Nat.mul_assoc,Nat.mul_comm,Nat.mul_left_comm]
  _<=(x*4294967296+a)*B32^(m+k):=zK _ h
  _<=nat xs:=i
theorem zT8(k q:Nat):nat (List.replicate k 0++ [q%4294967296,q/4294967296])=q*B32^k:=by
 rw[zEG,zFj,jC,List.length_replicate,zP];congr 1;simp[zBR,zBV];omega
theorem zHp.made0(w:World)(base k:Nat)(h:base<=w.heap.size)(b:k<=70368744177664):zHp (w.alloc (.cells (zBY (List.replicate k 0)) tU)) base (slq w.heap.size k k) (List.replicate k 0):=by
 refine⟨fun x a=>by rw[List.eq_of_mem_replicate a];exact zBj,?_⟩;have:=World.ownsRow_lit (base:=base) (e:=tU) (size:=1) w (zBY (List.replicate k 0)) k h (by simp[maxLen];omega) (by simp[zBY]);simpa[zBY]using this
theorem zGA{fn:Func}{a:Act}{w W:World}{z:Int}{r:Nat}{v:Array Value}{p:Tmp}{Q:Ending->World->Prop}(h:fn.results=#[.cell p 51])(hd:a.defers= [])
  (j:a.tmps.getD p undef=ptq r 0) (i:Blk W r 51 v) (hv:yA W (.agg v) z) (hbel:BWq w W) (g:∀e w',zBk w z e w'->Q e w'):bodyPost Tryz.prog fn Q .ret a W:=by
 obtain⟨neg,c,n,d,xs,b,f⟩:=hv;injection b with b
 subst b;exact bodyPost_ret (results_cell_row h _ W r _ _ _ _ j i Tryz.underlying51 rfl (by rw[zEU];rfl)) hd (g _ _ ⟨_,rfl,⟨neg,c,n,d,xs,rfl,f⟩,hbel⟩)
def zVB(w:World)(a b:Nat)(e:Ending)(w':World):Prop:=
 ∃v z,e= .returned v/\yA w' v (z:Nat)/\0<z/\z*b<=a/\BWq w w'
theorem zQS(N O:Option Addr)(b a5 a a6:Nat)(xs ys:List Nat)(w:World)(u:xs.length=b+1)(W:ys.length=a+1)
  (a8:b+1<=4*LIM) (Z:qF w N xs) (E:qF w O ys) (Q:zAL xs) (c3:a<=b) (Y:nat ys<=nat xs):
  CPq 174 #[.slice N (b+1) a5,.slice O (a+1) a6] w (zVB w (nat xs) (nat ys)):=by
 have K:=zH u;have L:=zH W;have HV:=zH Y;have c4:b+1<=xs.length:=oM;have c5:a+1<=ys.length:=oM;obtain⟨b1,a0,x,rfl,S,c8,r,T⟩:=Z.limb (k:=b) oM;obtain⟨b2,b8,y,rfl,a9,d2,M,V⟩:=E.limb (k:=a) oM;have d0:0<x:=by have:=Q b u;rw[r.out]at this;omega
 clear u W Y Q;rw[zAd]at a8;go_enter Tryz.func174,Tryz.ntmps174;go_upto_region 1 with(fail)
 refine zE ?_;intro c a7;obtain⟨h,s,c7⟩:=qL a7;have d1:=s.two;have c1:=(h.cell (p:=⟨b1,a0+b,none⟩) S).trans T;have c2:=(h.cell (p:=⟨b2,b8+a,none⟩) a9).trans V;clear T V;go_quiet (fail);by_cases hk:b=a
 .subst hk
  go_wp2_with fail
  have X:x/(y+1)<=x:=zAs _ _;have b5:wrap64 (max 1 (IntKind.u64.wrap ((x:Int)/((y:Int)+1))))=((max 1 (x/(y+1)):Nat):Int):=by
   rw[show(x:Int)/((y:Int)+1)=((x/(y+1):Nat):Int) by simp,zAF];generalize x/(y+1)=q at*;simp[wrap64];omega
  rw[b5];refine(zC2 _ _ oM oM).mono ?_;rintro e w2 ⟨v,rfl,C,i⟩;have d:=(s.drewN _).I i;obtain⟨e1,e2,f,t⟩:=d.two;obtain⟨I,F,H,G,J,rfl,D⟩:=C;go_wp2_with fail
  refine zGA rfl rfl rfl (d.put2 _ _) (hv:=yA.ext ⟨I,F,H,G,J,rfl,D⟩ (d.lext2 dE _ _)) (hbel:=yM (yM (nx (nx h (drN _ _)) i) oM 0 _) oM 1 _) ?_;rintro e o ⟨v,rfl,n,j⟩;refine⟨v,_,rfl,n,oM,?_,j⟩;rcases Nat.le_total 1 (x/(y+1))with h1|h1
  rw[Nat.max_eq_right h1];exact zXS K.out L.out E.1 r.out M.out;rw[Nat.max_eq_left h1,yU];exact HV.out
 obtain⟨k,rfl⟩:∃k,b=a+k+1:=⟨b-a-1,oM⟩;obtain⟨b3,d3,g,f,c0,c9,a1,U⟩:=Z.limb (k:=a+k) oM;injection f with f
 injection f with f t
 subst f;subst t;have U:=(h.cell (p:=⟨_,a0+(a+k),none⟩) S).trans U;go_wp2;have hd:Hid (((x:Int)*4294967296+g)/((y:Int)+1)=(((x*4294967296+g)/(y+1):Nat):Int)):=by
  show _=_;rw[Int.natCast_ediv,show((x*4294967296+g:Nat):Int)=(x:Int)*4294967296+g by omega,show((y+1:Nat):Int)=(y:Int)+1 by omega]
 have X:(x*4294967296+g)/(y+1)<18446744073709551616:=zM (zAs _ _) oM;go_quiet (fail);rw[hd.out];obtain⟨q,l⟩:∃q,(x*4294967296+g)/(y+1)=q:=⟨_,rfl⟩;rw[l];rw[l]at X;have HQ:=zH l;clear l hd;have c6:=fun a2=>mkU ((a:Int)+k+1+1-(a+1)-1) k oM oM a2
 have b7:0<q:=by
  rw[<-HQ.out];exact Nat.div_pos oM oM
 clear d1;go_wp2_with (at_builtin;refine zM5 rfl _ _ rfl c.heap.size (slq c.heap.size k k) (List.replicate k 0) rfl ?h1 _ 2 2 [q%4294967296,q/4294967296] rfl ?h2 rfl ?h3 ?h4 ?h5)
 case h1=>exact((zHp.made0 (c.drewN _) c.heap.size k (xgf _) oM).alloc _)
 case h2=>
  refine zP3 (m:=(q:Int)%4294967296) (k:=(q:Int)/4294967296) ?_ oM oM sI sI;exact(jW (w:=c.drewN _) (A:=zBY (List.replicate k 0)) (T1:=tU) (B:=#[.int .u32 ((q:Int)%4294967296),.int .u32 ((q:Int)/4294967296)]) (T2:=tU) (W0:=_) rfl).2.2.1
 case h3=>simp;omega
 case h4=>simp;omega
 intro v' o b6 b0;have R:BWq c o:=by
  refine Below.grown (w:=_) ?_ b0 (by simp;omega) (fun b9 hg=>by simp[Value.ownBlock]at hg;omega);exact((drN c _).alloc (xgf _) _).alloc sI _
 obtain⟨a3,a4,rfl,n,j,q3⟩:=b6.at_;go_wp2_with fail
 have b4:(List.replicate k 0++ [q%4294967296,q/4294967296]).length=k+2:=by simp
 have hz:=zT8 k q;generalize List.replicate k 0++ [q%4294967296,q/4294967296]=zs at*;have P:=zBQ a3 (k+2) a4 zs false o b4 oM j (by rw[zAd];omega) q3;rw[hz]at P;refine P.mono ?_;rintro e w2 ⟨v,rfl,C,i⟩;have d:=(s.I R).I i;obtain⟨e1,e2,f,t⟩:=d.two;obtain⟨I,F,H,G,J,rfl,D⟩:=C;go_wp2_with fail
 refine zGA (z:=((q*B32^k:Nat):Int)) rfl rfl rfl (d.put2 _ _) (hv:=yA.ext ⟨I,F,H,G,J,rfl,D⟩ (d.lext2 dE _ _)) (hbel:=yM (yM (nx (nx h R) i) oM 0 _) oM 1 _) ?_;rintro e o ⟨v,rfl,n,j⟩;exact⟨v,_,rfl,n,zDF b7 (jH zBj),by rw[<-HQ.out];exact zXT K.out L.out E.1 r.out a1.out M.out,j⟩
end Go.Proofs.YtniiekppgdkknaaGreat
