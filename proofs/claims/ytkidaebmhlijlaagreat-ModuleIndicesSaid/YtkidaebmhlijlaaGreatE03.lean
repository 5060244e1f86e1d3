/- Joined. -/
import Derived.Shelf.Small.Bits
import Derived.Ground.Names2Prog
import Derived.StillTail
import Derived.Test.YtkidaebmhlijlaaGreatE01
set_option linter.unusedVariables false
set_option linter.unusedSimpArgs false
set_option linter.unusedSectionVars false
set_option maxHeartbeats 16000000
set_option maxRecDepth 100000
variable{L:Array Bool}{ms rr rs us vs xs zs:List Nat}{P Q R U V b c d e g i j k n off q r x:Nat}{o:Go.Oper}{p s u:Prop}{a w:Go.World}
namespace Go.Proofs.YtkidaebmhlijlaaGreat
open Go.RowKit
theorem zIe(n:Nat)(h:n<4294967296):IntKind.u32.wrap (n:Int)=n:=by rw[zBD];omega
theorem zQR(a b:Nat)(c:b<4294967296):a*4294967296|||b=a*4294967296+b:=by
 have h:=Nat.shiftLeft_add_eq_or_of_lt (i:=32) (show b<2^32 from c) a;rw[Nat.shiftLeft_eq]at h;exact h.symm
theorem zQS(a b:Nat)(d:a<4294967296)(c:b<4294967296):bits BinOp.or IntKind.u64 ((a:Int)*4294967296) (b:Int)=((a*4294967296+b:Nat):Int):=by
 have h:=u64_or_nat (a*4294967296) b oM oM;rw[zQR a b c]at h;rw[<-h];simp
theorem zC7(xs:List Nat)(k:Nat)(h:k<xs.length):nat (xs.drop k)=xs.getD k 0+B32*nat (xs.drop (k+1)):=by
 rw[jV h,zBp,xgb,xga h];rfl
theorem zLn(h:nat (xs.drop (k+1))=nat (zs.drop (k+1))*d+r)(b:k<xs.length)(a:k<zs.length)(c:xs.getD k 0=x):
  nat (xs.drop k)=nat ((zs.set k ((r*4294967296+x)/d)).drop k)*d+(r*4294967296+x)%d:=by
 rw[zC7 xs k b,zC7 _ k (by simpa using a),c,h,zDr,xgb,List.getElem?_set_self a,zB5];simp only[Option.getD_some];have e:=zAI (r*4294967296+x) d;generalize (r*4294967296+x)/d=q at*;generalize (r*4294967296+x)%d=s at*;generalize nat (List.drop (k+1) zs)=z at*;rw[zW,zN q d,zAH,zE];omega
theorem zUo(l:Option Addr)(n z:Nat)(xs:List Nat)(d:Nat)(w:World)(q:xs.length=n)(A:n<=4*LIM)(j:qW w l xs)(o:0<d)(hd:d<4294967296):
  CPq 206 #[.slice l n z,.int .u32 (d:Nat)] w fun e w'=>
   ∃g f r,e= .returned (.tuple #[.slice (some ⟨g,0,none⟩) n n,.int .u32 (r:Nat)])/\zC1 w' g f/\zA3 f/\f.length=n/\r<d/\nat xs=nat f*d+r/\BWq w w':=by
 have I:=zJ q;have C:xs.length<=n:=oM;have O:n<=xs.length:=oM;clear q;rw[zBf]at A;have E:=fun W=>mkU (n:Int) n oM oM W
 go_enter Tryz.func206,Tryz.ntmps206;go_wp2;clear E;go_loopw [7,8] (fun H i wr=>∃(k r:Nat) (zs:List Nat),k<=n/\i= .int .i64 ((k:Int)-1)/\H= .int .u64 r/\r<d/\zC1 wr w.heap.size zs/\BWq w wr/\n<=zs.length∧
   Hid (zs.length=n/\zA3 zs/\nat (xs.drop k)=nat (zs.drop k)*d+r)) (fun _ i _=>(intOf i+1).toNat)
 case atStart=>exact⟨n,0,List.replicate n 0,oM,by go_num,rfl,oM,zC1.made _ _,(zC _ _).alloc (xgf _) _,by simp,⟨by simp,fun x j=>by rw[List.eq_of_mem_replicate j];exact zCU,by rw[qP C,qP sI];simp⟩⟩
 obtain⟨k,r,zs,N,rfl,rfl,t,c,h,D,a⟩:=hrel;cases k with
 |zero=>
  go_wp2;go_ret2;refine⟨_,zs,r,by congr 3,c,a.out.2.1,a.out.1,t,by simpa using a.out.2.2,h⟩
 | succ k=>
  have M:=c.frozen k;obtain⟨b,off,x,rfl,B,G,y,m⟩:=j.limb (k:=k) oM;have K:=(h.cell (p:=⟨b,off+k,none⟩) B).trans m;have L:=c.cell (k:=k) oM;clear m;have J:=zQS r x oM G;have s:(r*4294967296+x)/d<4294967296:=by
   rw[zBn o];have:(r+1)*4294967296<=d*4294967296:=zP _ t;omega
  have F:(r*4294967296+x)%d<d:=yQ _ o;have u:Hid (((r:Int)*4294967296+x)/d=(((r*4294967296+x)/d:Nat):Int)):=by show _=_;simp
  have v:Hid (((r:Int)*4294967296+x)%d=(((r*4294967296+x)%d:Nat):Int)):=by show _=_;simp
  go_wp2;go_roundw
  case rel=>exact⟨k,(r*4294967296+x)%d,zs.set k ((r*4294967296+x)/d),oM,by go_num,by rw[v.out],F,c.set' _ _ _ (by rw[u.out];exact zIe _ s),h.setCell (xgf _) _,by simpa using D,
    ⟨by simpa using a.out.1,a.out.2.1.set _ _ s,zLn a.out.2.2 oM oM y.out⟩⟩
  case measure=>simp[intOf]
open Go.Shelf
def Tryz.lays128_ren:Go.Shelf.Ren:=⟨fun|128=>212|n=>n,fun|51=>113|3=>3|4=>4|46=>114|5=>5|9=>9|n=>n,fun|n=>n⟩
def Tryz.lays133_ren:Go.Shelf.Ren:=⟨fun|133=>207|128=>212|n=>n,fun|51=>113|3=>3|4=>4|46=>114|5=>5|9=>9|n=>n,fun|n=>n⟩
theorem Tryz.lays133:Go.Proofs.Lays.n133 Tryz.prog Tryz.lays133_ren:={
 mixed:=by kernel_rfl
 f128:=Tryz.func212.trans (congrArg some kR)
 f133:=Tryz.func207.trans (congrArg some kR)
 t3:=zDY
 a3:=Tryz.isAgg3
 z3:=Tryz.sizeOf3
 v3:=Tryz.zeroValue3
 t4:=Tryz.underlying4
 a4:=Tryz.isAgg4
 z4:=Tryz.sizeOf4
 v4:=Tryz.zeroValue4
 t5:=zDZ
 a5:=Tryz.isAgg5
 z5:=Tryz.sizeOf5
 v5:=Tryz.zeroValue5
 t9:=Tryz.underlying9
 a9:=Tryz.isAgg9
 z9:=Tryz.sizeOf9
 v9:=Tryz.zeroValue9
 t46:=Tryz.underlying114
 a46:=Tryz.isAgg114
 z46:=Tryz.sizeOf114
 v46:=Tryz.zeroValue114
 t51:=Tryz.underlying113
 a51:=Tryz.isAgg113
 z51:=Tryz.sizeOf113
 v51:=Tryz.zeroValue113}
theorem Tryz.bits_LeadingZeros32(x:Int)(w:World)(a:0<=x)(h1:x<=4294967295):
  CPq 207 #[.int .u32 x] w fun e w'=>e= .returned (niq (32-(Lib.bitLen x.toNat:Int)))/\w'=w:=Any.bits_LeadingZeros32 Tryz.lays133 x w a h1
theorem zGn:∀(f x:Nat),x<2^f->0<x->2^(Lib.bitLenAux f x-1)<=x/\x<2^Lib.bitLenAux f x/\0<Lib.bitLenAux f x
 |0,x,h,d=>by simp at h;omega
 | f+1,x,h,d=>by
  unfold Lib.bitLenAux;rw[zA oM];by_cases e:x/2=0
  .have:x=1:=oM
   subst this;cases f<;>simp[Lib.bitLenAux]
  obtain⟨a,b,c⟩:=zGn f (x/2) (by rw[qE]at h;omega) oM;generalize Lib.bitLenAux f (x/2)=m at*;obtain⟨m,rfl⟩:∃k,m=k+1:=⟨m-1,oM⟩;rw[show 1+(m+1)-1=m+1 by omega,show 1+(m+1)=m+1+1 by omega,qE,qE 2 (m+1)];simp only[Nat.add_sub_cancel]at a;omega
theorem zV7(x:Nat)(w:World)(d:0<x)(h1:x<4294967296):
  ∃s:Nat,s<32/\2147483648<=x*2^s/\x*2^s<4294967296/\∀w,CPq 207 #[.int .u32 (x:Nat)] w fun e w'=>e= .returned (niq (s:Nat))/\w=w':=by
 have g:=zGn 64 x oM d;obtain⟨a,b,c⟩:=g;have i:Lib.bitLen x<=32:=by
  unfold Lib.bitLen;rcases zK 32 (Lib.bitLenAux 64 x)with h|h
  .have:=zX (show 0<2 by omega) (show 32<=Lib.bitLenAux 64 x-1 by omega)
   omega
  exact h
 refine⟨32-Lib.bitLen x,?_,?_,?_,fun w=>(Tryz.bits_LeadingZeros32 (x:Int) w oM oM).mono fun e w' h=>⟨?_,h.2.symm⟩⟩;unfold Lib.bitLen;omega
 .unfold Lib.bitLen at*
  generalize Lib.bitLenAux 64 x=m at*;have:2^(m-1)*2^(32-m)=2^31:=by rw[<-yM];congr 1;omega
  have f:=zP (2^(32-m)) a;omega
 .unfold Lib.bitLen at*
  generalize Lib.bitLenAux 64 x=m at*;have:2^m*2^(32-m)=2^32:=by rw[<-yM];congr 1;omega
  have f:=(zCl (a:=2^(32-m)) (qG oM)).2 b;omega
 rw[h.1];simp only[Int.toNat_natCast];congr 2;omega
theorem zZx(d x s:Nat)(hd:d<2^s):d|||x*2^s=d+x*2^s:=by
 have h:=Nat.shiftLeft_add_eq_or_of_lt hd x;rw[Nat.shiftLeft_eq]at h;rw[Nat.or_comm,<-h,zDn]
theorem zQj{s:Nat}(b:x<4294967296)(a:s<32):x*2^s<=4294967295*2^s/\4294967296*2^s<18446744073709551616:=by
 refine⟨zP _ oM,?_⟩;have:2^s<=2^31:=zX oM oM;omega
theorem zYf(d x s:Nat)(hd:d<2^s)(b:x<4294967296)(a:s<32):bits BinOp.or IntKind.u64 (d:Int) (IntKind.u64.wrap ((x:Int)*2^s))=((d+x*2^s:Nat):Int):=by
 obtain⟨c,f⟩:=zQj b a;have e:IntKind.u64.wrap ((x:Int)*2^s)=((x*2^s:Nat):Int):=by
  rw[zAp,show(x:Int)*2^s=((x*2^s:Nat):Int) by simp];generalize x*2^s=m at*;generalize 2^s=p at*;omega
 have h:=u64_or_nat d (x*2^s) (by generalize x*2^s=m at*;generalize 2^s=p at*;omega) (by generalize x*2^s=m at*;generalize 2^s=p at*;omega);rw[e,h,zZx d x s hd]
theorem zSC{p m:Nat}(h:nat (zs.take k)+d*B32^k=nat (xs.take k)*p)(c:k<zs.length)(g:xs.getD k 0=x)(f:d+x*p=m):
  nat ((zs.set k (m%4294967296)).take (k+1))+m/4294967296*B32^(k+1)=nat (xs.take (k+1))*p:=by
 rw[zCG _ _ _ c,yR xs,g,zW,<-h,qE,zB5];have e:=zAI m 4294967296;generalize m/4294967296=q at*;generalize m%4294967296=r at*;have a:x*4294967296^k*p=x*p*4294967296^k:=by simp only[Nat.mul_assoc,Nat.mul_comm,Nat.mul_left_comm]
 rw[a];generalize 4294967296^k=t at*;have b:(4294967296*q+r)*t=(d+x*p)*t:=by rw[e,f]
 rw[zW,zW,zN 4294967296 q,zE,zN 4294967296 t]at b;omega
theorem zN1(o:Option Addr)(n E:Nat)(xs:List Nat)(s:Nat)(w:World)(v:xs.length=n)(G:n<=4*LIM)(l:qW w o xs)(z:s<32):
  CPq 208 #[.slice o n E,.int .i64 (s:Nat)] w fun e w'=>
   ∃g zs,e= .returned (.slice (some ⟨g,0,none⟩) (n+1) (n+1))/\w.heap.size<=g/\zC1 w' g zs/\zA3 zs/\zs.length=n+1/\nat zs=nat xs*2^s/\BWq w w':=by
 have O:=zJ v;have T:xs.length<=n:=oM;have U:n<=xs.length:=oM;clear v;rw[zBf]at G;have J:=fun W=>mkU ((n:Int)+1) (n+1) oM oM W
 go_enter Tryz.func208,Tryz.ntmps208;go_wp2;clear J;go_loopw [6,15] (fun c i wr=>∃(k d:Nat) (zs:List Nat),k<=n/\i= .int .i64 k/\c= .int .u64 d/\d<4294967296/\zC1 wr w.heap.size zs/\BWq w wr/\n<zs.length∧
   Hid (zs.length=n+1/\zA3 zs/\d<2^s/\nat (zs.take k)+d*B32^k=nat (xs.take k)*2^s)) (fun _ i _=>n-(intOf i).toNat)
 case atStart=>exact⟨0,0,List.replicate (n+1) 0,oM,rfl,rfl,oM,zC1.made _ _,(zC _ _).alloc (xgf _) _,by simp,⟨by simp,fun x l=>by rw[List.eq_of_mem_replicate l];exact zCU,qG oM,by simp⟩⟩
 obtain⟨k,d,zs,R,rfl,rfl,hd,f,h,t,a⟩:=hrel;have Q:=f.frozen k;by_cases S:k<n
 .obtain⟨b,off,x,rfl,H,A,D,r⟩:=l.limb (k:=k) oM
  have P:=(h.cell (p:=⟨b,off+k,none⟩) H).trans r;have I:=f.cell (k:=k) oM;clear r;have L:=zYf d x s a.out.2.2.1 A z;obtain⟨M,N⟩:=zQj A z;obtain⟨m,j⟩:∃m,d+x*2^s=m:=⟨_,rfl⟩;rw[j]at L;have K:m<4294967296*2^s:=by have:=a.out.2.2.1;generalize x*2^s=y at*;generalize 2^s=p at*;omega
  have u:m/4294967296<2^s:=oM;have B:=zJ j;have C:=zJ u;have V:m<18446744073709551616:=by generalize 2^s=p at*;omega
  clear j K M N u;go_wp2;go_roundw
  case rel=>exact⟨k+1,m/4294967296,zs.set k (m%4294967296),oM,by go_num,by go_num,oM,f.set' _ _ _ (by simp[IntKind.wrap_u32]),h.setCell (xgf _) _,by simpa using t,
    ⟨by simpa using a.out.1,a.out.2.1.set _ _ (yQ _ oM),C.out,zSC a.out.2.2.2 oM D.out B.out⟩⟩
  case measure=>exact meq
 obtain rfl:n=k:=oM;have I:=f.cell (k:=n) oM;go_wp2;go_ret;have F:=a.out.2.2.2;have q:=zCG zs n d t;rw[qY _ (by simp[a.out.1]),F,qY xs oM]at q;exact⟨_,zs.set n d,rfl,xgf _,f.set' _ _ d (by simp[IntKind.wrap_u32]),a.out.2.1.set _ _ hd,by simpa using a.out.1,q,h.setCell (xgf _) _⟩
def seg(us:List Nat)(off k:Nat):List Nat:=(us.drop off).take k
theorem zLl(h:off+k<=us.length):(seg us off k).length=k:=by unfold seg;simp;omega
theorem zWc(h:off+k<us.length):seg us off (k+1)=seg us off k++ [us.getD (off+k) 0]:=by
 unfold seg;rw[zE9 _ _ (by simp;omega)];simp[xgb,List.getElem?_drop]
theorem zIq(h:off+k<us.length):nat (seg us off (k+1))=nat (seg us off k)+us.getD (off+k) 0*B32^k:=by
 rw[zWc h,zEY,zLl (by omega),zN]
theorem zA3.drop(h:zA3 xs)(k:Nat):zA3 (xs.drop k):=fun x a=>h x (List.mem_of_mem_drop a)
theorem zA3.seg(h:zA3 xs)(off k:Nat):zA3 (seg xs off k):=(h.drop off).take k
def put(us:List Nat)(off:Nat)(ms:List Nat):List Nat:=us.take off++ms++us.drop (off+ms.length)
theorem zFO(h:off+ms.length<=us.length):(put us off ms).length=us.length:=by unfold put;simp;omega
theorem zYi(us:List Nat)(off:Nat):put us off []=us:=by unfold put;simp
theorem zUL{v:Nat}(h:off+ms.length<us.length):(put us off ms).set (off+ms.length) v=put us off (ms++ [v]):=by
 unfold put;have a:(us.take off++ms).length=off+ms.length:=by simp;omega
 rw[zBI _ _ (by rw[a];omega),a,zAL,jV h];simp[Nat.add_assoc]
theorem zQY(h:off+ms.length<=us.length)(b:ms.length<=k):(put us off ms).getD (off+k) 0=us.getD (off+k) 0:=by
 unfold put;have a:(us.take off++ms).length=off+ms.length:=by simp;omega
 simp only[xgb];rw[List.getElem?_append_right (by rw[a];omega),a,List.getElem?_drop];congr 2;omega
theorem zPP(h:off+ms.length<=us.length)(b:k<ms.length):(put us off ms).getD (off+k) 0=ms.getD k 0:=by
 unfold put;have a:(us.take off).length=off:=by simp;omega
 simp only[xgb];rw[List.getElem?_append_left (by simp;omega),List.getElem?_append_right (by rw[a];omega),a];congr 2;omega
theorem zUK(h:zA3 us)(a:zA3 ms):zA3 (put us off ms):=((h.take off).append a).append (h.drop _)
theorem zRx{v:Nat}(h:off+ms.length<=us.length)(b:k<ms.length):(put us off ms).set (off+k) v=put us off (ms.set k v):=by
 unfold put;have a:(us.take off).length=off:=by simp;omega
 rw[List.set_append_left _ _ (by simp;omega),zBI _ _ (by rw[a];omega),a,zAo];simp
theorem zWI(hv:zA3 vs)(c:vs.length=n+2):
  ∃l,l<B32^n/\nat vs=(vs.getD (n+1) 0*B32+vs.getD n 0)*B32^n+l:=by
 refine⟨nat (vs.take n),?_,?_⟩;have:=zDO (hv.take n);rwa[qR,zA6 (by omega)]at this;have a:=yR vs (n+1);have b:=yR vs n;rw[qY vs (by omega),b,qE]at a;rw[a,zW,zE,zN B32 (B32^n)];omega
theorem zWJ(hv:zA3 us)(d:us.length=n+3):
  ∃l,l<B32^n/\nat us=((us.getD (n+2) 0*B32+us.getD (n+1) 0)*B32+us.getD n 0)*B32^n+l:=by
 refine⟨nat (us.take n),?_,?_⟩;have:=zDO (hv.take n);rwa[qR,zA6 (by omega)]at this;have a:=yR us (n+2);have b:=yR us (n+1);have c:=yR us n;rw[qY us (by omega),b,c]at a;rw[a,show B32^(n+2)=B32*(B32*B32^n) by rw[qE,qE,zN,zN (B32^n)],show B32^(n+1)=B32*B32^n by rw[qE,zN]];generalize B32^n=P;simp only[Nat.add_mul,Nat.mul_assoc];omega
theorem zYb(t B p:Nat):t*(B*p)=t*p*B:=by rw[zN B p,<-zE]
section
variable {U V Q h v2 u2 top p Ul Vl:Nat} (hU:U=(top*4294967296+u2)*p+Ul) (hV:V=(h*4294967296+v2)*p+Vl) (hp:0<p) (hUl:Ul<p) (hVl:Vl<p)
 (hu2:u2<4294967296) (hv2:v2<4294967296) (hh:2147483648<=h) (hh2:h<4294967296) (hQ:Q*V<=U) (hQB:Q<4294967296) (hUV:U<V*4294967296)
include hU hV hp hUl hVl hu2 hv2 hh hh2 hQ hQB hUV
omit hUl hu2 hh hh2 hQ hQB hUV in
theorem qAf(c:q*h+r=top)(e:r*4294967296+u2<q*v2)(d:Ul<p):U<q*V:=by
 have a:top*4294967296+u2+1<=q*(h*4294967296+v2):=by
  rw[<-c,zAH,zW,zE];omega
 have b:=zP p a;rw[hU,hV,zAH,<-zE];rw[zW _ 1 p]at b;omega
theorem zZm(a:q*h+r=top)(c:Q<=q)(hb:q>4294967295∨r*4294967296+u2<q*v2):Q<=q-1:=by
 rcases hb with hb|hb
 omega;have b:=qAf hU hV hp hVl hv2 a hb hUl;rcases zK Q q with h2|h2
 omega;have:=zP V h2;omega
theorem zYS:Q<=top/h:=by
 rw[Nat.le_div_iff_mul_le (by omega)];rcases zK top (Q*h)with a|a
 .exfalso
  have b:(top+1)*(4294967296*p)<=Q*h*(4294967296*p):=zP _ a;have c:Q*h*(4294967296*p)<=Q*V:=by
   rw[hV,zE];refine zG _ ?_;rw[zW,<-zE];omega
  have d:U<(top+1)*(4294967296*p):=by
   rw[hU,zW,zW,<-zE];have:(u2+1)*p<=4294967296*p:=zP _ hu2;rw[zW]at this;omega
  omega
 exact a
theorem zXQ:top<(h+1)*4294967296:=by
 rcases zK top ((h+1)*4294967296)with h1|h1
 exact h1;exfalso;have b:V<(h+1)*4294967296*p:=by
  rw[hV];have:(h*4294967296+v2+1)*p<=(h+1)*4294967296*p:=zP _ (by omega);rw[zW _ 1]at this;omega
 have a:=zP (4294967296*p) h1;have c:top*(4294967296*p)<=U:=by rw[hU,zW,<-zE,zER];exact zDX _ _
 rw[zYb]at a;have d:=zP 4294967296 (zAi b);exact absurd (zM hUV (zD d (zD a c))) (Nat.lt_irrefl _)
theorem zV5:top/h<=4294967297:=by
 have a:=zXQ hU hV hp hUl hVl hu2 hv2 hh hh2 hQ hQB hUV;have:top/h<4294967298:=by
  rw[zBn (by omega)];omega
 omega
theorem qAg(b:q*h+r=top)(g:q<4294967296)(f:q*v2<=r*4294967296+u2):q<=Q+1∨q*V<U+V:=by
 right;have a:q*(h*4294967296+v2)<=top*4294967296+u2:=by
  rw[<-b,zAH,zW,zE];omega
 have c:=zP p a;rw[hV,zAH,<-zE,hU];have d:q*Vl<=4294967295*p:=qO (by omega) (by omega);have e:4294967296*p<=h*4294967296*p:=zP _ (by omega);rw[zW (h*4294967296)];omega
theorem zYT(c:q*h+r=top)(d:4294967295<r):q<4294967296/\q*v2<=r*4294967296+u2:=by
 have b:=zXQ hU hV hp hUl hVl hu2 hv2 hh hh2 hQ hQB hUV;have a:q<4294967296:=by
  rcases zK q 4294967296 with h3|h3
  exact h3;have:=zP h h3;omega
 refine⟨a,?_⟩;have h3:q*v2<=4294967296*4294967296:=qO (by omega) (by omega);omega
end
theorem zTw{x e v b' c':Nat}(h:nat ms+q*nat (vs.take ms.length)=nat (seg us off ms.length)+(b+c)*B32^ms.length)(f:off+ms.length<us.length)
  (g:us.getD (off+ms.length) 0=x) (d:vs.getD ms.length 0=e) (hv:v+(c+q*e)+b=x+(b'+c')*4294967296):
  nat (ms++ [v])+q*nat (vs.take (ms.length+1))=nat (seg us off (ms.length+1))+(b'+c')*B32^(ms.length+1):=by
 rw[zEY,zIq f,yR,g,d,qE,zB5,zAH,<-zE q];rw[zB5]at h;generalize 4294967296^ms.length=p at*;have i:(v+(c+q*e)+b)*p=(x+(b'+c')*4294967296)*p:=by rw[hv]
 have a:(b'+c')*(p*4294967296)=(b'+c')*4294967296*p:=by rw[zE,zN p]
 rw[a,zN p v];simp only[Nat.add_mul]at*;omega
theorem zM1(h:nat rr+c*B32^rr.length=nat (ms.take rr.length)+nat (vs.take rr.length))(f:ms.getD rr.length 0=x)(d:vs.getD rr.length 0=e):
  nat (rr++ [(c+(x+e))%4294967296])+(c+(x+e))/4294967296*B32^(rr.length+1)=nat (ms.take (rr.length+1))+nat (vs.take (rr.length+1)):=by
 rw[zEY,yR,yR,f,d,qE,zB5];rw[zB5]at h;generalize 4294967296^rr.length=p at*;have a:=zAI (c+(x+e)) 4294967296;generalize (c+(x+e))/4294967296=q at*;generalize g:(c+(x+e))%4294967296=r at*;have b:(4294967296*q+r)*p=(c+(x+e))*p:=by rw[a]
 rw[zW,zN 4294967296 q,zE,zN 4294967296 p,zW,zW]at b;rw[zN p r];omega
theorem zNg(w:World)(g:Nat):w.grownBy w (some g):=⟨rfl,rfl,rfl,xgf _,fun _ _ _=>rfl⟩
theorem zHw(h:a.grownBy w (some g))(i:Nat)(u:Value):a.grownBy (w.setCell ⟨g,i,none⟩ u) (some g):=
 ⟨h.os,h.tape,h.output,by simpa[World.setCell]using h.size,fun k c b=>(yX w ⟨g,i,none⟩ u k (fun e=>b (by rw[e]))).trans (h.block k c b)⟩
theorem zRr(h:a.grownBy w (some g))(n:Nat):a.grownBy (w.drewN n) (some g):=⟨h.os,h.tape,h.output,h.size,h.block⟩
theorem zNf{o:Nat}{v:Value}(h:a.grownBy w (some g))(c:b≠g)(hc:a.cell? ⟨b,o,none⟩=some v):w.cell? ⟨b,o,none⟩=some v:=
 (World.cell?_of_block (w:=a) (h.block b (jU a _ hc) (fun e=>c (by injection e)))).trans hc
theorem zLb{b c:World}(h:a.grownBy b (some g))(k:b.grownBy c (some g)):a.grownBy c (some g):=
 ⟨k.os.trans h.os,k.tape.trans h.tape,k.output.trans h.output,zD h.size k.size,fun i d e=>(k.block i (zM d h.size) e).trans (h.block i d e)⟩
theorem zTs{v:Nat}(h:rr.length=k)(a:k<rs.length):(rr++rs.drop k).set k v=(rr++ [v])++rs.drop (k+1):=by
 rw[zBI _ _ oM,h,zAL,jV a,xgi];simp
theorem zYY(h:rr.length=k)(a:k<rs.length):(rr++rs.drop k).getD k 0=rs.getD k 0:=by
 simp only[xgb];rw[List.getElem?_append_right oM,h,zAL,List.getElem?_drop,zAK]
theorem zWt{a b d:Nat}(h1:a+c*P=d+V)(h2:d+P*b+(Q+1)*V=U+P*4294967296)(k:a<P)(j:V<P)(g:U<(Q+1)*V)(i:Q*V<=U)(h:b<4294967296)(hc:c<=1):
  b+c=4294967296/\U=Q*V+a:=by
 rw[zW,zAR]at h2 g;rcases(show c=0∨c=1 by omega)with rfl|rfl
 .exfalso
  have e:P*b+P<=P*4294967296:=by rw[<-Nat.mul_succ];exact zG P h
  omega
 rcases zK b 4294967295 with f|f
 .exfalso
  have e:P*b+P+P<=P*4294967296:=by
   have:=zG P (show b+2<=4294967296 by omega);rw[zAH]at this;omega
  omega
 obtain rfl:b=4294967295:=oM;exact⟨rfl,oM⟩
def zVT(w:World)(g off n:Nat)(ua vs:List Nat)(e:Ending)(w':World):Prop:=
 ∃(q:Nat) (rs:List Nat),e= .returned (.int .u32 (q:Nat))/\q<4294967296/\rs.length=n+1/\zA3 rs/\nat (seg ua off (n+1))=q*nat vs+nat rs/\nat rs<nat vs/\zC1 w' g (put ua off rs)/\w.grownBy w' (some g)
theorem zKY(x y d:Nat)(a:x<4294967296)(b:y<4294967296)(hd:d<=1):
  ∃v e:Nat,IntKind.u32.wrap (IntKind.u64.wrap (IntKind.u64.wrap ((x:Int)-y)-d))=v/\IntKind.u64.wrap (IntKind.u64.wrap ((x:Int)-y)-d)/9223372036854775808=e/\v<4294967296/\e<=1/\v+y+d=x+e*4294967296:=by
 simp only[IntKind.wrap_u64,IntKind.wrap_u32];by_cases h:y+d<=x
 .exact⟨x-y-d,0,oM,oM,oM,oM,oM⟩
 exact⟨x+4294967296-y-d,1,oM,oM,oM,oM,oM⟩
theorem zXv(m:Nat)(h:m<18446744073709551616):bits BinOp.and IntKind.u64 (m:Int) 4294967295=((m%4294967296:Nat):Int):=by
 have a:=u64_and_nat m 4294967295 h oM;have b:m &&& 4294967295=m%4294967296:=Nat.and_two_pow_sub_one_eq_mod m 32;rw[b]at a;exact a
theorem zYj(h1:R+q*V=U)(h2:U<(Q+1)*V)(a:Q<=q):R<V:=by
 have:Q*V<=q*V:=zP V a;rw[zW,zAR]at h2;omega
theorem qAn(h1:R+q*V=U+P)(c:R<P)(h2:U<(Q+1)*V)(b:Q*V<=U)(h4:q<=Q+1∨q*V<U+V):q=Q+1:=by
 have a:Q<q:=by
  rcases zK Q q with h|h
  exact h;have:=zP V h;omega
 rcases h4 with h4|h4
 omega;rcases zK (Q+1) q with h|h
 .have:=zP V h
  rw[zW (Q+1) 1,zAR]at this;omega
 omega
theorem zS6(g off l8 b2 c0 n l9:Nat)(j vs:List Nat)(w:World)(hU:zC1 w g j)(b8:zA3 j)(hv:qW w (some ⟨b2,c0,none⟩) vs)(i5:b2≠g)(hn:vs.length=n)(o5:2<=n)
  (o3:off+n<j.length) (hb:n<=4*LIM) (a9:2147483648<=vs.getD (n-1) 0) (hQ:nat (seg j off (n+1))<nat vs*4294967296):
  CPq 209 #[.slice (some ⟨g,off,none⟩) (n+1) l8,.slice (some ⟨b2,c0,none⟩) n l9] w (zVT w g off n j vs):=by
 have HN:=zJ hn;have K:=zJ hQ;have o4:n<=vs.length:=oM;have d2:∀k,k<n->w.cell? ⟨b2,c0+k,none⟩=some (.int .u32 (vs.getD k 0:Nat)):=fun k hk=>by
  obtain⟨b,o,z,_,G⟩:=hv.cell (k:=k) oM;injection z with z;injection z with z e3;subst z;subst e3
  exact G
 obtain⟨f,c1⟩:∃x,vs.getD (n-1) 0=x:=⟨_,rfl⟩;obtain⟨v2,c3⟩:∃x,vs.getD (n-2) 0=x:=⟨_,rfl⟩;obtain⟨X,c5⟩:∃x,j.getD (off+n) 0=x:=⟨_,rfl⟩;obtain⟨x1,c6⟩:∃x,j.getD (off+(n-1)) 0=x:=⟨_,rfl⟩;obtain⟨Y,c7⟩:∃x,j.getD (off+(n-2)) 0=x:=⟨_,rfl⟩;have f1:=d2 (n-1) oM;have f2:=d2 (n-2) oM;have f3:=hU.cell (k:=off+n) oM;have f4:=hU.cell (k:=off+(n-1)) oM;have f5:=hU.cell (k:=off+(n-2)) oM;have a8:f<4294967296:=by rw[<-c1];exact hv.1.get _
 have hv2:v2<4294967296:=by rw[<-c3];exact hv.1.get _
 have i7:X<4294967296:=by rw[<-c5];exact b8.get _
 have o1:x1<4294967296:=by rw[<-c6];exact b8.get _
 have b0:Y<4294967296:=by rw[<-c7];exact b8.get _
 rw[c1]at f1 a9;rw[c3]at f2;rw[c5]at f3;rw[c6]at f4;rw[c7]at f5;have l3:=zJ c1;have l4:=zJ c3;have d7:=zJ c5;have l5:=zJ c6;have l6:=zJ c7;have g7:=zJ d2;clear c1 c3 c5 c6 c7 hn d2 hQ;rw[zBf]at hb;obtain⟨top,g3⟩:∃t,X*4294967296+x1=t:=⟨_,rfl⟩;have eo:=zQS X x1 i7 o1;rw[g3]at eo;have o8:top<18446744073709551616:=oM;obtain⟨U,a0⟩:∃U,nat (seg j off (n+1))=U:=⟨_,rfl⟩;obtain⟨V,a6⟩:∃V,nat vs=V:=⟨_,rfl⟩;obtain⟨Q,c9⟩:∃Q,U/V=Q:=⟨_,rfl⟩;have h7:0<V:=by
  rcases qV V with h|h
  have:=K.out;rw[a0,a6,h]at this;omega;exact h
 have l7:∃p Ul Vl,U=(top*4294967296+Y)*p+Ul/\V=(f*4294967296+v2)*p+Vl/\0<p/\Ul<p/\Vl<p/\Q*V<=U/\Q<4294967296/\U<V*4294967296/\U<(Q+1)*V:=by
  obtain⟨m,rfl⟩:∃m,n=m+2:=⟨n-2,oM⟩;obtain⟨Vl,u,E⟩:=zWI hv.1 HN.out;obtain⟨Ul,H,L⟩:=zWJ (b8.seg off (m+2+1)) (zLl oM);have hg:∀k,k<m+3->(seg j off (m+2+1)).getD k 0=j.getD (off+k) 0:=fun k hk=>by
   unfold seg;simp only[xgb,List.getElem?_take,List.getElem?_drop];rw[zB oM]
  have a1:=l3.out;have a2:=l4.out;have a3:=d7.out;have a4:=l5.out;have a5:=l6.out;rw[show m+2-1=m+1 by omega]at a1 a4;rw[show m+2-2=m by omega]at a2 a5;rw[a6,a1,a2,zB5]at E;rw[a0,hg (m+2) oM,hg (m+1) oM,hg m oM,a3,a4,a5,zB5,g3]at L;refine⟨B32^m,Ul,Vl,L,E,qG zCU,H,u,?_,?_,?_,?_⟩;rw[<-c9];exact Nat.div_mul_le_self U V;rw[<-c9,zBn h7,zN];have:=K.out;rwa[a0,a6]at this;have:=K.out;rwa[a0,a6]at this;rw[<-c9,zW,zAR,zN];exact Nat.lt_mul_div_succ U h7
 obtain⟨p,Ul,Vl,k1,k2,k3,k4,k5,T,W,k8,k9⟩:=l7;have i9:=fun q r a b c=>zZm (q:=q) (r:=r) k1 k2 k3 k4 k5 b0 hv2 a9 a8 T W k8 a b c
 have l2:=fun q r a b=>zYT (q:=q) (r:=r) k1 k2 k3 k4 k5 b0 hv2 a9 a8 T W k8 a b
 have l1:=fun q r a b c=>qAg (q:=q) (r:=r) k1 k2 k3 k4 k5 b0 hv2 a9 a8 T W k8 a b c
 have l0:Hid (Q<=top/f):=zYS k1 k2 k3 k4 k5 b0 hv2 a9 a8 T W k8;have k0:top/f<=4294967297:=zV5 k1 k2 k3 k4 k5 b0 hv2 a9 a8 T W k8;have d9:=zJ i9;have e0:=zJ l2;have c8:=zJ l1;have Z:Hid (Q*V<=U/\Q<4294967296/\U<(Q+1)*V/\nat (seg j off (n+1))=U/\nat vs=V):=⟨T,W,k9,a0,a6⟩;clear i9 l2 l1 k1 k2 k3 k4 k5 T W k8 k9 a0 a6 c9 g3 K;have i1:IntKind.i64.wrap ((n:Int)-1)=(n:Int)-1:=yC _ oM;have i2:((n:Int)-1).toNat=n-1:=oM;have i3:(0:Int)<=(n:Int)-1:=oM;go_enter Tryz.func209,Tryz.ntmps209;go_wp2;go_quiet (fail);go_wp2;go_quiet (fail);go_upto_block 0 with(fail)
 clear i1 i2 i3 eo;go_cut [8] (fun qv wr=>∃q k:Nat,qv= .int .u64 q/\q<4294967296/\Hid (wr=w.drewN k)/\Hid (Q<=q/\(q<=Q+1∨q*V<U+V)))
 case first=>
  go_wp2;go_loopw [8,9] (fun qv rv wr=>∃q r k:Nat,qv= .int .u64 q/\rv= .int .u64 r/\q<=4294967297/\r<4294967296/\Hid (wr=w.drewN k)/\Hid (Q<=q/\q*f+r=top)) (fun qv _ _=>(intOf qv).toNat)
  case atStart=>
   refine⟨top/f,top%f,_,?_,?_,k0,?_,by show _=_;rw[zAS],l0.out,?_⟩
   .congr 1
    rw[show(top:Int)/(f:Int)=((top/f:Nat):Int) by simp,zAp];generalize top/f=t at k0;omega
   simp;exact Nat.lt_trans (yQ _ oM) a8;rw[zN];exact zAI _ _
  obtain⟨q,r,k,rfl,rfl,hq,hr,v,d⟩:=hrel;have g2:wr.cell? ⟨b2,c0+(n-2),none⟩=some (.int .u32 (v2:Nat)):=by rw[v.out];exact f2
  have g5:wr.cell? ⟨g,off+(n-2),none⟩=some (.int .u32 (Y:Nat)):=by rw[v.out];exact f5
  have i1:IntKind.i64.wrap ((n:Int)-2)=(n:Int)-2:=yC _ oM;have i2:((n:Int)-2).toNat=n-2:=oM;have i3:(0:Int)<=(n:Int)-2:=oM;by_cases m9:4294967295<q
  .have hd:decide ((4294967295:Int)<(q:Int))=true:=by simp;omega
   have b4:Hid (Q<=q-1):=d9.out q r d.out.2 d.out.1 (.inl m9);have O:Hid ((q-1)*f+(r+f)=top):=by
    have u:=d.out.2;show _=_;rw[Nat.sub_mul,zAR];have:f<=q*f:=qQ f oM;omega
   by_cases f8:4294967295<r+f
   .have N:Hid (q-1<4294967296/\(q-1)*v2<=(r+f)*4294967296+Y):=e0.out (q-1) (r+f) O.out f8
    have b5:Hid (q-1<=Q+1∨(q-1)*V<U+V):=c8.out (q-1) (r+f) O.out N.out.1 N.out.2;have e9:(4294967295:Int)<(r:Int)+(f:Int):=oM;go_wp2;go_quiet (fail);go_wp2;go_meet
    case rel=>exact⟨q-1,_,by go_num,N.out.1,by show _=_;rw[v.out,zAS],b4.out,b5.out⟩
   have e9:(r:Int)+(f:Int)<=4294967295:=oM;go_wp2;go_quiet (fail);go_wp2;go_roundw
   case rel=>exact⟨q-1,r+f,_,by go_num,by go_num,oM,oM,by show _=_;rw[v.out,zAS],b4.out,O.out⟩
   case measure=>exact meq
  have hd:decide ((4294967295:Int)<(q:Int))=false:=by simp;omega
  obtain⟨n7,n8⟩:=zHt (x:=q) oM hv2;have n6:=zHs (x:=q) oM hv2;have m0:=zQS r Y hr b0;obtain⟨t,ht⟩:∃t,r*4294967296+Y=t:=⟨_,rfl⟩;rw[ht]at m0;have HT:=zJ ht;clear ht;by_cases b7:t<q*v2
  .have n3:decide ((t:Int)<(q:Int)*(v2:Int))=true:=by simp;rw[<-yJ];omega
   have b4:Hid (Q<=q-1):=d9.out q r d.out.2 d.out.1 (.inr (by rw[HT.out];exact b7));have o6:0<q:=by
    rcases qV q with h|h
    rw[h]at b7;simp at b7;exact h
   clear b7;have O:Hid ((q-1)*f+(r+f)=top):=by
    have u:=d.out.2;show _=_;rw[Nat.sub_mul,zAR];have:f<=q*f:=qQ f oM;omega
   by_cases f8:4294967295<r+f
   .have N:Hid (q-1<4294967296/\(q-1)*v2<=(r+f)*4294967296+Y):=e0.out (q-1) (r+f) O.out f8
    have b5:Hid (q-1<=Q+1∨(q-1)*V<U+V):=c8.out (q-1) (r+f) O.out N.out.1 N.out.2;have e9:(4294967295:Int)<(r:Int)+(f:Int):=oM;go_wp2;go_quiet (fail);go_wp2;go_meet
    case rel=>exact⟨q-1,_,by go_num,N.out.1,by show _=_;rw[v.out,zAS],b4.out,b5.out⟩
   have e9:(r:Int)+(f:Int)<=4294967295:=oM;go_wp2;go_quiet (fail);go_wp2;go_roundw
   case rel=>exact⟨q-1,r+f,_,by go_num,by go_num,oM,oM,by show _=_;rw[v.out,zAS],b4.out,O.out⟩
   case measure=>exact meq
  have n3:decide ((t:Int)<(q:Int)*(v2:Int))=false:=by simp;rw[<-yJ];omega
  have b5:Hid (q<=Q+1∨q*V<U+V):=c8.out q r d.out.2 oM (by rw[HT.out];omega);clear b7;go_wp2;go_quiet (fail);go_wp2;go_meet
  case rel=>exact⟨q,_,rfl,oM,by show _=_;rw[v.out,zAS],d.out.1,b5.out⟩
 obtain⟨q,k,rfl,d6,v,K⟩:=hcut;have g0:Hid (∀k,k<n->wc.cell? ⟨b2,c0+k,none⟩=some (.int .u32 (vs.getD k 0:Nat))):=by rw[v.out];exact g7.out
 have m7:zC1 wc g j:=by rw[v.out];exact hU
 have g8:w.grownBy wc (some g):=by rw[v.out];exact zRr (zNg w g) k
 clear g7 v hU f1 f2 f3 f4 f5 d9 e0 c8 l0;obtain⟨w2,rfl⟩:∃w2:World,w2=wc:=⟨_,rfl⟩;go_wp2;go_loopw [10,11,76] (fun bv cv i wr=>∃(k b c:Nat) (ms:List Nat),k<=n/\i=niq k/\bv= .int .u64 b/\cv= .int .u64 c/\b<=1/\c<4294967296/\zC1 wr g (put j off ms)/\w2.grownBy wr (some g)∧
   Hid (ms.length=k/\zA3 ms/\nat ms+q*nat (vs.take k)=nat (seg j off k)+(b+c)*B32^k)) (fun _ _ i _=>n-(intOf i).toNat)
 case atStart=>exact⟨0,0,0,[],oM,rfl,rfl,rfl,oM,oM,by rw[zYi];exact m7,zNg _ _,⟨rfl,zA3.nil,by simp[seg]⟩⟩
 obtain⟨k,b,c,ms,hk,rfl,rfl,rfl,h8,n0,M,d4,d⟩:=hrel;obtain⟨ml,n9⟩:∃b9,ms.length=b9:=⟨_,rfl⟩;by_cases f7:k<n
 .have I:=M.cell (k:=off+k) (by rw[zFO (by rw[d.out.1];omega)];omega)
  rw[zQY (by rw[d.out.1];omega) (by rw[d.out.1];exact xgf _)]at I;have f0:=M.frozen (off+k);obtain⟨x,C⟩:∃x,j.getD (off+k) 0=x:=⟨_,rfl⟩;have i8:x<4294967296:=by rw[<-C];exact b8.get _
  rw[C]at I;have c4:=zJ C;clear C;have e8:=zNf d4 i5 (g0.out k f7);obtain⟨y,D⟩:∃y,vs.getD k 0=y:=⟨_,rfl⟩;have g4:y<4294967296:=by rw[<-D];exact hv.1.get _
  rw[D]at e8;have d8:=zJ D;clear D n9;obtain⟨n7,n8⟩:=zHt d6 g4;have n6:=zHs d6 g4;obtain⟨lo,d5⟩:∃b9,(c+q*y)%4294967296=b9:=⟨_,rfl⟩;obtain⟨cn,d1⟩:∃b9,(c+q*y)/4294967296=b9:=⟨_,rfl⟩;have ea:=zXv (c+q*y) (by generalize q*y=m at*;omega);rw[d5,zAX,yJ]at ea;have n5:lo<4294967296:=by rw[<-d5];exact yQ _ oM
  have i6:Hid (c+q*y=cn*4294967296+lo):=by
   have:=zAI (c+q*y) 4294967296;rw[d5,d1]at this;show _=_;omega
  have n2:cn<4294967296:=by rw[<-d1];generalize q*y=m at*;omega
  have EC:Hid (((c:Int)+(q:Int)*(y:Int))/4294967296=(cn:Int)):=by
   show _=_;rw[<-d1,<-yJ,<-zAX,Int.natCast_ediv];rfl
  clear d5 d1;go_wp2;go_roundw;obtain⟨b3,e,z,G,e3,e4,e5⟩:=zKY x lo b i8 n5 h8
  case rel=>
   have hp:=zUL (us:=j) (ms:=ms) (off:=off) (v:=b3) (by rw[d.out.1];omega);rw[d.out.1]at hp;refine⟨k+1,e,cn,ms++ [b3],oM,by go_num,by rw[G],by rw[EC.out],e4,n2,by rw[<-hp];exact M.set' _ _ b3 (by first|exact z|omega),zHw d4 _ _,⟨by simp[d.out.1],d.out.2.1.append (fun g6 A=>by simp at A;subst A;exact e3),?_⟩⟩;have b6:=zTw (us:=j) (ms:=ms) (vs:=vs) (off:=off) (q:=q) (b:=b) (c:=c) (x:=x) (e:=y) (v:=b3) (b':=e) (c':=cn) (by rw[d.out.1];exact d.out.2.2) (by rw[d.out.1];omega) (by rw[d.out.1];exact c4.out) (by rw[d.out.1];exact d8.out) (by rw[i6.out];omega);rw[d.out.1]at b6;exact b6
  case measure=>exact meq
 obtain rfl:n=k:=oM;have o0:(put j off ms).length=j.length:=zFO (by rw[d.out.1];omega);have I:=M.cell (k:=off+n) (by rw[o0];omega);rw[zQY (by rw[d.out.1];omega) (by rw[d.out.1];exact xgf _),d7.out]at I;have f0:=M.frozen (off+n);obtain⟨l,le,z,G,e3,e4,e5⟩:=zKY X c b i7 n0 h8;have hp:=zUL (us:=j) (ms:=ms) (off:=off) (v:=l) (by rw[d.out.1];omega);rw[d.out.1]at hp;have d3:Hid (nat (ms++ [l])+q*V=U+le*B32^(n+1)):=by
  obtain⟨u,E,H⟩:=d.out;obtain⟨S,j2,F,J,B⟩:=Z.out;rw[qY vs (zBT HN.out),B]at H;rw[<-J,zIq oM,d7.out];show _=_;rw[zEY,u,qE,zB5];rw[zB5]at H;have L:(l+c+b)*4294967296^n=(X+le*4294967296)*4294967296^n:=by rw[e5]
  generalize 4294967296^n=P at*;have h5:le*(P*4294967296)=le*4294967296*P:=by rw[zE,zN P]
  rw[h5,zN P l];simp only[Nat.add_mul]at*;omega
 have g1:zA3 (ms++ [l]):=d.out.2.1.append (fun g6 A=>by simp at A;subst A;exact e3);have R:(ms++ [l]).length=n+1:=by simp[d.out.1]
 have HP:=zJ hp;have m6:IntKind.u32.wrap (q:Int)=q:=zIe q d6;rcases(show le=0∨le=1 by omega)with e6|e6
 .subst e6
  have h9:Hid (nat (seg j off (n+1))=q*nat vs+nat (ms++ [l])/\nat (ms++ [l])<nat vs):=by
   obtain⟨S,j2,F,J,B⟩:=Z.out;have u:=d3.out;rw[zA8,zAK]at u;rw[J,B];exact⟨oM,zYj u F K.out.1⟩
  have h0:IntKind.u64.wrap (IntKind.u64.wrap ((X:Int)-c)-b)/9223372036854775808=0:=G;clear G hp d3;go_wp2;go_ret;exact⟨q,ms++ [l],by first|rfl|(rw[m6];rfl),d6,R,g1,h9.out.1,h9.out.2,by rw[<-HP.out];exact M.set' _ _ l (by first|exact z|omega|(simp only[IntKind.wrap_u32,IntKind.wrap_u64];omega)),zLb g8 (zHw d4 _ _)⟩
 subst e6;have h0:IntKind.u64.wrap (IntKind.u64.wrap ((X:Int)-c)-b)/9223372036854775808=1:=G;have f9:Hid (q=Q+1):=by
  obtain⟨S,j2,F,J,B⟩:=Z.out;have E:=zDO g1;rw[R]at E;have u:=d3.out;rw[zAR]at u;exact qAn u E F S K.out.2
 have o7:1<=q:=by rw[f9.out];omega
 clear G hp;go_wp2;refine zF ?_;intro W3 e7;have m8:zC1 W3 g (put j off (ms++ [l])):=by
  rw[e7.out,<-HP.out];exact M.set' _ _ l (by first|exact z|omega|(simp only[IntKind.wrap_u32,IntKind.wrap_u64];omega))
 have n4:w2.grownBy W3 (some g):=by rw[e7.out];exact zHw d4 _ _
 clear z h0 I f0 e7;go_loopw [11,128] (fun cv i wr=>∃(k c:Nat) (rr:List Nat),k<=n/\i=niq k/\cv= .int .u64 c/\c<=1/\zC1 wr g (put j off (rr++(ms++ [l]).drop k))/\w2.grownBy wr (some g)∧
   Hid (rr.length=k/\zA3 rr/\nat rr+c*B32^k=nat ((ms++ [l]).take k)+nat (vs.take k))) (fun _ i _=>n-(intOf i).toNat)
 case atStart=>exact⟨0,0,[],oM,rfl,rfl,oM,by simpa using m8,n4,⟨rfl,zA3.nil,by simp⟩⟩
 obtain⟨k,c2,rr,hk,rfl,rfl,n1,d0,f6,s⟩:=hrel;have a7:(rr++(ms++ [l]).drop k).length=n+1:=by rw[zAY,zBe,R,s.out.1];omega
 have i0:(put j off (rr++(ms++ [l]).drop k)).length=j.length:=zFO (by rw[a7];omega);have I:=d0.cell (k:=off+k) (by rw[i0];omega);rw[zPP (by rw[a7];omega) (by rw[a7];omega),zYY s.out.1 (by rw[R];omega)]at I;have f0:=d0.frozen (off+k);have i4:=fun b3=>zRx (us:=j) (ms:=rr++(ms++ [l]).drop k) (off:=off) (k:=k) (v:=b3) (by rw[a7];omega) (by rw[a7];omega)
 have g9:=zJ i4;clear i4;obtain⟨x,C⟩:∃x,(ms++ [l]).getD k 0=x:=⟨_,rfl⟩;have i8:x<4294967296:=by rw[<-C];exact g1.get _
 rw[C]at I;have c4:=zJ C;clear C a7 i0;by_cases f7:k<n
 .have e8:=zNf f6 i5 (g0.out k f7)
  obtain⟨y,D⟩:∃y,vs.getD k 0=y:=⟨_,rfl⟩;have g4:y<4294967296:=by rw[<-D];exact hv.1.get _
  rw[D]at e8;have d8:=zJ D;clear D;go_wp2;go_roundw
  case rel=>
   refine⟨k+1,(c2+(x+y))/4294967296,rr++ [(c2+(x+y))%4294967296],oM,by go_num,by go_num,oM,?_,zHw f6 _ _,⟨by simp[s.out.1],s.out.2.1.append (fun g6 A=>by simp at A;subst A;exact yQ _ dE),?_⟩⟩
   .rw[<-zTs s.out.1 (by rw[R];omega),<-g9.out]
    exact d0.set' _ _ _ sI
   have b6:=zM1 (ms:=ms++ [l]) (vs:=vs) (rr:=rr) (c:=c2) (x:=x) (e:=y) (by rw[s.out.1];exact s.out.2.2) (by rw[s.out.1];exact c4.out) (by rw[s.out.1];exact d8.out);rw[s.out.1]at b6;exact b6
  case measure=>exact meq
 obtain rfl:n=k:=oM;have o2:Hid (x=l):=by
  show _=_;rw[<-c4.out,xgb,List.getElem?_append_right (by rw[d.out.1];exact xgf _),d.out.1];simp
 obtain⟨i6,h6⟩:x+c2=4294967296/\U=Q*V+nat rr:=by
  obtain⟨S,j2,F,J,B⟩:=Z.out;have u:=s.out.2.2;rw[zAf (by rw[d.out.1];exact xgf _),qY ms (by rw[d.out.1];exact xgf _),qY vs (zBT HN.out),B]at u;have E:=d3.out;rw[zEY,d.out.1,zAR,f9.out,qE,zB5]at E;have H:=zDO s.out.2.1;rw[s.out.1]at H;have L:=zDO hv.1;rw[HN.out,B]at L;rw[o2.out];rw[zB5]at u H L;exact zWt u E H L F S e3 n1
 have HS:=zJ h6;have m5:IntKind.u32.wrap ((x:Int)+(c2:Int))=0:=by rw[zBD];omega
 clear h6;go_wp2;go_ret;refine⟨q-1,rr++ [0],?_,oM,by simp[s.out.1],s.out.2.1.append (fun g6 A=>by simp at A;subst A;exact zCU),?_,?_,?_,zLb g8 (zHw f6 _ _)⟩
 .show Ending.returned (.int .u32 ((q:Int)-1))=Ending.returned (.int .u32 ((q-1:Nat):Int))
  congr 2;omega
 .obtain⟨S,j2,F,J,B⟩:=Z.out
  rw[J,B,zEY,zCZ,zAK,HS.out,f9.out,Nat.add_sub_cancel]
 .obtain⟨S,j2,F,J,B⟩:=Z.out
  rw[zEY,zCZ,zAK,B];have:=HS.out;rw[zW,zAR]at F;omega
 have hm:=zTs (rr:=rr) (rs:=ms++ [l]) (k:=n) (v:=0) s.out.1 (by rw[R];omega);rw[qP (show(ms++ [l]).length<=n+1 by rw[R];exact xgf _),zBS]at hm;rw[<-hm,<-g9.out];exact d0.set' _ _ 0 (by first|rfl|exact m5|omega)
section
variable {P:Program} {ops:Array Oper} {Q:Exit->Act->World->Prop}
def zDM(ops:Array Oper):Bool:=(List.range ops.size).all fun i=>((ops[i]?).map (fun o=>o.after.all fun e=>!Region.binds .any e||decide (e.on<i))).getD true
theorem zEE(h:zDM ops=true)(b:ops[i]?=some o):∀e∈o.after,Region.binds .any e=true->e.on<i:=by
 intro e f d;have g:i<ops.size:=(Array.getElem?_eq_some_iff.1 b).1;have a:=zAB.1 h i (yP.2 g);rw[b]at a;have c:=Array.all_eq_true_iff_forall_mem.1 a e f;simpa[d]using c
theorem zFw(f:zDM ops=true)(m:L.size=ops.size)(k:Region.ready .any ops L= []):
  ∀i,i<ops.size->L[i]?=some true:=by
 intro i;induction i using Nat.strongRecOn with
 | ind i l=>
  intro b;have c:i<L.size:=by omega
  cases a:L[i]with
  |true=>rw[Array.getElem?_eq_getElem c,a]
  | false=>
   exfalso;have d:i∈Region.ready .any ops L:=by
    rw[mem_ready];refine⟨by simp[c,a],ops[i],Array.getElem?_eq_getElem b,?_⟩;intro e h g;have j:=zEE f (Array.getElem?_eq_getElem b) e h g;have:=l e.on j (by omega);simp[this]
   rw[k]at d;cases d
theorem zKz(b:L.size=n)(h:∀i,i<n->L[i]?=some true):L=Array.replicate n true:=by
 apply zCd;simp[b];intro i a c;have:=h i (by omega);rw[Array.getElem?_eq_getElem a]at this;simpa using this
def left(L:Array Bool):Nat:=L.toList.count false
theorem zMP(h:L[i]?=some false):left (L.setIfInBounds i true)+1=left L:=by
 unfold left;obtain⟨e,f⟩:=Array.getElem?_eq_some_iff.1 h;have a:i<L.toList.length:=by simpa using e
 rw[zA9,List.count_set a];have b:L.toList[i]=false:=by simpa using f
 have g:0<L.toList.count false:=List.count_pos_iff.2 (by rw[<-b];exact zAq a);have c:(L.toList[i]==false)=true:=by rw[b];rfl
 have d:(true==false)=false:=rfl;rw[c,d];simp only[if_true,Bool.false_eq_true,if_false];omega
def zDz(o:Oper)(k:Nat):Bool:=o.after.any fun e=>Region.binds .any e && e.on==k
def zAO(P:Program)(ops:Array Oper)(Q:Exit->Act->World->Prop)(ds:List Deferred)(I:Array Bool->Array Value->World->Prop)(i:Nat)(o:Oper):Prop:=
 ∀L T w,L[i]?=some false->(∀(k:Nat) (_:zDz o k=true:=by kernel_rfl),L[k]?=some true)->(∀(j:Nat) (o':Oper),ops[j]?=some o'->L[j]?=some true->∀k,zDz o' k=true->L[k]?=some true)->I L T w->∀K:Act->World->Prop,(∀T' w',I (L.setIfInBounds i true) T' w'->K ⟨T',ds⟩ w')->
   if Region.wanted o (yielded ops T)=true then Oper.wp P o ⟨T,ds⟩ w K Q else K ((⟨T,ds⟩:Act).put o.dst undef) w
theorem qI{T:Array Value}{A B:Prop}(h:Region.wanted o (yielded ops T)=true)(a:A):if Region.wanted o (yielded ops T)=true then A else B:=by
 rw[zB h];exact a
def zC2(ops:Array Oper)(L:Array Bool):Prop:=∀(j:Nat) (o':Oper),ops[j]?=some o'->L[j]?=some true->∀k,zDz o' k=true->L[k]?=some true
theorem zC2.start:zC2 ops (Array.replicate n false):=by
 intro j a _ h;rw[Array.getElem?_replicate]at h;split at h<;>simp at h
theorem zCK(h:L[j]?=some true):(L.setIfInBounds i true)[j]?=some true:=by
 by_cases e:i=j
 .subst e
  exact Array.getElem?_setIfInBounds_self_of_lt (Array.getElem?_eq_some_iff.1 h).1
 rw[xgc e];exact h
theorem zC2.set(h:zC2 ops L)(f:ops[i]?=some o)(hd:∀k,zDz o k=true->L[k]?=some true):zC2 ops (L.setIfInBounds i true):=by
 intro j d c a k b;by_cases e:i=j
 .subst e
  have:d=o:=qD (c.symm.trans f);subst this;exact zCK (hd k b)
 rw[xgc e]at a;exact zCK (h j d c a k b)
theorem zVJ{I:Array Bool->Array Value->World->Prop}{f:List Deferred}(q:zDM ops=true)
  (J:∀i o,ops[i]?=some o->zAO P ops Q f I i o)
  (u:∀T w,I (Array.replicate ops.size true) T w->Q .normal ⟨T,f⟩ w):
  ∀(c:Nat) (L:Array Bool) (T:Array Value) (w:World),L.size=ops.size->left L<=c->zC2 ops L->I L T w->wpAny P .any ops Q c L ⟨T,f⟩ w:=by
 intro c;induction c with
 | zero=>
  intro L T w d G l hI;have g:∀i,i<ops.size->L[i]?=some true:=by
   intro i v;have y:i<L.size:=by omega
   cases s:L[i]with
   |true=>rw[Array.getElem?_eq_getElem y,s]
   |false=>
    exfalso;have:=zMP (L:=L) (i:=i) (by rw[Array.getElem?_eq_getElem y,s]);omega
  have F:=zKz d g;refine⟨?_,u T w (F ▸ hI)⟩;cases m:Region.ready .any ops L with
  |nil=>rfl
  |cons x xs=>
   have A:x∈Region.ready .any ops L:=by rw[m];simp
   rw[mem_ready]at A;obtain⟨j,o,a,-⟩:=A;have K:x<ops.size:=(Array.getElem?_eq_some_iff.1 a).1;have:=g x K;simp[this]at j
 | succ c M=>
  intro L T w d G l hI;refine⟨fun m=>u T w (zKz d (zFw q d m) ▸ hI),?_⟩;intro i v;obtain⟨j,o,a,g⟩:=mem_ready.1 v;have O:i<ops.size:=(Array.getElem?_eq_some_iff.1 a).1;have z:i<L.size:=by omega
  have p:L[i]?=some false:=by
   rw[Array.getElem?_eq_getElem z];simpa[z]using j
  have t:∀k,zDz o k=true->L[k]?=some true:=by
   intro k b;unfold zDz at b;rw[<-zBC,zAz]at b;obtain⟨e,h,b⟩:=b;have h:=Array.mem_toList_iff.1 h;simp only[Bool.and_eq_true,beq_iff_eq]at b;obtain⟨r,H⟩:=b;subst H;have S:=zEE q a e h r;have D:=g e h r;have n:e.on<L.size:=by omega
   rw[Array.getElem?_eq_getElem n];simpa[n]using D
  have R:=zMP p;refine wpOp_step a (fun B hK=>?_);exact J i o a L T w p t l hI B (fun C N E=>hK ⟨C,f⟩ N (M _ _ _ (by simp[d]) (by omega) (l.set a t) E))
theorem zMs{id:Nat}{T0:Array Value}{a:List Deferred}{w:World}(e:P.follows .mixedOrders=true)(I:Array Bool->Array Value->World->Prop)(c:zDM ops=true)
  (b:I (Array.replicate ops.size false) T0 w.drew)
  (f:∀i o,ops[i]?=some o->zAO P ops Q a I i o)
  (d:∀T w,I (Array.replicate ops.size true) T w->Q .normal ⟨T,a⟩ w):(Code.region id ops true).wp P Q ⟨T0,a⟩ w:=
 wp_region_any e (zVJ c f d ops.size _ T0 _ (by simp) (by
  unfold left
  rw[Array.toList_replicate,zCi]
  simp) zC2.start b)
def zJW(p:Nat->Oper->Prop):Nat->List Oper->Prop
 |_,[]=>True
 |i,o::os=>p i o/\zJW p (i+1) os
theorem zJW.get{p:Nat->Oper->Prop}:∀{l:List Oper} {k:Nat},zJW p k l->∀i o,l[i]?=some o->p (k+i) o
 | [],_,_,i,o,h=>by simp at h
 | x::xs,k,hh,i,o,h=>by
  cases i with
  |zero=>simp at h;subst h;exact hh.1
  |succ i=>
   have:=zJW.get hh.2 i o (by simpa using h);rwa[show k+1+i=k+(i+1) by omega]at this
theorem zEJ{id:Nat}{a:List Oper}{T0:Array Value}{b:List Deferred}{w:World}(f:P.follows .mixedOrders=true)(I:Array Bool->Array Value->World->Prop)(d:zDM a.toArray=true)
  (c:I (Array.replicate a.length false) T0 w.drew)
  (e:∀T w,I (Array.replicate a.length true) T w->Q .normal ⟨T,b⟩ w)
  (h:zJW (zAO P a.toArray Q b I) 0 a):(Code.region id a.toArray true).wp P Q ⟨T0,b⟩ w:=
 zMs f I d (by simpa using c) (fun i o g=>by
  have:=h.get i o (by simpa using g);rw[zAM]at this;exact this) (by simpa using e)
end
section
variable {P:Program} {l:List Oper} {Q:Exit->Act->World->Prop}
def zJ3(n m:Nat):Array Bool:=(List.replicate n true++List.replicate (m-n) false).toArray
def zOs(l:List Oper)(n:Nat):Bool:=
 decide (n<l.length) && zDM l.toArray && Region.sinkB .any l.toArray n && Region.chainB .any l.toArray n && Region.seqB .any l.toArray (l.length-n) n (zJ3 n l.length)
theorem zTo(l:n<=L.size)(k:∀t,n<=t->t<L.size->L[t]?=some false)(a:left L=L.size-n):L=zJ3 n L.size:=by
 have c:L.toList=L.toList.take n++L.toList.drop n:=(List.take_append_drop n _).symm;have d:L.toList.drop n=List.replicate (L.size-n) false:=by
  apply qX;simp;intro i j _;simp only[List.getElem_drop,List.getElem_replicate];have:=k (n+i) (by omega) (by simp at j;omega);obtain⟨_,h⟩:=Array.getElem?_eq_some_iff.1 this;simpa using h
 have e:(L.toList.take n).count false=0:=by
  unfold left at a;rw[c,List.count_append,d,zCi]at a;simp at a;simpa using a
 have f:L.toList.take n=List.replicate n true:=by
  rw[List.eq_replicate_iff];refine⟨by simp;omega,fun b g=>?_⟩;cases b with
  |true=>rfl
  |false=>exact absurd g (List.count_eq_zero.1 e)
 apply Array.toList_inj.1;rw[c,d,f];simp[zJ3]
theorem zSW{I:Array Bool->Array Value->World->Prop}{c:List Deferred}(s:zOs l n=true)
  (a5:∀i o,l[i]?=some o->i<n->zAO P l.toArray Q c I i o)
  (Y:∀T w,I (zJ3 n l.length) T w->wpList P l.toArray Q (l.drop n) ⟨T,c⟩ w):
  ∀(f:Nat) (L:Array Bool) (T:Array Value) (w:World),HeadInv .any l.toArray n L->left L=f+(l.length-n)->zC2 l.toArray L->I L T w->wpAny P .any l.toArray Q (f+(l.length-n)) L ⟨T,c⟩ w:=by
 unfold zOs at s;simp only[Bool.and_eq_true,decide_eq_true_eq]at s;obtain⟨⟨⟨⟨hn,C⟩,a3⟩,X⟩,a4⟩:=s;have M:∀{L:Array Bool},HeadInv .any l.toArray n L->∀t,n<=t->t<L.size->L[t]?=some false:=by
  intro L a t ht N;have:=a.tail t ht (by have:=a.size;omega);rw[Array.getElem?_eq_getElem N];simpa[N]using this
 intro f;induction f with
 | zero=>
  intro L T w a g v hI;have y:L.size=l.length:=by simpa using a.size
  have V:L=zJ3 n l.length:=by
   have:=zTo (L:=L) (n:=n) (by omega) (M a) (by rw[g,y];omega);rwa[y]at this
  subst V;rw[zAM];have G:(l.drop n).length=l.length-n:=by simp
  have:=wpAny_of_seq (P:=P) (md:=.any) (ops:=l.toArray) (Q':=Q) (l.drop n) n (zJ3 n l.length) ⟨T,c⟩ w (fun j=>by simp[List.getElem?_drop]) (by rw[G];exact a4) (Y T w hI);rwa[G]at this
 | succ f ih=>
  intro L T w a g v hI;have y:L.size=l.length:=by simpa using a.size
  rw [show f+1+(l.length-n)=(f+(l.length-n))+1 by omega];have Z:∃i,i<n/\L[i]?=some false:=by
   refine zR fun a1=>?_
   have u:∀i,i<n->L[i]?=some true:=by
    intro i d;have H:i<L.size:=by omega
    cases E:L[i]with
    |true=>rw[Array.getElem?_eq_getElem H,E]
    |false=>exact absurd ⟨i,d,by rw[Array.getElem?_eq_getElem H,E]⟩ a1
   have W:L=zJ3 n l.length:=by
    apply zBh;intro j;unfold zJ3;rcases zK j n with hj|hj
    rw[u j hj];simp[List.getElem?_append,hj];rcases zK j L.size with x|x
    .rw[M a j hj x]
     have:j-n<l.length-n:=by omega
     simp[List.getElem?_append,Nat.not_lt.2 hj,this]
    rw[Array.getElem?_eq_none x];symm;simp;try omega
   rw[W]at g;unfold left zJ3 at g;simp[List.count_replicate]at g
  obtain⟨A,a0,z⟩:=Z;have a6:L.getD A true=false:=by
   obtain⟨r,p⟩:=Array.getElem?_eq_some_iff.1 z;simp[r,p]
  refine⟨fun hr=>?_,?_⟩
  .have:=zFw C a.size hr A (by simp;omega)
   rw[this]at z;cases z
  intro i d;have K:i<n:=by
   rcases zK i n with h|h
   exact h;exact absurd d (tail_waits a3 X (by simpa using hn) a _ A rfl a0 a6 i h)
  obtain⟨S,o,m,u⟩:=mem_ready.1 d;have a7:i<l.length:=by have:=(Array.getElem?_eq_some_iff.1 m).1;simpa using this
  have J:i<L.size:=by omega
  have B:L[i]?=some false:=by
   rw[Array.getElem?_eq_getElem J];simpa[J]using S
  have F:∀k,zDz o k=true->L[k]?=some true:=by
   intro k b;unfold zDz at b;rw[<-zBC,zAz]at b;obtain⟨e,q,b⟩:=b;have q:=Array.mem_toList_iff.1 q;simp only[Bool.and_eq_true,beq_iff_eq]at b;obtain⟨D,a2⟩:=b;subst a2;have a9:=zEE C m e q D;have r:=u e q D;have p:e.on<L.size:=by omega
   rw[Array.getElem?_eq_getElem p];simpa[p]using r
  have a8:=zMP B;refine wpOp_step m (fun O hK=>?_);exact a5 i o (by simpa using m) K L T w B F v hI O (fun R w' U=>hK ⟨R,c⟩ w' (ih _ _ _ (a.set d K) (by omega) (v.set m F) U))
theorem zDT{id:Nat}{T0:Array Value}{a:List Deferred}{w:World}(n:Nat)(g:P.follows .mixedOrders=true)(I:Array Bool->Array Value->World->Prop)(b:zOs l n=true)
  (d:I (Array.replicate l.length false) T0 w.drew)
  (e:∀T w,I (zJ3 n l.length) T w->wpList P l.toArray Q (l.drop n) ⟨T,a⟩ w)
  (m:zJW (zAO P l.toArray Q a I) 0 (l.take n)):(Code.region id l.toArray true).wp P Q ⟨T0,a⟩ w:=by
 have r:n<l.length:=by
  unfold zOs at b;simp only[Bool.and_eq_true,decide_eq_true_eq]at b;exact b.1.1.1.1
 have k:∀i o,l[i]?=some o->i<n->zAO P l.toArray Q a I i o:=by
  intro i o h f;have:=m.get i o (by rw[List.getElem?_take_of_lt f];exact h);rw[zAM]at this;exact this
 have q:HeadInv .any l.toArray n (Array.replicate l.toArray.size false):=
  ⟨by simp,fun j s _ c=>(by rw[getD_replicate_false]at c;cases c),fun t _ p=>getD_in (by simpa using p) (getD_replicate_false _ _)⟩
 have H:=zSW b k e n (Array.replicate l.toArray.size false) T0 w.drew q (by unfold left;rw[Array.toList_replicate,zCi];simp;omega) zC2.start (by simpa using d);refine wp_region_any g ?_;rw[show n+(l.length-n)=l.toArray.size by simp;omega]at H;exact H
end
theorem zFs:∀(b:List (Nat × Value)) {T T0:Array Value},(∀j,(∀p∈b,p.1≠j)->T[j]?=T0[j]?)->(∀p∈b,T[p.1]?=some p.2)->T.size=T0.size->
  T=b.foldl (fun a p=>a.setIfInBounds p.1 p.2) T0
 | [],T,T0,h,_,_=>zBh (fun j=>h j (fun p hp=>by cases hp))
 | (k,v)::b,T,T0,h,f,d=>by
  refine zFs b (T0:=T0.setIfInBounds k v) ?_ (fun p hp=>f p (qT _ hp)) (by simp[d]);intro j i;have c:=f (k,v) (by simp);by_cases e:k=j
  .subst e
   have l:k<T0.size:=by rw[<-d];exact(Array.getElem?_eq_some_iff.1 c).1
   rw[Array.getElem?_setIfInBounds_self_of_lt l];exact c
  rw[xgc e];refine h j ?_;intro p hp;rcases List.mem_cons.1 hp with g|hp
  rw[g];exact e;exact i p hp
theorem yN{e p:Type}{f:e->p}:∀{l:List e},(l.map f).Nodup->∀{a b:e},a∈l->b∈l->f a=f b->a=b
 | [],_,_,_,h,_,_=>by cases h
 | x::xs,m,a,b,o,k,d=>by
  rw[List.map_cons,List.nodup_cons]at m;obtain⟨i,n⟩:=m;rcases List.mem_cons.1 o with g|j
  .rcases List.mem_cons.1 k with c|hb'
   .rw[g,c]
   exact absurd (List.mem_map.2 ⟨b,hb',by rw[<-d,g]⟩) i
  rcases List.mem_cons.1 k with c|hb'
  exact absurd (List.mem_map.2 ⟨a,j,by rw[d,c]⟩) i;exact yN n j hb' d
/-! ### The invariant: values in their slots,boxes of two cells -/
structure jI(p:Prop):Prop where
 out:p
theorem xgv(h:p):jI p:=⟨h⟩
theorem xgw(h:p):Hid p:=zJ h
structure VS where
 op:Nat
 slot:Nat
 P:World->Value->Prop
structure BS where
 al:Nat
 slot:Nat
 st:Nat
 P:World->Value->Prop
def zG2(P:World->Value->Prop):Prop:=∀w w' v,zBq w w'->P w v->P w' v
theorem zFK(z:Int):zG2 (fun w v=>jE w v z):=fun _ _ _ e h=>h.ext e
theorem zMM(x:Value):zG2 (fun _ v=>v=x):=fun _ _ _ _ h=>h
def ptr(b:Nat):Value:=ptq b 0
structure ES where
 st:Nat
 blk:Nat
 P:World->Value->Prop
def zLx(N:Nat)(vs:List VS)(bs:List BS)(es:List ES):Bool:=
 let slots:=vs.map (·.slot)++bs.map (·.slot)
 let ops:=vs.map (·.op)++bs.map (·.al)++(bs.map (·.st)++es.map (·.st))
 decide slots.Nodup && decide ops.Nodup && slots.all (fun s=>decide (s<N))
structure RI(W:World)(n0:Nat)(T0:Array Value)(tB:TypeId)(vs:List VS)(bs:List BS)(es:List ES)(L:Array Bool)(T:Array Value)(w:World):Prop where
 wf:zLx T0.size vs bs es=true
 tb:tB≠tU
 lv:∀s∈vs,zG2 s.P
 lb:∀s∈bs,zG2 s.P
 le:∀s∈es,zG2 s.P
 eb:∀s∈es,s.blk<n0
 ed:∀s∈es,∀t∈es,s.st≠t.st->s.blk≠t.blk
 size:T.size=T0.size
 keep:∀j,(∀s∈vs,s.slot≠j)->(∀s∈bs,s.slot≠j)->T[j]?=T0[j]?
 bel0:Below 0 W w
 old:∀k,k<n0->(∀s∈es,s.blk≠k)->w.heap[k]?=W.heap[k]?
 lext:zBq W w
 ge:n0<=w.heap.size
 sto:∀s∈bs,L[s.st]?=some true->L[s.al]?=some true
 val:∀s∈vs,L[s.op]?=some true->∃v,T[s.slot]?=some v/\s.P w v
 box:∀s∈bs,L[s.al]?=some true->∃b x y,T[s.slot]?=some (ptr b)/\n0<=b/\Blk w b tB #[x,y]/\(L[s.st]?=some true->s.P w (.agg #[x,y]))
 far:∀s∈bs,∀t∈bs,s.al≠t.al->L[s.al]?=some true->L[t.al]?=some true->∀b c,T[s.slot]?=some (ptr b)->T[t.slot]?=some (ptr c)->b≠c
 ex:∀s∈es,(∃x y,Blk w s.blk tB #[x,y]/\(L[s.st]?=some true->s.P w (.agg #[x,y])))/\(L[s.st]?≠some true->w.heap[s.blk]?=W.heap[s.blk]?)
section
variable {W:World} {n0:Nat} {T0:Array Value} {tB:TypeId} {vs:List VS} {bs:List BS} {es:List ES} {L:Array Bool} {T:Array Value} {w w':World}
theorem zAE(h:(L.setIfInBounds i true)[j]?=some true)(a:i≠j):L[j]?=some true:=by
 rwa[xgc a]at h
theorem zQg(h:(L.setIfInBounds i true)[j]?≠some true):L[j]?≠some true:=fun hh=>h (zCK hh)
theorem RI.start(l:zLx T0.size vs bs es=true:=by kernel_rfl)(j:tB≠tU:=by decide)(hv:∀s∈vs,zG2 s.P:=by repeat' (first|exact zFK _|exact zMM _|assumption|refine xgm.2 ⟨?_,?_⟩|exact xgn _))(b:∀s∈bs,zG2 s.P:=by repeat' (first|exact zFK _|exact zMM _|assumption|refine xgm.2 ⟨?_,?_⟩|exact xgn _))(e:∀s∈es,zG2 s.P:=by repeat' (first|exact zFK _|exact zMM _|assumption|refine xgm.2 ⟨?_,?_⟩|exact xgn _))(c:∀s∈es,s.blk<n0:=by repeat' (first|refine xgm.2 ⟨?_,?_⟩|exact xgn _|(dsimp only;omega)))
  (d:∀s∈es,∀t∈es,s.st≠t.st->s.blk≠t.blk:=by repeat' (first|refine xgm.2 ⟨?_,?_⟩|exact xgn _|(intro h;exact absurd rfl h)|(intro _;dsimp only;omega))) (f:∀s∈es,∃x y,Blk W s.blk tB #[x,y]:=by repeat' (first|refine xgm.2 ⟨?_,?_⟩|exact xgn _|exact⟨_,_,by assumption⟩)) (g:n0<=W.heap.size:=by first|exact xgf _|omega) {n:Nat}:RI W n0 T0 tB vs bs es (Array.replicate n false) T0 W.drew:=by
 have a:∀k:Nat,(Array.replicate n false)[k]?≠some true:=by
  intro k h;rw[Array.getElem?_replicate]at h;split at h<;>simp at h
 exact⟨l,j,hv,b,e,c,d,rfl,fun _ _ _=>rfl,(zC _ _).drew,fun _ _ _=>rfl,zBq.refl W,g,fun s _ h=>absurd h (a _),fun s _ h=>absurd h (a _),fun s _ h=>absurd h (a _),fun s _ t _ _ h=>absurd h (a _),
  fun s i=>⟨(f s i).elim fun x h=>h.elim fun y h=>⟨x,y,h,fun hh=>absurd hh (a _)⟩,fun _=>rfl⟩⟩
theorem RI.world(h:RI W n0 T0 tB vs bs es L T w)(c:BWq w w'):RI W n0 T0 tB vs bs es L T w':=by
 have f:zBq w w':=zBq.I c (xgf _);refine⟨h.wf,h.tb,h.lv,h.lb,h.le,h.eb,h.ed,h.size,h.keep,h.bel0.trans (c.mono (zH _)),fun k j m=>(c.block k (zM j h.ge)).trans (h.old k j m),h.lext.trans f,zD h.ge c.size,h.sto,?_,?_,h.far,?_⟩
 .intro s a i
  obtain⟨v,d,e⟩:=h.val s a i;exact⟨v,d,h.lv s a _ _ _ f e⟩
 .intro s a i
  obtain⟨b,x,y,d,e,g,l⟩:=h.box s a i;exact⟨b,x,y,d,e,g.I c,fun hh=>h.lb s a _ _ _ f (l hh)⟩
 intro s a;obtain⟨⟨x,y,d,e⟩,g⟩:=h.ex s a;exact⟨⟨x,y,d.I c,fun hh=>h.le s a _ _ _ f (e hh)⟩,fun hh=>(c.block _ d.lt).trans (g hh)⟩
theorem zLx.parts{N:Nat}(f:zLx N vs bs es=true):
  (∀s∈vs,s.slot<N)/\(∀s∈bs,s.slot<N)∧
  (∀s∈vs,∀t∈vs,t≠s->t.op≠s.op/\t.slot≠s.slot)∧
  (∀s∈bs,∀t∈bs,t≠s->t.al≠s.al/\t.slot≠s.slot/\t.st≠s.st)∧
  (∀s∈vs,∀t∈bs,s.op≠t.al/\s.op≠t.st/\s.slot≠t.slot)∧
  (∀s∈bs,∀t∈bs,s.al≠t.st)∧
  (∀s∈es,∀t∈es,t≠s->t.st≠s.st)∧
  (∀s∈es,(∀t∈vs,s.st≠t.op)/\∀t∈bs,s.st≠t.al/\s.st≠t.st):=by
 unfold zLx at f;simp only[Bool.and_eq_true,decide_eq_true_eq,List.all_eq_true]at f;obtain⟨⟨k,l⟩,o⟩:=f;rw[jG]at k;obtain⟨r,u,v⟩:=k;rw[jG]at l;obtain⟨m,n,d⟩:=l;rw[jG]at m n;obtain⟨w,x,y⟩:=m;obtain⟨z,A,B⟩:=n;have j:∀s∈vs,s.op∈vs.map (·.op):=fun s a=>List.mem_map.2 ⟨s,a,rfl⟩
 have q:∀s∈vs,s.slot∈vs.map (·.slot):=fun s a=>List.mem_map.2 ⟨s,a,rfl⟩
 have g:∀s∈bs,s.al∈bs.map (·.al):=fun s a=>List.mem_map.2 ⟨s,a,rfl⟩
 have p:∀s∈bs,s.slot∈bs.map (·.slot):=fun s a=>List.mem_map.2 ⟨s,a,rfl⟩
 have h:∀s∈bs,s.st∈bs.map (·.st):=fun s a=>List.mem_map.2 ⟨s,a,rfl⟩
 have i:∀s∈es,s.st∈es.map (·.st):=fun s a=>List.mem_map.2 ⟨s,a,rfl⟩
 refine⟨fun s a=>o _ (zAZ _ (q s a)),fun s a=>o _ (zBH _ (p s a)),?_,?_,?_,?_,?_,?_⟩;exact fun s a t b c=>⟨fun e=>c (yN w b a e),fun e=>c (yN r b a e)⟩
 exact fun s a t b c=>⟨fun e=>c (yN x b a e),fun e=>c (yN u b a e),fun e=>c (yN z b a e)⟩
 exact fun s a t b=>⟨y _ (j s a) _ (g t b),d _ (zAZ _ (j s a)) _ (zAZ _ (h t b)),v _ (q s a) _ (p t b)⟩
 exact fun s a t b=>d _ (zBH _ (g s a)) _ (zAZ _ (h t b))
 exact fun s a t b c e=>c (yN A b a e)
 exact fun s a=>⟨fun t b=>qF (d _ (zAZ _ (j t b)) _ (zBH _ (i s a))),
  fun t b=>⟨qF (d _ (zBH _ (g t b)) _ (zBH _ (i s a))),qF (B _ (h t b) _ (i s a))⟩⟩
theorem RI.value{v:Value}(h:RI W n0 T0 tB vs bs es L T w)(s:VS)(e:s∈vs)(C:s.op=k)(B:s.P w v):
  RI W n0 T0 tB vs bs es (L.setIfInBounds k true) (T.setIfInBounds s.slot v) w:=by
 subst C;obtain⟨I,N,J,O,m,P,Q,K⟩:=zLx.parts h.wf;refine⟨h.wf,h.tb,h.lv,h.lb,h.le,h.eb,h.ed,by simp[h.size],fun j d f=>by rw[xgc (d s e)];exact h.keep j d f,h.bel0,h.old,h.lext,h.ge,
  fun t a i=>zCK (h.sto t a (zAE i (m s e t a).2.1)),?_,?_,?_,?_⟩
 .intro t a i
  by_cases r:t=s
  .subst r
   exact⟨v,by rw[Array.getElem?_setIfInBounds_self_of_lt (by rw[h.size];exact I _ e)],B⟩
  obtain⟨g,l⟩:=J s e t a r;obtain⟨u,d,f⟩:=h.val t a (zAE i (qF g));exact⟨u,by rw[xgc (qF l)];exact d,f⟩
 .intro t a i
  obtain⟨g,l,o⟩:=m s e t a;obtain⟨b,x,y,d,f,n,A⟩:=h.box t a (zAE i g);exact⟨b,x,y,by rw[xgc o];exact d,f,n,fun hh=>A (zAE hh l)⟩
 .intro t a u z F D E b c p q
  obtain⟨g,l,o⟩:=m s e t a;obtain⟨G,M,H⟩:=m s e u z;rw[xgc o]at p;rw[xgc H]at q;exact h.far t a u z F (zAE D g) (zAE E G) b c p q
 intro t a;have g:=(K t a).1 s e;obtain⟨⟨x,y,d,f⟩,n⟩:=h.ex t a;exact⟨⟨x,y,d,fun hh=>f (zAE hh (qF g))⟩,fun hh=>n (zQg hh)⟩
theorem RI.v{s:VS}(h:RI W n0 T0 tB vs bs es L T w)(b:s∈vs)(a:L[s.op]?=some true):∃v,T[s.slot]?=some v/\s.P w v:=h.val s b a
theorem RI.y{v:Value}(h:RI W n0 T0 tB vs bs es L T w){s:VS}(c:s∈vs)(a:s.P w v)(b:s.op=k:=by rfl):RI W n0 T0 tB vs bs es (L.setIfInBounds k true) (T.setIfInBounds s.slot v) w:=h.value s c b a
theorem RI.cell{o:Nat}{v:Value}(h:RI W n0 T0 tB vs bs es L T w)(hc:W.cell? ⟨b,o,none⟩=some v)(a:b<n0)(c:∀s∈es,s.blk≠b):w.cell? ⟨b,o,none⟩=some v:=
 (World.cell?_of_block (w:=W) (h.old b a c)).trans hc
theorem RI.bel(h:RI W n0 T0 tB vs bs es L T w)(B:Nat)(c:B<=n0)(a:∀s∈es,B<=s.blk):Below B W w:=
 ⟨h.bel0.os,h.bel0.tape,h.bel0.output,h.bel0.size,fun k d=>h.old k (by omega) (fun s b=>by have:=a s b;omega)⟩
end
abbrev E(i s:Nat)(x:Value):VS:=⟨i,s,fun _ v=>v=x⟩
abbrev EI(i s:Nat)(z:Int):VS:=⟨i,s,fun w v=>jE w v z⟩
abbrev VP(i s b o:Nat):VS:=⟨i,s,fun _ v=>v=ptq b o⟩
abbrev VSl(i s b n c:Nat):VS:=⟨i,s,fun _ v=>v=slq b n c⟩
abbrev VN(i s:Nat)(n:Int):VS:=⟨i,s,fun _ v=>v=niq n⟩
def Fin(w:World):List VS->Array Value->Array Value->Prop
 | [],T0,T=>T=T0
 |s::vs,T0,T=>∃v,s.P w v/\Fin w vs (T0.setIfInBounds s.slot v) T
def qAw(w:World)(n0:Nat)(tB:TypeId):List BS->List Nat->Array Value->Array Value->Prop
 | [],_,T0,T=>T=T0
 |b::bs,u,T0,T=>∃c x y,n0<=c/\Blk w c tB #[x,y]/\b.P w (.agg #[x,y])/\(∀d∈u,d≠c)/\qAw w n0 tB bs (c::u) (T0.setIfInBounds b.slot (ptr c)) T
def qBH(w:World)(n0:Nat)(tB:TypeId)(bs:List BS):List VS->Array Value->Array Value->Prop
 | [],T0,T=>qAw w n0 tB bs [] T0 T
 |s::vs,T0,T=>∃v,s.P w v/\qBH w n0 tB bs vs (T0.setIfInBounds s.slot v) T
section
variable {W:World} {n0:Nat} {T0:Array Value} {tB:TypeId} {vs:List VS} {bs:List BS} {es:List ES} {L:Array Bool} {T:Array Value} {w w':World}
end
theorem xgu(h:p:=by(go_simp;first|exact hK _ _ (hI.q mm0)|exact hK _ _ (hI.q mm1)|exact hK _ _ (hI.q mm2)|exact hK _ _ (hI.q mm3)|exact hK _ _ (hI.q mm4)|exact hK _ _ (hI.q mm5)|exact hK _ _ (hI.q mm6)|exact hK _ _ (hI.q mm7)|exact hK _ _ (hI.q mm8)|exact hK _ _ (hI.q mm9)|exact hK _ _ (hI.q zMT)|exact hK _ _ (hI.q zLW)|exact hK _ _ (hI.q zMt)|exact hK _ _ (hI.q zPC)|exact hK _ _ (hI.q zPD)|exact hK _ _ (hI.q zOO)|exact hK _ _ (hI.q zRd)|exact hK _ _ (hI.q zRe)|exact hK _ _ (hI.q zRf)|exact hK _ _ (hI.q zRg)|exact hK _ _ (hI.q zRh)|exact hK _ _ (hI.q zRi)|exact hK _ _ (hI.q zRj)|exact hK _ _ (hI.q zRk)|exact hK _ _ (hI.q zRl)|exact hK _ _ (hI.q zSZ)|exact hK _ _ (hI.q mm26)|exact hK _ _ (hI.q mm27)|exact hK _ _ (hI.q mm28)|exact hK _ _ (hI.q mm29)|exact hK _ _ (hI.q mm30)|exact hK _ _ (hI.q mm31)|exact hK _ _ (hI.q mm32)|exact hK _ _ (hI.q mm33)|exact hK _ _ (hI.q mm34)|exact hK _ _ (hI.q mm35)|exact hK _ _ (hI.q mm36)|exact hK _ _ (hI.q mm37)|exact hK _ _ (hI.q mm38)|exact hK _ _ (hI.q mm39)|exact hK _ _ (hI.q mm40))):p:=h
theorem xgs{q:Prop}(a:q)(h:q->p:=by(intro a;go_simp;first|exact hK _ _ (hI.q mm0)|exact hK _ _ (hI.q mm1)|exact hK _ _ (hI.q mm2)|exact hK _ _ (hI.q mm3)|exact hK _ _ (hI.q mm4)|exact hK _ _ (hI.q mm5)|exact hK _ _ (hI.q mm6)|exact hK _ _ (hI.q mm7)|exact hK _ _ (hI.q mm8)|exact hK _ _ (hI.q mm9)|exact hK _ _ (hI.q zMT)|exact hK _ _ (hI.q zLW)|exact hK _ _ (hI.q zMt)|exact hK _ _ (hI.q zPC)|exact hK _ _ (hI.q zPD)|exact hK _ _ (hI.q zOO)|exact hK _ _ (hI.q zRd)|exact hK _ _ (hI.q zRe)|exact hK _ _ (hI.q zRf)|exact hK _ _ (hI.q zRg)|exact hK _ _ (hI.q zRh)|exact hK _ _ (hI.q zRi)|exact hK _ _ (hI.q zRj)|exact hK _ _ (hI.q zRk)|exact hK _ _ (hI.q zRl)|exact hK _ _ (hI.q zSZ)|exact hK _ _ (hI.q mm26)|exact hK _ _ (hI.q mm27)|exact hK _ _ (hI.q mm28)|exact hK _ _ (hI.q mm29)|exact hK _ _ (hI.q mm30)|exact hK _ _ (hI.q mm31)|exact hK _ _ (hI.q mm32)|exact hK _ _ (hI.q mm33)|exact hK _ _ (hI.q mm34)|exact hK _ _ (hI.q mm35)|exact hK _ _ (hI.q mm36)|exact hK _ _ (hI.q mm37)|exact hK _ _ (hI.q mm38)|exact hK _ _ (hI.q mm39)|exact hK _ _ (hI.q mm40))):p:=h a
theorem xgt{q r:Prop}(a:q)(b:r)(h:q->r->p:=by(intro a b;go_simp;first|exact hK _ _ (hI.q mm0)|exact hK _ _ (hI.q mm1)|exact hK _ _ (hI.q mm2)|exact hK _ _ (hI.q mm3)|exact hK _ _ (hI.q mm4)|exact hK _ _ (hI.q mm5)|exact hK _ _ (hI.q mm6)|exact hK _ _ (hI.q mm7)|exact hK _ _ (hI.q mm8)|exact hK _ _ (hI.q mm9)|exact hK _ _ (hI.q zMT)|exact hK _ _ (hI.q zLW)|exact hK _ _ (hI.q zMt)|exact hK _ _ (hI.q zPC)|exact hK _ _ (hI.q zPD)|exact hK _ _ (hI.q zOO)|exact hK _ _ (hI.q zRd)|exact hK _ _ (hI.q zRe)|exact hK _ _ (hI.q zRf)|exact hK _ _ (hI.q zRg)|exact hK _ _ (hI.q zRh)|exact hK _ _ (hI.q zRi)|exact hK _ _ (hI.q zRj)|exact hK _ _ (hI.q zRk)|exact hK _ _ (hI.q zRl)|exact hK _ _ (hI.q zSZ)|exact hK _ _ (hI.q mm26)|exact hK _ _ (hI.q mm27)|exact hK _ _ (hI.q mm28)|exact hK _ _ (hI.q mm29)|exact hK _ _ (hI.q mm30)|exact hK _ _ (hI.q mm31)|exact hK _ _ (hI.q mm32)|exact hK _ _ (hI.q mm33)|exact hK _ _ (hI.q mm34)|exact hK _ _ (hI.q mm35)|exact hK _ _ (hI.q mm36)|exact hK _ _ (hI.q mm37)|exact hK _ _ (hI.q mm38)|exact hK _ _ (hI.q mm39)|exact hK _ _ (hI.q mm40))):p:=h a b
theorem xgo(h:p:=by(rintro e wa ⟨v,rfl,hv,hba⟩;first|exact hK _ _ ((hI.world hba).n mm0 hv)|exact hK _ _ ((hI.world hba).n mm1 hv)|exact hK _ _ ((hI.world hba).n mm2 hv)|exact hK _ _ ((hI.world hba).n mm3 hv)|exact hK _ _ ((hI.world hba).n mm4 hv)|exact hK _ _ ((hI.world hba).n mm5 hv)|exact hK _ _ ((hI.world hba).n mm6 hv)|exact hK _ _ ((hI.world hba).n mm7 hv)|exact hK _ _ ((hI.world hba).n mm8 hv)|exact hK _ _ ((hI.world hba).n mm9 hv)|exact hK _ _ ((hI.world hba).n zMT hv)|exact hK _ _ ((hI.world hba).n zLW hv)|exact hK _ _ ((hI.world hba).n zMt hv)|exact hK _ _ ((hI.world hba).n zPC hv)|exact hK _ _ ((hI.world hba).n zPD hv)|exact hK _ _ ((hI.world hba).n zOO hv)|exact hK _ _ ((hI.world hba).n zRd hv)|exact hK _ _ ((hI.world hba).n zRe hv)|exact hK _ _ ((hI.world hba).n zRf hv)|exact hK _ _ ((hI.world hba).n zRg hv)|exact hK _ _ ((hI.world hba).n zRh hv)|exact hK _ _ ((hI.world hba).n zRi hv)|exact hK _ _ ((hI.world hba).n zRj hv)|exact hK _ _ ((hI.world hba).n zRk hv)|exact hK _ _ ((hI.world hba).n zRl hv)|exact hK _ _ ((hI.world hba).n zSZ hv)|exact hK _ _ ((hI.world hba).n mm26 hv)|exact hK _ _ ((hI.world hba).n mm27 hv)|exact hK _ _ ((hI.world hba).n mm28 hv)|exact hK _ _ ((hI.world hba).n mm29 hv)|exact hK _ _ ((hI.world hba).n mm30 hv)|exact hK _ _ ((hI.world hba).n mm31 hv)|exact hK _ _ ((hI.world hba).n mm32 hv)|exact hK _ _ ((hI.world hba).n mm33 hv)|exact hK _ _ ((hI.world hba).n mm34 hv)|exact hK _ _ ((hI.world hba).n mm35 hv)|exact hK _ _ ((hI.world hba).n mm36 hv)|exact hK _ _ ((hI.world hba).n mm37 hv)|exact hK _ _ ((hI.world hba).n mm38 hv)|exact hK _ _ ((hI.world hba).n mm39 hv)|exact hK _ _ ((hI.world hba).n mm40 hv))):p:=h
theorem xgp(h:p:=by simp[Region.wanted,yielded,zg]):p:=h
theorem xgq{q:Prop}(zg:q)(h:q->p:=by(intro zg;simp[Region.wanted,yielded,zg])):p:=h zg
theorem xgE(h:p:=by(try have z0:=hI.e mm0 (hd 0);try have z1:=hI.e mm1 (hd 1);try have z2:=hI.e mm2 (hd 2);try have z3:=hI.e mm3 (hd 3);try have z4:=hI.e mm4 (hd 4);try have z5:=hI.e mm5 (hd 5);try have z6:=hI.e mm6 (hd 6);try have z7:=hI.e mm7 (hd 7);try have z8:=hI.e mm8 (hd 8);try have z9:=hI.e mm9 (hd 9);try have z10:=hI.e zMT (hd 10);try have z11:=hI.e zLW (hd 11);try have z12:=hI.e zMt (hd 12);try have z13:=hI.e zPC (hd 13);try have z14:=hI.e zPD (hd 14);try have z15:=hI.e zOO (hd 15);try have z16:=hI.e zRd (hd 16);try have z17:=hI.e zRe (hd 17);try have z18:=hI.e zRf (hd 18);try have z19:=hI.e zRg (hd 19);try have z20:=hI.e zRh (hd 20);try have z21:=hI.e zRi (hd 21);try have z22:=hI.e zRj (hd 22);try have z23:=hI.e zRk (hd 23);try have z24:=hI.e zRl (hd 24);try have z25:=hI.e zSZ (hd 25);try have z26:=hI.e mm26 (hd 26);try have z27:=hI.e mm27 (hd 27);try have z28:=hI.e mm28 (hd 28);try have z29:=hI.e mm29 (hd 29);try have z30:=hI.e mm30 (hd 30);try have z31:=hI.e mm31 (hd 31);try have z32:=hI.e mm32 (hd 32);try have z33:=hI.e mm33 (hd 33);try have z34:=hI.e mm34 (hd 34);try have z35:=hI.e mm35 (hd 35);try have z36:=hI.e mm36 (hd 36);try have z37:=hI.e mm37 (hd 37);try have z38:=hI.e mm38 (hd 38);try have z39:=hI.e mm39 (hd 39);try have z40:=hI.e mm40 (hd 40);try have y0:=hI.k 0 rfl kR;try have y1:=hI.k 1 rfl kR;try have y2:=hI.k 2 rfl kR;try have y3:=hI.k 3 rfl kR;try have y4:=hI.k 4 rfl kR;try have y5:=hI.k 5 rfl kR;try have y6:=hI.k 6 rfl kR;try have y7:=hI.k 7 rfl kR;try have y8:=hI.k 8 rfl kR;try have y9:=hI.k 9 rfl kR;try have y10:=hI.k 10 rfl kR;try have y11:=hI.k 11 rfl kR;try have y12:=hI.k 12 rfl kR;try have y13:=hI.k 13 rfl kR;try have y14:=hI.k 14 rfl kR;try have y15:=hI.k 15 rfl kR;try have y16:=hI.k 16 rfl kR;try have y17:=hI.k 17 rfl kR;try have y18:=hI.k 18 rfl kR;try have y19:=hI.k 19 rfl kR;try have y20:=hI.k 20 rfl kR;try have y21:=hI.k 21 rfl kR;try have y22:=hI.k 22 rfl kR;try have y23:=hI.k 23 rfl kR;try have y24:=hI.k 24 rfl kR;try have y25:=hI.k 25 rfl kR;go_simp;first|exact hK _ _ (hI.q mm0)|exact hK _ _ (hI.q mm1)|exact hK _ _ (hI.q mm2)|exact hK _ _ (hI.q mm3)|exact hK _ _ (hI.q mm4)|exact hK _ _ (hI.q mm5)|exact hK _ _ (hI.q mm6)|exact hK _ _ (hI.q mm7)|exact hK _ _ (hI.q mm8)|exact hK _ _ (hI.q mm9)|exact hK _ _ (hI.q zMT)|exact hK _ _ (hI.q zLW)|exact hK _ _ (hI.q zMt)|exact hK _ _ (hI.q zPC)|exact hK _ _ (hI.q zPD)|exact hK _ _ (hI.q zOO)|exact hK _ _ (hI.q zRd)|exact hK _ _ (hI.q zRe)|exact hK _ _ (hI.q zRf)|exact hK _ _ (hI.q zRg)|exact hK _ _ (hI.q zRh)|exact hK _ _ (hI.q zRi)|exact hK _ _ (hI.q zRj)|exact hK _ _ (hI.q zRk)|exact hK _ _ (hI.q zRl)|exact hK _ _ (hI.q zSZ)|exact hK _ _ (hI.q mm26)|exact hK _ _ (hI.q mm27)|exact hK _ _ (hI.q mm28)|exact hK _ _ (hI.q mm29)|exact hK _ _ (hI.q mm30)|exact hK _ _ (hI.q mm31)|exact hK _ _ (hI.q mm32)|exact hK _ _ (hI.q mm33)|exact hK _ _ (hI.q mm34)|exact hK _ _ (hI.q mm35)|exact hK _ _ (hI.q mm36)|exact hK _ _ (hI.q mm37)|exact hK _ _ (hI.q mm38)|exact hK _ _ (hI.q mm39)|exact hK _ _ (hI.q mm40))):p:=h
theorem xgz{q r t:Prop}(b:q)(a:r/\s/\u/\t)(h:q->r->s->u->p:=by(intro b a z3 z4;go_simp;first|exact hK _ _ (hI.q mm0)|exact hK _ _ (hI.q mm1)|exact hK _ _ (hI.q mm2)|exact hK _ _ (hI.q mm3)|exact hK _ _ (hI.q mm4)|exact hK _ _ (hI.q mm5)|exact hK _ _ (hI.q mm6)|exact hK _ _ (hI.q mm7)|exact hK _ _ (hI.q mm8)|exact hK _ _ (hI.q mm9)|exact hK _ _ (hI.q zMT)|exact hK _ _ (hI.q zLW)|exact hK _ _ (hI.q zMt)|exact hK _ _ (hI.q zPC)|exact hK _ _ (hI.q zPD)|exact hK _ _ (hI.q zOO)|exact hK _ _ (hI.q zRd)|exact hK _ _ (hI.q zRe)|exact hK _ _ (hI.q zRf)|exact hK _ _ (hI.q zRg)|exact hK _ _ (hI.q zRh)|exact hK _ _ (hI.q zRi)|exact hK _ _ (hI.q zRj)|exact hK _ _ (hI.q zRk)|exact hK _ _ (hI.q zRl)|exact hK _ _ (hI.q zSZ)|exact hK _ _ (hI.q mm26)|exact hK _ _ (hI.q mm27)|exact hK _ _ (hI.q mm28)|exact hK _ _ (hI.q mm29)|exact hK _ _ (hI.q mm30)|exact hK _ _ (hI.q mm31)|exact hK _ _ (hI.q mm32)|exact hK _ _ (hI.q mm33)|exact hK _ _ (hI.q mm34)|exact hK _ _ (hI.q mm35)|exact hK _ _ (hI.q mm36)|exact hK _ _ (hI.q mm37)|exact hK _ _ (hI.q mm38)|exact hK _ _ (hI.q mm39)|exact hK _ _ (hI.q mm40))):p:=h b a.1 a.2.1 a.2.2.1
theorem xgx{q r:Prop}(a:q)(b:r)(c:s)(h:q->r->s->p:=by(intro a b c;go_simp;first|exact hK _ _ (hI.q mm0)|exact hK _ _ (hI.q mm1)|exact hK _ _ (hI.q mm2)|exact hK _ _ (hI.q mm3)|exact hK _ _ (hI.q mm4)|exact hK _ _ (hI.q mm5)|exact hK _ _ (hI.q mm6)|exact hK _ _ (hI.q mm7)|exact hK _ _ (hI.q mm8)|exact hK _ _ (hI.q mm9)|exact hK _ _ (hI.q zMT)|exact hK _ _ (hI.q zLW)|exact hK _ _ (hI.q zMt)|exact hK _ _ (hI.q zPC)|exact hK _ _ (hI.q zPD)|exact hK _ _ (hI.q zOO)|exact hK _ _ (hI.q zRd)|exact hK _ _ (hI.q zRe)|exact hK _ _ (hI.q zRf)|exact hK _ _ (hI.q zRg)|exact hK _ _ (hI.q zRh)|exact hK _ _ (hI.q zRi)|exact hK _ _ (hI.q zRj)|exact hK _ _ (hI.q zRk)|exact hK _ _ (hI.q zRl)|exact hK _ _ (hI.q zSZ)|exact hK _ _ (hI.q mm26)|exact hK _ _ (hI.q mm27)|exact hK _ _ (hI.q mm28)|exact hK _ _ (hI.q mm29)|exact hK _ _ (hI.q mm30)|exact hK _ _ (hI.q mm31)|exact hK _ _ (hI.q mm32)|exact hK _ _ (hI.q mm33)|exact hK _ _ (hI.q mm34)|exact hK _ _ (hI.q mm35)|exact hK _ _ (hI.q mm36)|exact hK _ _ (hI.q mm37)|exact hK _ _ (hI.q mm38)|exact hK _ _ (hI.q mm39)|exact hK _ _ (hI.q mm40))):p:=h a b c
theorem xgy{q r:Prop}(a:q)(b:r)(c:s)(d:u)(h:q->r->s->u->p:=by(intro a b c d;go_simp;first|exact hK _ _ (hI.q mm0)|exact hK _ _ (hI.q mm1)|exact hK _ _ (hI.q mm2)|exact hK _ _ (hI.q mm3)|exact hK _ _ (hI.q mm4)|exact hK _ _ (hI.q mm5)|exact hK _ _ (hI.q mm6)|exact hK _ _ (hI.q mm7)|exact hK _ _ (hI.q mm8)|exact hK _ _ (hI.q mm9)|exact hK _ _ (hI.q zMT)|exact hK _ _ (hI.q zLW)|exact hK _ _ (hI.q zMt)|exact hK _ _ (hI.q zPC)|exact hK _ _ (hI.q zPD)|exact hK _ _ (hI.q zOO)|exact hK _ _ (hI.q zRd)|exact hK _ _ (hI.q zRe)|exact hK _ _ (hI.q zRf)|exact hK _ _ (hI.q zRg)|exact hK _ _ (hI.q zRh)|exact hK _ _ (hI.q zRi)|exact hK _ _ (hI.q zRj)|exact hK _ _ (hI.q zRk)|exact hK _ _ (hI.q zRl)|exact hK _ _ (hI.q zSZ)|exact hK _ _ (hI.q mm26)|exact hK _ _ (hI.q mm27)|exact hK _ _ (hI.q mm28)|exact hK _ _ (hI.q mm29)|exact hK _ _ (hI.q mm30)|exact hK _ _ (hI.q mm31)|exact hK _ _ (hI.q mm32)|exact hK _ _ (hI.q mm33)|exact hK _ _ (hI.q mm34)|exact hK _ _ (hI.q mm35)|exact hK _ _ (hI.q mm36)|exact hK _ _ (hI.q mm37)|exact hK _ _ (hI.q mm38)|exact hK _ _ (hI.q mm39)|exact hK _ _ (hI.q mm40))):p:=h a b c d
theorem zIh.uniq{v:Value}{z j:Int}(h:zIh w v z)(p:zIh w v j):z=j:=by
 obtain⟨neg,A,n,D,xs,rfl,q,-,-,r,-,rfl⟩:=h;obtain⟨G,B,F,E,f,d,x,-,-,y,-,rfl⟩:=p;injection d with d
 simp only[Array.mk.injEq,List.cons.injEq,Value.bool.injEq,Value.slice.injEq]at d;obtain⟨rfl,⟨rfl,e,-⟩,-⟩:=d;have u:xs.length=f.length:=by rw[q,x];exact e
 have:xs=f:=by
  refine qX u fun k g i=>?_
  obtain⟨b,off,l,-,s⟩:=r.cell g;obtain⟨C,H,c,-,a⟩:=y.cell i;rw[l]at c;injection c with c
  injection c with m o
  subst m;subst o;rw[s]at a;injection a with a
  injection a with _ a
  have t:xs.getD k 0=f.getD k 0:=by omega
  simpa[xgb,g,i]using t
 rw[this]
theorem zQH:∃f:World->Nat->Int,∀(w:World) (b:Nat) (x y:Value) (z:Int),Blk w b 43 #[x,y]->jE w (.agg #[x,y]) z->f w b=z:=by
 refine⟨fun w b=>Classical.epsilon fun z=>∃x y,Blk w b 43 #[x,y]/\jE w (.agg #[x,y]) z,fun w b x y z c d=>?_⟩;have e:=Classical.epsilon_spec (p:=fun z=>∃x y,Blk w b 43 #[x,y]/\jE w (.agg #[x,y]) z) ⟨z,x,y,c,d⟩;obtain⟨h,i,a,g⟩:=e;unfold Blk at c a;rw[c]at a;injection a with a
 injection a with a
 simp only[Array.mk.injEq,List.cons.injEq]at a;obtain⟨rfl,rfl,-⟩:=a;exact g.J.uniq d.J
end Go.Proofs.YtkidaebmhlijlaaGreat
