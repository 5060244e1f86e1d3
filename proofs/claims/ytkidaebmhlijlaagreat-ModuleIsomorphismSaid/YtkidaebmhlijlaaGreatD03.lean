/- Joined. -/
import Derived.Shelf.Small.Bits
import Derived.Ground.Names2Prog
import Derived.StillTail
import Derived.Test.YtkidaebmhlijlaaGreatD01
set_option linter.unusedVariables false
set_option linter.unusedSimpArgs false
set_option linter.unusedSectionVars false
set_option maxHeartbeats 16000000
set_option maxRecDepth 100000
variable{L:Array Bool}{ms rr rs us vs xs zs:List Nat}{P Q R U V b c d e g i j k n off q r x:Nat}{o:Go.Oper}{p s u:Prop}{a w:Go.World}
namespace Go.Proofs.YtkidaebmhlijlaaGreat
open Go.RowKit
theorem zLJ(n:Nat)(h:n<4294967296):IntKind.u32.wrap (n:Int)=n:=by rw[zA8];omega
theorem zPV(a b:Nat)(hb:b<4294967296):a*4294967296|||b=a*4294967296+b:=by
 have h:=Nat.shiftLeft_add_eq_or_of_lt (i:=32) (show b<2^32 from hb) a;rw[Nat.shiftLeft_eq]at h;exact h.symm
theorem zPW(a b:Nat)(ha:a<4294967296)(hb:b<4294967296):bits BinOp.or IntKind.u64 ((a:Int)*4294967296) (b:Int)=((a*4294967296+b:Nat):Int):=by
 have h:=u64_or_nat (a*4294967296) b oM oM;rw[zPV a b hb]at h;rw[<-h];simp
theorem zCt(xs:List Nat)(k:Nat)(h:k<xs.length):nat (xs.drop k)=xs.getD k 0+B32*nat (xs.drop (k+1)):=by
 rw[jG h,zCV,xgb,xga h];rfl
theorem zRB(h:nat (xs.drop (k+1))=nat (zs.drop (k+1))*d+r)(hk:k<xs.length)(hkz:k<zs.length)(hx:xs.getD k 0=x):
  nat (xs.drop k)=nat ((zs.set k ((r*4294967296+x)/d)).drop k)*d+(r*4294967296+x)%d:=by
 rw[zCt xs k hk,zCt _ k (by simpa using hkz),hx,h,zDf,xgb,List.getElem?_set_self hkz,zCE];simp only[Option.getD_some];have e:=zAA (r*4294967296+x) d;generalize (r*4294967296+x)/d=q at*;generalize (r*4294967296+x)%d=s at*;generalize nat (List.drop (k+1) zs)=z at*;rw[zZ,zN q d,zAU,zC];omega
theorem zTs(ao:Option Addr)(n cap:Nat)(xs:List Nat)(d:Nat)(w:World)(hn:xs.length=n)(hb:n<=4*LIM)(hx:yB w ao xs)(hd0:0<d)(hd:d<4294967296):
  CPq 206 #[.slice ao n cap,.int .u32 (d:Nat)] w fun e w'=>
   ∃g qs r,e= .returned (.tuple #[slq g n n,.int .u32 (r:Nat)])/\zCz w' g qs/\zA6 qs/\qs.length=n/\r<d/\nat xs=nat qs*d+r/\BWq w w':=by
 have HN:=zI hn;have hlen1:xs.length<=n:=oM;have hlen1':n<=xs.length:=oM;clear hn;rw[zC0]at hb;have hmk:=fun W=>mkU (n:Int) n oM oM W
 go_enter Tryz.func206,Tryz.ntmps206;go_wp2;clear hmk;go_loopw [7,8] (fun rv i wr=>∃(k r:Nat) (zs:List Nat),k<=n/\i=niq ((k:Int)-1)/\rv= .int .u64 r/\r<d/\zCz wr w.heap.size zs/\BWq w wr/\n<=zs.length∧
   Hid (zs.length=n/\zA6 zs/\nat (xs.drop k)=nat (zs.drop k)*d+r)) (fun _ i _=>(intOf i+1).toNat)
 case atStart=>exact⟨n,0,List.replicate n 0,oM,by go_num,rfl,oM,zCz.made _ _,(zA _ _).alloc (xgf _) _,by simp,⟨by simp,fun x hx=>by rw[List.eq_of_mem_replicate hx];exact zCk,by rw[qP hlen1,qP sI];simp⟩⟩
 obtain⟨k,r,zs,hk,rfl,rfl,hr,hblk,hbel,hlz,HH⟩:=hrel;cases k with
 |zero=>
  go_wp2;go_ret2;refine⟨_,zs,r,by congr 3,hblk,HH.out.2.1,HH.out.1,hr,by simpa using HH.out.2.2,hbel⟩
 | succ k=>
  have hfr:=hblk.frozen k;obtain⟨b,off,x,rfl,hbw,hx32,HX,hck⟩:=hx.limb (k:=k) oM;have hck':=(hbel.cell (p:=⟨b,off+k,none⟩) hbw).trans hck;have hcz:=hblk.cell (k:=k) oM;clear hck;have eo:=zPW r x oM hx32;have hq:(r*4294967296+x)/d<4294967296:=by
   rw[zCI hd0];have:(r+1)*4294967296<=d*4294967296:=zM _ hr;omega
  have hr':(r*4294967296+x)%d<d:=yH _ hd0;have EQ:Hid (((r:Int)*4294967296+x)/d=(((r*4294967296+x)/d:Nat):Int)):=by show _=_;simp
  have ER:Hid (((r:Int)*4294967296+x)%d=(((r*4294967296+x)%d:Nat):Int)):=by show _=_;simp
  go_wp2;go_roundw
  case rel=>exact⟨k,(r*4294967296+x)%d,zs.set k ((r*4294967296+x)/d),oM,by go_num,by rw[ER.out],hr',hblk.set' _ _ _ (by rw[EQ.out];exact zLJ _ hq),hbel.setCell (xgf _) _,by simpa using hlz,
    ⟨by simpa using HH.out.1,HH.out.2.1.set _ _ hq,zRB HH.out.2.2 oM oM HX.out⟩⟩
  case measure=>simp[intOf]
end Go.Proofs.YtkidaebmhlijlaaGreat

namespace Go.Proofs.YtkidaebmhlijlaaGreat
open Go.Shelf Go.RowKit
def Tryz.lays128_ren:Go.Shelf.Ren:=⟨fun|128=>212|n=>n,fun|51=>113|3=>3|4=>4|46=>114|5=>5|9=>9|n=>n,fun|n=>n⟩
def Tryz.lays133_ren:Go.Shelf.Ren:=⟨fun|133=>207|128=>212|n=>n,fun|51=>113|3=>3|4=>4|46=>114|5=>5|9=>9|n=>n,fun|n=>n⟩
theorem Tryz.lays133:Go.Proofs.Lays.n133 Tryz.prog Tryz.lays133_ren:={
 mixed:=by kernel_rfl
 f128:=Tryz.func212.trans (congrArg some kR)
 f133:=Tryz.func207.trans (congrArg some kR)
 t3:=zDJ
 a3:=Tryz.isAgg3
 z3:=Tryz.sizeOf3
 v3:=Tryz.zeroValue3
 t4:=Tryz.underlying4
 a4:=Tryz.isAgg4
 z4:=Tryz.sizeOf4
 v4:=Tryz.zeroValue4
 t5:=zBu
 a5:=Tryz.isAgg5
 z5:=Tryz.sizeOf5
 v5:=Tryz.zeroValue5
 t9:=Tryz.underlying9
 a9:=Tryz.isAgg9
 z9:=Tryz.sizeOf9
 v9:=Tryz.zeroValue9
 t46:=Tryz.underlying114
 a46:=Tryz.isAgg114
 z46:=Tryz.sizeOf114
 v46:=Tryz.zeroValue114
 t51:=Tryz.underlying113
 a51:=Tryz.isAgg113
 z51:=Tryz.sizeOf113
 v51:=Tryz.zeroValue113}
theorem Tryz.bits_LeadingZeros32(x:Int)(w:World)(h0:0<=x)(h1:x<=4294967295):
  CPq 207 #[.int .u32 x] w fun e w'=>e= .returned (niq (32-(Lib.bitLen x.toNat:Int)))/\w'=w:=Any.bits_LeadingZeros32 Tryz.lays133 x w h0 h1
theorem zGu:∀(f x:Nat),x<2^f->0<x->2^(Lib.bitLenAux f x-1)<=x/\x<2^Lib.bitLenAux f x/\0<Lib.bitLenAux f x
 |0,x,h,h0=>by simp at h;omega
 | f+1,x,h,h0=>by
  unfold Lib.bitLenAux;rw[if_neg oM];by_cases h1:x/2=0
  ·have:x=1:=oM
   subst this;cases f<;>simp[Lib.bitLenAux]
  obtain⟨a,b,c⟩:=zGu f (x/2) (by rw[qI]at h;omega) oM;generalize Lib.bitLenAux f (x/2)=m at*;obtain⟨m,rfl⟩:∃k,m=k+1:=⟨m-1,oM⟩;rw[show 1+(m+1)-1=m+1 by omega,show 1+(m+1)=m+1+1 by omega,qI,qI 2 (m+1)];simp only[Nat.add_sub_cancel]at a;omega
theorem zU7(x:Nat)(w:World)(h0:0<x)(h1:x<4294967296):
  ∃s:Nat,s<32/\2147483648<=x*2^s/\x*2^s<4294967296/\∀w,CPq 207 #[.int .u32 (x:Nat)] w fun e w'=>e= .returned (niq (s:Nat))/\w=w':=by
 have hsp:=zGu 64 x oM h0;obtain⟨a,b,c⟩:=hsp;have hL:Lib.bitLen x<=32:=by
  unfold Lib.bitLen;rcases zG 32 (Lib.bitLenAux 64 x)with h|h
  ·have:=zQ (show 0<2 by omega) (show 32<=Lib.bitLenAux 64 x-1 by omega)
   omega
  exact h
 refine⟨32-Lib.bitLen x,?_,?_,?_,fun w=>(Tryz.bits_LeadingZeros32 (x:Int) w oM oM).mono fun e w' h=>⟨?_,h.2.symm⟩⟩;unfold Lib.bitLen;omega
 ·unfold Lib.bitLen at*
  generalize Lib.bitLenAux 64 x=m at*;have:2^(m-1)*2^(32-m)=2^31:=by rw[<-yD];congr 1;omega
  have h3:=zM (2^(32-m)) a;omega
 ·unfold Lib.bitLen at*
  generalize Lib.bitLenAux 64 x=m at*;have:2^m*2^(32-m)=2^32:=by rw[<-yD];congr 1;omega
  have h3:=(zCU (a:=2^(32-m)) (qR oM)).2 b;omega
 rw[h.1];simp only[Int.toNat_natCast];congr 2;omega
end Go.Proofs.YtkidaebmhlijlaaGreat

namespace Go.Proofs.YtkidaebmhlijlaaGreat
open Go.RowKit
theorem zYn(d x s:Nat)(hd:d<2^s):d|||x*2^s=d+x*2^s:=by
 have h:=Nat.shiftLeft_add_eq_or_of_lt hd x;rw[Nat.shiftLeft_eq]at h;rw[Nat.or_comm,<-h,zCp]
theorem zPn{s:Nat}(hx:x<4294967296)(hs:s<32):x*2^s<=4294967295*2^s/\4294967296*2^s<18446744073709551616:=by
 refine⟨zM _ oM,?_⟩;have:2^s<=2^31:=zQ oM oM;omega
theorem zXU(d x s:Nat)(hd:d<2^s)(hx:x<4294967296)(hs:s<32):bits BinOp.or IntKind.u64 (d:Int) (IntKind.u64.wrap ((x:Int)*2^s))=((d+x*2^s:Nat):Int):=by
 obtain⟨h1,h2⟩:=zPn hx hs;have e:IntKind.u64.wrap ((x:Int)*2^s)=((x*2^s:Nat):Int):=by
  rw[zAm,show(x:Int)*2^s=((x*2^s:Nat):Int) by simp];generalize x*2^s=m at*;generalize 2^s=p at*;omega
 have h:=u64_or_nat d (x*2^s) (by generalize x*2^s=m at*;generalize 2^s=p at*;omega) (by generalize x*2^s=m at*;generalize 2^s=p at*;omega);rw[e,h,zYn d x s hd]
theorem zRA{p m:Nat}(h:nat (zs.take k)+d*B32^k=nat (xs.take k)*p)(hk:k<zs.length)(hx:xs.getD k 0=x)(hm:d+x*p=m):
  nat ((zs.set k (m%4294967296)).take (k+1))+m/4294967296*B32^(k+1)=nat (xs.take (k+1))*p:=by
 rw[zB3 _ _ _ hk,jF xs,hx,zZ,<-h,qI,zCE];have e:=zAA m 4294967296;generalize m/4294967296=q at*;generalize m%4294967296=r at*;have e1:x*4294967296^k*p=x*p*4294967296^k:=by simp only[Nat.mul_assoc,Nat.mul_comm,Nat.mul_left_comm]
 rw[e1];generalize 4294967296^k=t at*;have e2:(4294967296*q+r)*t=(d+x*p)*t:=by rw[e,hm]
 rw[zZ,zZ,zN 4294967296 q,zC,zN 4294967296 t]at e2;omega
theorem zNB(ao:Option Addr)(n cap:Nat)(xs:List Nat)(s:Nat)(w:World)(hn:xs.length=n)(hb:n<=4*LIM)(hx:yB w ao xs)(hs:s<32):
  CPq 208 #[.slice ao n cap,niq (s:Nat)] w fun e w'=>
   ∃g zs,e= .returned (slq g (n+1) (n+1))/\w.heap.size<=g/\zCz w' g zs/\zA6 zs/\zs.length=n+1/\nat zs=nat xs*2^s/\BWq w w':=by
 have HN:=zI hn;have hlen1:xs.length<=n:=oM;have hlen1':n<=xs.length:=oM;clear hn;rw[zC0]at hb;have hmk:=fun W=>mkU ((n:Int)+1) (n+1) oM oM W
 go_enter Tryz.func208,Tryz.ntmps208;go_wp2;clear hmk;go_loopw [6,15] (fun c i wr=>∃(k d:Nat) (zs:List Nat),k<=n/\i=niq k/\c= .int .u64 d/\d<4294967296/\zCz wr w.heap.size zs/\BWq w wr/\n<zs.length∧
   Hid (zs.length=n+1/\zA6 zs/\d<2^s/\nat (zs.take k)+d*B32^k=nat (xs.take k)*2^s)) (fun _ i _=>n-(intOf i).toNat)
 case atStart=>exact⟨0,0,List.replicate (n+1) 0,oM,rfl,rfl,oM,zCz.made _ _,(zA _ _).alloc (xgf _) _,by simp,⟨by simp,fun x hx=>by rw[List.eq_of_mem_replicate hx];exact zCk,qR oM,by simp⟩⟩
 obtain⟨k,d,zs,hk,rfl,rfl,hd,hblk,hbel,hlz,HH⟩:=hrel;have hfr:=hblk.frozen k;by_cases hkn:k<n
 ·obtain⟨b,off,x,rfl,hbw,hx32,HX,hck⟩:=hx.limb (k:=k) oM
  have hck':=(hbel.cell (p:=⟨b,off+k,none⟩) hbw).trans hck;have hcz:=hblk.cell (k:=k) oM;clear hck;have hor:=zXU d x s HH.out.2.2.1 hx32 hs;obtain⟨hs1,hs2⟩:=zPn hx32 hs;obtain⟨m,hm⟩:∃m,d+x*2^s=m:=⟨_,rfl⟩;rw[hm]at hor;have hmlt:m<4294967296*2^s:=by have:=HH.out.2.2.1;generalize x*2^s=y at*;generalize 2^s=p at*;omega
  have hmd:m/4294967296<2^s:=oM;have HM:=zI hm;have HMD:=zI hmd;have hm64:m<18446744073709551616:=by generalize 2^s=p at*;omega
  clear hm hmlt hs1 hs2 hmd;go_wp2;go_roundw
  case rel=>exact⟨k+1,m/4294967296,zs.set k (m%4294967296),oM,by go_num,by go_num,oM,hblk.set' _ _ _ (by simp[IntKind.wrap_u32]),hbel.setCell (xgf _) _,by simpa using hlz,
    ⟨by simpa using HH.out.1,HH.out.2.1.set _ _ (yH _ oM),HMD.out,zRA HH.out.2.2.2 oM HX.out HM.out⟩⟩
  case measure=>exact meq
 obtain rfl:n=k:=oM;have hcz:=hblk.cell (k:=n) oM;go_wp2;go_ret;have h1:=HH.out.2.2.2;have h2:=zB3 zs n d hlz;rw[yG _ (by simp[HH.out.1]),h1,yG xs oM]at h2;exact⟨_,zs.set n d,rfl,xgf _,hblk.set' _ _ d (by simp[IntKind.wrap_u32]),HH.out.2.1.set _ _ hd,by simpa using HH.out.1,h2,hbel.setCell (xgf _) _⟩
end Go.Proofs.YtkidaebmhlijlaaGreat

namespace Go.Proofs.YtkidaebmhlijlaaGreat
def seg(us:List Nat)(off k:Nat):List Nat:=(us.drop off).take k
theorem zK7(h:off+k<=us.length):(seg us off k).length=k:=by unfold seg;simp;omega
theorem zVa(h:off+k<us.length):seg us off (k+1)=seg us off k++ [us.getD (off+k) 0]:=by
 unfold seg;rw[zE1 _ _ (by simp;omega)];simp[xgb,List.getElem?_drop]
theorem zIe(h:off+k<us.length):nat (seg us off (k+1))=nat (seg us off k)+us.getD (off+k) 0*B32^k:=by
 rw[zVa h,zEO,zK7 (by omega),zN]
theorem zA6.drop(h:zA6 xs)(k:Nat):zA6 (xs.drop k):=fun x hx=>h x (List.mem_of_mem_drop hx)
theorem zA6.seg(h:zA6 xs)(off k:Nat):zA6 (seg xs off k):=(h.drop off).take k
def put(us:List Nat)(off:Nat)(ms:List Nat):List Nat:=us.take off++ms++us.drop (off+ms.length)
theorem zFE(h:off+ms.length<=us.length):(put us off ms).length=us.length:=by unfold put;simp;omega
theorem zXW(us:List Nat)(off:Nat):put us off []=us:=by unfold put;simp
theorem zTQ{v:Nat}(h:off+ms.length<us.length):(put us off ms).set (off+ms.length) v=put us off (ms++ [v]):=by
 unfold put;have h1:(us.take off++ms).length=off+ms.length:=by simp;omega
 rw[zBD _ _ (by rw[h1];omega),h1,jW,jG h];simp[Nat.add_assoc]
theorem zPd(h:off+ms.length<=us.length)(hk:ms.length<=k):(put us off ms).getD (off+k) 0=us.getD (off+k) 0:=by
 unfold put;have h1:(us.take off++ms).length=off+ms.length:=by simp;omega
 simp only[xgb];rw[List.getElem?_append_right (by rw[h1];omega),h1,List.getElem?_drop];congr 2;omega
theorem zOZ(h:off+ms.length<=us.length)(hk:k<ms.length):(put us off ms).getD (off+k) 0=ms.getD k 0:=by
 unfold put;have h2:(us.take off).length=off:=by simp;omega
 simp only[xgb];rw[List.getElem?_append_left (by simp;omega),List.getElem?_append_right (by rw[h2];omega),h2];congr 2;omega
theorem zTP(h:zA6 us)(hm:zA6 ms):zA6 (put us off ms):=((h.take off).append hm).append (h.drop _)
theorem zQy{v:Nat}(h:off+ms.length<=us.length)(hk:k<ms.length):(put us off ms).set (off+k) v=put us off (ms.set k v):=by
 unfold put;have h2:(us.take off).length=off:=by simp;omega
 rw[List.set_append_left _ _ (by simp;omega),zBD _ _ (by rw[h2];omega),h2,qS];simp
theorem zVG(hv:zA6 vs)(hl:vs.length=n+2):
  ∃l,l<B32^n/\nat vs=(vs.getD (n+1) 0*B32+vs.getD n 0)*B32^n+l:=by
 refine⟨nat (vs.take n),?_,?_⟩;have:=zEK (hv.take n);rwa[qF,zBN (by omega)]at this;have h1:=jF vs (n+1);have h2:=jF vs n;rw[yG vs (by omega),h2,qI]at h1;rw[h1,zZ,zC,zN B32 (B32^n)];omega
theorem zVH(hv:zA6 us)(hl:us.length=n+3):
  ∃l,l<B32^n/\nat us=((us.getD (n+2) 0*B32+us.getD (n+1) 0)*B32+us.getD n 0)*B32^n+l:=by
 refine⟨nat (us.take n),?_,?_⟩;have:=zEK (hv.take n);rwa[qF,zBN (by omega)]at this;have h1:=jF us (n+2);have h2:=jF us (n+1);have h3:=jF us n;rw[yG us (by omega),h2,h3]at h1;rw[h1,show B32^(n+2)=B32*(B32*B32^n) by rw[qI,qI,zN,zN (B32^n)],show B32^(n+1)=B32*B32^n by rw[qI,zN]];generalize B32^n=P;simp only[Nat.add_mul,Nat.mul_assoc];omega
theorem zXR(t B p:Nat):t*(B*p)=t*p*B:=by rw[zN B p,<-zC]
section
variable {U V Q h v2 u2 top p Ul Vl:Nat} (hU:U=(top*4294967296+u2)*p+Ul) (hV:V=(h*4294967296+v2)*p+Vl) (hp:0<p) (hUl:Ul<p) (hVl:Vl<p)
 (hu2:u2<4294967296) (hv2:v2<4294967296) (hh:2147483648<=h) (hh2:h<4294967296) (hQ:Q*V<=U) (hQB:Q<4294967296) (hUV:U<V*4294967296)
include hU hV hp hUl hVl hu2 hv2 hh hh2 hQ hQB hUV
omit hUl hu2 hh hh2 hQ hQB hUV in
theorem zZV(hqr:q*h+r=top)(hb:r*4294967296+u2<q*v2)(hUl:Ul<p):U<q*V:=by
 have h1:top*4294967296+u2+1<=q*(h*4294967296+v2):=by
  rw[<-hqr,zAU,zZ,zC];omega
 have h2:=zM p h1;rw[hU,hV,zAU,<-zC];rw[zZ _ 1 p]at h2;omega
theorem zYe(hqr:q*h+r=top)(hq:Q<=q)(hb:q>4294967295∨r*4294967296+u2<q*v2):Q<=q-1:=by
 rcases hb with hb|hb
 omega;have h1:=zZV hU hV hp hVl hv2 hqr hb hUl;rcases zG Q q with h2|h2
 omega;have:=zM V h2;omega
theorem zXH:Q<=top/h:=by
 rw[Nat.le_div_iff_mul_le (by omega)];rcases zG top (Q*h)with h1|h1
 ·exfalso
  have h2:(top+1)*(4294967296*p)<=Q*h*(4294967296*p):=zM _ h1;have h3:Q*h*(4294967296*p)<=Q*V:=by
   rw[hV,zC];refine zH _ ?_;rw[zZ,<-zC];omega
  have h4:U<(top+1)*(4294967296*p):=by
   rw[hU,zZ,zZ,<-zC];have:(u2+1)*p<=4294967296*p:=zM _ hu2;rw[zZ]at this;omega
  omega
 exact h1
theorem zWI:top<(h+1)*4294967296:=by
 rcases zG top ((h+1)*4294967296)with h1|h1
 exact h1;exfalso;have h2:V<(h+1)*4294967296*p:=by
  rw[hV];have:(h*4294967296+v2+1)*p<=(h+1)*4294967296*p:=zM _ (by omega);rw[zZ _ 1]at this;omega
 have h3:=zM (4294967296*p) h1;have h4:top*(4294967296*p)<=U:=by rw[hU,zZ,<-zC,zED];exact zBs _ _
 rw[zXR]at h3;have h5:=zM 4294967296 (zAp h2);exact absurd (zJ hUV (zB h5 (zB h3 h4))) (Nat.lt_irrefl _)
theorem zU6:top/h<=4294967297:=by
 have h1:=zWI hU hV hp hUl hVl hu2 hv2 hh hh2 hQ hQB hUV;have:top/h<4294967298:=by
  rw[zCI (by omega)];omega
 omega
theorem zZW(hqr:q*h+r=top)(hqB:q<4294967296)(hb:q*v2<=r*4294967296+u2):q<=Q+1∨q*V<U+V:=by
 right;have h1:q*(h*4294967296+v2)<=top*4294967296+u2:=by
  rw[<-hqr,zAU,zZ,zC];omega
 have h2:=zM p h1;rw[hV,zAU,<-zC,hU];have h3:q*Vl<=4294967295*p:=qO (by omega) (by omega);have h4:4294967296*p<=h*4294967296*p:=zM _ (by omega);rw[zZ (h*4294967296)];omega
theorem zXI(hqr:q*h+r=top)(hr:4294967295<r):q<4294967296/\q*v2<=r*4294967296+u2:=by
 have h1:=zWI hU hV hp hUl hVl hu2 hv2 hh hh2 hQ hQB hUV;have h2:q<4294967296:=by
  rcases zG q 4294967296 with h3|h3
  exact h3;have:=zM h h3;omega
 refine⟨h2,?_⟩;have h3:q*v2<=4294967296*4294967296:=qO (by omega) (by omega);omega
end
theorem zSx{x e v b' c':Nat}(h:nat ms+q*nat (vs.take ms.length)=nat (seg us off ms.length)+(b+c)*B32^ms.length)(hk:off+ms.length<us.length)
  (hx:us.getD (off+ms.length) 0=x) (he:vs.getD ms.length 0=e) (hv:v+(c+q*e)+b=x+(b'+c')*4294967296):
  nat (ms++ [v])+q*nat (vs.take (ms.length+1))=nat (seg us off (ms.length+1))+(b'+c')*B32^(ms.length+1):=by
 rw[zEO,zIe hk,jF,hx,he,qI,zCE,zAU,<-zC q];rw[zCE]at h;generalize 4294967296^ms.length=p at*;have e1:(v+(c+q*e)+b)*p=(x+(b'+c')*4294967296)*p:=by rw[hv]
 have e2:(b'+c')*(p*4294967296)=(b'+c')*4294967296*p:=by rw[zC,zN p]
 rw[e2,zN p v];simp only[Nat.add_mul]at*;omega
theorem zMG(h:nat rr+c*B32^rr.length=nat (ms.take rr.length)+nat (vs.take rr.length))(hx:ms.getD rr.length 0=x)(he:vs.getD rr.length 0=e):
  nat (rr++ [(c+(x+e))%4294967296])+(c+(x+e))/4294967296*B32^(rr.length+1)=nat (ms.take (rr.length+1))+nat (vs.take (rr.length+1)):=by
 rw[zEO,jF,jF,hx,he,qI,zCE];rw[zCE]at h;generalize 4294967296^rr.length=p at*;have e0:=zAA (c+(x+e)) 4294967296;generalize (c+(x+e))/4294967296=q at*;generalize hr:(c+(x+e))%4294967296=r at*;have e2:(4294967296*q+r)*p=(c+(x+e))*p:=by rw[e0]
 rw[zZ,zN 4294967296 q,zC,zN 4294967296 p,zZ,zZ]at e2;rw[zN p r];omega
end Go.Proofs.YtkidaebmhlijlaaGreat

namespace Go.Proofs.YtkidaebmhlijlaaGreat
open Go.RowKit
theorem zMw(w:World)(g:Nat):w.grownBy w (some g):=⟨rfl,rfl,rfl,xgf _,fun _ _ _=>rfl⟩
theorem zHo(h:a.grownBy w (some g))(i:Nat)(u:Value):a.grownBy (w.setCell ⟨g,i,none⟩ u) (some g):=
 ⟨h.os,h.tape,h.output,by simpa[World.setCell]using h.size,fun k hk hne=>(yF w ⟨g,i,none⟩ u k (fun e=>hne (by rw[e]))).trans (h.block k hk hne)⟩
theorem zQu(h:a.grownBy w (some g))(n:Nat):a.grownBy (w.drewN n) (some g):=⟨h.os,h.tape,h.output,h.size,h.block⟩
theorem zMv{o:Nat}{v:Value}(h:a.grownBy w (some g))(hne:b≠g)(hc:a.cell? ⟨b,o,none⟩=some v):w.cell? ⟨b,o,none⟩=some v:=
 (World.cell?_of_block (w:=a) (h.block b (yU a _ hc) (fun e=>hne (by injection e)))).trans hc
theorem zKy{b c:World}(h:a.grownBy b (some g))(k:b.grownBy c (some g)):a.grownBy c (some g):=
 ⟨k.os.trans h.os,k.tape.trans h.tape,k.output.trans h.output,zB h.size k.size,fun i hi hne=>(k.block i (zJ hi h.size) hne).trans (h.block i hi hne)⟩
theorem zSu{v:Nat}(h:rr.length=k)(hk:k<rs.length):(rr++rs.drop k).set k v=(rr++ [v])++rs.drop (k+1):=by
 rw[zBD _ _ oM,h,jW,jG hk,xgi];simp
theorem zXO(h:rr.length=k)(hk:k<rs.length):(rr++rs.drop k).getD k 0=rs.getD k 0:=by
 simp only[xgb];rw[List.getElem?_append_right oM,h,jW,List.getElem?_drop,zAa]
theorem zVp{a lv nms:Nat}(h1:a+c*P=nms+V)(h2:nms+P*lv+(Q+1)*V=U+P*4294967296)(ha:a<P)(hV:V<P)(hU:U<(Q+1)*V)(hQ:Q*V<=U)(hlv:lv<4294967296)(hc:c<=1):
  lv+c=4294967296/\U=Q*V+a:=by
 rw[zZ,zAs]at h2 hU;rcases(show c=0∨c=1 by omega)with rfl|rfl
 ·exfalso
  have h3:P*lv+P<=P*4294967296:=by rw[<-Nat.mul_succ];exact zH P hlv
  omega
 rcases zG lv 4294967295 with h4|h4
 ·exfalso
  have h3:P*lv+P+P<=P*4294967296:=by
   have:=zH P (show lv+2<=4294967296 by omega);rw[zAU]at this;omega
  omega
 obtain rfl:lv=4294967295:=oM;exact⟨rfl,oM⟩
def zUV(w:World)(g off n:Nat)(ua vs:List Nat)(e:Ending)(w':World):Prop:=
 ∃(q:Nat) (rs:List Nat),e= .returned (.int .u32 (q:Nat))/\q<4294967296/\rs.length=n+1/\zA6 rs/\nat (seg ua off (n+1))=q*nat vs+nat rs/\nat rs<nat vs/\zCz w' g (put ua off rs)/\w.grownBy w' (some g)
theorem zJw(x y d:Nat)(hx:x<4294967296)(hy:y<4294967296)(hd:d<=1):
  ∃v e:Nat,IntKind.u32.wrap (IntKind.u64.wrap (IntKind.u64.wrap ((x:Int)-y)-d))=v/\IntKind.u64.wrap (IntKind.u64.wrap ((x:Int)-y)-d)/9223372036854775808=e/\v<4294967296/\e<=1/\v+y+d=x+e*4294967296:=by
 simp only[IntKind.wrap_u64,IntKind.wrap_u32];by_cases h:y+d<=x
 ·exact⟨x-y-d,0,oM,oM,oM,oM,oM⟩
 exact⟨x+4294967296-y-d,1,oM,oM,oM,oM,oM⟩
theorem zWn(m:Nat)(h:m<18446744073709551616):bits BinOp.and IntKind.u64 (m:Int) 4294967295=((m%4294967296:Nat):Int):=by
 have h1:=u64_and_nat m 4294967295 h oM;have h2:m &&& 4294967295=m%4294967296:=Nat.and_two_pow_sub_one_eq_mod m 32;rw[h2]at h1;exact h1
theorem zXX(h1:R+q*V=U)(h2:U<(Q+1)*V)(h3:Q<=q):R<V:=by
 have:Q*V<=q*V:=zM V h3;rw[zZ,zAs]at h2;omega
theorem zZd(h1:R+q*V=U+P)(hR:R<P)(h2:U<(Q+1)*V)(h3:Q*V<=U)(h4:q<=Q+1∨q*V<U+V):q=Q+1:=by
 have a:Q<q:=by
  rcases zG Q q with h|h
  exact h;have:=zM V h;omega
 rcases h4 with h4|h4
 omega;rcases zG (Q+1) q with h|h
 ·have:=zM V h
  rw[zZ (Q+1) 1,zAs]at this;omega
 omega
theorem zR8(g off cap b2 off2 n cap2:Nat)(ua vs:List Nat)(w:World)(hU:zCz w g ua)(hul:zA6 ua)(hv:yB w (some ⟨b2,off2,none⟩) vs)(hsep:b2≠g)(hn:vs.length=n)(hn2:2<=n)
  (hlen:off+n<ua.length) (hb:n<=4*LIM) (hhigh:2147483648<=vs.getD (n-1) 0) (hQ:nat (seg ua off (n+1))<nat vs*4294967296):
  CPq 209 #[.slice (some ⟨g,off,none⟩) (n+1) cap,.slice (some ⟨b2,off2,none⟩) n cap2] w (zUV w g off n ua vs):=by
 have HN:=zI hn;have HQ:=zI hQ;have hlv:n<=vs.length:=oM;have hcv:∀k,k<n->w.cell? ⟨b2,off2+k,none⟩=some (.int .u32 (vs.getD k 0:Nat)):=fun k hk=>by
  obtain⟨b,o,e1,_,e2⟩:=hv.cell (k:=k) oM;injection e1 with e1;injection e1 with e1 e3;subst e1;subst e3
  exact e2
 obtain⟨hi,HHI⟩:∃x,vs.getD (n-1) 0=x:=⟨_,rfl⟩;obtain⟨v2,HV2⟩:∃x,vs.getD (n-2) 0=x:=⟨_,rfl⟩;obtain⟨x0,HX0⟩:∃x,ua.getD (off+n) 0=x:=⟨_,rfl⟩;obtain⟨x1,HX1⟩:∃x,ua.getD (off+(n-1)) 0=x:=⟨_,rfl⟩;obtain⟨x2,HX2⟩:∃x,ua.getD (off+(n-2)) 0=x:=⟨_,rfl⟩;have f1:=hcv (n-1) oM;have f2:=hcv (n-2) oM;have f3:=hU.cell (k:=off+n) oM;have f4:=hU.cell (k:=off+(n-1)) oM;have f5:=hU.cell (k:=off+(n-2)) oM;have hhi:hi<4294967296:=by rw[<-HHI];exact hv.1.get _
 have hv2:v2<4294967296:=by rw[<-HV2];exact hv.1.get _
 have hx0:x0<4294967296:=by rw[<-HX0];exact hul.get _
 have hx1:x1<4294967296:=by rw[<-HX1];exact hul.get _
 have hx2:x2<4294967296:=by rw[<-HX2];exact hul.get _
 rw[HHI]at f1 hhigh;rw[HV2]at f2;rw[HX0]at f3;rw[HX1]at f4;rw[HX2]at f5;have GHI:=zI HHI;have GV2:=zI HV2;have GX0:=zI HX0;have GX1:=zI HX1;have GX2:=zI HX2;have HCV:=zI hcv;clear HHI HV2 HX0 HX1 HX2 hn hcv hQ;rw[zC0]at hb;obtain⟨top,htop⟩:∃t,x0*4294967296+x1=t:=⟨_,rfl⟩;have eo:=zPW x0 x1 hx0 hx1;rw[htop]at eo;have ht64:top<18446744073709551616:=oM;obtain⟨U,hUU⟩:∃U,nat (seg ua off (n+1))=U:=⟨_,rfl⟩;obtain⟨V,hVV⟩:∃V,nat vs=V:=⟨_,rfl⟩;obtain⟨Q,hQQ⟩:∃Q,U/V=Q:=⟨_,rfl⟩;have hV0:0<V:=by
  rcases qN V with h|h
  have:=HQ.out;rw[hUU,hVV,h]at this;omega;exact h
 have K:∃p Ul Vl,U=(top*4294967296+x2)*p+Ul/\V=(hi*4294967296+v2)*p+Vl/\0<p/\Ul<p/\Vl<p/\Q*V<=U/\Q<4294967296/\U<V*4294967296/\U<(Q+1)*V:=by
  obtain⟨m,rfl⟩:∃m,n=m+2:=⟨n-2,oM⟩;obtain⟨Vl,h1,h2⟩:=zVG hv.1 HN.out;obtain⟨Ul,h3,h4⟩:=zVH (hul.seg off (m+2+1)) (zK7 oM);have hg:∀k,k<m+3->(seg ua off (m+2+1)).getD k 0=ua.getD (off+k) 0:=fun k hk=>by
   unfold seg;simp only[xgb,List.getElem?_take,List.getElem?_drop];rw[if_pos oM]
  have a1:=GHI.out;have a2:=GV2.out;have a3:=GX0.out;have a4:=GX1.out;have a5:=GX2.out;rw[show m+2-1=m+1 by omega]at a1 a4;rw[show m+2-2=m by omega]at a2 a5;rw[hVV,a1,a2,zCE]at h2;rw[hUU,hg (m+2) oM,hg (m+1) oM,hg m oM,a3,a4,a5,zCE,htop]at h4;refine⟨B32^m,Ul,Vl,h4,h2,qR zCk,h3,h1,?_,?_,?_,?_⟩;rw[<-hQQ];exact Nat.div_mul_le_self U V;rw[<-hQQ,zCI hV0,zN];have:=HQ.out;rwa[hUU,hVV]at this;have:=HQ.out;rwa[hUU,hVV]at this;rw[<-hQQ,zZ,zAs,zN];exact Nat.lt_mul_div_succ U hV0
 obtain⟨p,Ul,Vl,k1,k2,k3,k4,k5,k6,k7,k8,k9⟩:=K;have kdec:=fun q r a b c=>zYe (q:=q) (r:=r) k1 k2 k3 k4 k5 hx2 hv2 hhigh hhi k6 k7 k8 a b c
 have kout:=fun q r a b=>zXI (q:=q) (r:=r) k1 k2 k3 k4 k5 hx2 hv2 hhigh hhi k6 k7 k8 a b
 have kle:=fun q r a b c=>zZW (q:=q) (r:=r) k1 k2 k3 k4 k5 hx2 hv2 hhigh hhi k6 k7 k8 a b c
 have kini:Hid (Q<=top/hi):=zXH k1 k2 k3 k4 k5 hx2 hv2 hhigh hhi k6 k7 k8;have kfst:top/hi<=4294967297:=zU6 k1 k2 k3 k4 k5 hx2 hv2 hhigh hhi k6 k7 k8;have KDEC:=zI kdec;have KOUT:=zI kout;have KLE:=zI kle;have K67:Hid (Q*V<=U/\Q<4294967296/\U<(Q+1)*V/\nat (seg ua off (n+1))=U/\nat vs=V):=⟨k6,k7,k9,hUU,hVV⟩;clear kdec kout kle k1 k2 k3 k4 k5 k6 k7 k8 k9 hUU hVV hQQ htop HQ;have i1:IntKind.i64.wrap ((n:Int)-1)=(n:Int)-1:=qU _ oM;have i2:((n:Int)-1).toNat=n-1:=oM;have i3:(0:Int)<=(n:Int)-1:=oM;go_enter Tryz.func209,Tryz.ntmps209;go_wp2;go_quiet (fail);go_wp2;go_quiet (fail);go_upto_block 0 with(fail)
 clear i1 i2 i3 eo;go_cut [8] (fun qv wr=>∃q k:Nat,qv= .int .u64 q/\q<4294967296/\Hid (wr=w.drewN k)/\Hid (Q<=q/\(q<=Q+1∨q*V<U+V)))
 case first=>
  go_wp2;go_loopw [8,9] (fun qv rv wr=>∃q r k:Nat,qv= .int .u64 q/\rv= .int .u64 r/\q<=4294967297/\r<4294967296/\Hid (wr=w.drewN k)/\Hid (Q<=q/\q*hi+r=top)) (fun qv _ _=>(intOf qv).toNat)
  case atStart=>
   refine⟨top/hi,top%hi,_,?_,?_,kfst,?_,by show _=_;rw[zAH],kini.out,?_⟩
   ·congr 1
    rw[show(top:Int)/(hi:Int)=((top/hi:Nat):Int) by simp,zAm];generalize top/hi=t at kfst;omega
   simp;exact Nat.lt_trans (yH _ oM) hhi;rw[zN];exact zAA _ _
  obtain⟨q,r,k,rfl,rfl,hq,hr,HW,HH⟩:=hrel;have g2:wr.cell? ⟨b2,off2+(n-2),none⟩=some (.int .u32 (v2:Nat)):=by rw[HW.out];exact f2
  have g5:wr.cell? ⟨g,off+(n-2),none⟩=some (.int .u32 (x2:Nat)):=by rw[HW.out];exact f5
  have i1:IntKind.i64.wrap ((n:Int)-2)=(n:Int)-2:=qU _ oM;have i2:((n:Int)-2).toNat=n-2:=oM;have i3:(0:Int)<=(n:Int)-2:=oM;by_cases hbig:4294967295<q
  ·have hd:decide ((4294967295:Int)<(q:Int))=true:=by simp;omega
   have hdec:Hid (Q<=q-1):=KDEC.out q r HH.out.2 HH.out.1 (.inl hbig);have hqr:Hid ((q-1)*hi+(r+hi)=top):=by
    have h1:=HH.out.2;show _=_;rw[Nat.sub_mul,zAs];have:hi<=q*hi:=qQ hi oM;omega
   by_cases hov:4294967295<r+hi
   ·have hout:Hid (q-1<4294967296/\(q-1)*v2<=(r+hi)*4294967296+x2):=KOUT.out (q-1) (r+hi) hqr.out hov
    have hle:Hid (q-1<=Q+1∨(q-1)*V<U+V):=KLE.out (q-1) (r+hi) hqr.out hout.out.1 hout.out.2;have hd3:(4294967295:Int)<(r:Int)+(hi:Int):=oM;go_wp2;go_quiet (fail);go_wp2;go_meet
    case rel=>exact⟨q-1,_,by go_num,hout.out.1,by show _=_;rw[HW.out,zAH],hdec.out,hle.out⟩
   have hd3:(r:Int)+(hi:Int)<=4294967295:=oM;go_wp2;go_quiet (fail);go_wp2;go_roundw
   case rel=>exact⟨q-1,r+hi,_,by go_num,by go_num,oM,oM,by show _=_;rw[HW.out,zAH],hdec.out,hqr.out⟩
   case measure=>exact meq
  have hd:decide ((4294967295:Int)<(q:Int))=false:=by simp;omega
  obtain⟨hm2,hm3⟩:=zHm (x:=q) oM hv2;have hm1:=zHl (x:=q) oM hv2;have eo2:=zPW r x2 hr hx2;obtain⟨t,ht⟩:∃t,r*4294967296+x2=t:=⟨_,rfl⟩;rw[ht]at eo2;have HT:=zI ht;clear ht;by_cases htest:t<q*v2
  ·have hd2:decide ((t:Int)<(q:Int)*(v2:Int))=true:=by simp;rw[<-yS];omega
   have hdec:Hid (Q<=q-1):=KDEC.out q r HH.out.2 HH.out.1 (.inr (by rw[HT.out];exact htest));have hq0:0<q:=by
    rcases qN q with h|h
    rw[h]at htest;simp at htest;exact h
   clear htest;have hqr:Hid ((q-1)*hi+(r+hi)=top):=by
    have h1:=HH.out.2;show _=_;rw[Nat.sub_mul,zAs];have:hi<=q*hi:=qQ hi oM;omega
   by_cases hov:4294967295<r+hi
   ·have hout:Hid (q-1<4294967296/\(q-1)*v2<=(r+hi)*4294967296+x2):=KOUT.out (q-1) (r+hi) hqr.out hov
    have hle:Hid (q-1<=Q+1∨(q-1)*V<U+V):=KLE.out (q-1) (r+hi) hqr.out hout.out.1 hout.out.2;have hd3:(4294967295:Int)<(r:Int)+(hi:Int):=oM;go_wp2;go_quiet (fail);go_wp2;go_meet
    case rel=>exact⟨q-1,_,by go_num,hout.out.1,by show _=_;rw[HW.out,zAH],hdec.out,hle.out⟩
   have hd3:(r:Int)+(hi:Int)<=4294967295:=oM;go_wp2;go_quiet (fail);go_wp2;go_roundw
   case rel=>exact⟨q-1,r+hi,_,by go_num,by go_num,oM,oM,by show _=_;rw[HW.out,zAH],hdec.out,hqr.out⟩
   case measure=>exact meq
  have hd2:decide ((t:Int)<(q:Int)*(v2:Int))=false:=by simp;rw[<-yS];omega
  have hle:Hid (q<=Q+1∨q*V<U+V):=KLE.out q r HH.out.2 oM (by rw[HT.out];omega);clear htest;go_wp2;go_quiet (fail);go_wp2;go_meet
  case rel=>exact⟨q,_,rfl,oM,by show _=_;rw[HW.out,zAH],HH.out.1,hle.out⟩
 obtain⟨q,k,rfl,hqB,HW,HQ⟩:=hcut;have g0:Hid (∀k,k<n->wc.cell? ⟨b2,off2+k,none⟩=some (.int .u32 (vs.getD k 0:Nat))):=by rw[HW.out];exact HCV.out
 have hU1:zCz wc g ua:=by rw[HW.out];exact hU
 have HG1:w.grownBy wc (some g):=by rw[HW.out];exact zQu (zMw w g) k
 clear HCV HW hU f1 f2 f3 f4 f5 KDEC KOUT KLE kini;obtain⟨w2,rfl⟩:∃w2:World,w2=wc:=⟨_,rfl⟩;go_wp2;go_loopw [10,11,76] (fun bv cv i wr=>∃(k b c:Nat) (ms:List Nat),k<=n/\i=niq k/\bv= .int .u64 b/\cv= .int .u64 c/\b<=1/\c<4294967296/\zCz wr g (put ua off ms)/\w2.grownBy wr (some g)∧
   Hid (ms.length=k/\zA6 ms/\nat ms+q*nat (vs.take k)=nat (seg ua off k)+(b+c)*B32^k)) (fun _ _ i _=>n-(intOf i).toNat)
 case atStart=>exact⟨0,0,0,[],oM,rfl,rfl,rfl,oM,oM,by rw[zXW];exact hU1,zMw _ _,⟨rfl,zA6.nil,by simp[seg]⟩⟩
 obtain⟨k,b,c,ms,hk,rfl,rfl,rfl,hb1,hc1,hblk,hgr,HH⟩:=hrel;obtain⟨ml,hml⟩:∃l,ms.length=l:=⟨_,rfl⟩;by_cases hkn:k<n
 ·have hcz:=hblk.cell (k:=off+k) (by rw[zFE (by rw[HH.out.1];omega)];omega)
  rw[zPd (by rw[HH.out.1];omega) (by rw[HH.out.1];exact xgf _)]at hcz;have hfr:=hblk.frozen (off+k);obtain⟨x,HX⟩:∃x,ua.getD (off+k) 0=x:=⟨_,rfl⟩;have hx32:x<4294967296:=by rw[<-HX];exact hul.get _
  rw[HX]at hcz;have HX':=zI HX;clear HX;have hcy:=zMv hgr hsep (g0.out k hkn);obtain⟨y,HY⟩:∃y,vs.getD k 0=y:=⟨_,rfl⟩;have hy32:y<4294967296:=by rw[<-HY];exact hv.1.get _
  rw[HY]at hcy;have HY':=zI HY;clear HY hml;obtain⟨hm2,hm3⟩:=zHm hqB hy32;have hm1:=zHl hqB hy32;obtain⟨lo,hlo⟩:∃l,(c+q*y)%4294967296=l:=⟨_,rfl⟩;obtain⟨cn,hcn⟩:∃l,(c+q*y)/4294967296=l:=⟨_,rfl⟩;have ea:=zWn (c+q*y) (by generalize q*y=m at*;omega);rw[hlo,zAN,yS]at ea;have hlo32:lo<4294967296:=by rw[<-hlo];exact yH _ oM
  have hsum:Hid (c+q*y=cn*4294967296+lo):=by
   have:=zAA (c+q*y) 4294967296;rw[hlo,hcn]at this;show _=_;omega
  have hcn32:cn<4294967296:=by rw[<-hcn];generalize q*y=m at*;omega
  have EC:Hid (((c:Int)+(q:Int)*(y:Int))/4294967296=(cn:Int)):=by
   show _=_;rw[<-hcn,<-yS,<-zAN,Int.natCast_ediv];rfl
  clear hlo hcn;go_wp2;go_roundw;obtain⟨v,e,e1,e2,e3,e4,e5⟩:=zJw x lo b hx32 hlo32 hb1
  case rel=>
   have hp:=zTQ (us:=ua) (ms:=ms) (off:=off) (v:=v) (by rw[HH.out.1];omega);rw[HH.out.1]at hp;refine⟨k+1,e,cn,ms++ [v],oM,by go_num,by rw[e2],by rw[EC.out],e4,hcn32,by rw[<-hp];exact hblk.set' _ _ v (by first|exact e1|omega),zHo hgr _ _,⟨by simp[HH.out.1],HH.out.2.1.append (fun z hz=>by simp at hz;subst hz;exact e3),?_⟩⟩;have hst:=zSx (us:=ua) (ms:=ms) (vs:=vs) (off:=off) (q:=q) (b:=b) (c:=c) (x:=x) (e:=y) (v:=v) (b':=e) (c':=cn) (by rw[HH.out.1];exact HH.out.2.2) (by rw[HH.out.1];omega) (by rw[HH.out.1];exact HX'.out) (by rw[HH.out.1];exact HY'.out) (by rw[hsum.out];omega);rw[HH.out.1]at hst;exact hst
  case measure=>exact meq
 obtain rfl:n=k:=oM;have hpl:(put ua off ms).length=ua.length:=zFE (by rw[HH.out.1];omega);have hcz:=hblk.cell (k:=off+n) (by rw[hpl];omega);rw[zPd (by rw[HH.out.1];omega) (by rw[HH.out.1];exact xgf _),GX0.out]at hcz;have hfr:=hblk.frozen (off+n);obtain⟨lv,le,e1,e2,e3,e4,e5⟩:=zJw x0 c b hx0 hc1 hb1;have hp:=zTQ (us:=ua) (ms:=ms) (off:=off) (v:=lv) (by rw[HH.out.1];omega);rw[HH.out.1]at hp;have hfin:Hid (nat (ms++ [lv])+q*V=U+le*B32^(n+1)):=by
  obtain⟨h1,h2,h3⟩:=HH.out;obtain⟨j1,j2,j3,j4,j5⟩:=K67.out;rw[yG vs (zA3 HN.out),j5]at h3;rw[<-j4,zIe oM,GX0.out];show _=_;rw[zEO,h1,qI,zCE];rw[zCE]at h3;have h4:(lv+c+b)*4294967296^n=(x0+le*4294967296)*4294967296^n:=by rw[e5]
  generalize 4294967296^n=P at*;have h5:le*(P*4294967296)=le*4294967296*P:=by rw[zC,zN P]
  rw[h5,zN P lv];simp only[Nat.add_mul]at*;omega
 have hrl:zA6 (ms++ [lv]):=HH.out.2.1.append (fun z hz=>by simp at hz;subst hz;exact e3);have hrlen:(ms++ [lv]).length=n+1:=by simp[HH.out.1]
 have HP:=zI hp;have ewq:IntKind.u32.wrap (q:Int)=q:=zLJ q hqB;rcases(show le=0∨le=1 by omega)with h01|h01
 ·subst h01
  have hdone:Hid (nat (seg ua off (n+1))=q*nat vs+nat (ms++ [lv])/\nat (ms++ [lv])<nat vs):=by
   obtain⟨j1,j2,j3,j4,j5⟩:=K67.out;have h1:=hfin.out;rw[zBO,zAa]at h1;rw[j4,j5];exact⟨oM,zXX h1 j3 HQ.out.1⟩
  have e2':IntKind.u64.wrap (IntKind.u64.wrap ((x0:Int)-c)-b)/9223372036854775808=0:=e2;clear e2 hp hfin;go_wp2;go_ret;exact⟨q,ms++ [lv],by first|rfl|(rw[ewq];rfl),hqB,hrlen,hrl,hdone.out.1,hdone.out.2,by rw[<-HP.out];exact hblk.set' _ _ lv (by first|exact e1|omega|(simp only[IntKind.wrap_u32,IntKind.wrap_u64];omega)),zKy HG1 (zHo hgr _ _)⟩
 subst h01;have e2':IntKind.u64.wrap (IntKind.u64.wrap ((x0:Int)-c)-b)/9223372036854775808=1:=e2;have hqQ:Hid (q=Q+1):=by
  obtain⟨j1,j2,j3,j4,j5⟩:=K67.out;have h2:=zEK hrl;rw[hrlen]at h2;have h1:=hfin.out;rw[zAs]at h1;exact zZd h1 h2 j3 j1 HQ.out.2
 have hq1:1<=q:=by rw[hqQ.out];omega
 clear e2 hp;go_wp2;refine zD ?_;intro W3 hW3;have hb3:zCz W3 g (put ua off (ms++ [lv])):=by
  rw[hW3.out,<-HP.out];exact hblk.set' _ _ lv (by first|exact e1|omega|(simp only[IntKind.wrap_u32,IntKind.wrap_u64];omega))
 have hg3:w2.grownBy W3 (some g):=by rw[hW3.out];exact zHo hgr _ _
 clear e1 e2' hcz hfr hW3;go_loopw [11,128] (fun cv i wr=>∃(k c:Nat) (rr:List Nat),k<=n/\i=niq k/\cv= .int .u64 c/\c<=1/\zCz wr g (put ua off (rr++(ms++ [lv]).drop k))/\w2.grownBy wr (some g)∧
   Hid (rr.length=k/\zA6 rr/\nat rr+c*B32^k=nat ((ms++ [lv]).take k)+nat (vs.take k))) (fun _ i _=>n-(intOf i).toNat)
 case atStart=>exact⟨0,0,[],oM,rfl,rfl,oM,by simpa using hb3,hg3,⟨rfl,zA6.nil,by simp⟩⟩
 obtain⟨k,c2,rr,hk,rfl,rfl,hc2,hblk4,hgr4,HH4⟩:=hrel;have hal:(rr++(ms++ [lv]).drop k).length=n+1:=by rw[jM,zBX,hrlen,HH4.out.1];omega
 have hpl4:(put ua off (rr++(ms++ [lv]).drop k)).length=ua.length:=zFE (by rw[hal];omega);have hcz:=hblk4.cell (k:=off+k) (by rw[hpl4];omega);rw[zOZ (by rw[hal];omega) (by rw[hal];omega),zXO HH4.out.1 (by rw[hrlen];omega)]at hcz;have hfr:=hblk4.frozen (off+k);have hps:=fun v=>zQy (us:=ua) (ms:=rr++(ms++ [lv]).drop k) (off:=off) (k:=k) (v:=v) (by rw[hal];omega) (by rw[hal];omega)
 have HPS:=zI hps;clear hps;obtain⟨x,HX⟩:∃x,(ms++ [lv]).getD k 0=x:=⟨_,rfl⟩;have hx32:x<4294967296:=by rw[<-HX];exact hrl.get _
 rw[HX]at hcz;have HX':=zI HX;clear HX hal hpl4;by_cases hkn:k<n
 ·have hcy:=zMv hgr4 hsep (g0.out k hkn)
  obtain⟨y,HY⟩:∃y,vs.getD k 0=y:=⟨_,rfl⟩;have hy32:y<4294967296:=by rw[<-HY];exact hv.1.get _
  rw[HY]at hcy;have HY':=zI HY;clear HY;go_wp2;go_roundw
  case rel=>
   refine⟨k+1,(c2+(x+y))/4294967296,rr++ [(c2+(x+y))%4294967296],oM,by go_num,by go_num,oM,?_,zHo hgr4 _ _,⟨by simp[HH4.out.1],HH4.out.2.1.append (fun z hz=>by simp at hz;subst hz;exact yH _ dE),?_⟩⟩
   ·rw[<-zSu HH4.out.1 (by rw[hrlen];omega),<-HPS.out]
    exact hblk4.set' _ _ _ sI
   have hst:=zMG (ms:=ms++ [lv]) (vs:=vs) (rr:=rr) (c:=c2) (x:=x) (e:=y) (by rw[HH4.out.1];exact HH4.out.2.2) (by rw[HH4.out.1];exact HX'.out) (by rw[HH4.out.1];exact HY'.out);rw[HH4.out.1]at hst;exact hst
  case measure=>exact meq
 obtain rfl:n=k:=oM;have hxl:Hid (x=lv):=by
  show _=_;rw[<-HX'.out,xgb,List.getElem?_append_right (by rw[HH.out.1];exact xgf _),HH.out.1];simp
 obtain⟨hsum,hU2⟩:x+c2=4294967296/\U=Q*V+nat rr:=by
  obtain⟨j1,j2,j3,j4,j5⟩:=K67.out;have h1:=HH4.out.2.2;rw[zAY (by rw[HH.out.1];exact xgf _),yG ms (by rw[HH.out.1];exact xgf _),yG vs (zA3 HN.out),j5]at h1;have h2:=hfin.out;rw[zEO,HH.out.1,zAs,hqQ.out,qI,zCE]at h2;have h3:=zEK HH4.out.2.1;rw[HH4.out.1]at h3;have h4:=zEK hv.1;rw[HN.out,j5]at h4;rw[hxl.out];rw[zCE]at h1 h3 h4;exact zVp h1 h2 h3 h4 j3 j1 e3 hc2
 have HS:=zI hU2;have ew0:IntKind.u32.wrap ((x:Int)+(c2:Int))=0:=by rw[zA8];omega
 clear hU2;go_wp2;go_ret;refine⟨q-1,rr++ [0],?_,oM,by simp[HH4.out.1],HH4.out.2.1.append (fun z hz=>by simp at hz;subst hz;exact zCk),?_,?_,?_,zKy HG1 (zHo hgr4 _ _)⟩
 ·show Ending.returned (.int .u32 ((q:Int)-1))=Ending.returned (.int .u32 ((q-1:Nat):Int))
  congr 2;omega
 ·obtain⟨j1,j2,j3,j4,j5⟩:=K67.out
  rw[j4,j5,zEO,zCJ,zAa,HS.out,hqQ.out,Nat.add_sub_cancel]
 ·obtain⟨j1,j2,j3,j4,j5⟩:=K67.out
  rw[zEO,zCJ,zAa,j5];have:=HS.out;rw[zZ,zAs]at j3;omega
 have hm:=zSu (rr:=rr) (rs:=ms++ [lv]) (k:=n) (v:=0) HH4.out.1 (by rw[hrlen];omega);rw[qP (show(ms++ [lv]).length<=n+1 by rw[hrlen];exact xgf _),zA0]at hm;rw[<-hm,<-HPS.out];exact hblk4.set' _ _ 0 (by first|rfl|exact ew0|omega)
section
variable {P:Program} {ops:Array Oper} {Q:Exit->Act->World->Prop}
def zC8(ops:Array Oper):Bool:=(List.range ops.size).all fun i=>((ops[i]?).map (fun o=>o.after.all fun e=>!Region.binds .any e||decide (e.on<i))).getD true
theorem zD0(h:zC8 ops=true)(ho:ops[i]?=some o):∀e∈o.after,Region.binds .any e=true->e.on<i:=by
 intro e he hbd;have hi:i<ops.size:=(Array.getElem?_eq_some_iff.1 ho).1;have h1:=jP.1 h i (yL.2 hi);rw[ho]at h1;have h2:=Array.all_eq_true_iff_forall_mem.1 h1 e he;simpa[hbd]using h2
theorem zFn(hb:zC8 ops=true)(hs:L.size=ops.size)(hr:Region.ready .any ops L= []):
  ∀i,i<ops.size->L[i]?=some true:=by
 intro i;induction i using Nat.strongRecOn with
 | ind i ih=>
  intro hi;have hi':i<L.size:=by omega
  cases hc:L[i]with
  |true=>rw[Array.getElem?_eq_getElem hi',hc]
  | false=>
   exfalso;have hm:i∈Region.ready .any ops L:=by
    rw[mem_ready];refine⟨by simp[hi',hc],ops[i],Array.getElem?_eq_getElem hi,?_⟩;intro e he hbd;have hlt:=zD0 hb (Array.getElem?_eq_getElem hi) e he hbd;have:=ih e.on hlt (by omega);simp[this]
   rw[hr]at hm;cases hm
theorem zKQ(hs:L.size=n)(h:∀i,i<n->L[i]?=some true):L=Array.replicate n true:=by
 apply zCM;simp[hs];intro i h1 h2;have:=h i (by omega);rw[Array.getElem?_eq_getElem h1]at this;simpa using this
def left(L:Array Bool):Nat:=L.toList.count false
theorem zLh(h:L[i]?=some false):left (L.setIfInBounds i true)+1=left L:=by
 unfold left;obtain⟨hi,hv⟩:=Array.getElem?_eq_some_iff.1 h;have hi':i<L.toList.length:=by simpa using hi
 rw[zA4,List.count_set hi'];have hv':L.toList[i]=false:=by simpa using hv
 have hpos:0<L.toList.count false:=List.count_pos_iff.2 (by rw[<-hv'];exact zAd hi');have e1:(L.toList[i]==false)=true:=by rw[hv'];rfl
 have e2:(true==false)=false:=rfl;rw[e1,e2];simp only[if_true,Bool.false_eq_true,if_false];omega
def zDo(o:Oper)(k:Nat):Bool:=o.after.any fun e=>Region.binds .any e && e.on==k
def zAF(P:Program)(ops:Array Oper)(Q:Exit->Act->World->Prop)(ds:List Deferred)(I:Array Bool->Array Value->World->Prop)(i:Nat)(o:Oper):Prop:=
 ∀L T w,L[i]?=some false->(∀(k:Nat) (_:zDo o k=true:=by kernel_rfl),L[k]?=some true)->(∀(j:Nat) (o':Oper),ops[j]?=some o'->L[j]?=some true->∀k,zDo o' k=true->L[k]?=some true)->I L T w->∀K:Act->World->Prop,(∀T' w',I (L.setIfInBounds i true) T' w'->K ⟨T',ds⟩ w')->
   if Region.wanted o (yielded ops T)=true then Oper.wp P o ⟨T,ds⟩ w K Q else K ((⟨T,ds⟩:Act).put o.dst undef) w
theorem qB{T:Array Value}{A B:Prop}(h:Region.wanted o (yielded ops T)=true)(hh:A):if Region.wanted o (yielded ops T)=true then A else B:=by
 rw[if_pos h];exact hh
def zCl(ops:Array Oper)(L:Array Bool):Prop:=∀(j:Nat) (o':Oper),ops[j]?=some o'->L[j]?=some true->∀k,zDo o' k=true->L[k]?=some true
theorem zCl.start:zCl ops (Array.replicate n false):=by
 intro j o' _ h;rw[Array.getElem?_replicate]at h;split at h<;>simp at h
theorem zB7(h:L[j]?=some true):(L.setIfInBounds i true)[j]?=some true:=by
 by_cases e:i=j
 ·subst e
  exact Array.getElem?_setIfInBounds_self_of_lt (Array.getElem?_eq_some_iff.1 h).1
 rw[xgc e];exact h
theorem zCl.set(h:zCl ops L)(ho:ops[i]?=some o)(hd:∀k,zDo o k=true->L[k]?=some true):zCl ops (L.setIfInBounds i true):=by
 intro j o' ho' hj k hk;by_cases e:i=j
 ·subst e
  have:o'=o:=zW (ho'.symm.trans ho);subst this;exact zB7 (hd k hk)
 rw[xgc e]at hj;exact zB7 (h j o' ho' hj k hk)
theorem zUK{I:Array Bool->Array Value->World->Prop}{ds:List Deferred}(hb:zC8 ops=true)
  (hstep:∀i o,ops[i]?=some o->zAF P ops Q ds I i o)
  (hend:∀T w,I (Array.replicate ops.size true) T w->Q .normal ⟨T,ds⟩ w):
  ∀(fuel:Nat) (L:Array Bool) (T:Array Value) (w:World),L.size=ops.size->left L<=fuel->zCl ops L->I L T w->wpAny P .any ops Q fuel L ⟨T,ds⟩ w:=by
 intro fuel;induction fuel with
 | zero=>
  intro L T w hs hl hcl hI;have hall:∀i,i<ops.size->L[i]?=some true:=by
   intro i hi;have hi':i<L.size:=by omega
   cases hc:L[i]with
   |true=>rw[Array.getElem?_eq_getElem hi',hc]
   |false=>
    exfalso;have:=zLh (L:=L) (i:=i) (by rw[Array.getElem?_eq_getElem hi',hc]);omega
  have hL:=zKQ hs hall;refine⟨?_,hend T w (hL ▸ hI)⟩;cases hr:Region.ready .any ops L with
  |nil=>rfl
  |cons x xs=>
   have hx:x∈Region.ready .any ops L:=by rw[hr];simp
   rw[mem_ready]at hx;obtain⟨h0,o,ho,-⟩:=hx;have hx':x<ops.size:=(Array.getElem?_eq_some_iff.1 ho).1;have:=hall x hx';simp[this]at h0
 | succ fuel ih=>
  intro L T w hs hl hcl hI;refine⟨fun hr=>hend T w (zKQ hs (zFn hb hs hr) ▸ hI),?_⟩;intro i hi;obtain⟨h0,o,ho,hall⟩:=mem_ready.1 hi;have hio:i<ops.size:=(Array.getElem?_eq_some_iff.1 ho).1;have hiL:i<L.size:=by omega
  have hLi:L[i]?=some false:=by
   rw[Array.getElem?_eq_getElem hiL];simpa[hiL]using h0
  have hdep:∀k,zDo o k=true->L[k]?=some true:=by
   intro k hk;unfold zDo at hk;rw[<-zA7,zAo]at hk;obtain⟨e,he,hk⟩:=hk;have he:=Array.mem_toList_iff.1 he;simp only[Bool.and_eq_true,beq_iff_eq]at hk;obtain⟨hbd,hon⟩:=hk;subst hon;have hlt:=zD0 hb ho e he hbd;have h1:=hall e he hbd;have h2:e.on<L.size:=by omega
   rw[Array.getElem?_eq_getElem h2];simpa[h2]using h1
  have hls:=zLh hLi;refine wpOp_step ho (fun K' hK=>?_);exact hstep i o ho L T w hLi hdep hcl hI K' (fun T' w' hI'=>hK ⟨T',ds⟩ w' (ih _ _ _ (by simp[hs]) (by omega) (hcl.set ho hdep) hI'))
theorem zL5{id:Nat}{T0:Array Value}{ds:List Deferred}{w:World}(hm:P.follows .mixedOrders=true)(I:Array Bool->Array Value->World->Prop)(hb:zC8 ops=true)
  (h0:I (Array.replicate ops.size false) T0 w.drew)
  (hstep:∀i o,ops[i]?=some o->zAF P ops Q ds I i o)
  (hend:∀T w,I (Array.replicate ops.size true) T w->Q .normal ⟨T,ds⟩ w):(Code.region id ops true).wp P Q ⟨T0,ds⟩ w:=
 wp_region_any hm (zUK hb hstep hend ops.size _ T0 _ (by simp) (by
  unfold left
  rw[Array.toList_replicate,zCS]
  simp) zCl.start h0)
def zJG(p:Nat->Oper->Prop):Nat->List Oper->Prop
 |_,[]=>True
 |i,o::os=>p i o/\zJG p (i+1) os
theorem zJG.get{p:Nat->Oper->Prop}:∀{l:List Oper} {k:Nat},zJG p k l->∀i o,l[i]?=some o->p (k+i) o
 | [],_,_,i,o,h=>by simp at h
 | x::xs,k,hh,i,o,h=>by
  cases i with
  |zero=>simp at h;subst h;exact hh.1
  |succ i=>
   have:=zJG.get hh.2 i o (by simpa using h);rwa[show k+1+i=k+(i+1) by omega]at this
theorem zD3{id:Nat}{os:List Oper}{T0:Array Value}{ds:List Deferred}{w:World}(hm:P.follows .mixedOrders=true)(I:Array Bool->Array Value->World->Prop)(hb:zC8 os.toArray=true)
  (h0:I (Array.replicate os.length false) T0 w.drew)
  (hend:∀T w,I (Array.replicate os.length true) T w->Q .normal ⟨T,ds⟩ w)
  (hstep:zJG (zAF P os.toArray Q ds I) 0 os):(Code.region id os.toArray true).wp P Q ⟨T0,ds⟩ w:=
 zL5 hm I hb (by simpa using h0) (fun i o ho=>by
  have:=hstep.get i o (by simpa using ho);rw[zAR]at this;exact this) (by simpa using hend)
end
section
variable {P:Program} {l:List Oper} {Q:Exit->Act->World->Prop}
def zJd(n m:Nat):Array Bool:=(List.replicate n true++List.replicate (m-n) false).toArray
def zN1(l:List Oper)(n:Nat):Bool:=
 decide (n<l.length) && zC8 l.toArray && Region.sinkB .any l.toArray n && Region.chainB .any l.toArray n && Region.seqB .any l.toArray (l.length-n) n (zJd n l.length)
theorem zSp(hs:n<=L.size)(ht:∀t,n<=t->t<L.size->L[t]?=some false)(hl:left L=L.size-n):L=zJd n L.size:=by
 have h1:L.toList=L.toList.take n++L.toList.drop n:=(List.take_append_drop n _).symm;have h2:L.toList.drop n=List.replicate (L.size-n) false:=by
  apply qT;simp;intro i hi _;simp only[List.getElem_drop,List.getElem_replicate];have:=ht (n+i) (by omega) (by simp at hi;omega);obtain⟨_,h⟩:=Array.getElem?_eq_some_iff.1 this;simpa using h
 have h3:(L.toList.take n).count false=0:=by
  unfold left at hl;rw[h1,List.count_append,h2,zCS]at hl;simp at hl;simpa using hl
 have h4:L.toList.take n=List.replicate n true:=by
  rw[List.eq_replicate_iff];refine⟨by simp;omega,fun b hb=>?_⟩;cases b with
  |true=>rfl
  |false=>exact absurd hb (List.count_eq_zero.1 h3)
 apply Array.toList_inj.1;rw[h1,h2,h4];simp[zJd]
theorem zRW{I:Array Bool->Array Value->World->Prop}{ds:List Deferred}(hB:zN1 l n=true)
  (hstep:∀i o,l[i]?=some o->i<n->zAF P l.toArray Q ds I i o)
  (hend:∀T w,I (zJd n l.length) T w->wpList P l.toArray Q (l.drop n) ⟨T,ds⟩ w):
  ∀(f:Nat) (L:Array Bool) (T:Array Value) (w:World),HeadInv .any l.toArray n L->left L=f+(l.length-n)->zCl l.toArray L->I L T w->wpAny P .any l.toArray Q (f+(l.length-n)) L ⟨T,ds⟩ w:=by
 unfold zN1 at hB;simp only[Bool.and_eq_true,decide_eq_true_eq]at hB;obtain⟨⟨⟨⟨hn,hb⟩,hsk⟩,hch⟩,hsq⟩:=hB;have htl:∀{L:Array Bool},HeadInv .any l.toArray n L->∀t,n<=t->t<L.size->L[t]?=some false:=by
  intro L inv t ht hts;have:=inv.tail t ht (by have:=inv.size;omega);rw[Array.getElem?_eq_getElem hts];simpa[hts]using this
 intro f;induction f with
 | zero=>
  intro L T w inv hl hcl hI;have hsz:L.size=l.length:=by simpa using inv.size
  have hL:L=zJd n l.length:=by
   have:=zSp (L:=L) (n:=n) (by omega) (htl inv) (by rw[hl,hsz];omega);rwa[hsz]at this
  subst hL;rw[zAR];have hdl:(l.drop n).length=l.length-n:=by simp
  have:=wpAny_of_seq (P:=P) (md:=.any) (ops:=l.toArray) (Q':=Q) (l.drop n) n (zJd n l.length) ⟨T,ds⟩ w (fun j=>by simp[List.getElem?_drop]) (by rw[hdl];exact hsq) (hend T w hI);rwa[hdl]at this
 | succ f ih=>
  intro L T w inv hl hcl hI;have hsz:L.size=l.length:=by simpa using inv.size
  rw [show f+1+(l.length-n)=(f+(l.length-n))+1 by omega];have hex:∃i,i<n/\L[i]?=some false:=by
   refine zL fun hno=>?_
   have hall:∀i,i<n->L[i]?=some true:=by
    intro i hi;have hi':i<L.size:=by omega
    cases hc:L[i]with
    |true=>rw[Array.getElem?_eq_getElem hi',hc]
    |false=>exact absurd ⟨i,hi,by rw[Array.getElem?_eq_getElem hi',hc]⟩ hno
   have hLe:L=zJd n l.length:=by
    apply zBZ;intro j;unfold zJd;rcases zG j n with hj|hj
    rw[hall j hj];simp[List.getElem?_append,hj];rcases zG j L.size with hj2|hj2
    ·rw[htl inv j hj hj2]
     have:j-n<l.length-n:=by omega
     simp[List.getElem?_append,Nat.not_lt.2 hj,this]
    rw[Array.getElem?_eq_none hj2];symm;simp;try omega
   rw[hLe]at hl;unfold left zJd at hl;simp[List.count_replicate]at hl
  obtain⟨i0,hi0,hun⟩:=hex;have hun':L.getD i0 true=false:=by
   obtain⟨h1,h2⟩:=Array.getElem?_eq_some_iff.1 hun;simp[h1,h2]
  refine⟨fun hr=>?_,?_⟩
  ·have:=zFn hb inv.size hr i0 (by simp;omega)
   rw[this]at hun;cases hun
  intro i hi;have hin:i<n:=by
   rcases zG i n with h|h
   exact h;exact absurd hi (tail_waits hsk hch (by simpa using hn) inv _ i0 rfl hi0 hun' i h)
  obtain⟨h0,o,ho,hall⟩:=mem_ready.1 hi;have hio:i<l.length:=by have:=(Array.getElem?_eq_some_iff.1 ho).1;simpa using this
  have hiL:i<L.size:=by omega
  have hLi:L[i]?=some false:=by
   rw[Array.getElem?_eq_getElem hiL];simpa[hiL]using h0
  have hdep:∀k,zDo o k=true->L[k]?=some true:=by
   intro k hk;unfold zDo at hk;rw[<-zA7,zAo]at hk;obtain⟨e,he,hk⟩:=hk;have he:=Array.mem_toList_iff.1 he;simp only[Bool.and_eq_true,beq_iff_eq]at hk;obtain⟨hbd,hon⟩:=hk;subst hon;have hlt:=zD0 hb ho e he hbd;have h1:=hall e he hbd;have h2:e.on<L.size:=by omega
   rw[Array.getElem?_eq_getElem h2];simpa[h2]using h1
  have hls:=zLh hLi;refine wpOp_step ho (fun K' hK=>?_);exact hstep i o (by simpa using ho) hin L T w hLi hdep hcl hI K' (fun T' w' hI'=>hK ⟨T',ds⟩ w' (ih _ _ _ (inv.set hi hin) (by omega) (hcl.set ho hdep) hI'))
theorem zEG{id:Nat}{T0:Array Value}{ds:List Deferred}{w:World}(n:Nat)(hm:P.follows .mixedOrders=true)(I:Array Bool->Array Value->World->Prop)(hB:zN1 l n=true)
  (h0:I (Array.replicate l.length false) T0 w.drew)
  (hend:∀T w,I (zJd n l.length) T w->wpList P l.toArray Q (l.drop n) ⟨T,ds⟩ w)
  (hstep:zJG (zAF P l.toArray Q ds I) 0 (l.take n)):(Code.region id l.toArray true).wp P Q ⟨T0,ds⟩ w:=by
 have hn:n<l.length:=by
  unfold zN1 at hB;simp only[Bool.and_eq_true,decide_eq_true_eq]at hB;exact hB.1.1.1.1
 have hst:∀i o,l[i]?=some o->i<n->zAF P l.toArray Q ds I i o:=by
  intro i o ho hi;have:=hstep.get i o (by rw[List.getElem?_take_of_lt hi];exact ho);rw[zAR]at this;exact this
 have inv0:HeadInv .any l.toArray n (Array.replicate l.toArray.size false):=
  ⟨by simp,fun j oj _ hl=>(by rw[getD_replicate_false]at hl;cases hl),fun t _ ht=>getD_in (by simpa using ht) (getD_replicate_false _ _)⟩
 have H:=zRW hB hst hend n (Array.replicate l.toArray.size false) T0 w.drew inv0 (by unfold left;rw[Array.toList_replicate,zCS];simp;omega) zCl.start (by simpa using h0);refine wp_region_any hm ?_;rw[show n+(l.length-n)=l.toArray.size by simp;omega]at H;exact H
end
theorem zGh:∀(kv:List (Nat × Value)) {T T0:Array Value},(∀j,(∀p∈kv,p.1≠j)->T[j]?=T0[j]?)->(∀p∈kv,T[p.1]?=some p.2)->T.size=T0.size->
  T=kv.foldl (fun a p=>a.setIfInBounds p.1 p.2) T0
 | [],T,T0,h,_,_=>zBZ (fun j=>h j (fun p hp=>by cases hp))
 | (k,v)::kv,T,T0,h,hv,hs=>by
  refine zGh kv (T0:=T0.setIfInBounds k v) ?_ (fun p hp=>hv p (qM _ hp)) (by simp[hs]);intro j hj;have hk:=hv (k,v) (by simp);by_cases e:k=j
  ·subst e
   have hlt:k<T0.size:=by rw[<-hs];exact(Array.getElem?_eq_some_iff.1 hk).1
   rw[Array.getElem?_setIfInBounds_self_of_lt hlt];exact hk
  rw[xgc e];refine h j ?_;intro p hp;rcases List.mem_cons.1 hp with e1|hp
  rw[e1];exact e;exact hj p hp
theorem yI{α β:Type}{f:α->β}:∀{l:List α},(l.map f).Nodup->∀{a b:α},a∈l->b∈l->f a=f b->a=b
 | [],_,_,_,h,_,_=>by cases h
 | x::xs,hn,a,b,ha,hb,he=>by
  rw[List.map_cons,List.nodup_cons]at hn;obtain⟨h1,h2⟩:=hn;rcases List.mem_cons.1 ha with e1|ha'
  ·rcases List.mem_cons.1 hb with e2|hb'
   ·rw[e1,e2]
   exact absurd (List.mem_map.2 ⟨b,hb',by rw[<-he,e1]⟩) h1
  rcases List.mem_cons.1 hb with e2|hb'
  exact absurd (List.mem_map.2 ⟨a,ha',by rw[he,e2]⟩) h1;exact yI h2 ha' hb' he
/-! ### The invariant: values in their slots,boxes of two cells -/
structure jZ(p:Prop):Prop where
 out:p
theorem xgv(h:p):jZ p:=⟨h⟩
theorem xgw(h:p):Hid p:=zI h
structure VS where
 op:Nat
 slot:Nat
 P:World->Value->Prop
structure BS where
 al:Nat
 slot:Nat
 st:Nat
 P:World->Value->Prop
def zH1(P:World->Value->Prop):Prop:=∀w w' v,zBw w w'->P w v->P w' v
theorem zFB(z:Int):zH1 (fun w v=>jY w v z):=fun _ _ _ e h=>h.ext e
theorem zLd(x:Value):zH1 (fun _ v=>v=x):=fun _ _ _ _ h=>h
def ptr(b:Nat):Value:=ptq b 0
structure ES where
 st:Nat
 blk:Nat
 P:World->Value->Prop
def zLI(N:Nat)(vs:List VS)(bs:List BS)(es:List ES):Bool:=
 let slots:=vs.map (·.slot)++bs.map (·.slot)
 let ops:=vs.map (·.op)++bs.map (·.al)++(bs.map (·.st)++es.map (·.st))
 decide slots.Nodup && decide ops.Nodup && slots.all (fun s=>decide (s<N))
structure RI(W:World)(n0:Nat)(T0:Array Value)(tB:TypeId)(vs:List VS)(bs:List BS)(es:List ES)(L:Array Bool)(T:Array Value)(w:World):Prop where
 wf:zLI T0.size vs bs es=true
 tb:tB≠tU
 lv:∀s∈vs,zH1 s.P
 lb:∀s∈bs,zH1 s.P
 le:∀s∈es,zH1 s.P
 eb:∀s∈es,s.blk<n0
 ed:∀s∈es,∀t∈es,s.st≠t.st->s.blk≠t.blk
 size:T.size=T0.size
 keep:∀j,(∀s∈vs,s.slot≠j)->(∀s∈bs,s.slot≠j)->T[j]?=T0[j]?
 bel0:Below 0 W w
 old:∀k,k<n0->(∀s∈es,s.blk≠k)->w.heap[k]?=W.heap[k]?
 lext:zBw W w
 ge:n0<=w.heap.size
 sto:∀s∈bs,L[s.st]?=some true->L[s.al]?=some true
 val:∀s∈vs,L[s.op]?=some true->∃v,T[s.slot]?=some v/\s.P w v
 box:∀s∈bs,L[s.al]?=some true->∃b x y,T[s.slot]?=some (ptr b)/\n0<=b/\Blk w b tB #[x,y]/\(L[s.st]?=some true->s.P w (.agg #[x,y]))
 far:∀s∈bs,∀t∈bs,s.al≠t.al->L[s.al]?=some true->L[t.al]?=some true->∀b c,T[s.slot]?=some (ptr b)->T[t.slot]?=some (ptr c)->b≠c
 ex:∀s∈es,(∃x y,Blk w s.blk tB #[x,y]/\(L[s.st]?=some true->s.P w (.agg #[x,y])))/\(L[s.st]?≠some true->w.heap[s.blk]?=W.heap[s.blk]?)
section
variable {W:World} {n0:Nat} {T0:Array Value} {tB:TypeId} {vs:List VS} {bs:List BS} {es:List ES} {L:Array Bool} {T:Array Value} {w w':World}
theorem jT(h:(L.setIfInBounds i true)[j]?=some true)(hne:i≠j):L[j]?=some true:=by
 rwa[xgc hne]at h
theorem zPk(h:(L.setIfInBounds i true)[j]?≠some true):L[j]?≠some true:=fun hh=>h (zB7 hh)
theorem RI.start(hwf:zLI T0.size vs bs es=true:=by kernel_rfl)(htb:tB≠tU:=by decide)(hv:∀s∈vs,zH1 s.P:=by repeat' (first|exact zFB _|exact zLd _|assumption|refine xgm.2 ⟨?_,?_⟩|exact xgn _))(hbs:∀s∈bs,zH1 s.P:=by repeat' (first|exact zFB _|exact zLd _|assumption|refine xgm.2 ⟨?_,?_⟩|exact xgn _))(hes:∀s∈es,zH1 s.P:=by repeat' (first|exact zFB _|exact zLd _|assumption|refine xgm.2 ⟨?_,?_⟩|exact xgn _))(heb:∀s∈es,s.blk<n0:=by repeat' (first|refine xgm.2 ⟨?_,?_⟩|exact xgn _|(dsimp only;omega)))
  (hed:∀s∈es,∀t∈es,s.st≠t.st->s.blk≠t.blk:=by repeat' (first|refine xgm.2 ⟨?_,?_⟩|exact xgn _|(intro h;exact absurd rfl h)|(intro _;dsimp only;omega))) (hex:∀s∈es,∃x y,Blk W s.blk tB #[x,y]:=by repeat' (first|refine xgm.2 ⟨?_,?_⟩|exact xgn _|exact⟨_,_,by assumption⟩)) (hge:n0<=W.heap.size:=by first|exact xgf _|omega) {n:Nat}:RI W n0 T0 tB vs bs es (Array.replicate n false) T0 W.drew:=by
 have hf:∀k:Nat,(Array.replicate n false)[k]?≠some true:=by
  intro k h;rw[Array.getElem?_replicate]at h;split at h<;>simp at h
 exact⟨hwf,htb,hv,hbs,hes,heb,hed,rfl,fun _ _ _=>rfl,(zA _ _).drew,fun _ _ _=>rfl,zBw.refl W,hge,fun s _ h=>absurd h (hf _),fun s _ h=>absurd h (hf _),fun s _ h=>absurd h (hf _),fun s _ t _ _ h=>absurd h (hf _),
  fun s hs=>⟨(hex s hs).elim fun x h=>h.elim fun y h=>⟨x,y,h,fun hh=>absurd hh (hf _)⟩,fun _=>rfl⟩⟩
theorem RI.world(h:RI W n0 T0 tB vs bs es L T w)(hb:BWq w w'):RI W n0 T0 tB vs bs es L T w':=by
 have hx:zBw w w':=zBw.below hb (xgf _);refine⟨h.wf,h.tb,h.lv,h.lb,h.le,h.eb,h.ed,h.size,h.keep,h.bel0.trans (hb.mono (zE _)),fun k hk hn=>(hb.block k (zJ hk h.ge)).trans (h.old k hk hn),h.lext.trans hx,zB h.ge hb.size,h.sto,?_,?_,h.far,?_⟩
 ·intro s hs hl
  obtain⟨v,h1,h2⟩:=h.val s hs hl;exact⟨v,h1,h.lv s hs _ _ _ hx h2⟩
 ·intro s hs hl
  obtain⟨b,x,y,h1,h2,h3,h4⟩:=h.box s hs hl;exact⟨b,x,y,h1,h2,h3.below hb,fun hh=>h.lb s hs _ _ _ hx (h4 hh)⟩
 intro s hs;obtain⟨⟨x,y,h1,h2⟩,h3⟩:=h.ex s hs;exact⟨⟨x,y,h1.below hb,fun hh=>h.le s hs _ _ _ hx (h2 hh)⟩,fun hh=>(hb.block _ h1.lt).trans (h3 hh)⟩
theorem zLI.parts{N:Nat}(hwf:zLI N vs bs es=true):
  (∀s∈vs,s.slot<N)/\(∀s∈bs,s.slot<N)∧
  (∀s∈vs,∀t∈vs,t≠s->t.op≠s.op/\t.slot≠s.slot)∧
  (∀s∈bs,∀t∈bs,t≠s->t.al≠s.al/\t.slot≠s.slot/\t.st≠s.st)∧
  (∀s∈vs,∀t∈bs,s.op≠t.al/\s.op≠t.st/\s.slot≠t.slot)∧
  (∀s∈bs,∀t∈bs,s.al≠t.st)∧
  (∀s∈es,∀t∈es,t≠s->t.st≠s.st)∧
  (∀s∈es,(∀t∈vs,s.st≠t.op)/\∀t∈bs,s.st≠t.al/\s.st≠t.st):=by
 unfold zLI at hwf;simp only[Bool.and_eq_true,decide_eq_true_eq,List.all_eq_true]at hwf;obtain⟨⟨hw1,hw2⟩,hw3⟩:=hwf;rw[yT]at hw1;obtain⟨hw1a,hw1b,hw1c⟩:=hw1;rw[yT]at hw2;obtain⟨hw2a,hw2b,hw2c⟩:=hw2;rw[yT]at hw2a hw2b;obtain⟨hw2d,hw2e,hw2f⟩:=hw2a;obtain⟨hw2g,hw2h,hw2i⟩:=hw2b;have mv:∀s∈vs,s.op∈vs.map (·.op):=fun s hs=>List.mem_map.2 ⟨s,hs,rfl⟩
 have mvs:∀s∈vs,s.slot∈vs.map (·.slot):=fun s hs=>List.mem_map.2 ⟨s,hs,rfl⟩
 have mba:∀s∈bs,s.al∈bs.map (·.al):=fun s hs=>List.mem_map.2 ⟨s,hs,rfl⟩
 have mbs:∀s∈bs,s.slot∈bs.map (·.slot):=fun s hs=>List.mem_map.2 ⟨s,hs,rfl⟩
 have mbt:∀s∈bs,s.st∈bs.map (·.st):=fun s hs=>List.mem_map.2 ⟨s,hs,rfl⟩
 have mes:∀s∈es,s.st∈es.map (·.st):=fun s hs=>List.mem_map.2 ⟨s,hs,rfl⟩
 refine⟨fun s hs=>hw3 _ (zAO _ (mvs s hs)),fun s hs=>hw3 _ (zBC _ (mbs s hs)),?_,?_,?_,?_,?_,?_⟩;exact fun s hs t ht hne=>⟨fun e=>hne (yI hw2d ht hs e),fun e=>hne (yI hw1a ht hs e)⟩
 exact fun s hs t ht hne=>⟨fun e=>hne (yI hw2e ht hs e),fun e=>hne (yI hw1b ht hs e),fun e=>hne (yI hw2g ht hs e)⟩
 exact fun s hs t ht=>⟨hw2f _ (mv s hs) _ (mba t ht),hw2c _ (zAO _ (mv s hs)) _ (zAO _ (mbt t ht)),hw1c _ (mvs s hs) _ (mbs t ht)⟩
 exact fun s hs t ht=>hw2c _ (zBC _ (mba s hs)) _ (zAO _ (mbt t ht))
 exact fun s hs t ht hne e=>hne (yI hw2h ht hs e)
 exact fun s hs=>⟨fun t ht=>qD (hw2c _ (zAO _ (mv t ht)) _ (zBC _ (mes s hs))),
  fun t ht=>⟨qD (hw2c _ (zBC _ (mba t ht)) _ (zBC _ (mes s hs))),qD (hw2i _ (mbt t ht) _ (mes s hs))⟩⟩
theorem RI.value{v:Value}(h:RI W n0 T0 tB vs bs es L T w)(s:VS)(hs:s∈vs)(hk:s.op=k)(hP:s.P w v):
  RI W n0 T0 tB vs bs es (L.setIfInBounds k true) (T.setIfInBounds s.slot v) w:=by
 subst hk;obtain⟨p1,p2,p3,p4,p5,p6,p7,p8⟩:=zLI.parts h.wf;refine⟨h.wf,h.tb,h.lv,h.lb,h.le,h.eb,h.ed,by simp[h.size],fun j h1 h2=>by rw[xgc (h1 s hs)];exact h.keep j h1 h2,h.bel0,h.old,h.lext,h.ge,
  fun t ht hl=>zB7 (h.sto t ht (jT hl (p5 s hs t ht).2.1)),?_,?_,?_,?_⟩
 ·intro t ht hl
  by_cases he:t=s
  ·subst he
   exact⟨v,by rw[Array.getElem?_setIfInBounds_self_of_lt (by rw[h.size];exact p1 _ hs)],hP⟩
  obtain⟨n1,n2⟩:=p3 s hs t ht he;obtain⟨u,h1,h2⟩:=h.val t ht (jT hl (qD n1));exact⟨u,by rw[xgc (qD n2)];exact h1,h2⟩
 ·intro t ht hl
  obtain⟨n1,n2,n3⟩:=p5 s hs t ht;obtain⟨b,x,y,h1,h2,h3,h4⟩:=h.box t ht (jT hl n1);exact⟨b,x,y,by rw[xgc n3];exact h1,h2,h3,fun hh=>h4 (jT hh n2)⟩
 ·intro t ht u hu hne hl1 hl2 b c e1 e2
  obtain⟨n1,n2,n3⟩:=p5 s hs t ht;obtain⟨m1,m2,m3⟩:=p5 s hs u hu;rw[xgc n3]at e1;rw[xgc m3]at e2;exact h.far t ht u hu hne (jT hl1 n1) (jT hl2 m1) b c e1 e2
 intro t ht;have n1:=(p8 t ht).1 s hs;obtain⟨⟨x,y,h1,h2⟩,h3⟩:=h.ex t ht;exact⟨⟨x,y,h1,fun hh=>h2 (jT hh (qD n1))⟩,fun hh=>h3 (zPk hh)⟩
theorem RI.v{s:VS}(h:RI W n0 T0 tB vs bs es L T w)(hs:s∈vs)(hl:L[s.op]?=some true):∃v,T[s.slot]?=some v/\s.P w v:=h.val s hs hl
theorem RI.y{v:Value}(h:RI W n0 T0 tB vs bs es L T w){s:VS}(hs:s∈vs)(hP:s.P w v)(hk:s.op=k:=by rfl):RI W n0 T0 tB vs bs es (L.setIfInBounds k true) (T.setIfInBounds s.slot v) w:=h.value s hs hk hP
theorem RI.cell{o:Nat}{v:Value}(h:RI W n0 T0 tB vs bs es L T w)(hc:W.cell? ⟨b,o,none⟩=some v)(hb:b<n0)(hn:∀s∈es,s.blk≠b):w.cell? ⟨b,o,none⟩=some v:=
 (World.cell?_of_block (w:=W) (h.old b hb hn)).trans hc
theorem RI.bel(h:RI W n0 T0 tB vs bs es L T w)(B:Nat)(hB:B<=n0)(hn:∀s∈es,B<=s.blk):Below B W w:=
 ⟨h.bel0.os,h.bel0.tape,h.bel0.output,h.bel0.size,fun k hk=>h.old k (by omega) (fun s hs=>by have:=hn s hs;omega)⟩
end
abbrev E(i s:Nat)(x:Value):VS:=⟨i,s,fun _ v=>v=x⟩
abbrev EI(i s:Nat)(z:Int):VS:=⟨i,s,fun w v=>jY w v z⟩
abbrev VP(i s b o:Nat):VS:=⟨i,s,fun _ v=>v=ptq b o⟩
abbrev VSl(i s b n c:Nat):VS:=⟨i,s,fun _ v=>v=slq b n c⟩
abbrev VN(i s:Nat)(n:Int):VS:=⟨i,s,fun _ v=>v=niq n⟩
def Fin(w:World):List VS->Array Value->Array Value->Prop
 | [],T0,T=>T=T0
 |s::vs,T0,T=>∃v,s.P w v/\Fin w vs (T0.setIfInBounds s.slot v) T
def zZo(w:World)(n0:Nat)(tB:TypeId):List BS->List Nat->Array Value->Array Value->Prop
 | [],_,T0,T=>T=T0
 |b::bs,u,T0,T=>∃c x y,n0<=c/\Blk w c tB #[x,y]/\b.P w (.agg #[x,y])/\(∀d∈u,d≠c)/\zZo w n0 tB bs (c::u) (T0.setIfInBounds b.slot (ptr c)) T
def qAC(w:World)(n0:Nat)(tB:TypeId)(bs:List BS):List VS->Array Value->Array Value->Prop
 | [],T0,T=>zZo w n0 tB bs [] T0 T
 |s::vs,T0,T=>∃v,s.P w v/\qAC w n0 tB bs vs (T0.setIfInBounds s.slot v) T
section
variable {W:World} {n0:Nat} {T0:Array Value} {tB:TypeId} {vs:List VS} {bs:List BS} {es:List ES} {L:Array Bool} {T:Array Value} {w w':World}
end
theorem xgu(h:p:=by(go_simp;first|exact hK _ _ (hI.q mm0)|exact hK _ _ (hI.q mm1)|exact hK _ _ (hI.q mm2)|exact hK _ _ (hI.q mm3)|exact hK _ _ (hI.q mm4)|exact hK _ _ (hI.q mm5)|exact hK _ _ (hI.q mm6)|exact hK _ _ (hI.q mm7)|exact hK _ _ (hI.q mm8)|exact hK _ _ (hI.q mm9)|exact hK _ _ (hI.q zLl)|exact hK _ _ (hI.q zKu)|exact hK _ _ (hI.q zL8)|exact hK _ _ (hI.q zOL)|exact hK _ _ (hI.q zOM)|exact hK _ _ (hI.q zNZ)|exact hK _ _ (hI.q zQg)|exact hK _ _ (hI.q zQh)|exact hK _ _ (hI.q zQi)|exact hK _ _ (hI.q zQj)|exact hK _ _ (hI.q zQk)|exact hK _ _ (hI.q zQl)|exact hK _ _ (hI.q zQm)|exact hK _ _ (hI.q zQn)|exact hK _ _ (hI.q zQo)|exact hK _ _ (hI.q zRX)|exact hK _ _ (hI.q mm26)|exact hK _ _ (hI.q mm27)|exact hK _ _ (hI.q mm28)|exact hK _ _ (hI.q mm29)|exact hK _ _ (hI.q mm30)|exact hK _ _ (hI.q mm31)|exact hK _ _ (hI.q mm32)|exact hK _ _ (hI.q mm33)|exact hK _ _ (hI.q mm34)|exact hK _ _ (hI.q mm35)|exact hK _ _ (hI.q mm36)|exact hK _ _ (hI.q mm37)|exact hK _ _ (hI.q mm38)|exact hK _ _ (hI.q mm39)|exact hK _ _ (hI.q mm40))):p:=h
theorem xgs{q:Prop}(zt:q)(h:q->p:=by(intro zt;go_simp;first|exact hK _ _ (hI.q mm0)|exact hK _ _ (hI.q mm1)|exact hK _ _ (hI.q mm2)|exact hK _ _ (hI.q mm3)|exact hK _ _ (hI.q mm4)|exact hK _ _ (hI.q mm5)|exact hK _ _ (hI.q mm6)|exact hK _ _ (hI.q mm7)|exact hK _ _ (hI.q mm8)|exact hK _ _ (hI.q mm9)|exact hK _ _ (hI.q zLl)|exact hK _ _ (hI.q zKu)|exact hK _ _ (hI.q zL8)|exact hK _ _ (hI.q zOL)|exact hK _ _ (hI.q zOM)|exact hK _ _ (hI.q zNZ)|exact hK _ _ (hI.q zQg)|exact hK _ _ (hI.q zQh)|exact hK _ _ (hI.q zQi)|exact hK _ _ (hI.q zQj)|exact hK _ _ (hI.q zQk)|exact hK _ _ (hI.q zQl)|exact hK _ _ (hI.q zQm)|exact hK _ _ (hI.q zQn)|exact hK _ _ (hI.q zQo)|exact hK _ _ (hI.q zRX)|exact hK _ _ (hI.q mm26)|exact hK _ _ (hI.q mm27)|exact hK _ _ (hI.q mm28)|exact hK _ _ (hI.q mm29)|exact hK _ _ (hI.q mm30)|exact hK _ _ (hI.q mm31)|exact hK _ _ (hI.q mm32)|exact hK _ _ (hI.q mm33)|exact hK _ _ (hI.q mm34)|exact hK _ _ (hI.q mm35)|exact hK _ _ (hI.q mm36)|exact hK _ _ (hI.q mm37)|exact hK _ _ (hI.q mm38)|exact hK _ _ (hI.q mm39)|exact hK _ _ (hI.q mm40))):p:=h zt
theorem xgt{q r:Prop}(z1:q)(z2:r)(h:q->r->p:=by(intro z1 z2;go_simp;first|exact hK _ _ (hI.q mm0)|exact hK _ _ (hI.q mm1)|exact hK _ _ (hI.q mm2)|exact hK _ _ (hI.q mm3)|exact hK _ _ (hI.q mm4)|exact hK _ _ (hI.q mm5)|exact hK _ _ (hI.q mm6)|exact hK _ _ (hI.q mm7)|exact hK _ _ (hI.q mm8)|exact hK _ _ (hI.q mm9)|exact hK _ _ (hI.q zLl)|exact hK _ _ (hI.q zKu)|exact hK _ _ (hI.q zL8)|exact hK _ _ (hI.q zOL)|exact hK _ _ (hI.q zOM)|exact hK _ _ (hI.q zNZ)|exact hK _ _ (hI.q zQg)|exact hK _ _ (hI.q zQh)|exact hK _ _ (hI.q zQi)|exact hK _ _ (hI.q zQj)|exact hK _ _ (hI.q zQk)|exact hK _ _ (hI.q zQl)|exact hK _ _ (hI.q zQm)|exact hK _ _ (hI.q zQn)|exact hK _ _ (hI.q zQo)|exact hK _ _ (hI.q zRX)|exact hK _ _ (hI.q mm26)|exact hK _ _ (hI.q mm27)|exact hK _ _ (hI.q mm28)|exact hK _ _ (hI.q mm29)|exact hK _ _ (hI.q mm30)|exact hK _ _ (hI.q mm31)|exact hK _ _ (hI.q mm32)|exact hK _ _ (hI.q mm33)|exact hK _ _ (hI.q mm34)|exact hK _ _ (hI.q mm35)|exact hK _ _ (hI.q mm36)|exact hK _ _ (hI.q mm37)|exact hK _ _ (hI.q mm38)|exact hK _ _ (hI.q mm39)|exact hK _ _ (hI.q mm40))):p:=h z1 z2
theorem xgo(h:p:=by(rintro e wa ⟨v,rfl,hv,hba⟩;first|exact hK _ _ ((hI.world hba).n mm0 hv)|exact hK _ _ ((hI.world hba).n mm1 hv)|exact hK _ _ ((hI.world hba).n mm2 hv)|exact hK _ _ ((hI.world hba).n mm3 hv)|exact hK _ _ ((hI.world hba).n mm4 hv)|exact hK _ _ ((hI.world hba).n mm5 hv)|exact hK _ _ ((hI.world hba).n mm6 hv)|exact hK _ _ ((hI.world hba).n mm7 hv)|exact hK _ _ ((hI.world hba).n mm8 hv)|exact hK _ _ ((hI.world hba).n mm9 hv)|exact hK _ _ ((hI.world hba).n zLl hv)|exact hK _ _ ((hI.world hba).n zKu hv)|exact hK _ _ ((hI.world hba).n zL8 hv)|exact hK _ _ ((hI.world hba).n zOL hv)|exact hK _ _ ((hI.world hba).n zOM hv)|exact hK _ _ ((hI.world hba).n zNZ hv)|exact hK _ _ ((hI.world hba).n zQg hv)|exact hK _ _ ((hI.world hba).n zQh hv)|exact hK _ _ ((hI.world hba).n zQi hv)|exact hK _ _ ((hI.world hba).n zQj hv)|exact hK _ _ ((hI.world hba).n zQk hv)|exact hK _ _ ((hI.world hba).n zQl hv)|exact hK _ _ ((hI.world hba).n zQm hv)|exact hK _ _ ((hI.world hba).n zQn hv)|exact hK _ _ ((hI.world hba).n zQo hv)|exact hK _ _ ((hI.world hba).n zRX hv)|exact hK _ _ ((hI.world hba).n mm26 hv)|exact hK _ _ ((hI.world hba).n mm27 hv)|exact hK _ _ ((hI.world hba).n mm28 hv)|exact hK _ _ ((hI.world hba).n mm29 hv)|exact hK _ _ ((hI.world hba).n mm30 hv)|exact hK _ _ ((hI.world hba).n mm31 hv)|exact hK _ _ ((hI.world hba).n mm32 hv)|exact hK _ _ ((hI.world hba).n mm33 hv)|exact hK _ _ ((hI.world hba).n mm34 hv)|exact hK _ _ ((hI.world hba).n mm35 hv)|exact hK _ _ ((hI.world hba).n mm36 hv)|exact hK _ _ ((hI.world hba).n mm37 hv)|exact hK _ _ ((hI.world hba).n mm38 hv)|exact hK _ _ ((hI.world hba).n mm39 hv)|exact hK _ _ ((hI.world hba).n mm40 hv))):p:=h
theorem xgp(h:p:=by simp[Region.wanted,yielded,zg]):p:=h
theorem xgq{q:Prop}(zg:q)(h:q->p:=by(intro zg;simp[Region.wanted,yielded,zg])):p:=h zg
theorem xgE(h:p:=by(try have z0:=hI.e mm0 (hd 0);try have z1:=hI.e mm1 (hd 1);try have z2:=hI.e mm2 (hd 2);try have z3:=hI.e mm3 (hd 3);try have z4:=hI.e mm4 (hd 4);try have z5:=hI.e mm5 (hd 5);try have z6:=hI.e mm6 (hd 6);try have z7:=hI.e mm7 (hd 7);try have z8:=hI.e mm8 (hd 8);try have z9:=hI.e mm9 (hd 9);try have z10:=hI.e zLl (hd 10);try have z11:=hI.e zKu (hd 11);try have z12:=hI.e zL8 (hd 12);try have z13:=hI.e zOL (hd 13);try have z14:=hI.e zOM (hd 14);try have z15:=hI.e zNZ (hd 15);try have z16:=hI.e zQg (hd 16);try have z17:=hI.e zQh (hd 17);try have z18:=hI.e zQi (hd 18);try have z19:=hI.e zQj (hd 19);try have z20:=hI.e zQk (hd 20);try have z21:=hI.e zQl (hd 21);try have z22:=hI.e zQm (hd 22);try have z23:=hI.e zQn (hd 23);try have z24:=hI.e zQo (hd 24);try have z25:=hI.e zRX (hd 25);try have z26:=hI.e mm26 (hd 26);try have z27:=hI.e mm27 (hd 27);try have z28:=hI.e mm28 (hd 28);try have z29:=hI.e mm29 (hd 29);try have z30:=hI.e mm30 (hd 30);try have z31:=hI.e mm31 (hd 31);try have z32:=hI.e mm32 (hd 32);try have z33:=hI.e mm33 (hd 33);try have z34:=hI.e mm34 (hd 34);try have z35:=hI.e mm35 (hd 35);try have z36:=hI.e mm36 (hd 36);try have z37:=hI.e mm37 (hd 37);try have z38:=hI.e mm38 (hd 38);try have z39:=hI.e mm39 (hd 39);try have z40:=hI.e mm40 (hd 40);try have y0:=hI.k 0 rfl kR;try have y1:=hI.k 1 rfl kR;try have y2:=hI.k 2 rfl kR;try have y3:=hI.k 3 rfl kR;try have y4:=hI.k 4 rfl kR;try have y5:=hI.k 5 rfl kR;try have y6:=hI.k 6 rfl kR;try have y7:=hI.k 7 rfl kR;try have y8:=hI.k 8 rfl kR;try have y9:=hI.k 9 rfl kR;try have y10:=hI.k 10 rfl kR;try have y11:=hI.k 11 rfl kR;try have y12:=hI.k 12 rfl kR;try have y13:=hI.k 13 rfl kR;try have y14:=hI.k 14 rfl kR;try have y15:=hI.k 15 rfl kR;try have y16:=hI.k 16 rfl kR;try have y17:=hI.k 17 rfl kR;try have y18:=hI.k 18 rfl kR;try have y19:=hI.k 19 rfl kR;try have y20:=hI.k 20 rfl kR;try have y21:=hI.k 21 rfl kR;try have y22:=hI.k 22 rfl kR;try have y23:=hI.k 23 rfl kR;try have y24:=hI.k 24 rfl kR;try have y25:=hI.k 25 rfl kR;go_simp;first|exact hK _ _ (hI.q mm0)|exact hK _ _ (hI.q mm1)|exact hK _ _ (hI.q mm2)|exact hK _ _ (hI.q mm3)|exact hK _ _ (hI.q mm4)|exact hK _ _ (hI.q mm5)|exact hK _ _ (hI.q mm6)|exact hK _ _ (hI.q mm7)|exact hK _ _ (hI.q mm8)|exact hK _ _ (hI.q mm9)|exact hK _ _ (hI.q zLl)|exact hK _ _ (hI.q zKu)|exact hK _ _ (hI.q zL8)|exact hK _ _ (hI.q zOL)|exact hK _ _ (hI.q zOM)|exact hK _ _ (hI.q zNZ)|exact hK _ _ (hI.q zQg)|exact hK _ _ (hI.q zQh)|exact hK _ _ (hI.q zQi)|exact hK _ _ (hI.q zQj)|exact hK _ _ (hI.q zQk)|exact hK _ _ (hI.q zQl)|exact hK _ _ (hI.q zQm)|exact hK _ _ (hI.q zQn)|exact hK _ _ (hI.q zQo)|exact hK _ _ (hI.q zRX)|exact hK _ _ (hI.q mm26)|exact hK _ _ (hI.q mm27)|exact hK _ _ (hI.q mm28)|exact hK _ _ (hI.q mm29)|exact hK _ _ (hI.q mm30)|exact hK _ _ (hI.q mm31)|exact hK _ _ (hI.q mm32)|exact hK _ _ (hI.q mm33)|exact hK _ _ (hI.q mm34)|exact hK _ _ (hI.q mm35)|exact hK _ _ (hI.q mm36)|exact hK _ _ (hI.q mm37)|exact hK _ _ (hI.q mm38)|exact hK _ _ (hI.q mm39)|exact hK _ _ (hI.q mm40))):p:=h
theorem xgz{q r t:Prop}(z1:q)(z2:r/\s/\u/\t)(h:q->r->s->u->p:=by(intro z1 z2 z3 z4;go_simp;first|exact hK _ _ (hI.q mm0)|exact hK _ _ (hI.q mm1)|exact hK _ _ (hI.q mm2)|exact hK _ _ (hI.q mm3)|exact hK _ _ (hI.q mm4)|exact hK _ _ (hI.q mm5)|exact hK _ _ (hI.q mm6)|exact hK _ _ (hI.q mm7)|exact hK _ _ (hI.q mm8)|exact hK _ _ (hI.q mm9)|exact hK _ _ (hI.q zLl)|exact hK _ _ (hI.q zKu)|exact hK _ _ (hI.q zL8)|exact hK _ _ (hI.q zOL)|exact hK _ _ (hI.q zOM)|exact hK _ _ (hI.q zNZ)|exact hK _ _ (hI.q zQg)|exact hK _ _ (hI.q zQh)|exact hK _ _ (hI.q zQi)|exact hK _ _ (hI.q zQj)|exact hK _ _ (hI.q zQk)|exact hK _ _ (hI.q zQl)|exact hK _ _ (hI.q zQm)|exact hK _ _ (hI.q zQn)|exact hK _ _ (hI.q zQo)|exact hK _ _ (hI.q zRX)|exact hK _ _ (hI.q mm26)|exact hK _ _ (hI.q mm27)|exact hK _ _ (hI.q mm28)|exact hK _ _ (hI.q mm29)|exact hK _ _ (hI.q mm30)|exact hK _ _ (hI.q mm31)|exact hK _ _ (hI.q mm32)|exact hK _ _ (hI.q mm33)|exact hK _ _ (hI.q mm34)|exact hK _ _ (hI.q mm35)|exact hK _ _ (hI.q mm36)|exact hK _ _ (hI.q mm37)|exact hK _ _ (hI.q mm38)|exact hK _ _ (hI.q mm39)|exact hK _ _ (hI.q mm40))):p:=h z1 z2.1 z2.2.1 z2.2.2.1
theorem xgx{q r:Prop}(z1:q)(z2:r)(z3:s)(h:q->r->s->p:=by(intro z1 z2 z3;go_simp;first|exact hK _ _ (hI.q mm0)|exact hK _ _ (hI.q mm1)|exact hK _ _ (hI.q mm2)|exact hK _ _ (hI.q mm3)|exact hK _ _ (hI.q mm4)|exact hK _ _ (hI.q mm5)|exact hK _ _ (hI.q mm6)|exact hK _ _ (hI.q mm7)|exact hK _ _ (hI.q mm8)|exact hK _ _ (hI.q mm9)|exact hK _ _ (hI.q zLl)|exact hK _ _ (hI.q zKu)|exact hK _ _ (hI.q zL8)|exact hK _ _ (hI.q zOL)|exact hK _ _ (hI.q zOM)|exact hK _ _ (hI.q zNZ)|exact hK _ _ (hI.q zQg)|exact hK _ _ (hI.q zQh)|exact hK _ _ (hI.q zQi)|exact hK _ _ (hI.q zQj)|exact hK _ _ (hI.q zQk)|exact hK _ _ (hI.q zQl)|exact hK _ _ (hI.q zQm)|exact hK _ _ (hI.q zQn)|exact hK _ _ (hI.q zQo)|exact hK _ _ (hI.q zRX)|exact hK _ _ (hI.q mm26)|exact hK _ _ (hI.q mm27)|exact hK _ _ (hI.q mm28)|exact hK _ _ (hI.q mm29)|exact hK _ _ (hI.q mm30)|exact hK _ _ (hI.q mm31)|exact hK _ _ (hI.q mm32)|exact hK _ _ (hI.q mm33)|exact hK _ _ (hI.q mm34)|exact hK _ _ (hI.q mm35)|exact hK _ _ (hI.q mm36)|exact hK _ _ (hI.q mm37)|exact hK _ _ (hI.q mm38)|exact hK _ _ (hI.q mm39)|exact hK _ _ (hI.q mm40))):p:=h z1 z2 z3
theorem xgy{q r:Prop}(z1:q)(z2:r)(z3:s)(z4:u)(h:q->r->s->u->p:=by(intro z1 z2 z3 z4;go_simp;first|exact hK _ _ (hI.q mm0)|exact hK _ _ (hI.q mm1)|exact hK _ _ (hI.q mm2)|exact hK _ _ (hI.q mm3)|exact hK _ _ (hI.q mm4)|exact hK _ _ (hI.q mm5)|exact hK _ _ (hI.q mm6)|exact hK _ _ (hI.q mm7)|exact hK _ _ (hI.q mm8)|exact hK _ _ (hI.q mm9)|exact hK _ _ (hI.q zLl)|exact hK _ _ (hI.q zKu)|exact hK _ _ (hI.q zL8)|exact hK _ _ (hI.q zOL)|exact hK _ _ (hI.q zOM)|exact hK _ _ (hI.q zNZ)|exact hK _ _ (hI.q zQg)|exact hK _ _ (hI.q zQh)|exact hK _ _ (hI.q zQi)|exact hK _ _ (hI.q zQj)|exact hK _ _ (hI.q zQk)|exact hK _ _ (hI.q zQl)|exact hK _ _ (hI.q zQm)|exact hK _ _ (hI.q zQn)|exact hK _ _ (hI.q zQo)|exact hK _ _ (hI.q zRX)|exact hK _ _ (hI.q mm26)|exact hK _ _ (hI.q mm27)|exact hK _ _ (hI.q mm28)|exact hK _ _ (hI.q mm29)|exact hK _ _ (hI.q mm30)|exact hK _ _ (hI.q mm31)|exact hK _ _ (hI.q mm32)|exact hK _ _ (hI.q mm33)|exact hK _ _ (hI.q mm34)|exact hK _ _ (hI.q mm35)|exact hK _ _ (hI.q mm36)|exact hK _ _ (hI.q mm37)|exact hK _ _ (hI.q mm38)|exact hK _ _ (hI.q mm39)|exact hK _ _ (hI.q mm40))):p:=h z1 z2 z3 z4
theorem zIp.uniq{v:Value}{z z':Int}(h:zIp w v z)(h':zIp w v z'):z=z':=by
 obtain⟨neg,ao,n,cap,xs,rfl,h1,-,-,h2,-,rfl⟩:=h;obtain⟨neg',ao',n',cap',ys,hv,k1,-,-,k2,-,rfl⟩:=h';injection hv with hv
 simp only[Array.mk.injEq,List.cons.injEq,Value.bool.injEq,Value.slice.injEq]at hv;obtain⟨rfl,⟨rfl,e,-⟩,-⟩:=hv;have hn:xs.length=ys.length:=by rw[h1,k1];exact e
 have:xs=ys:=by
  refine qT hn fun k ha hb=>?_
  obtain⟨b,off,e1,-,hc⟩:=h2.cell ha;obtain⟨b',off',e1',-,hc'⟩:=k2.cell hb;rw[e1]at e1';injection e1' with e1'
  injection e1' with e2 e3
  subst e2;subst e3;rw[hc]at hc';injection hc' with hc'
  injection hc' with _ hc'
  have hc'':xs.getD k 0=ys.getD k 0:=by omega
  simpa[xgb,ha,hb]using hc''
 rw[this]
theorem zU1:∃f:World->Nat->Int,∀(w:World) (b:Nat) (x y:Value) (z:Int),Blk w b 43 #[x,y]->jY w (.agg #[x,y]) z->f w b=z:=by
 refine⟨fun w b=>Classical.epsilon fun z=>∃x y,Blk w b 43 #[x,y]/\jY w (.agg #[x,y]) z,fun w b x y z h1 h2=>?_⟩;have hs:=Classical.epsilon_spec (p:=fun z=>∃x y,Blk w b 43 #[x,y]/\jY w (.agg #[x,y]) z) ⟨z,x,y,h1,h2⟩;obtain⟨x',y',k1,k2⟩:=hs;unfold Blk at h1 k1;rw[h1]at k1;injection k1 with k1
 injection k1 with k1
 simp only[Array.mk.injEq,List.cons.injEq]at k1;obtain⟨rfl,rfl,-⟩:=k1;exact k2.weak.uniq h2.weak
end Go.Proofs.YtkidaebmhlijlaaGreat
