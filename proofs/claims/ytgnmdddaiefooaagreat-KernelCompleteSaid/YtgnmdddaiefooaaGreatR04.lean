/- Division of limbs: word, short. math/bits.Len32 and LeadingZeros32 by the library's contracts, at this dump's numbers. Division of limbs: shift. The plain arithmetic of one digit of a long division. -/
import Derived.Shelf.Small.Bits
import Derived.Ground.Names2Prog
import Derived.Test.YtgnmdddaiefooaaGreatR01
import Derived.Test.YtgnmdddaiefooaaGreatR03
set_option linter.unusedVariables false
set_option linter.unusedSimpArgs false
set_option linter.unusedSectionVars false
set_option maxHeartbeats 16000000
set_option maxRecDepth 100000
namespace Go.Proofs.YtgnmdddaiefooaaGreat
open Go.RowKit
theorem zDf(n:Nat)(h:n<4294967296):IntKind.u32.wrap (n:Int)=n:=by rw[IntKind.wrap_u32];omega
theorem zIW(a b:Nat)(hb:b<4294967296):a*4294967296|||b=a*4294967296+b:=by
 have h:=Nat.shiftLeft_add_eq_or_of_lt (i:=32) (show b<2^32 from hb) a;rw[Nat.shiftLeft_eq]at h;exact h.symm
theorem zIX(a b:Nat)(ha:a<4294967296)(hb:b<4294967296):bits BinOp.or IntKind.u64 ((a:Int)*4294967296) (b:Int)=((a*4294967296+b:Nat):Int):=by
 have h:=u64_or_nat (a*4294967296) b oM oM;rw[zIW a b hb]at h;rw[<-h];simp
theorem jN(xs:List Nat)(k:Nat)(h:k<xs.length):nat (xs.drop k)=xs.getD k 0+B32*nat (xs.drop (k+1)):=by
 rw[List.drop_eq_getElem_cons h,yK,xgb,xga h];rfl
theorem zFY{xs zs:List Nat}{k r d x:Nat}(h:nat (xs.drop (k+1))=nat (zs.drop (k+1))*d+r)(hk:k<xs.length)(hkz:k<zs.length)(hx:xs.getD k 0=x):
  nat (xs.drop k)=nat ((zs.set k ((r*4294967296+x)/d)).drop k)*d+(r*4294967296+x)%d:=by
 rw[jN xs k hk,jN _ k (by simpa using hkz),hx,h,zAK,xgb,List.getElem?_set_self hkz,yL];simp only[Option.getD_some];have e:=Nat.div_add_mod (r*4294967296+x) d;generalize (r*4294967296+x)/d=q at*;generalize (r*4294967296+x)%d=s at*;generalize nat (List.drop (k+1) zs)=z at*;rw[Nat.add_mul,Nat.mul_comm q d,Nat.mul_add,Nat.mul_assoc];omega
theorem zLM(ao:Option Addr)(n cap:Nat)(xs:List Nat)(d:Nat)(w:World)(hn:xs.length=n)(hb:n<=4*LIM)(hx:zG w ao xs)(hd0:0<d)(hd:d<4294967296):
  Calls Tryz.prog 151 #[.slice ao n cap,.int .u32 (d:Nat)] w fun e w'=>
   ∃g qs r,e= .returned (.tuple #[.slice (some ⟨g,0,none⟩) n n,.int .u32 (r:Nat)])/\jJ w' g qs/\qN qs/\qs.length=n/\r<d/\nat xs=nat qs*d+r/\Below w.heap.size w w':=by
 have HN:=Lib.hid hn;have hlen1:xs.length<=n:=by omega
 have hlen1':n<=xs.length:=by omega
 clear hn;rw[yA]at hb;have hmk:=fun W=>mkU (n:Int) n oM oM W
 go_enter Tryz.func151,Tryz.ntmps151;go_wp2;clear hmk;go_loopw [7,8] (fun rv i wr=>∃(k r:Nat) (zs:List Nat),k<=n/\i= .int .i64 ((k:Int)-1)/\rv= .int .u64 r/\r<d/\jJ wr w.heap.size zs/\Below w.heap.size w wr/\n<=zs.length∧
   Hid (zs.length=n/\qN zs/\nat (xs.drop k)=nat (zs.drop k)*d+r)) (fun _ i _=>(intOf i+1).toNat)
 case atStart=>exact⟨n,0,List.replicate n 0,by omega,by go_num,rfl,by omega,jJ.made _ _,(Below.refl _ _).alloc (xgf _) _,by simp,⟨by simp,fun x hx=>by rw[List.eq_of_mem_replicate hx];exact yT,by rw[List.drop_eq_nil_of_le hlen1,List.drop_eq_nil_of_le sI];simp⟩⟩
 case round=>
  obtain⟨k,r,zs,hk,rfl,rfl,hr,hblk,hbel,hlz,HH⟩:=hrel;cases k with
  |zero=>
   go_wp2;go_ret2;refine⟨_,zs,r,by congr 3,hblk,HH.out.2.1,HH.out.1,hr,by simpa using HH.out.2.2,hbel⟩
  | succ k=>
   have hfr:=hblk.frozen k;obtain⟨b,off,x,rfl,hbw,hx32,HX,hck⟩:=hx.limb (k:=k) oM;have hck':=(hbel.cell (p:=⟨b,off+k,none⟩) hbw).trans hck;have hcz:=hblk.cell (k:=k) oM;clear hck;have eo:=zIX r x oM hx32;have hq:(r*4294967296+x)/d<4294967296:=by
    rw[Nat.div_lt_iff_lt_mul hd0];have:(r+1)*4294967296<=d*4294967296:=Nat.mul_le_mul_right _ hr;omega
   have hr':(r*4294967296+x)%d<d:=Nat.mod_lt _ hd0;have EQ:Hid (((r:Int)*4294967296+x)/d=(((r*4294967296+x)/d:Nat):Int)):=by show _=_;simp
   have ER:Hid (((r:Int)*4294967296+x)%d=(((r*4294967296+x)%d:Nat):Int)):=by show _=_;simp
   go_wp2;go_roundw
   case rel=>exact⟨k,(r*4294967296+x)%d,zs.set k ((r*4294967296+x)/d),by omega,by go_num,by rw[ER.out],hr',hblk.set' _ _ _ (by rw[EQ.out];exact zDf _ hq),hbel.setCell (xgf _) _,by simpa using hlz,
     ⟨by simpa using HH.out.1,HH.out.2.1.set _ _ hq,zFY HH.out.2.2 oM oM HX.out⟩⟩
   case measure=>simp[intOf]
end Go.Proofs.YtgnmdddaiefooaaGreat

namespace Go.Proofs.YtgnmdddaiefooaaGreat
open Go.Shelf Go.RowKit
def Tryz.lays128_ren:Go.Shelf.Ren:=⟨fun|128=>163|n=>n,fun|51=>117|3=>3|4=>4|46=>118|5=>5|9=>9|n=>n,fun|n=>n⟩
def Tryz.lays133_ren:Go.Shelf.Ren:=⟨fun|133=>152|128=>163|n=>n,fun|51=>117|3=>3|4=>4|46=>118|5=>5|9=>9|n=>n,fun|n=>n⟩
theorem Tryz.lays133:Go.Proofs.Lays.n133 Tryz.prog Tryz.lays133_ren:={
 mixed:=by kernel_rfl
 f128:=Tryz.func163.trans (congrArg some kR)
 f133:=Tryz.func152.trans (congrArg some kR)
 t3:=Tryz.underlying3
 a3:=Tryz.isAgg3
 z3:=Tryz.sizeOf3
 v3:=Tryz.zeroValue3
 t4:=Tryz.underlying4
 a4:=Tryz.isAgg4
 z4:=Tryz.sizeOf4
 v4:=Tryz.zeroValue4
 t5:=Tryz.underlying5
 a5:=Tryz.isAgg5
 z5:=Tryz.sizeOf5
 v5:=Tryz.zeroValue5
 t9:=Tryz.underlying9
 a9:=Tryz.isAgg9
 z9:=Tryz.sizeOf9
 v9:=Tryz.zeroValue9
 t46:=Tryz.underlying118
 a46:=Tryz.isAgg118
 z46:=Tryz.sizeOf118
 v46:=Tryz.zeroValue118
 t51:=Tryz.underlying117
 a51:=Tryz.isAgg117
 z51:=Tryz.sizeOf117
 v51:=Tryz.zeroValue117}
theorem Tryz.bits_LeadingZeros32(x:Int)(w:World)(h0:0<=x)(h1:x<=4294967295):
  Calls Tryz.prog 152 #[.int .u32 x] w fun e w'=>e= .returned (.int .i64 (32-(Lib.bitLen x.toNat:Int)))/\w'=w:=Any.bits_LeadingZeros32 Tryz.lays133 x w h0 h1
theorem zCQ:∀(f x:Nat),x<2^f->0<x->2^(Lib.bitLenAux f x-1)<=x/\x<2^Lib.bitLenAux f x/\0<Lib.bitLenAux f x
 |0,x,h,h0=>by simp at h;omega
 | f+1,x,h,h0=>by
  unfold Lib.bitLenAux;rw[if_neg oM];by_cases h1:x/2=0
  ·have:x=1:=by omega
   subst this;cases f<;>simp[Lib.bitLenAux]
  ·obtain⟨a,b,c⟩:=zCQ f (x/2) (by rw[Nat.pow_succ]at h;omega) oM
   generalize Lib.bitLenAux f (x/2)=m at*;obtain⟨m,rfl⟩:∃k,m=k+1:=⟨m-1,by omega⟩;rw[show 1+(m+1)-1=m+1 by omega,show 1+(m+1)=m+1+1 by omega,Nat.pow_succ,Nat.pow_succ 2 (m+1)];simp only[Nat.add_sub_cancel]at a;omega
theorem zMB(x:Nat)(w:World)(h0:0<x)(h1:x<4294967296):
  ∃s:Nat,s<32/\2147483648<=x*2^s/\x*2^s<4294967296/\∀w,Calls Tryz.prog 152 #[.int .u32 (x:Nat)] w fun e w'=>e= .returned (.int .i64 (s:Nat))/\w=w':=by
 have hsp:=zCQ 64 x oM h0;obtain⟨a,b,c⟩:=hsp;have hL:Lib.bitLen x<=32:=by
  unfold Lib.bitLen;rcases Nat.lt_or_ge 32 (Lib.bitLenAux 64 x)with h|h
  ·have:=Nat.pow_le_pow_right (show 0<2 by omega) (show 32<=Lib.bitLenAux 64 x-1 by omega)
   omega
  ·exact h
 refine⟨32-Lib.bitLen x,?_,?_,?_,fun w=>(Tryz.bits_LeadingZeros32 (x:Int) w oM oM).mono fun e w' h=>⟨?_,h.2.symm⟩⟩
 ·unfold Lib.bitLen;omega
 ·unfold Lib.bitLen at*
  generalize Lib.bitLenAux 64 x=m at*;have:2^(m-1)*2^(32-m)=2^31:=by rw[<-Nat.pow_add];congr 1;omega
  have h3:=Nat.mul_le_mul_right (2^(32-m)) a;omega
 ·unfold Lib.bitLen at*
  generalize Lib.bitLenAux 64 x=m at*;have:2^m*2^(32-m)=2^32:=by rw[<-Nat.pow_add];congr 1;omega
  have h3:=(Nat.mul_lt_mul_right (a:=2^(32-m)) (Nat.pow_pos oM)).2 b;omega
 ·rw[h.1]
  simp only[Int.toNat_natCast];congr 2;omega
end Go.Proofs.YtgnmdddaiefooaaGreat

namespace Go.Proofs.YtgnmdddaiefooaaGreat
open Go.RowKit
theorem zOu(d x s:Nat)(hd:d<2^s):d|||x*2^s=d+x*2^s:=by
 have h:=Nat.shiftLeft_add_eq_or_of_lt hd x;rw[Nat.shiftLeft_eq]at h;rw[Nat.or_comm,<-h,Nat.add_comm]
theorem zIj{x s:Nat}(hx:x<4294967296)(hs:s<32):x*2^s<=4294967295*2^s/\4294967296*2^s<18446744073709551616:=by
 refine⟨Nat.mul_le_mul_right _ oM,?_⟩;have:2^s<=2^31:=Nat.pow_le_pow_right oM oM;omega
theorem zN7(d x s:Nat)(hd:d<2^s)(hx:x<4294967296)(hs:s<32):bits BinOp.or IntKind.u64 (d:Int) (IntKind.u64.wrap ((x:Int)*2^s))=((d+x*2^s:Nat):Int):=by
 obtain⟨h1,h2⟩:=zIj hx hs;have e:IntKind.u64.wrap ((x:Int)*2^s)=((x*2^s:Nat):Int):=by
  rw[IntKind.wrap_u64,show(x:Int)*2^s=((x*2^s:Nat):Int) by simp];generalize x*2^s=m at*;generalize 2^s=p at*;omega
 have h:=u64_or_nat d (x*2^s) (by generalize x*2^s=m at*;generalize 2^s=p at*;omega) (by generalize x*2^s=m at*;generalize 2^s=p at*;omega);rw[e,h,zOu d x s hd]
theorem zJX{xs zs:List Nat}{k d x p m:Nat}(h:nat (zs.take k)+d*B32^k=nat (xs.take k)*p)(hk:k<zs.length)(hx:xs.getD k 0=x)(hm:d+x*p=m):
  nat ((zs.set k (m%4294967296)).take (k+1))+m/4294967296*B32^(k+1)=nat (xs.take (k+1))*p:=by
 rw[yO _ _ _ hk,zO xs,hx,Nat.add_mul,<-h,Nat.pow_succ,yL];have e:=Nat.div_add_mod m 4294967296;generalize m/4294967296=q at*;generalize m%4294967296=r at*;have e1:x*4294967296^k*p=x*p*4294967296^k:=by simp only[Nat.mul_assoc,Nat.mul_comm,Nat.mul_left_comm]
 rw[e1];generalize 4294967296^k=t at*;have e2:(4294967296*q+r)*t=(d+x*p)*t:=by rw[e,hm]
 rw[Nat.add_mul,Nat.add_mul,Nat.mul_comm 4294967296 q,Nat.mul_assoc,Nat.mul_comm 4294967296 t]at e2;omega
theorem zG2(ao:Option Addr)(n cap:Nat)(xs:List Nat)(s:Nat)(w:World)(hn:xs.length=n)(hb:n<=4*LIM)(hx:zG w ao xs)(hs:s<32):
  Calls Tryz.prog 153 #[.slice ao n cap,.int .i64 (s:Nat)] w fun e w'=>
   ∃g zs,e= .returned (.slice (some ⟨g,0,none⟩) (n+1) (n+1))/\w.heap.size<=g/\jJ w' g zs/\qN zs/\zs.length=n+1/\nat zs=nat xs*2^s/\Below w.heap.size w w':=by
 have HN:=Lib.hid hn;have hlen1:xs.length<=n:=by omega
 have hlen1':n<=xs.length:=by omega
 clear hn;rw[yA]at hb;have hmk:=fun W=>mkU ((n:Int)+1) (n+1) oM oM W
 go_enter Tryz.func153,Tryz.ntmps153;go_wp2;clear hmk;go_loopw [6,15] (fun c i wr=>∃(k d:Nat) (zs:List Nat),k<=n/\i= .int .i64 k/\c= .int .u64 d/\d<4294967296/\jJ wr w.heap.size zs/\Below w.heap.size w wr/\n<zs.length∧
   Hid (zs.length=n+1/\qN zs/\d<2^s/\nat (zs.take k)+d*B32^k=nat (xs.take k)*2^s)) (fun _ i _=>n-(intOf i).toNat)
 case atStart=>exact⟨0,0,List.replicate (n+1) 0,by omega,rfl,rfl,by omega,jJ.made _ _,(Below.refl _ _).alloc (xgf _) _,by simp,⟨by simp,fun x hx=>by rw[List.eq_of_mem_replicate hx];exact yT,Nat.pow_pos oM,by simp⟩⟩
 case round=>
  obtain⟨k,d,zs,hk,rfl,rfl,hd,hblk,hbel,hlz,HH⟩:=hrel;have hfr:=hblk.frozen k;by_cases hkn:k<n
  ·obtain⟨b,off,x,rfl,hbw,hx32,HX,hck⟩:=hx.limb (k:=k) oM
   have hck':=(hbel.cell (p:=⟨b,off+k,none⟩) hbw).trans hck;have hcz:=hblk.cell (k:=k) oM;clear hck;have hor:=zN7 d x s HH.out.2.2.1 hx32 hs;obtain⟨hs1,hs2⟩:=zIj hx32 hs;obtain⟨m,hm⟩:∃m,d+x*2^s=m:=⟨_,rfl⟩;rw[hm]at hor;have hmlt:m<4294967296*2^s:=by have:=HH.out.2.2.1;generalize x*2^s=y at*;generalize 2^s=p at*;omega
   have hmd:m/4294967296<2^s:=by omega
   have HM:=Lib.hid hm;have HMD:=Lib.hid hmd;have hm64:m<18446744073709551616:=by generalize 2^s=p at*;omega
   clear hm hmlt hs1 hs2 hmd;go_wp2;go_roundw
   case rel=>exact⟨k+1,m/4294967296,zs.set k (m%4294967296),by omega,by go_num,by go_num,by omega,hblk.set' _ _ _ (by simp[IntKind.wrap_u32]),hbel.setCell (xgf _) _,by simpa using hlz,
     ⟨by simpa using HH.out.1,HH.out.2.1.set _ _ (Nat.mod_lt _ oM),HMD.out,zJX HH.out.2.2.2 oM HX.out HM.out⟩⟩
   case measure=>simp[intOf];omega
  ·obtain rfl:n=k:=by omega
   have hcz:=hblk.cell (k:=n) oM;go_wp2;go_ret;have h1:=HH.out.2.2.2;have h2:=yO zs n d hlz;rw[zH _ (by simp[HH.out.1]),h1,zH xs oM]at h2;exact⟨_,zs.set n d,rfl,xgf _,hblk.set' _ _ d (by simp[IntKind.wrap_u32]),HH.out.2.1.set _ _ hd,by simpa using HH.out.1,h2,hbel.setCell (xgf _) _⟩
end Go.Proofs.YtgnmdddaiefooaaGreat

namespace Go.Proofs.YtgnmdddaiefooaaGreat
def seg(us:List Nat)(off k:Nat):List Nat:=(us.drop off).take k
theorem zFX{us:List Nat}{off k:Nat}(h:off+k<=us.length):(seg us off k).length=k:=by unfold seg;simp;omega
theorem zMY{us:List Nat}{off k:Nat}(h:off+k<us.length):seg us off (k+1)=seg us off k++ [us.getD (off+k) 0]:=by
 unfold seg;rw[zBG _ _ (by simp;omega)];simp[xgb,List.getElem?_drop]
theorem zDo{us:List Nat}{off k:Nat}(h:off+k<us.length):nat (seg us off (k+1))=nat (seg us off k)+us.getD (off+k) 0*B32^k:=by
 rw[zMY h,zAk,zFX (by omega),Nat.mul_comm]
theorem qN.drop{xs:List Nat}(h:qN xs)(k:Nat):qN (xs.drop k):=fun x hx=>h x (List.mem_of_mem_drop hx)
theorem qN.seg{xs:List Nat}(h:qN xs)(off k:Nat):qN (seg xs off k):=(h.drop off).take k
def put(us:List Nat)(off:Nat)(ms:List Nat):List Nat:=us.take off++ms++us.drop (off+ms.length)
theorem zBQ{us ms:List Nat}{off:Nat}(h:off+ms.length<=us.length):(put us off ms).length=us.length:=by unfold put;simp;omega
theorem zOB(us:List Nat)(off:Nat):put us off []=us:=by unfold put;simp
theorem zK0{us ms:List Nat}{off v:Nat}(h:off+ms.length<us.length):(put us off ms).set (off+ms.length) v=put us off (ms++ [v]):=by
 unfold put;have h1:(us.take off++ms).length=off+ms.length:=by simp;omega
 rw[List.set_append_right _ _ (by rw[h1];omega),h1,Nat.sub_self,List.drop_eq_getElem_cons h];simp[Nat.add_assoc]
theorem zId{us ms:List Nat}{off k:Nat}(h:off+ms.length<=us.length)(hk:ms.length<=k):(put us off ms).getD (off+k) 0=us.getD (off+k) 0:=by
 unfold put;have h1:(us.take off++ms).length=off+ms.length:=by simp;omega
 simp only[xgb];rw[List.getElem?_append_right (by rw[h1];omega),h1,List.getElem?_drop];congr 2;omega
theorem zHk{us ms:List Nat}{off k:Nat}(h:off+ms.length<=us.length)(hk:k<ms.length):(put us off ms).getD (off+k) 0=ms.getD k 0:=by
 unfold put;have h2:(us.take off).length=off:=by simp;omega
 simp only[xgb];rw[List.getElem?_append_left (by simp;omega),List.getElem?_append_right (by rw[h2];omega),h2];congr 2;omega
theorem zKz{us ms:List Nat}{off:Nat}(h:qN us)(hm:qN ms):qN (put us off ms):=((h.take off).append hm).append (h.drop _)
theorem zJJ{us ms:List Nat}{off k v:Nat}(h:off+ms.length<=us.length)(hk:k<ms.length):(put us off ms).set (off+k) v=put us off (ms.set k v):=by
 unfold put;have h2:(us.take off).length=off:=by simp;omega
 rw[List.set_append_left _ _ (by simp;omega),List.set_append_right _ _ (by rw[h2];omega),h2,Nat.add_sub_cancel_left];simp
theorem zMH{vs:List Nat}{n:Nat}(hv:qN vs)(hl:vs.length=n+2):
  ∃l,l<B32^n/\nat vs=(vs.getD (n+1) 0*B32+vs.getD n 0)*B32^n+l:=by
 refine⟨nat (vs.take n),?_,?_⟩
 ·have:=jW (hv.take n);rwa[List.length_take,Nat.min_eq_left (by omega)]at this
 ·have h1:=zO vs (n+1)
  have h2:=zO vs n;rw[zH vs (by omega),h2,Nat.pow_succ]at h1;rw[h1,Nat.add_mul,Nat.mul_assoc,Nat.mul_comm B32 (B32^n)];omega
theorem zMI{us:List Nat}{n:Nat}(hv:qN us)(hl:us.length=n+3):
  ∃l,l<B32^n/\nat us=((us.getD (n+2) 0*B32+us.getD (n+1) 0)*B32+us.getD n 0)*B32^n+l:=by
 refine⟨nat (us.take n),?_,?_⟩
 ·have:=jW (hv.take n);rwa[List.length_take,Nat.min_eq_left (by omega)]at this
 ·have h1:=zO us (n+2)
  have h2:=zO us (n+1);have h3:=zO us n;rw[zH us (by omega),h2,h3]at h1;rw[h1,show B32^(n+2)=B32*(B32*B32^n) by rw[Nat.pow_succ,Nat.pow_succ,Nat.mul_comm,Nat.mul_comm (B32^n)],show B32^(n+1)=B32*B32^n by rw[Nat.pow_succ,Nat.mul_comm]];generalize B32^n=P;simp only[Nat.add_mul,Nat.mul_assoc];omega
theorem zN3(t B p:Nat):t*(B*p)=t*p*B:=by rw[Nat.mul_comm B p,<-Nat.mul_assoc]
section
variable {U V Q h v2 u2 top p Ul Vl:Nat} (hU:U=(top*4294967296+u2)*p+Ul) (hV:V=(h*4294967296+v2)*p+Vl) (hp:0<p) (hUl:Ul<p) (hVl:Vl<p)
 (hu2:u2<4294967296) (hv2:v2<4294967296) (hh:2147483648<=h) (hh2:h<4294967296) (hQ:Q*V<=U) (hQB:Q<4294967296) (hUV:U<V*4294967296)
include hU hV hp hUl hVl hu2 hv2 hh hh2 hQ hQB hUV
omit hUl hu2 hh hh2 hQ hQB hUV in
theorem zPb{q r:Nat}(hqr:q*h+r=top)(hb:r*4294967296+u2<q*v2)(hUl:Ul<p):U<q*V:=by
 have h1:top*4294967296+u2+1<=q*(h*4294967296+v2):=by
  rw[<-hqr,Nat.mul_add,Nat.add_mul,Nat.mul_assoc];omega
 have h2:=Nat.mul_le_mul_right p h1;rw[hU,hV,Nat.mul_add,<-Nat.mul_assoc];rw[Nat.add_mul _ 1 p]at h2;omega
theorem zOm{q r:Nat}(hqr:q*h+r=top)(hq:Q<=q)(hb:q>4294967295∨r*4294967296+u2<q*v2):Q<=q-1:=by
 rcases hb with hb|hb
 ·omega
 ·have h1:=zPb hU hV hp hVl hv2 hqr hb hUl
  rcases Nat.lt_or_ge Q q with h2|h2
  ·omega
  ·have:=Nat.mul_le_mul_right V h2;omega
theorem zNq:Q<=top/h:=by
 rw[Nat.le_div_iff_mul_le (by omega)];rcases Nat.lt_or_ge top (Q*h)with h1|h1
 ·exfalso
  have h2:(top+1)*(4294967296*p)<=Q*h*(4294967296*p):=Nat.mul_le_mul_right _ h1;have h3:Q*h*(4294967296*p)<=Q*V:=by
   rw[hV,Nat.mul_assoc];refine Nat.mul_le_mul_left _ ?_;rw[Nat.add_mul,<-Nat.mul_assoc];omega
  have h4:U<(top+1)*(4294967296*p):=by
   rw[hU,Nat.add_mul,Nat.add_mul,<-Nat.mul_assoc];have:(u2+1)*p<=4294967296*p:=Nat.mul_le_mul_right _ hu2;rw[Nat.add_mul]at this;omega
  omega
 ·exact h1
theorem zM2:top<(h+1)*4294967296:=by
 rcases Nat.lt_or_ge top ((h+1)*4294967296)with h1|h1
 ·exact h1
 ·exfalso
  have h2:V<(h+1)*4294967296*p:=by
   rw[hV];have:(h*4294967296+v2+1)*p<=(h+1)*4294967296*p:=Nat.mul_le_mul_right _ (by omega);rw[Nat.add_mul _ 1]at this;omega
  have h3:=Nat.mul_le_mul_right (4294967296*p) h1;have h4:top*(4294967296*p)<=U:=by rw[hU,Nat.add_mul,<-Nat.mul_assoc,Nat.add_assoc];exact Nat.le_add_right _ _
  rw[zN3]at h3;have h5:=Nat.mul_le_mul_right 4294967296 (Nat.le_of_lt h2);exact absurd (Nat.lt_of_lt_of_le hUV (Nat.le_trans h5 (Nat.le_trans h3 h4))) (Nat.lt_irrefl _)
theorem zL8:top/h<=4294967297:=by
 have h1:=zM2 hU hV hp hUl hVl hu2 hv2 hh hh2 hQ hQB hUV;have:top/h<4294967298:=by
  rw[Nat.div_lt_iff_lt_mul (by omega)];omega
 omega
theorem zPc{q r:Nat}(hqr:q*h+r=top)(hqB:q<4294967296)(hb:q*v2<=r*4294967296+u2):q<=Q+1∨q*V<U+V:=by
 right;have h1:q*(h*4294967296+v2)<=top*4294967296+u2:=by
  rw[<-hqr,Nat.mul_add,Nat.add_mul,Nat.mul_assoc];omega
 have h2:=Nat.mul_le_mul_right p h1;rw[hV,Nat.mul_add,<-Nat.mul_assoc,hU];have h3:q*Vl<=4294967295*p:=Nat.mul_le_mul (by omega) (by omega);have h4:4294967296*p<=h*4294967296*p:=Nat.mul_le_mul_right _ (by omega);rw[Nat.add_mul (h*4294967296)];omega
theorem zNr{q r:Nat}(hqr:q*h+r=top)(hr:4294967295<r):q<4294967296/\q*v2<=r*4294967296+u2:=by
 have h1:=zM2 hU hV hp hUl hVl hu2 hv2 hh hh2 hQ hQB hUV;have h2:q<4294967296:=by
  rcases Nat.lt_or_ge q 4294967296 with h3|h3
  ·exact h3
  ·have:=Nat.mul_le_mul_right h h3;omega
 refine⟨h2,?_⟩;have h3:q*v2<=4294967296*4294967296:=Nat.mul_le_mul (by omega) (by omega);omega
end
theorem zKf{us ms vs:List Nat}{off q b c x e v b' c':Nat}(h:nat ms+q*nat (vs.take ms.length)=nat (seg us off ms.length)+(b+c)*B32^ms.length)(hk:off+ms.length<us.length)
  (hx:us.getD (off+ms.length) 0=x) (he:vs.getD ms.length 0=e) (hv:v+(c+q*e)+b=x+(b'+c')*4294967296):
  nat (ms++ [v])+q*nat (vs.take (ms.length+1))=nat (seg us off (ms.length+1))+(b'+c')*B32^(ms.length+1):=by
 rw[zAk,zDo hk,zO,hx,he,Nat.pow_succ,yL,Nat.mul_add,<-Nat.mul_assoc q];rw[yL]at h;generalize 4294967296^ms.length=p at*;have e1:(v+(c+q*e)+b)*p=(x+(b'+c')*4294967296)*p:=by rw[hv]
 have e2:(b'+c')*(p*4294967296)=(b'+c')*4294967296*p:=by rw[Nat.mul_assoc,Nat.mul_comm p]
 rw[e2,Nat.mul_comm p v];simp only[Nat.add_mul]at*;omega
theorem zGN{ms vs rr:List Nat}{c x e:Nat}(h:nat rr+c*B32^rr.length=nat (ms.take rr.length)+nat (vs.take rr.length))(hx:ms.getD rr.length 0=x)(he:vs.getD rr.length 0=e):
  nat (rr++ [(c+(x+e))%4294967296])+(c+(x+e))/4294967296*B32^(rr.length+1)=nat (ms.take (rr.length+1))+nat (vs.take (rr.length+1)):=by
 rw[zAk,zO,zO,hx,he,Nat.pow_succ,yL];rw[yL]at h;generalize 4294967296^rr.length=p at*;have e0:=Nat.div_add_mod (c+(x+e)) 4294967296;generalize (c+(x+e))/4294967296=q at*;generalize hr:(c+(x+e))%4294967296=r at*;have e2:(4294967296*q+r)*p=(c+(x+e))*p:=by rw[e0]
 rw[Nat.add_mul,Nat.mul_comm 4294967296 q,Nat.mul_assoc,Nat.mul_comm 4294967296 p,Nat.add_mul,Nat.add_mul]at e2;rw[Nat.mul_comm p r];omega
end Go.Proofs.YtgnmdddaiefooaaGreat
