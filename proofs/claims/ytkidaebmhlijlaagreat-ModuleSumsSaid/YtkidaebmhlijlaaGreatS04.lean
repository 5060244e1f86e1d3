/- Joined. -/
import Derived.Shelf.Small.Bits
import Derived.Ground.Names2Prog
import Derived.Test.YtkidaebmhlijlaaGreatS01
set_option linter.unusedVariables false
set_option linter.unusedSimpArgs false
set_option linter.unusedSectionVars false
set_option maxHeartbeats 16000000
set_option maxRecDepth 100000
variable{ms qs rr rs ul us vs xs zs:List Nat}{P Q R U V X b c d e g j k m n off q r s v x:Nat}{a w:Go.World}
namespace Go.Proofs.YtkidaebmhlijlaaGreat
open Go.RowKit
theorem zNW(v1:Value)(z:Int)(w:World)(h1:jT w v1 z)(s1:Sm z):Calls Tryz.prog 109 #[v1] w (zDu w z):=by
  obtain⟨neg,ao,n,cap,xs,rfl,hn,hl,hc,hx,hN,hz,hpos⟩:=h1;have hq:n<=LIM:=by rw[<-hn];exact Sm.len (neg:=neg) (by rw[<-hz];exact s1) hN
  have HN:=zI hn;have HZ:=zI hz;have HP:=zI hpos;clear hn hz s1 hpos;have hq':n<=4*LIM:=by omega
  go_enter Tryz.func109,Tryz.ntmps109;go_upto_region 1 with(fail)
  refine zD ?_;intro W0 hW0;obtain⟨hB0,bx1,br,hs0⟩:=zAd hW0;obtain⟨c1,c2,c3,c4⟩:=bx1.two;obtain⟨d1,d2,d3,d4⟩:=br.two;have lx1:=lx (nx hB0 (dr W0));go_region_held3 (fun w'=>w'.cell? ⟨w.heap.size,0,none⟩=some (.bool neg)/\w'.cell? ⟨w.heap.size,1,none⟩=some (.slice ao n cap))
    ((((try go_split_ands);(repeat' apply And.intro))<;>first|exact zBh (by assumption)|exact jF (by assumption) hb1|exact jF (by assumption) hb1|exact zCv (zCv (by assumption) oM) oM))
    (first
      |((go_at_call 154;refine(zFn ao n cap xs _ HN.out hq' (hx.ext lx1)).mono ?_;rintro e w1 ⟨ao',len,cap',rfl,hz1,hz2,hz3,hz4,hb1⟩;have br1:=br.drew.below hb1;obtain⟨e1,e2,e3,e4⟩:=br1.two))
      |(fail))
  go_wp2_with fail
  refine jI rfl rfl rfl (br1.put2 _ _) ?_ (yJ (yJ (nx (nx hB0 (dr W0)) hb1) oM 0 _) oM 1 _);refine jT.ext ?_ (br1.lext2 dE _ _);exact⟨neg,ao',len,cap',xs,rfl,hz1,hz2,hz3,hz4,hN,HZ.out,fun h=>HP.out (by rw[<-HN.out,hz1,h])⟩
theorem zMY(v1:Value)(z:Int)(w:World)(h1:jT w v1 z):Calls Tryz.prog 132 #[v1] w fun e w'=>e= .returned (.bool true)/\Below w.heap.size w w':=by
  obtain⟨neg,ao,n,cap,xs,rfl,hn,hl,hc,hx,hN,hz,hpos⟩:=h1;have HN:=zI hn;clear hz;cases n with
  | zero=>
    obtain rfl:=hpos rfl;clear hn;go_enter Tryz.func132,Tryz.ntmps132;go_wp2;go_ret;exact⟨rfl,(zA _ _).alloc (xgf _) _⟩
  | succ n=>
    obtain⟨b,off,x,rfl,hbw,hx32,HX,hck⟩:=hx.limb (k:=n) oM;have hx0:((x:Int) !=0)=true:=by
      have:=hN n hn;rw[HX.out]at this;simpa using this
    clear hn hpos;go_enter Tryz.func132,Tryz.ntmps132;go_wp2;go_ret;exact⟨rfl,(zA _ _).alloc (xgf _) _⟩
theorem zKS(a b:Int):-1<=zAp a b/\zAp a b<=1:=by
  unfold zAp;by_cases h1:a<b
  · rw[if_pos h1];omega
  · rw[if_neg h1];by_cases h2:b<a
    · rw[if_pos h2];omega
    · rw[if_neg h2];omega
theorem zH5{a b:Int}:(zAp a b=-1->a<b)/\(zAp a b=0->a=b)/\(zAp a b=1->b<a):=by
  rcases zAY a b with h|h|h
  · rw[zBW h];omega
  · rw[zCY h];omega
  · rw[zCF h];omega
theorem zLY{a b:Int}(h:zAp a 0≠zAp b 0):zAp (zAp a 0) (zAp b 0)=zAp a b:=by
  rcases zAY a 0 with ha|ha|ha<;>rcases zAY b 0 with hb|hb|hb
  all_goals first
    |(exfalso;apply h;first|rw[zBW ha,zBW hb]|rw[zCY ha,zCY hb]|rw[zCF ha,zCF hb];done)
    | (first|rw[zBW ha]|rw[zCY ha]|rw[zCF ha]
       first|rw[zBW hb]|rw[zCY hb]|rw[zCF hb]
       first|(rw[zBW (show a<b by omega)];rfl)|(rw[zCF (show b<a by omega)];rfl))
theorem zLX{a b:Int}(h:zAp a 0=zAp b 0):zAp a 0*zAp (a.natAbs:Nat) (b.natAbs:Nat)=zAp a b:=by
  rcases zAY a 0 with ha|ha|ha
  · rw[zBW ha]at h ⊢
    have hb:b<0:=zH5.1 h.symm;rcases zAY a b with h1|h1|h1
    · rw[zBW h1,zCF oM];rfl
    · rw[zCY h1,zCY oM];rfl
    · rw[zCF h1,zBW oM];rfl
  · rw[zCY ha]at h ⊢
    have hb:b=0:=zH5.2.1 h.symm;rw[yB,zCY (show a=b by omega)]
  · rw[zCF ha]at h ⊢
    have hb:0<b:=zH5.2.2 h.symm;rw[zAD];rcases zAY a b with h1|h1|h1
    · rw[zBW h1,zBW oM]
    · rw[zCY h1,zCY oM]
    · rw[zCF h1,zCF oM]
theorem zRL(n:Int)(h1:-1<=n)(h2:n<=1):IntKind.i64.wrap n=n:=yR n ⟨by omega,by omega⟩
theorem zQk(v1 v2:Value)(z1 z2:Int)(w:World)(h1:zHy w v1 z1)(h2:zHy w v2 z2):Calls Tryz.prog 78 #[v1,v2] w fun e w'=>e= .returned (.int .i64 (zAp z1 z2))/\Below w.heap.size w w':=by
  have H1:=zI h1;have H2:=zI h2;obtain⟨neg1,ao1,n1,cap1,xs,rfl,hn1,hl1,hc1,hx1,hN1,hz1⟩:=h1;obtain⟨neg2,ao2,n2,cap2,ys,rfl,hn2,hl2,hc2,hx2,hN2,hz2⟩:=h2;have hcall1:=fun W hw=>zCm ao1 n1 cap1 xs W hn1 hl1 hc1 hw
  rw[<-hn1,zAy hN1,hn1]at hcall1;have hcall2:=fun W hw=>zCm ao2 n2 cap2 ys W hn2 hl2 hc2 hw
  rw[<-hn2,zAy hN2,hn2]at hcall2;obtain⟨s,hs⟩:∃s,zAp z1 0=s:=⟨_,rfl⟩;obtain⟨t,ht⟩:∃t,zAp z2 0=t:=⟨_,rfl⟩;obtain⟨c,hc⟩:∃c,zAp (nat xs) (nat ys)=c:=⟨_,rfl⟩;have hsb:=zKS z1 0;have htb:=zKS z2 0;have hcb:=zKS (nat xs) (nat ys);have hsg1:=fun W hw=>zAa (.agg #[.bool neg1,.slice ao1 n1 cap1]) z1 W hw
  have hsg2:=fun W hw=>zAa (.agg #[.bool neg2,.slice ao2 n2 cap2]) z2 W hw
  have hcmp:=fun W h1 h2=>zDB ao1 ao2 n1 n1 n2 n2 xs ys W hn1 hn2 (xgf _) (xgf _) oM oM h1 h2 hN1 hN2
  rw[hs]at hsg1 hsb;rw[ht]at hsg2 htb;rw[hc]at hcmp hcb;have hres:Hid ((s≠t->zAp s t=zAp z1 z2)/\(s=t->s*c=zAp z1 z2)):=by
    subst hs;subst ht;subst hc;refine⟨fun h=>zLY h,fun h=>?_⟩;have:=zLX h;rw[hz1,hz2,zBK,zBK]at this;rw[hz1,hz2];exact this
  clear hn1 hn2 hz1 hz2 hs ht hc;go_enter Tryz.func78,Tryz.ntmps78;go_upto_region 1 with(fail)
  refine zD ?_;intro W0 hW0;obtain⟨hB0,bx1,bx2,hs0⟩:=zAd hW0;obtain⟨c1,c2,c3,c4⟩:=bx1.two;obtain⟨d1,d2,d3,d4⟩:=bx2.two;have lx1:=lx (nx hB0 (dr W0));go_region_held3 (fun w'=>w'.cell? ⟨w.heap.size,0,none⟩=some (.bool neg1)/\w'.cell? ⟨w.heap.size,1,none⟩=some (.slice ao1 n1 cap1)/\w'.cell? ⟨w.heap.size+1,0,none⟩=some (.bool neg2)/\w'.cell? ⟨w.heap.size+1,1,none⟩=some (.slice ao2 n2 cap2))
    ((((try go_split_ands);(repeat' apply And.intro))<;>first|exact zBh (by assumption)|exact jF (by assumption) hb1|exact jF (by assumption) hb2|assumption))
    (first
      |(go_at_call_of 117 ao1;refine(hsg1 _ (H1.out.ext lx1)).mono ?_;rintro e w1 ⟨rfl,hb1⟩)
      |(go_at_call_of 117 ao2;refine(hsg2 _ (H2.out.ext (lx (nx (nx hB0 (dr W0)) hb1)))).mono ?_;rintro e w2 ⟨rfl,hb2⟩))
  have hB2:=nx (nx (nx hB0 (dr W0)) hb1) hb2;by_cases hst:s=t
  · subst hst
    have e0:((s:Int) !=s)=false:=by simp
    have HR:Hid (s*c=zAp z1 z2):=hres.out.2 rfl;clear hres;have hq:=fun W=>hcmp W
    have bx1':=(bx1.drew.below hb1).below hb2;have bx2':=(bx2.drew.below hb1).below hb2;clear c1 c2 c3 c4 d1 d2 d3 d4;go_wp2_with fail
    obtain⟨c1,c2,c3,c4⟩:=bx1'.two;obtain⟨d1,d2,d3,d4⟩:=bx2'.two;have hxd1:=hx1.ext (lx (nx hB2 (dr w2)));have hxd2:=hx2.ext (lx (nx hB2 (dr w2)));go_region_held3 (fun w'=>w'.cell? ⟨w.heap.size,1,none⟩=some (.slice ao1 n1 cap1)/\w'.cell? ⟨w.heap.size+1,1,none⟩=some (.slice ao2 n2 cap2))
      ((((try go_split_ands);(repeat' apply And.intro))<;>first|exact zBh (by assumption)|exact jF (by assumption) (drN _ _)|assumption))
      (first
        |(go_at_call_of 120 ao1;refine(hcall1 _ hxd1).mono ?_;rintro e w' ⟨rfl,rfl⟩)
        |(go_at_call_of 120 ao2;refine(hcall2 _ hxd2).mono ?_;rintro e w' ⟨rfl,rfl⟩)
        |(go_at_call 124;refine(hcmp _ hxd1 hxd2).mono ?_;rintro e w' ⟨rfl,q,rfl⟩))
    go_wp2_with fail
    go_ret;have hr:=HR.out;have hbd:=zKS z1 z2;refine⟨?_,nx hB2 (drN _ _)⟩;rw[<-hr]at hbd ⊢
    first|rfl|(show _=Ending.returned (.int .i64 _);simp[IntWalk.wrap64_in _ ⟨show-9223372036854775808<=s*c by omega,by omega⟩,zRL _ hbd.1 hbd.2])
  · have e0:((s:Int) !=t)=true:=by simpa using hst
    have E:=hres.out.1 hst;have hci:=fun W=>zFo s t W
    rw[E]at hci;clear E hst;go_wp2_with (go_at_call 123;refine(hci _).mono ?_;rintro e w' ⟨rfl,rfl⟩)
    go_ret;exact⟨rfl,hB2⟩
theorem zKP(n:Nat)(h:n<4294967296):IntKind.u32.wrap (n:Int)=n:=by rw[zA0];omega
theorem zOO(a b:Nat)(hb:b<4294967296):a*4294967296|||b=a*4294967296+b:=by
 have h:=Nat.shiftLeft_add_eq_or_of_lt (i:=32) (show b<2^32 from hb) a;rw[Nat.shiftLeft_eq]at h;exact h.symm
theorem zOP(a b:Nat)(ha:a<4294967296)(hb:b<4294967296):bits BinOp.or IntKind.u64 ((a:Int)*4294967296) (b:Int)=((a*4294967296+b:Nat):Int):=by
 have h:=u64_or_nat (a*4294967296) b oM oM;rw[zOO a b hb]at h;rw[<-h];simp
theorem zDI(xs:List Nat)(k:Nat)(h:k<xs.length):nat (xs.drop k)=xs.getD k 0+B32*nat (xs.drop (k+1)):=by
 rw[jD h,zCd,xgb,xga h];rfl
theorem zP1(h:nat (xs.drop (k+1))=nat (zs.drop (k+1))*d+r)(hk:k<xs.length)(hkz:k<zs.length)(hx:xs.getD k 0=x):
  nat (xs.drop k)=nat ((zs.set k ((r*4294967296+x)/d)).drop k)*d+(r*4294967296+x)%d:=by
 rw[zDI xs k hk,zDI _ k (by simpa using hkz),hx,h,zE9,xgb,List.getElem?_set_self hkz,zB9];simp only[Option.getD_some];have e:=jU (r*4294967296+x) d;generalize (r*4294967296+x)/d=q at*;generalize (r*4294967296+x)%d=s at*;generalize nat (List.drop (k+1) zs)=z at*;rw[zY,zN q d,zAF,zC];omega
theorem zSW(ao:Option Addr)(n cap:Nat)(xs:List Nat)(d:Nat)(w:World)(hn:xs.length=n)(hb:n<=4*LIM)(hx:qV w ao xs)(hd0:0<d)(hd:d<4294967296):
  Calls Tryz.prog 206 #[.slice ao n cap,.int .u32 (d:Nat)] w fun e w'=>
   ∃g qs r,e= .returned (.tuple #[.slice (some ⟨g,0,none⟩) n n,.int .u32 (r:Nat)])/\zC3 w' g qs/\zBD qs/\qs.length=n/\r<d/\nat xs=nat qs*d+r/\Below w.heap.size w w':=by
 have HN:=zI hn;have hlen1:xs.length<=n:=by omega
 have hlen1':n<=xs.length:=by omega
 clear hn;rw[zDD]at hb;have hmk:=fun W=>mkU (n:Int) n oM oM W
 go_enter Tryz.func206,Tryz.ntmps206;go_wp2;clear hmk;go_loopw [7,8] (fun rv i wr=>∃(k r:Nat) (zs:List Nat),k<=n/\i= .int .i64 ((k:Int)-1)/\rv= .int .u64 r/\r<d/\zC3 wr w.heap.size zs/\Below w.heap.size w wr/\n<=zs.length∧
   Hid (zs.length=n/\zBD zs/\nat (xs.drop k)=nat (zs.drop k)*d+r)) (fun _ i _=>(intOf i+1).toNat)
 case atStart=>exact⟨n,0,List.replicate n 0,by omega,by go_num,rfl,by omega,zC3.made _ _,(zA _ _).alloc (xgf _) _,by simp,⟨by simp,fun x hx=>by rw[List.eq_of_mem_replicate hx];exact zDf,by rw[qJ hlen1,qJ sI];simp⟩⟩
 obtain⟨k,r,zs,hk,rfl,rfl,hr,hblk,hbel,hlz,HH⟩:=hrel;cases k with
 |zero=>
  go_wp2;go_ret2;refine⟨_,zs,r,by congr 3,hblk,HH.out.2.1,HH.out.1,hr,by simpa using HH.out.2.2,hbel⟩
 | succ k=>
  have hfr:=hblk.frozen k;obtain⟨b,off,x,rfl,hbw,hx32,HX,hck⟩:=hx.limb (k:=k) oM;have hck':=(hbel.cell (p:=⟨b,off+k,none⟩) hbw).trans hck;have hcz:=hblk.cell (k:=k) oM;clear hck;have eo:=zOP r x oM hx32;have hq:(r*4294967296+x)/d<4294967296:=by
   rw[zCE hd0];have:(r+1)*4294967296<=d*4294967296:=zO _ hr;omega
  have hr':(r*4294967296+x)%d<d:=yV _ hd0;have EQ:Hid (((r:Int)*4294967296+x)/d=(((r*4294967296+x)/d:Nat):Int)):=by show _=_;simp
  have ER:Hid (((r:Int)*4294967296+x)%d=(((r*4294967296+x)%d:Nat):Int)):=by show _=_;simp
  go_wp2;go_roundw
  case rel=>exact⟨k,(r*4294967296+x)%d,zs.set k ((r*4294967296+x)/d),by omega,by go_num,by rw[ER.out],hr',hblk.set' _ _ _ (by rw[EQ.out];exact zKP _ hq),hbel.setCell (xgf _) _,by simpa using hlz,
    ⟨by simpa using HH.out.1,HH.out.2.1.set _ _ hq,zP1 HH.out.2.2 oM oM HX.out⟩⟩
  case measure=>simp[intOf]
end Go.Proofs.YtkidaebmhlijlaaGreat

namespace Go.Proofs.YtkidaebmhlijlaaGreat
open Go.Shelf Go.RowKit
def Tryz.lays128_ren:Go.Shelf.Ren:=⟨fun|128=>212|n=>n,fun|51=>113|3=>3|4=>4|46=>114|5=>5|9=>9|n=>n,fun|n=>n⟩
def Tryz.lays133_ren:Go.Shelf.Ren:=⟨fun|133=>207|128=>212|n=>n,fun|51=>113|3=>3|4=>4|46=>114|5=>5|9=>9|n=>n,fun|n=>n⟩
theorem Tryz.lays133:Go.Proofs.Lays.n133 Tryz.prog Tryz.lays133_ren:={
 mixed:=by kernel_rfl
 f128:=Tryz.func212.trans (congrArg some kR)
 f133:=Tryz.func207.trans (congrArg some kR)
 t3:=zC8
 a3:=Tryz.isAgg3
 z3:=Tryz.sizeOf3
 v3:=Tryz.zeroValue3
 t4:=Tryz.underlying4
 a4:=Tryz.isAgg4
 z4:=Tryz.sizeOf4
 v4:=Tryz.zeroValue4
 t5:=zC9
 a5:=Tryz.isAgg5
 z5:=Tryz.sizeOf5
 v5:=Tryz.zeroValue5
 t9:=Tryz.underlying9
 a9:=Tryz.isAgg9
 z9:=Tryz.sizeOf9
 v9:=Tryz.zeroValue9
 t46:=Tryz.underlying114
 a46:=Tryz.isAgg114
 z46:=Tryz.sizeOf114
 v46:=Tryz.zeroValue114
 t51:=Tryz.underlying113
 a51:=Tryz.isAgg113
 z51:=Tryz.sizeOf113
 v51:=Tryz.zeroValue113}
theorem Tryz.bits_LeadingZeros32(x:Int)(w:World)(h0:0<=x)(h1:x<=4294967295):
  Calls Tryz.prog 207 #[.int .u32 x] w fun e w'=>e= .returned (.int .i64 (32-(Lib.bitLen x.toNat:Int)))/\w'=w:=Any.bits_LeadingZeros32 Tryz.lays133 x w h0 h1
theorem zGE:∀(f x:Nat),x<2^f->0<x->2^(Lib.bitLenAux f x-1)<=x/\x<2^Lib.bitLenAux f x/\0<Lib.bitLenAux f x
 |0,x,h,h0=>by simp at h;omega
 | f+1,x,h,h0=>by
  unfold Lib.bitLenAux;rw[if_neg oM];by_cases h1:x/2=0
  ·have:x=1:=by omega
   subst this;cases f<;>simp[Lib.bitLenAux]
  obtain⟨a,b,c⟩:=zGE f (x/2) (by rw[qF]at h;omega) oM;generalize Lib.bitLenAux f (x/2)=m at*;obtain⟨m,rfl⟩:∃k,m=k+1:=⟨m-1,by omega⟩;rw[show 1+(m+1)-1=m+1 by omega,show 1+(m+1)=m+1+1 by omega,qF,qF 2 (m+1)];simp only[Nat.add_sub_cancel]at a;omega
theorem zTl(x:Nat)(w:World)(h0:0<x)(h1:x<4294967296):
  ∃s:Nat,s<32/\2147483648<=x*2^s/\x*2^s<4294967296/\∀w,Calls Tryz.prog 207 #[.int .u32 (x:Nat)] w fun e w'=>e= .returned (.int .i64 (s:Nat))/\w=w':=by
 have hsp:=zGE 64 x oM h0;obtain⟨a,b,c⟩:=hsp;have hL:Lib.bitLen x<=32:=by
  unfold Lib.bitLen;rcases zG 32 (Lib.bitLenAux 64 x)with h|h
  ·have:=qE (show 0<2 by omega) (show 32<=Lib.bitLenAux 64 x-1 by omega)
   omega
  exact h
 refine⟨32-Lib.bitLen x,?_,?_,?_,fun w=>(Tryz.bits_LeadingZeros32 (x:Int) w oM oM).mono fun e w' h=>⟨?_,h.2.symm⟩⟩;unfold Lib.bitLen;omega
 ·unfold Lib.bitLen at*
  generalize Lib.bitLenAux 64 x=m at*;have:2^(m-1)*2^(32-m)=2^31:=by rw[<-yQ];congr 1;omega
  have h3:=zO (2^(32-m)) a;omega
 ·unfold Lib.bitLen at*
  generalize Lib.bitLenAux 64 x=m at*;have:2^m*2^(32-m)=2^32:=by rw[<-yQ];congr 1;omega
  have h3:=(zCQ (a:=2^(32-m)) (qP oM)).2 b;omega
 rw[h.1];simp only[Int.toNat_natCast];congr 2;omega
end Go.Proofs.YtkidaebmhlijlaaGreat

namespace Go.Proofs.YtkidaebmhlijlaaGreat
open Go.RowKit
theorem zXI(d x s:Nat)(hd:d<2^s):d|||x*2^s=d+x*2^s:=by
 have h:=Nat.shiftLeft_add_eq_or_of_lt hd x;rw[Nat.shiftLeft_eq]at h;rw[Nat.or_comm,<-h,zDQ]
theorem zOd(hx:x<4294967296)(hs:s<32):x*2^s<=4294967295*2^s/\4294967296*2^s<18446744073709551616:=by
 refine⟨zO _ oM,?_⟩;have:2^s<=2^31:=qE oM oM;omega
theorem zV3(d x s:Nat)(hd:d<2^s)(hx:x<4294967296)(hs:s<32):bits BinOp.or IntKind.u64 (d:Int) (IntKind.u64.wrap ((x:Int)*2^s))=((d+x*2^s:Nat):Int):=by
 obtain⟨h1,h2⟩:=zOd hx hs;have e:IntKind.u64.wrap ((x:Int)*2^s)=((x*2^s:Nat):Int):=by
  rw[zAg,show(x:Int)*2^s=((x*2^s:Nat):Int) by simp];generalize x*2^s=m at*;generalize 2^s=p at*;omega
 have h:=u64_or_nat d (x*2^s) (by generalize x*2^s=m at*;generalize 2^s=p at*;omega) (by generalize x*2^s=m at*;generalize 2^s=p at*;omega);rw[e,h,zXI d x s hd]
theorem zP0{p:Nat}(h:nat (zs.take k)+d*B32^k=nat (xs.take k)*p)(hk:k<zs.length)(hx:xs.getD k 0=x)(hm:d+x*p=m):
  nat ((zs.set k (m%4294967296)).take (k+1))+m/4294967296*B32^(k+1)=nat (xs.take (k+1))*p:=by
 rw[zBy _ _ _ hk,jG xs,hx,zY,<-h,qF,zB9];have e:=jU m 4294967296;generalize m/4294967296=q at*;generalize m%4294967296=r at*;have e1:x*4294967296^k*p=x*p*4294967296^k:=by simp only[Nat.mul_assoc,Nat.mul_comm,Nat.mul_left_comm]
 rw[e1];generalize 4294967296^k=t at*;have e2:(4294967296*q+r)*t=(d+x*p)*t:=by rw[e,hm]
 rw[zY,zY,zN 4294967296 q,zC,zN 4294967296 t]at e2;omega
theorem zME(ao:Option Addr)(n cap:Nat)(xs:List Nat)(s:Nat)(w:World)(hn:xs.length=n)(hb:n<=4*LIM)(hx:qV w ao xs)(hs:s<32):
  Calls Tryz.prog 208 #[.slice ao n cap,.int .i64 (s:Nat)] w fun e w'=>
   ∃g zs,e= .returned (.slice (some ⟨g,0,none⟩) (n+1) (n+1))/\w.heap.size<=g/\zC3 w' g zs/\zBD zs/\zs.length=n+1/\nat zs=nat xs*2^s/\Below w.heap.size w w':=by
 have HN:=zI hn;have hlen1:xs.length<=n:=by omega
 have hlen1':n<=xs.length:=by omega
 clear hn;rw[zDD]at hb;have hmk:=fun W=>mkU ((n:Int)+1) (n+1) oM oM W
 go_enter Tryz.func208,Tryz.ntmps208;go_wp2;clear hmk;go_loopw [6,15] (fun c i wr=>∃(k d:Nat) (zs:List Nat),k<=n/\i= .int .i64 k/\c= .int .u64 d/\d<4294967296/\zC3 wr w.heap.size zs/\Below w.heap.size w wr/\n<zs.length∧
   Hid (zs.length=n+1/\zBD zs/\d<2^s/\nat (zs.take k)+d*B32^k=nat (xs.take k)*2^s)) (fun _ i _=>n-(intOf i).toNat)
 case atStart=>exact⟨0,0,List.replicate (n+1) 0,by omega,rfl,rfl,by omega,zC3.made _ _,(zA _ _).alloc (xgf _) _,by simp,⟨by simp,fun x hx=>by rw[List.eq_of_mem_replicate hx];exact zDf,qP oM,by simp⟩⟩
 obtain⟨k,d,zs,hk,rfl,rfl,hd,hblk,hbel,hlz,HH⟩:=hrel;have hfr:=hblk.frozen k;by_cases hkn:k<n
 ·obtain⟨b,off,x,rfl,hbw,hx32,HX,hck⟩:=hx.limb (k:=k) oM
  have hck':=(hbel.cell (p:=⟨b,off+k,none⟩) hbw).trans hck;have hcz:=hblk.cell (k:=k) oM;clear hck;have hor:=zV3 d x s HH.out.2.2.1 hx32 hs;obtain⟨hs1,hs2⟩:=zOd hx32 hs;obtain⟨m,hm⟩:∃m,d+x*2^s=m:=⟨_,rfl⟩;rw[hm]at hor;have hmlt:m<4294967296*2^s:=by have:=HH.out.2.2.1;generalize x*2^s=y at*;generalize 2^s=p at*;omega
  have hmd:m/4294967296<2^s:=by omega
  have HM:=zI hm;have HMD:=zI hmd;have hm64:m<18446744073709551616:=by generalize 2^s=p at*;omega
  clear hm hmlt hs1 hs2 hmd;go_wp2;go_roundw
  case rel=>exact⟨k+1,m/4294967296,zs.set k (m%4294967296),by omega,by go_num,by go_num,by omega,hblk.set' _ _ _ (by simp[IntKind.wrap_u32]),hbel.setCell (xgf _) _,by simpa using hlz,
    ⟨by simpa using HH.out.1,HH.out.2.1.set _ _ (yV _ oM),HMD.out,zP0 HH.out.2.2.2 oM HX.out HM.out⟩⟩
  case measure=>simp[intOf];omega
 obtain rfl:n=k:=by omega
 have hcz:=hblk.cell (k:=n) oM;go_wp2;go_ret;have h1:=HH.out.2.2.2;have h2:=zBy zs n d hlz;rw[yH _ (by simp[HH.out.1]),h1,yH xs oM]at h2;exact⟨_,zs.set n d,rfl,xgf _,hblk.set' _ _ d (by simp[IntKind.wrap_u32]),HH.out.2.1.set _ _ hd,by simpa using HH.out.1,h2,hbel.setCell (xgf _) _⟩
end Go.Proofs.YtkidaebmhlijlaaGreat

namespace Go.Proofs.YtkidaebmhlijlaaGreat
def seg(us:List Nat)(off k:Nat):List Nat:=(us.drop off).take k
theorem zKC(h:off+k<=us.length):(seg us off k).length=k:=by unfold seg;simp;omega
theorem zUF(h:off+k<us.length):seg us off (k+1)=seg us off k++ [us.getD (off+k) 0]:=by
 unfold seg;rw[zEk _ _ (by simp;omega)];simp[xgb,List.getElem?_drop]
theorem zHo(h:off+k<us.length):nat (seg us off (k+1))=nat (seg us off k)+us.getD (off+k) 0*B32^k:=by
 rw[zUF h,zEA,zKC (by omega),zN]
theorem zBD.drop(h:zBD xs)(k:Nat):zBD (xs.drop k):=fun x hx=>h x (List.mem_of_mem_drop hx)
theorem zBD.seg(h:zBD xs)(off k:Nat):zBD (seg xs off k):=(h.drop off).take k
def put(us:List Nat)(off:Nat)(ms:List Nat):List Nat:=us.take off++ms++us.drop (off+ms.length)
theorem zEu(h:off+ms.length<=us.length):(put us off ms).length=us.length:=by unfold put;simp;omega
theorem zV5(us:List Nat)(off:Nat):put us off []=us:=by unfold put;simp
theorem zR6(h:off+ms.length<us.length):(put us off ms).set (off+ms.length) v=put us off (ms++ [v]):=by
 unfold put;have h1:(us.take off++ms).length=off+ms.length:=by simp;omega
 rw[zA5 _ _ (by rw[h1];omega),h1,jP,jD h];simp[Nat.add_assoc]
theorem zOV(h:off+ms.length<=us.length)(hk:ms.length<=k):(put us off ms).getD (off+k) 0=us.getD (off+k) 0:=by
 unfold put;have h1:(us.take off++ms).length=off+ms.length:=by simp;omega
 simp only[xgb];rw[List.getElem?_append_right (by rw[h1];omega),h1,List.getElem?_drop];congr 2;omega
theorem zNa(h:off+ms.length<=us.length)(hk:k<ms.length):(put us off ms).getD (off+k) 0=ms.getD k 0:=by
 unfold put;have h2:(us.take off).length=off:=by simp;omega
 simp only[xgb];rw[List.getElem?_append_left (by simp;omega),List.getElem?_append_right (by rw[h2];omega),h2];congr 2;omega
theorem zR5(h:zBD us)(hm:zBD ms):zBD (put us off ms):=((h.take off).append hm).append (h.drop _)
theorem zPp(h:off+ms.length<=us.length)(hk:k<ms.length):(put us off ms).set (off+k) v=put us off (ms.set k v):=by
 unfold put;have h2:(us.take off).length=off:=by simp;omega
 rw[List.set_append_left _ _ (by simp;omega),zA5 _ _ (by rw[h2];omega),h2,zAT];simp
theorem zTu(hv:zBD vs)(hl:vs.length=n+2):
  ∃l,l<B32^n/\nat vs=(vs.getD (n+1) 0*B32+vs.getD n 0)*B32^n+l:=by
 refine⟨nat (vs.take n),?_,?_⟩;have:=zEe (hv.take n);rwa[qD,zBH (by omega)]at this;have h1:=jG vs (n+1);have h2:=jG vs n;rw[yH vs (by omega),h2,qF]at h1;rw[h1,zY,zC,zN B32 (B32^n)];omega
theorem zTv(hv:zBD us)(hl:us.length=n+3):
  ∃l,l<B32^n/\nat us=((us.getD (n+2) 0*B32+us.getD (n+1) 0)*B32+us.getD n 0)*B32^n+l:=by
 refine⟨nat (us.take n),?_,?_⟩;have:=zEe (hv.take n);rwa[qD,zBH (by omega)]at this;have h1:=jG us (n+2);have h2:=jG us (n+1);have h3:=jG us n;rw[yH us (by omega),h2,h3]at h1;rw[h1,show B32^(n+2)=B32*(B32*B32^n) by rw[qF,qF,zN,zN (B32^n)],show B32^(n+1)=B32*B32^n by rw[qF,zN]];generalize B32^n=P;simp only[Nat.add_mul,Nat.mul_assoc];omega
theorem zV0(t B p:Nat):t*(B*p)=t*p*B:=by rw[zN B p,<-zC]
section
variable {U V Q h v2 u2 top p Ul Vl:Nat} (hU:U=(top*4294967296+u2)*p+Ul) (hV:V=(h*4294967296+v2)*p+Vl) (hp:0<p) (hUl:Ul<p) (hVl:Vl<p)
 (hu2:u2<4294967296) (hv2:v2<4294967296) (hh:2147483648<=h) (hh2:h<4294967296) (hQ:Q*V<=U) (hQB:Q<4294967296) (hUV:U<V*4294967296)
include hU hV hp hUl hVl hu2 hv2 hh hh2 hQ hQB hUV
omit hUl hu2 hh hh2 hQ hQB hUV in
theorem zXz(hqr:q*h+r=top)(hb:r*4294967296+u2<q*v2)(hUl:Ul<p):U<q*V:=by
 have h1:top*4294967296+u2+1<=q*(h*4294967296+v2):=by
  rw[<-hqr,zAF,zY,zC];omega
 have h2:=zO p h1;rw[hU,hV,zAF,<-zC];rw[zY _ 1 p]at h2;omega
theorem zW8(hqr:q*h+r=top)(hq:Q<=q)(hb:q>4294967295∨r*4294967296+u2<q*v2):Q<=q-1:=by
 rcases hb with hb|hb
 omega;have h1:=zXz hU hV hp hVl hv2 hqr hb hUl;rcases zG Q q with h2|h2
 omega;have:=zO V h2;omega
theorem zVr:Q<=top/h:=by
 rw[Nat.le_div_iff_mul_le (by omega)];rcases zG top (Q*h)with h1|h1
 ·exfalso
  have h2:(top+1)*(4294967296*p)<=Q*h*(4294967296*p):=zO _ h1;have h3:Q*h*(4294967296*p)<=Q*V:=by
   rw[hV,zC];refine zF _ ?_;rw[zY,<-zC];omega
  have h4:U<(top+1)*(4294967296*p):=by
   rw[hU,zY,zY,<-zC];have:(u2+1)*p<=4294967296*p:=zO _ hu2;rw[zY]at this;omega
  omega
 exact h1
theorem zUv:top<(h+1)*4294967296:=by
 rcases zG top ((h+1)*4294967296)with h1|h1
 exact h1;exfalso;have h2:V<(h+1)*4294967296*p:=by
  rw[hV];have:(h*4294967296+v2+1)*p<=(h+1)*4294967296*p:=zO _ (by omega);rw[zY _ 1]at this;omega
 have h3:=zO (4294967296*p) h1;have h4:top*(4294967296*p)<=U:=by rw[hU,zY,<-zC,zD3];exact zC7 _ _
 rw[zV0]at h3;have h5:=zO 4294967296 (zAw h2);exact absurd (zH hUV (zB h5 (zB h3 h4))) (Nat.lt_irrefl _)
theorem zTj:top/h<=4294967297:=by
 have h1:=zUv hU hV hp hUl hVl hu2 hv2 hh hh2 hQ hQB hUV;have:top/h<4294967298:=by
  rw[zCE (by omega)];omega
 omega
theorem zX0(hqr:q*h+r=top)(hqB:q<4294967296)(hb:q*v2<=r*4294967296+u2):q<=Q+1∨q*V<U+V:=by
 right;have h1:q*(h*4294967296+v2)<=top*4294967296+u2:=by
  rw[<-hqr,zAF,zY,zC];omega
 have h2:=zO p h1;rw[hV,zAF,<-zC,hU];have h3:q*Vl<=4294967295*p:=qT (by omega) (by omega);have h4:4294967296*p<=h*4294967296*p:=zO _ (by omega);rw[zY (h*4294967296)];omega
theorem zVs(hqr:q*h+r=top)(hr:4294967295<r):q<4294967296/\q*v2<=r*4294967296+u2:=by
 have h1:=zUv hU hV hp hUl hVl hu2 hv2 hh hh2 hQ hQB hUV;have h2:q<4294967296:=by
  rcases zG q 4294967296 with h3|h3
  exact h3;have:=zO h h3;omega
 refine⟨h2,?_⟩;have h3:q*v2<=4294967296*4294967296:=qT (by omega) (by omega);omega
end
theorem zRj{x e v b' c':Nat}(h:nat ms+q*nat (vs.take ms.length)=nat (seg us off ms.length)+(b+c)*B32^ms.length)(hk:off+ms.length<us.length)
  (hx:us.getD (off+ms.length) 0=x) (he:vs.getD ms.length 0=e) (hv:v+(c+q*e)+b=x+(b'+c')*4294967296):
  nat (ms++ [v])+q*nat (vs.take (ms.length+1))=nat (seg us off (ms.length+1))+(b'+c')*B32^(ms.length+1):=by
 rw[zEA,zHo hk,jG,hx,he,qF,zB9,zAF,<-zC q];rw[zB9]at h;generalize 4294967296^ms.length=p at*;have e1:(v+(c+q*e)+b)*p=(x+(b'+c')*4294967296)*p:=by rw[hv]
 have e2:(b'+c')*(p*4294967296)=(b'+c')*4294967296*p:=by rw[zC,zN p]
 rw[e2,zN p v];simp only[Nat.add_mul]at*;omega
theorem zLN(h:nat rr+c*B32^rr.length=nat (ms.take rr.length)+nat (vs.take rr.length))(hx:ms.getD rr.length 0=x)(he:vs.getD rr.length 0=e):
  nat (rr++ [(c+(x+e))%4294967296])+(c+(x+e))/4294967296*B32^(rr.length+1)=nat (ms.take (rr.length+1))+nat (vs.take (rr.length+1)):=by
 rw[zEA,jG,jG,hx,he,qF,zB9];rw[zB9]at h;generalize 4294967296^rr.length=p at*;have e0:=jU (c+(x+e)) 4294967296;generalize (c+(x+e))/4294967296=q at*;generalize hr:(c+(x+e))%4294967296=r at*;have e2:(4294967296*q+r)*p=(c+(x+e))*p:=by rw[e0]
 rw[zY,zN 4294967296 q,zC,zN 4294967296 p,zY,zY]at e2;rw[zN p r];omega
end Go.Proofs.YtkidaebmhlijlaaGreat

namespace Go.Proofs.YtkidaebmhlijlaaGreat
open Go.RowKit
theorem zL1(w:World)(g:Nat):w.grownBy w (some g):=⟨rfl,rfl,rfl,xgf _,fun _ _ _=>rfl⟩
theorem zGz(h:a.grownBy w (some g))(i:Nat)(u:Value):a.grownBy (w.setCell ⟨g,i,none⟩ u) (some g):=
 ⟨h.os,h.tape,h.output,by simpa[World.setCell]using h.size,fun k hk hne=>(qR w ⟨g,i,none⟩ u k (fun e=>hne (by rw[e]))).trans (h.block k hk hne)⟩
theorem zPl(h:a.grownBy w (some g))(n:Nat):a.grownBy (w.drewN n) (some g):=⟨h.os,h.tape,h.output,h.size,h.block⟩
theorem zL0{o:Nat}{v:Value}(h:a.grownBy w (some g))(hne:b≠g)(hc:a.cell? ⟨b,o,none⟩=some v):w.cell? ⟨b,o,none⟩=some v:=
 (World.cell?_of_block (w:=a) (h.block b (jA a _ hc) (fun e=>hne (by injection e)))).trans hc
theorem zJ3{b c:World}(h:a.grownBy b (some g))(k:b.grownBy c (some g)):a.grownBy c (some g):=
 ⟨k.os.trans h.os,k.tape.trans h.tape,k.output.trans h.output,zB h.size k.size,fun i hi hne=>(k.block i (zH hi h.size) hne).trans (h.block i hi hne)⟩
theorem zRg(h:rr.length=k)(hk:k<rs.length):(rr++rs.drop k).set k v=(rr++ [v])++rs.drop (k+1):=by
 rw[zA5 _ _ oM,h,jP,jD hk,xgi];simp
theorem zVx(h:rr.length=k)(hk:k<rs.length):(rr++rs.drop k).getD k 0=rs.getD k 0:=by
 simp only[xgb];rw[List.getElem?_append_right oM,h,jP,List.getElem?_drop,zAW]
theorem zUV{a lv nms:Nat}(h1:a+c*P=nms+V)(h2:nms+P*lv+(Q+1)*V=U+P*4294967296)(ha:a<P)(hV:V<P)(hU:U<(Q+1)*V)(hQ:Q*V<=U)(hlv:lv<4294967296)(hc:c<=1):
  lv+c=4294967296/\U=Q*V+a:=by
 rw[zY,zAo]at h2 hU;rcases(show c=0∨c=1 by omega)with rfl|rfl
 ·exfalso
  have h3:P*lv+P<=P*4294967296:=by rw[<-Nat.mul_succ];exact zF P hlv
  omega
 rcases zG lv 4294967295 with h4|h4
 ·exfalso
  have h3:P*lv+P+P<=P*4294967296:=by
   have:=zF P (show lv+2<=4294967296 by omega);rw[zAF]at this;omega
  omega
 obtain rfl:lv=4294967295:=by omega
 exact⟨rfl,by omega⟩
def zS8(w:World)(g off n:Nat)(ua vs:List Nat)(e:Ending)(w':World):Prop:=
 ∃(q:Nat) (rs:List Nat),e= .returned (.int .u32 (q:Nat))/\q<4294967296/\rs.length=n+1/\zBD rs/\nat (seg ua off (n+1))=q*nat vs+nat rs/\nat rs<nat vs/\zC3 w' g (put ua off rs)/\w.grownBy w' (some g)
theorem zI1(x y d:Nat)(hx:x<4294967296)(hy:y<4294967296)(hd:d<=1):
  ∃v e:Nat,IntKind.u32.wrap (IntKind.u64.wrap (IntKind.u64.wrap ((x:Int)-y)-d))=v/\IntKind.u64.wrap (IntKind.u64.wrap ((x:Int)-y)-d)/9223372036854775808=e/\v<4294967296/\e<=1/\v+y+d=x+e*4294967296:=by
 simp only[IntKind.wrap_u64,IntKind.wrap_u32];by_cases h:y+d<=x
 ·exact⟨x-y-d,0,by omega,by omega,by omega,by omega,by omega⟩
 exact⟨x+4294967296-y-d,1,by omega,by omega,by omega,by omega,by omega⟩
theorem zVO(m:Nat)(h:m<18446744073709551616):bits BinOp.and IntKind.u64 (m:Int) 4294967295=((m%4294967296:Nat):Int):=by
 have h1:=u64_and_nat m 4294967295 h oM;have h2:m &&& 4294967295=m%4294967296:=Nat.and_two_pow_sub_one_eq_mod m 32;rw[h2]at h1;exact h1
theorem zV6(h1:R+q*V=U)(h2:U<(Q+1)*V)(h3:Q<=q):R<V:=by
 have:Q*V<=q*V:=zO V h3;rw[zY,zAo]at h2;omega
theorem zX8(h1:R+q*V=U+P)(hR:R<P)(h2:U<(Q+1)*V)(h3:Q*V<=U)(h4:q<=Q+1∨q*V<U+V):q=Q+1:=by
 have a:Q<q:=by
  rcases zG Q q with h|h
  exact h;have:=zO V h;omega
 rcases h4 with h4|h4
 omega;rcases zG (Q+1) q with h|h
 ·have:=zO V h
  rw[zY (Q+1) 1,zAo]at this;omega
 omega
theorem zQu(g off cap b2 off2 n cap2:Nat)(ua vs:List Nat)(w:World)(hU:zC3 w g ua)(hul:zBD ua)(hv:qV w (some ⟨b2,off2,none⟩) vs)(hsep:b2≠g)(hn:vs.length=n)(hn2:2<=n)
  (hlen:off+n<ua.length) (hb:n<=4*LIM) (hhigh:2147483648<=vs.getD (n-1) 0) (hQ:nat (seg ua off (n+1))<nat vs*4294967296):
  Calls Tryz.prog 209 #[.slice (some ⟨g,off,none⟩) (n+1) cap,.slice (some ⟨b2,off2,none⟩) n cap2] w (zS8 w g off n ua vs):=by
 have HN:=zI hn;have HQ:=zI hQ;have hlv:n<=vs.length:=by omega
 have hcv:∀k,k<n->w.cell? ⟨b2,off2+k,none⟩=some (.int .u32 (vs.getD k 0:Nat)):=fun k hk=>by
  obtain⟨b,o,e1,_,e2⟩:=hv.cell (k:=k) oM;injection e1 with e1;injection e1 with e1 e3;subst e1;subst e3
  exact e2
 obtain⟨hi,HHI⟩:∃x,vs.getD (n-1) 0=x:=⟨_,rfl⟩;obtain⟨v2,HV2⟩:∃x,vs.getD (n-2) 0=x:=⟨_,rfl⟩;obtain⟨x0,HX0⟩:∃x,ua.getD (off+n) 0=x:=⟨_,rfl⟩;obtain⟨x1,HX1⟩:∃x,ua.getD (off+(n-1)) 0=x:=⟨_,rfl⟩;obtain⟨x2,HX2⟩:∃x,ua.getD (off+(n-2)) 0=x:=⟨_,rfl⟩;have f1:=hcv (n-1) oM;have f2:=hcv (n-2) oM;have f3:=hU.cell (k:=off+n) oM;have f4:=hU.cell (k:=off+(n-1)) oM;have f5:=hU.cell (k:=off+(n-2)) oM;have hhi:hi<4294967296:=by rw[<-HHI];exact hv.1.get _
 have hv2:v2<4294967296:=by rw[<-HV2];exact hv.1.get _
 have hx0:x0<4294967296:=by rw[<-HX0];exact hul.get _
 have hx1:x1<4294967296:=by rw[<-HX1];exact hul.get _
 have hx2:x2<4294967296:=by rw[<-HX2];exact hul.get _
 rw[HHI]at f1 hhigh;rw[HV2]at f2;rw[HX0]at f3;rw[HX1]at f4;rw[HX2]at f5;have GHI:=zI HHI;have GV2:=zI HV2;have GX0:=zI HX0;have GX1:=zI HX1;have GX2:=zI HX2;have HCV:=zI hcv;clear HHI HV2 HX0 HX1 HX2 hn hcv hQ;rw[zDD]at hb;obtain⟨top,htop⟩:∃t,x0*4294967296+x1=t:=⟨_,rfl⟩;have eo:=zOP x0 x1 hx0 hx1;rw[htop]at eo;have ht64:top<18446744073709551616:=by omega
 obtain⟨U,hUU⟩:∃U,nat (seg ua off (n+1))=U:=⟨_,rfl⟩;obtain⟨V,hVV⟩:∃V,nat vs=V:=⟨_,rfl⟩;obtain⟨Q,hQQ⟩:∃Q,U/V=Q:=⟨_,rfl⟩;have hV0:0<V:=by
  rcases qN V with h|h
  have:=HQ.out;rw[hUU,hVV,h]at this;omega;exact h
 have K:∃p Ul Vl,U=(top*4294967296+x2)*p+Ul/\V=(hi*4294967296+v2)*p+Vl/\0<p/\Ul<p/\Vl<p/\Q*V<=U/\Q<4294967296/\U<V*4294967296/\U<(Q+1)*V:=by
  obtain⟨m,rfl⟩:∃m,n=m+2:=⟨n-2,by omega⟩;obtain⟨Vl,h1,h2⟩:=zTu hv.1 HN.out;obtain⟨Ul,h3,h4⟩:=zTv (hul.seg off (m+2+1)) (zKC oM);have hg:∀k,k<m+3->(seg ua off (m+2+1)).getD k 0=ua.getD (off+k) 0:=fun k hk=>by
   unfold seg;simp only[xgb,List.getElem?_take,List.getElem?_drop];rw[if_pos oM]
  have a1:=GHI.out;have a2:=GV2.out;have a3:=GX0.out;have a4:=GX1.out;have a5:=GX2.out;rw[show m+2-1=m+1 by omega]at a1 a4;rw[show m+2-2=m by omega]at a2 a5;rw[hVV,a1,a2,zB9]at h2;rw[hUU,hg (m+2) oM,hg (m+1) oM,hg m oM,a3,a4,a5,zB9,htop]at h4;refine⟨B32^m,Ul,Vl,h4,h2,qP zDf,h3,h1,?_,?_,?_,?_⟩;rw[<-hQQ];exact Nat.div_mul_le_self U V;rw[<-hQQ,zCE hV0,zN];have:=HQ.out;rwa[hUU,hVV]at this;have:=HQ.out;rwa[hUU,hVV]at this;rw[<-hQQ,zY,zAo,zN];exact Nat.lt_mul_div_succ U hV0
 obtain⟨p,Ul,Vl,k1,k2,k3,k4,k5,k6,k7,k8,k9⟩:=K;have kdec:=fun q r a b c=>zW8 (q:=q) (r:=r) k1 k2 k3 k4 k5 hx2 hv2 hhigh hhi k6 k7 k8 a b c
 have kout:=fun q r a b=>zVs (q:=q) (r:=r) k1 k2 k3 k4 k5 hx2 hv2 hhigh hhi k6 k7 k8 a b
 have kle:=fun q r a b c=>zX0 (q:=q) (r:=r) k1 k2 k3 k4 k5 hx2 hv2 hhigh hhi k6 k7 k8 a b c
 have kini:Hid (Q<=top/hi):=zVr k1 k2 k3 k4 k5 hx2 hv2 hhigh hhi k6 k7 k8;have kfst:top/hi<=4294967297:=zTj k1 k2 k3 k4 k5 hx2 hv2 hhigh hhi k6 k7 k8;have KDEC:=zI kdec;have KOUT:=zI kout;have KLE:=zI kle;have K67:Hid (Q*V<=U/\Q<4294967296/\U<(Q+1)*V/\nat (seg ua off (n+1))=U/\nat vs=V):=⟨k6,k7,k9,hUU,hVV⟩;clear kdec kout kle k1 k2 k3 k4 k5 k6 k7 k8 k9 hUU hVV hQQ htop HQ;have i1:IntKind.i64.wrap ((n:Int)-1)=(n:Int)-1:=yR _ oM;have i2:((n:Int)-1).toNat=n-1:=by omega
 have i3:(0:Int)<=(n:Int)-1:=by omega
 go_enter Tryz.func209,Tryz.ntmps209;go_wp2;go_quiet (fail);go_wp2;go_quiet (fail);go_upto_block 0 with(fail)
 clear i1 i2 i3 eo;go_cut [8] (fun qv wr=>∃q k:Nat,qv= .int .u64 q/\q<4294967296/\Hid (wr=w.drewN k)/\Hid (Q<=q/\(q<=Q+1∨q*V<U+V)))
 case first=>
  go_wp2;go_loopw [8,9] (fun qv rv wr=>∃q r k:Nat,qv= .int .u64 q/\rv= .int .u64 r/\q<=4294967297/\r<4294967296/\Hid (wr=w.drewN k)/\Hid (Q<=q/\q*hi+r=top)) (fun qv _ _=>(intOf qv).toNat)
  case atStart=>
   refine⟨top/hi,top%hi,_,?_,?_,kfst,?_,by show _=_;rw[jW],kini.out,?_⟩
   ·congr 1
    rw[show(top:Int)/(hi:Int)=((top/hi:Nat):Int) by simp,zAg];generalize top/hi=t at kfst;omega
   simp;exact Nat.lt_trans (yV _ oM) hhi;rw[zN];exact jU _ _
  obtain⟨q,r,k,rfl,rfl,hq,hr,HW,HH⟩:=hrel;have g2:wr.cell? ⟨b2,off2+(n-2),none⟩=some (.int .u32 (v2:Nat)):=by rw[HW.out];exact f2
  have g5:wr.cell? ⟨g,off+(n-2),none⟩=some (.int .u32 (x2:Nat)):=by rw[HW.out];exact f5
  have i1:IntKind.i64.wrap ((n:Int)-2)=(n:Int)-2:=yR _ oM;have i2:((n:Int)-2).toNat=n-2:=by omega
  have i3:(0:Int)<=(n:Int)-2:=by omega
  by_cases hbig:4294967295<q
  ·have hd:decide ((4294967295:Int)<(q:Int))=true:=by simp;omega
   have hdec:Hid (Q<=q-1):=KDEC.out q r HH.out.2 HH.out.1 (.inl hbig);have hqr:Hid ((q-1)*hi+(r+hi)=top):=by
    have h1:=HH.out.2;show _=_;rw[Nat.sub_mul,zAo];have:hi<=q*hi:=qK hi oM;omega
   by_cases hov:4294967295<r+hi
   ·have hout:Hid (q-1<4294967296/\(q-1)*v2<=(r+hi)*4294967296+x2):=KOUT.out (q-1) (r+hi) hqr.out hov
    have hle:Hid (q-1<=Q+1∨(q-1)*V<U+V):=KLE.out (q-1) (r+hi) hqr.out hout.out.1 hout.out.2;have hd3:(4294967295:Int)<(r:Int)+(hi:Int):=by omega
    go_wp2;go_quiet (fail);go_wp2;go_meet
    case rel=>exact⟨q-1,_,by go_num,hout.out.1,by show _=_;rw[HW.out,jW],hdec.out,hle.out⟩
   have hd3:(r:Int)+(hi:Int)<=4294967295:=by omega
   go_wp2;go_quiet (fail);go_wp2;go_roundw
   case rel=>exact⟨q-1,r+hi,_,by go_num,by go_num,by omega,by omega,by show _=_;rw[HW.out,jW],hdec.out,hqr.out⟩
   case measure=>simp[intOf];omega
  have hd:decide ((4294967295:Int)<(q:Int))=false:=by simp;omega
  obtain⟨hm2,hm3⟩:=zIm (x:=q) oM hv2;have hm1:=zID (x:=q) oM hv2;have eo2:=zOP r x2 hr hx2;obtain⟨t,ht⟩:∃t,r*4294967296+x2=t:=⟨_,rfl⟩;rw[ht]at eo2;have HT:=zI ht;clear ht;by_cases htest:t<q*v2
  ·have hd2:decide ((t:Int)<(q:Int)*(v2:Int))=true:=by simp;rw[<-yP];omega
   have hdec:Hid (Q<=q-1):=KDEC.out q r HH.out.2 HH.out.1 (.inr (by rw[HT.out];exact htest));have hq0:0<q:=by
    rcases qN q with h|h
    rw[h]at htest;simp at htest;exact h
   clear htest;have hqr:Hid ((q-1)*hi+(r+hi)=top):=by
    have h1:=HH.out.2;show _=_;rw[Nat.sub_mul,zAo];have:hi<=q*hi:=qK hi oM;omega
   by_cases hov:4294967295<r+hi
   ·have hout:Hid (q-1<4294967296/\(q-1)*v2<=(r+hi)*4294967296+x2):=KOUT.out (q-1) (r+hi) hqr.out hov
    have hle:Hid (q-1<=Q+1∨(q-1)*V<U+V):=KLE.out (q-1) (r+hi) hqr.out hout.out.1 hout.out.2;have hd3:(4294967295:Int)<(r:Int)+(hi:Int):=by omega
    go_wp2;go_quiet (fail);go_wp2;go_meet
    case rel=>exact⟨q-1,_,by go_num,hout.out.1,by show _=_;rw[HW.out,jW],hdec.out,hle.out⟩
   have hd3:(r:Int)+(hi:Int)<=4294967295:=by omega
   go_wp2;go_quiet (fail);go_wp2;go_roundw
   case rel=>exact⟨q-1,r+hi,_,by go_num,by go_num,by omega,by omega,by show _=_;rw[HW.out,jW],hdec.out,hqr.out⟩
   case measure=>simp[intOf];omega
  have hd2:decide ((t:Int)<(q:Int)*(v2:Int))=false:=by simp;rw[<-yP];omega
  have hle:Hid (q<=Q+1∨q*V<U+V):=KLE.out q r HH.out.2 oM (by rw[HT.out];omega);clear htest;go_wp2;go_quiet (fail);go_wp2;go_meet
  case rel=>exact⟨q,_,rfl,by omega,by show _=_;rw[HW.out,jW],HH.out.1,hle.out⟩
 obtain⟨q,k,rfl,hqB,HW,HQ⟩:=hcut;have g0:Hid (∀k,k<n->wc.cell? ⟨b2,off2+k,none⟩=some (.int .u32 (vs.getD k 0:Nat))):=by rw[HW.out];exact HCV.out
 have hU1:zC3 wc g ua:=by rw[HW.out];exact hU
 have HG1:w.grownBy wc (some g):=by rw[HW.out];exact zPl (zL1 w g) k
 clear HCV HW hU f1 f2 f3 f4 f5 KDEC KOUT KLE kini;obtain⟨w2,rfl⟩:∃w2:World,w2=wc:=⟨_,rfl⟩;go_wp2;go_loopw [10,11,76] (fun bv cv i wr=>∃(k b c:Nat) (ms:List Nat),k<=n/\i= .int .i64 k/\bv= .int .u64 b/\cv= .int .u64 c/\b<=1/\c<4294967296/\zC3 wr g (put ua off ms)/\w2.grownBy wr (some g)∧
   Hid (ms.length=k/\zBD ms/\nat ms+q*nat (vs.take k)=nat (seg ua off k)+(b+c)*B32^k)) (fun _ _ i _=>n-(intOf i).toNat)
 case atStart=>exact⟨0,0,0,[],by omega,rfl,rfl,rfl,by omega,by omega,by rw[zV5];exact hU1,zL1 _ _,⟨rfl,zBD.nil,by simp[seg]⟩⟩
 obtain⟨k,b,c,ms,hk,rfl,rfl,rfl,hb1,hc1,hblk,hgr,HH⟩:=hrel;obtain⟨ml,hml⟩:∃l,ms.length=l:=⟨_,rfl⟩;by_cases hkn:k<n
 ·have hcz:=hblk.cell (k:=off+k) (by rw[zEu (by rw[HH.out.1];omega)];omega)
  rw[zOV (by rw[HH.out.1];omega) (by rw[HH.out.1];exact xgf _)]at hcz;have hfr:=hblk.frozen (off+k);obtain⟨x,HX⟩:∃x,ua.getD (off+k) 0=x:=⟨_,rfl⟩;have hx32:x<4294967296:=by rw[<-HX];exact hul.get _
  rw[HX]at hcz;have HX':=zI HX;clear HX;have hcy:=zL0 hgr hsep (g0.out k hkn);obtain⟨y,HY⟩:∃y,vs.getD k 0=y:=⟨_,rfl⟩;have hy32:y<4294967296:=by rw[<-HY];exact hv.1.get _
  rw[HY]at hcy;have HY':=zI HY;clear HY hml;obtain⟨hm2,hm3⟩:=zIm hqB hy32;have hm1:=zID hqB hy32;obtain⟨lo,hlo⟩:∃l,(c+q*y)%4294967296=l:=⟨_,rfl⟩;obtain⟨cn,hcn⟩:∃l,(c+q*y)/4294967296=l:=⟨_,rfl⟩;have ea:=zVO (c+q*y) (by generalize q*y=m at*;omega);rw[hlo,zAP,yP]at ea;have hlo32:lo<4294967296:=by rw[<-hlo];exact yV _ oM
  have hsum:Hid (c+q*y=cn*4294967296+lo):=by
   have:=jU (c+q*y) 4294967296;rw[hlo,hcn]at this;show _=_;omega
  have hcn32:cn<4294967296:=by rw[<-hcn];generalize q*y=m at*;omega
  have EC:Hid (((c:Int)+(q:Int)*(y:Int))/4294967296=(cn:Int)):=by
   show _=_;rw[<-hcn,<-yP,<-zAP,Int.natCast_ediv];rfl
  clear hlo hcn;go_wp2;go_roundw;obtain⟨v,e,e1,e2,e3,e4,e5⟩:=zI1 x lo b hx32 hlo32 hb1
  case rel=>
   have hp:=zR6 (us:=ua) (ms:=ms) (off:=off) (v:=v) (by rw[HH.out.1];omega);rw[HH.out.1]at hp;refine⟨k+1,e,cn,ms++ [v],by omega,by go_num,by rw[e2],by rw[EC.out],e4,hcn32,by rw[<-hp];exact hblk.set' _ _ v (by first|exact e1|omega),zGz hgr _ _,⟨by simp[HH.out.1],HH.out.2.1.append (fun z hz=>by simp at hz;subst hz;exact e3),?_⟩⟩;have hst:=zRj (us:=ua) (ms:=ms) (vs:=vs) (off:=off) (q:=q) (b:=b) (c:=c) (x:=x) (e:=y) (v:=v) (b':=e) (c':=cn) (by rw[HH.out.1];exact HH.out.2.2) (by rw[HH.out.1];omega) (by rw[HH.out.1];exact HX'.out) (by rw[HH.out.1];exact HY'.out) (by rw[hsum.out];omega);rw[HH.out.1]at hst;exact hst
  case measure=>simp[intOf];omega
 obtain rfl:n=k:=by omega
 have hpl:(put ua off ms).length=ua.length:=zEu (by rw[HH.out.1];omega);have hcz:=hblk.cell (k:=off+n) (by rw[hpl];omega);rw[zOV (by rw[HH.out.1];omega) (by rw[HH.out.1];exact xgf _),GX0.out]at hcz;have hfr:=hblk.frozen (off+n);obtain⟨lv,le,e1,e2,e3,e4,e5⟩:=zI1 x0 c b hx0 hc1 hb1;have hp:=zR6 (us:=ua) (ms:=ms) (off:=off) (v:=lv) (by rw[HH.out.1];omega);rw[HH.out.1]at hp;have hfin:Hid (nat (ms++ [lv])+q*V=U+le*B32^(n+1)):=by
  obtain⟨h1,h2,h3⟩:=HH.out;obtain⟨j1,j2,j3,j4,j5⟩:=K67.out;rw[yH vs (zBU HN.out),j5]at h3;rw[<-j4,zHo oM,GX0.out];show _=_;rw[zEA,h1,qF,zB9];rw[zB9]at h3;have h4:(lv+c+b)*4294967296^n=(x0+le*4294967296)*4294967296^n:=by rw[e5]
  generalize 4294967296^n=P at*;have h5:le*(P*4294967296)=le*4294967296*P:=by rw[zC,zN P]
  rw[h5,zN P lv];simp only[Nat.add_mul]at*;omega
 have hrl:zBD (ms++ [lv]):=HH.out.2.1.append (fun z hz=>by simp at hz;subst hz;exact e3);have hrlen:(ms++ [lv]).length=n+1:=by simp[HH.out.1]
 have HP:=zI hp;have ewq:IntKind.u32.wrap (q:Int)=q:=zKP q hqB;rcases(show le=0∨le=1 by omega)with h01|h01
 ·subst h01
  have hdone:Hid (nat (seg ua off (n+1))=q*nat vs+nat (ms++ [lv])/\nat (ms++ [lv])<nat vs):=by
   obtain⟨j1,j2,j3,j4,j5⟩:=K67.out;have h1:=hfin.out;rw[zBo,zAW]at h1;rw[j4,j5];exact⟨by omega,zV6 h1 j3 HQ.out.1⟩
  have e2':IntKind.u64.wrap (IntKind.u64.wrap ((x0:Int)-c)-b)/9223372036854775808=0:=e2;clear e2 hp hfin;go_wp2;go_ret;exact⟨q,ms++ [lv],by first|rfl|(rw[ewq];rfl),hqB,hrlen,hrl,hdone.out.1,hdone.out.2,by rw[<-HP.out];exact hblk.set' _ _ lv (by first|exact e1|omega|(simp only[IntKind.wrap_u32,IntKind.wrap_u64];omega)),zJ3 HG1 (zGz hgr _ _)⟩
 subst h01;have e2':IntKind.u64.wrap (IntKind.u64.wrap ((x0:Int)-c)-b)/9223372036854775808=1:=e2;have hqQ:Hid (q=Q+1):=by
  obtain⟨j1,j2,j3,j4,j5⟩:=K67.out;have h2:=zEe hrl;rw[hrlen]at h2;have h1:=hfin.out;rw[zAo]at h1;exact zX8 h1 h2 j3 j1 HQ.out.2
 have hq1:1<=q:=by rw[hqQ.out];omega
 clear e2 hp;go_wp2;refine zD ?_;intro W3 hW3;have hb3:zC3 W3 g (put ua off (ms++ [lv])):=by
  rw[hW3.out,<-HP.out];exact hblk.set' _ _ lv (by first|exact e1|omega|(simp only[IntKind.wrap_u32,IntKind.wrap_u64];omega))
 have hg3:w2.grownBy W3 (some g):=by rw[hW3.out];exact zGz hgr _ _
 clear e1 e2' hcz hfr hW3;go_loopw [11,128] (fun cv i wr=>∃(k c:Nat) (rr:List Nat),k<=n/\i= .int .i64 k/\cv= .int .u64 c/\c<=1/\zC3 wr g (put ua off (rr++(ms++ [lv]).drop k))/\w2.grownBy wr (some g)∧
   Hid (rr.length=k/\zBD rr/\nat rr+c*B32^k=nat ((ms++ [lv]).take k)+nat (vs.take k))) (fun _ i _=>n-(intOf i).toNat)
 case atStart=>exact⟨0,0,[],by omega,rfl,rfl,by omega,by simpa using hb3,hg3,⟨rfl,zBD.nil,by simp⟩⟩
 obtain⟨k,c2,rr,hk,rfl,rfl,hc2,hblk4,hgr4,HH4⟩:=hrel;have hal:(rr++(ms++ [lv]).drop k).length=n+1:=by rw[zAA,zBR,hrlen,HH4.out.1];omega
 have hpl4:(put ua off (rr++(ms++ [lv]).drop k)).length=ua.length:=zEu (by rw[hal];omega);have hcz:=hblk4.cell (k:=off+k) (by rw[hpl4];omega);rw[zNa (by rw[hal];omega) (by rw[hal];omega),zVx HH4.out.1 (by rw[hrlen];omega)]at hcz;have hfr:=hblk4.frozen (off+k);have hps:=fun v=>zPp (us:=ua) (ms:=rr++(ms++ [lv]).drop k) (off:=off) (k:=k) (v:=v) (by rw[hal];omega) (by rw[hal];omega)
 have HPS:=zI hps;clear hps;obtain⟨x,HX⟩:∃x,(ms++ [lv]).getD k 0=x:=⟨_,rfl⟩;have hx32:x<4294967296:=by rw[<-HX];exact hrl.get _
 rw[HX]at hcz;have HX':=zI HX;clear HX hal hpl4;by_cases hkn:k<n
 ·have hcy:=zL0 hgr4 hsep (g0.out k hkn)
  obtain⟨y,HY⟩:∃y,vs.getD k 0=y:=⟨_,rfl⟩;have hy32:y<4294967296:=by rw[<-HY];exact hv.1.get _
  rw[HY]at hcy;have HY':=zI HY;clear HY;go_wp2;go_roundw
  case rel=>
   refine⟨k+1,(c2+(x+y))/4294967296,rr++ [(c2+(x+y))%4294967296],by omega,by go_num,by go_num,by omega,?_,zGz hgr4 _ _,⟨by simp[HH4.out.1],HH4.out.2.1.append (fun z hz=>by simp at hz;subst hz;exact yV _ dE),?_⟩⟩
   ·rw[<-zRg HH4.out.1 (by rw[hrlen];omega),<-HPS.out]
    exact hblk4.set' _ _ _ sI
   have hst:=zLN (ms:=ms++ [lv]) (vs:=vs) (rr:=rr) (c:=c2) (x:=x) (e:=y) (by rw[HH4.out.1];exact HH4.out.2.2) (by rw[HH4.out.1];exact HX'.out) (by rw[HH4.out.1];exact HY'.out);rw[HH4.out.1]at hst;exact hst
  case measure=>simp[intOf];omega
 obtain rfl:n=k:=by omega
 have hxl:Hid (x=lv):=by
  show _=_;rw[<-HX'.out,xgb,List.getElem?_append_right (by rw[HH.out.1];exact xgf _),HH.out.1];simp
 obtain⟨hsum,hU2⟩:x+c2=4294967296/\U=Q*V+nat rr:=by
  obtain⟨j1,j2,j3,j4,j5⟩:=K67.out;have h1:=HH4.out.2.2;rw[zAI (by rw[HH.out.1];exact xgf _),yH ms (by rw[HH.out.1];exact xgf _),yH vs (zBU HN.out),j5]at h1;have h2:=hfin.out;rw[zEA,HH.out.1,zAo,hqQ.out,qF,zB9]at h2;have h3:=zEe HH4.out.2.1;rw[HH4.out.1]at h3;have h4:=zEe hv.1;rw[HN.out,j5]at h4;rw[hxl.out];rw[zB9]at h1 h3 h4;exact zUV h1 h2 h3 h4 j3 j1 e3 hc2
 have HS:=zI hU2;have ew0:IntKind.u32.wrap ((x:Int)+(c2:Int))=0:=by rw[zA0];omega
 clear hU2;go_wp2;go_ret;refine⟨q-1,rr++ [0],?_,by omega,by simp[HH4.out.1],HH4.out.2.1.append (fun z hz=>by simp at hz;subst hz;exact zDf),?_,?_,?_,zJ3 HG1 (zGz hgr4 _ _)⟩
 ·show Ending.returned (.int .u32 ((q:Int)-1))=Ending.returned (.int .u32 ((q-1:Nat):Int))
  congr 2;omega
 ·obtain⟨j1,j2,j3,j4,j5⟩:=K67.out
  rw[j4,j5,zEA,zCg,zAW,HS.out,hqQ.out,Nat.add_sub_cancel]
 ·obtain⟨j1,j2,j3,j4,j5⟩:=K67.out
  rw[zEA,zCg,zAW,j5];have:=HS.out;rw[zY,zAo]at j3;omega
 have hm:=zRg (rr:=rr) (rs:=ms++ [lv]) (k:=n) (v:=0) HH4.out.1 (by rw[hrlen];omega);rw[qJ (show(ms++ [lv]).length<=n+1 by rw[hrlen];exact xgf _),zBF]at hm;rw[<-hm,<-HPS.out];exact hblk4.set' _ _ 0 (by first|rfl|exact ew0|omega)
/-! ### plain -/
theorem zEP(xs:List Nat)(k:Nat)(h:k<=xs.length):nat xs=nat (xs.take k)+B32^k*nat (xs.drop k):=by
 have:=zF1 (xs.take k) (xs.drop k);rw[List.take_append_drop,qD,zBH h]at this;exact this
theorem zT5(h:off<=us.length):(put us off ms).drop off=ms++us.drop (off+ms.length):=by
 unfold put;rw[zAZ,List.drop_append,qJ (by simp;omega)];simp[Nat.min_eq_left h]
theorem zT6(h:off<=us.length):(put us off ms).take off=us.take off:=by
 unfold put;rw[zAZ,zAI (by simp;omega),zDg,Nat.min_self]
theorem zQy(a V p B t q r:Nat):a*V*(p*B)+(t+p*(q*V+r))=(q+B*a)*V*p+(t+p*r):=by
 simp only[Nat.add_mul,Nat.mul_add];have e1:a*V*(p*B)=B*a*V*p:=by simp only[Nat.mul_assoc,Nat.mul_comm,Nat.mul_left_comm]
 have e2:p*(q*V)=q*V*p:=zN _ _;omega
structure zIK(X V:Nat)(n k:Nat)(ul qs:List Nat):Prop where
 lim:zBD ul
 qlim:zBD qs
 eq:X=nat (qs.drop k)*V*B32^k+nat ul
 lt:nat (ul.drop k)<V
theorem zIK.zero(h:zIK X V n k ul qs)(hV:V<B32^n)(hl:k+n<=ul.length):nat (ul.drop (k+n))=0:=by
 have h1:=zEP (ul.drop k) n (by simp;omega);rw[List.drop_drop]at h1;have h2:=h.lt;rcases qN (nat (ul.drop (k+n)))with h0|h0
 exact h0;have:=zQ (B32^n) h0;omega
theorem zIK.seg_eq(h:zIK X V n (j+1) ul qs)(hV:V<B32^n)(hl:j+1+n<=ul.length):nat (seg ul j (n+1))=nat (ul.drop j):=by
 have h1:=zEP (ul.drop j) (n+1) (by simp;omega);rw[List.drop_drop,show j+(n+1)=j+1+n by omega,h.zero hV hl]at h1;unfold seg;omega
theorem zIK.small(h:zIK X V n (j+1) ul qs)(hl:j<ul.length):nat (ul.drop j)<V*4294967296:=by
 have h1:=zDI ul j hl;have h2:=h.lim.get j;have h3:=h.lt;rw[zB9]at h1 h2;rw[h1];clear h1 h;generalize nat (List.drop (j+1) ul)=d at*;generalize ul.getD j 0=x at*;omega
theorem zIK.step{rs:List Nat}(h:zIK X V n (j+1) ul qs)(hV:V<B32^n)(hl:j+1+n<=ul.length)(hq:j<qs.length)(hqB:q<4294967296)
  (hrl:rs.length=n+1) (hrs:zBD rs) (heq:nat (seg ul j (n+1))=q*V+nat rs) (hlt:nat rs<V):zIK X V n j (put ul j rs) (qs.set j q):=by
 have hz:=h.zero hV hl;have hd:nat ((put ul j rs).drop j)=nat rs:=by
  rw[zT5 oM,zF1,hrl,show j+(n+1)=j+1+n by omega,hz,zCg,zAW]
 refine⟨zR5 h.lim hrs,h.qlim.set _ _ hqB,?_,by rw[hd];exact hlt⟩;have h1:=zEP ul j oM;have h2:=zEP (put ul j rs) j (by rw[zEu oM];omega);rw[hd,zT6 oM]at h2;rw[<-h.seg_eq hV hl,heq]at h1;have h3:=zDI (qs.set j q) j (by simpa using hq);rw[zE9,xgb,List.getElem?_set_self hq]at h3;simp only[Option.getD_some]at h3;rw[h3,h2,h.eq,h1,qF];exact zQy _ _ _ _ _ _ _
theorem zMU{a:Nat}(hs:s<32)(ha:a<4294967296)(hb:b<4294967296):
  ((a*4294967296+b)/2^s%4294967296)*2^s+b%2^s=b+a%2^s*4294967296:=by
 obtain⟨t,ht⟩:∃t,2^s*t=4294967296:=⟨2^(32-s),by rw[<-yQ,show s+(32-s)=32 by omega]⟩;have hp:0<2^s:=qP oM;generalize 2^s=p at*;have hb1:=jU b p;have ha1:=jU a p;have hbp:=yV b hp;have hap:=yV a hp;generalize b/p=bq at*;generalize b%p=br at*;generalize a/p=aq at*;generalize a%p=ar at*;have e1:(a*4294967296+b)/p=a*t+bq:=by
  rw[<-ht,<-hb1,<-zC,zN a p,zC,<-zD3,<-zAF];rw[Nat.mul_add_div hp,Nat.div_eq_of_lt hbp,zAW]
 have hbq:bq<t:=by
  rcases zG bq t with h|h
  exact h;have:=zF p h;omega
 have e2:a*t+bq=ar*t+bq+4294967296*aq:=by
  rw[<-ht,<-ha1,zY,zC p t,zC,zN t aq];omega
 have h4:ar*t+bq<4294967296:=by
  have h5:(ar+1)*t<=p*t:=zO t hap;rw[zY,zAo,ht]at h5;omega
 rw[e1,e2,Nat.add_mul_mod_self_left,Nat.mod_eq_of_lt h4,zY,zC,zN t p,ht,zN bq p];omega
theorem zMV{v a:Nat}(hs:s<32)(ha:a<4294967296)(hb:b<4294967296)(hua:ul.getD (k+1) 0=a)(hub:ul.getD k 0=b)(hk:k<rs.length)
  (hv:v=(a*4294967296+b)/2^s%4294967296) (h:nat (rs.take k)*2^s=nat (ul.take k)+(ul.getD k 0%2^s)*B32^k):
  nat ((rs.set k v).take (k+1))*2^s=nat (ul.take (k+1))+(ul.getD (k+1) 0%2^s)*B32^(k+1):=by
 have hl:=zMU hs ha hb;rw[<-hv]at hl;rw[zBy _ _ _ hk,jG,zY,h,hua,hub,qF,zB9];generalize 2^s=p at*;generalize 4294967296^k=P;have e:=congrArg (· *P) hl;simp only[Nat.add_mul]at e;have e1:v*P*p=v*p*P:=by rw[zC,zN P,<-zC]
 have e2:a%p*(P*4294967296)=a%p*4294967296*P:=by rw[zC,zN P]
 omega
theorem zUW{t:Nat}(hl:zBD vs)(hlen:vs.length=m+1)(h:t*B32^m<=nat vs):t<=vs.getD m 0:=by
 have h1:=jG vs m;rw[yH vs oM]at h1;have h2:=zEe (hl.take m);rw[qD,zBH oM]at h2;rcases zG (vs.getD m 0) t with h3|h3
 ·exfalso
  have h4:=zO (B32^m) h3;rw[Nat.succ_mul]at h4;omega
 exact h3
theorem zV1{ys:List Nat}(hlen:ys.length=m+1)(hd:ys.getD m 0=d):d*B32^m<=nat ys:=by
 have h1:=jG ys m;rw[yH ys oM,hd]at h1;omega
theorem zVX{T:Nat}(hk:k<=us.length)(h:nat us<B32^k*T):nat (us.drop k)<T:=by
 have h1:=zEP us k hk;have h2:B32^k*nat (us.drop k)<B32^k*T:=by omega
 exact Nat.lt_of_mul_lt_mul_left h2
theorem zVv(hs:s<32)(hl:0<ul.length):nat ul%2^s=ul.getD 0 0%2^s:=by
 obtain⟨t,ht⟩:∃t,2^s*t=4294967296:=⟨2^(32-s),by rw[<-yQ,show s+(32-s)=32 by omega]⟩;have h1:=zDI ul 0 hl;rw[xgk,zB9,<-ht,zC]at h1;rw[h1,Nat.add_mul_mod_self_left]
theorem zOo(ao:Option Addr)(n cap:Nat)(xs:List Nat)(w:World)(hn:xs.length=n)(hn2:n<=2)(hx:qV w ao xs):
  Calls Tryz.prog 205 #[.slice ao n cap] w fun e w'=>e= .returned (.int .u64 (nat xs:Nat))/\w=w':=by
 match n,xs,hn with
 |0,[],_=>
  go_enter Tryz.func205,Tryz.ntmps205;go_wp2;refine wp_loop_rounds 1 ?_;rw[rounds_succ];go_wp2;go_ret;exact⟨rfl,rfl⟩
 |1,[a],_=>
  obtain⟨b,off,x,rfl,hbw,hx32,HX,hck⟩:=hx.limb (k:=0) sI;have hxa:x=a:=HX.out.symm;subst hxa;rw[zAW]at hck;have e1:bits BinOp.or IntKind.u64 0 (x:Int)=(x:Int):=by have:=u64_or_nat 0 x oM oM;simpa using this
  have E:Hid (nat [x]=x):=by show _=_;simp[zCd]
  go_enter Tryz.func205,Tryz.ntmps205;go_wp2;refine wp_loop_rounds 2 ?_;rw[rounds_succ];go_wp2;rw[rounds_succ];go_wp2;go_ret;exact⟨by rw[E.out];rfl,rfl⟩
 | 2,[a,b],_=>
  obtain⟨bb,off,hbo,hbw,hcs⟩:=hx.cells sI;subst hbo;have c0:=hcs 0 sI;have c1:=hcs 1 sI;have ha:a<4294967296:=hx.1 a sI;have hb:b<4294967296:=hx.1 b sI;have e1:bits BinOp.or IntKind.u64 0 (a:Int)=(a:Int):=by have:=u64_or_nat 0 a oM oM;simpa using this
  have e2:bits BinOp.or IntKind.u64 (a:Int) ((b:Int)*4294967296)=((a+b*4294967296:Nat):Int):=by
   have:=u64_or_nat a (b*4294967296) oM oM;rw[Nat.or_comm,zOO b a ha,zDQ]at this;rw[<-this];simp
  have E:Hid (nat [a,b]=a+b*4294967296):=by show _=_;simp[zCd,zB9];omega
  clear hcs;simp at c0 c1;go_enter Tryz.func205,Tryz.ntmps205;go_wp2;refine wp_loop_rounds 3 ?_;rw[rounds_succ];go_wp2;rw[rounds_succ];go_wp2;rw[rounds_succ];go_wp2;go_ret;exact⟨by rw[E.out];rfl,rfl⟩
def zIO(w:World)(a b:Nat)(e:Ending)(w':World):Prop:=
 ∃qo ql qc qs ro rl rc rs,e= .returned (.tuple #[.slice qo ql qc,.slice ro rl rc])/\qs.length=ql/\ql<=qc/\qc<=9223372036854775807/\qV w' qo qs∧
  rs.length=rl/\rl<=rc/\rc<=9223372036854775807/\qV w' ro rs/\a=nat qs*b+nat rs/\nat rs<b/\Below w.heap.size w w'
section
variable (ao1 ao2:Option Addr) (n1 cap1 n2 cap2:Nat) (xs ys:List Nat) (w:World) (hn1:xs.length=n1) (hn2:ys.length=n2) (hl1:n1<=cap1) (hl2:n2<=cap2)
  (hc1:cap1<=9223372036854775807) (hc2:cap2<=9223372036854775807) (hb1:n1<=2*LIM) (hb2:n2<=2*LIM) (hx1:qV w ao1 xs) (hx2:qV w ao2 ys) (hN1:zBC xs) (hN2:zBC ys) (hy:0<nat ys)
include hn1 hn2 hl1 hl2 hc1 hc2 hb1 hb2 hx1 hx2 hN1 hN2 hy
theorem zMu(hlt:nat xs<nat ys):Calls Tryz.prog 191 #[.slice ao1 n1 cap1,.slice ao2 n2 cap2] w (zIO w (nat xs) (nat ys)):=by
 have hcmp:=fun W h1 h2=>zDB ao1 ao2 n1 cap1 n2 cap2 xs ys W hn1 hn2 hl1 hl2 hc1 hc2 h1 h2 hN1 hN2
 rw[zBW oM]at hcmp;have HN1:=zI hn1;clear hn1 hn2;go_enter Tryz.func191,Tryz.ntmps191;go_wp2_with (go_at_call 124;refine(hcmp _ hx1 hx2).mono ?_;rintro e w' ⟨rfl,nd,rfl⟩)
 refine(zFn ao1 n1 cap1 xs _ HN1.out oM (hx1.ext (lx (drN _ _)))).mono ?_;rintro e w2 ⟨ro,rl,rc,rfl,h1,h2,h3,h4,hb⟩;go_wp2_with fail
 go_ret2;exact⟨_,_,_,[],_,_,_,xs,rfl,rfl,by omega,by omega,qV.nil _ _,h1,h2,h3,h4,by simp,hlt,nx (drN _ _) hb⟩
theorem zO6(hge:nat ys<=nat xs)(h2:n1<=2):Calls Tryz.prog 191 #[.slice ao1 n1 cap1,.slice ao2 n2 cap2] w (zIO w (nat xs) (nat ys)):=by
 have hn12:n2<=n1:=by rw[<-hn1,<-hn2];exact zDJ hx1.1 hN2 hge
 have hcmp:=fun W h1 h2=>zDB ao1 ao2 n1 cap1 n2 cap2 xs ys W hn1 hn2 hl1 hl2 hc1 hc2 h1 h2 hN1 hN2
 obtain⟨cc,hcc,hcc0⟩:∃cc:Int,zAp (nat xs) (nat ys)=cc/\0<=cc:=⟨_,rfl,zDi oM⟩;rw[hcc]at hcmp;clear hcc;have hw1:=fun W h=>zOo ao1 n1 cap1 xs W hn1 h2 h
 have hw2:=fun W h=>zOo ao2 n2 cap2 ys W hn2 oM h
 have hu:nat xs<18446744073709551616:=by
  have h3:=zEe hx1.1;have h4:=zF5 (show xs.length<=2 by omega);rw[zB9]at h4;have h5:(4294967296:Nat)^2=18446744073709551616:=by decide
  rw[h5]at h4;rw[zB9]at h3;omega
 have hv:nat ys<18446744073709551616:=by omega
 obtain⟨a,ha⟩:∃a,nat xs=a:=⟨_,rfl⟩;obtain⟨b,hb⟩:∃b,nat ys=b:=⟨_,rfl⟩;rw[ha]at hw1 hu hge ⊢
 rw[hb]at hw2 hv hge hy ⊢
 clear hn1 hn2 ha hb;have hql:=zGx (a/b);have hrl:=zGx (a%b);have hqb:a/b<18446744073709551616:=zJ (zDR _ _) hu;have hrb:a%b<b:=yV _ hy;have eq1:(a:Int)/(b:Int)=((a/b:Nat):Int):=by simp
 have eq2:(a:Int)%(b:Int)=((a%b:Nat):Int):=by simp
 have eq3:IntKind.u64.wrap ((a:Int)/(b:Int))=((a/b:Nat):Int):=by rw[eq1,zAg];generalize a/b=t at*;omega
 have EQM:Hid (a=a/b*b+a%b):=by show _=_;rw[zN];exact(jU a b).symm
 obtain⟨q,hq⟩:∃q,a/b=q:=⟨_,rfl⟩;obtain⟨r,hr⟩:∃r,a%b=r:=⟨_,rfl⟩;rw[hq]at hql hqb eq1 eq3 EQM;rw[hr]at hrl hrb eq2 EQM;clear hq hr;have eq4:(a:Int).tdiv (b:Int)=(q:Int):=by rw[Int.tdiv_eq_ediv_of_nonneg oM];exact eq1
 have eq5:(a:Int).tmod (b:Int)=(r:Int):=by rw[zBb oM];exact eq2
 have eq6:IntKind.u64.wrap (q:Int)=(q:Int):=by rw[zAg];omega
 have eq7:IntKind.u64.wrap (r:Int)=(r:Int):=by rw[zAg];omega
 have hbn:¬ b=0:=by omega
 have hb0:((b:Int)==0)=false:=by simp;omega
 go_enter Tryz.func191,Tryz.ntmps191;go_wp2_with (first
  |(go_at_call 124;refine(hcmp _ hx1 hx2).mono ?_;rintro e w' ⟨rfl,nd,rfl⟩)
  |(go_at_call_of 205 ao1;refine(hw1 _ (hx1.ext (lx (drN _ _)))).mono ?_;rintro e w' ⟨rfl,rfl⟩)
  |(go_at_call_of 205 ao2;refine(hw2 _ (hx2.ext (lx (drN _ _)))).mono ?_;rintro e w' ⟨rfl,rfl⟩))
 go_region_held3 (fun _=>True) (exact trivial)
  (first
   |(go_at_call_of 113 q;refine(hql _ hqb).mono ?_;rintro e w1 ⟨qo,ql,qc,qs,rfl,p1,p2,p3,p4,p5,p6⟩)
   |(go_at_call_of 113 r;refine(hrl _ oM).mono ?_;rintro e w2 ⟨ro,rl,rc,rs,rfl,s1,s2,s3,s4,s5,s6⟩))
 go_wp2_with fail
 go_ret2;exact⟨qo,ql,qc,qs,ro,rl,rc,rs,rfl,p1,p2,p3,p4.ext (lx s6),s1,s2,s3,s4,by rw[p5,s5];exact EQM.out,by rw[s5];exact hrb,nx (nx (nx (drN _ _) (dr _)) p6) s6⟩
theorem zLh(hge:nat ys<=nat xs)(h2:2<n1)(h1:n2=1):Calls Tryz.prog 191 #[.slice ao1 n1 cap1,.slice ao2 n2 cap2] w (zIO w (nat xs) (nat ys)):=by
 have hcmp:=fun W h1 h2=>zDB ao1 ao2 n1 cap1 n2 cap2 xs ys W hn1 hn2 hl1 hl2 hc1 hc2 h1 h2 hN1 hN2
 obtain⟨cc,hcc,hcc0⟩:∃cc:Int,zAp (nat xs) (nat ys)=cc/\0<=cc:=⟨_,rfl,zDi oM⟩;rw[hcc]at hcmp;clear hcc;subst h1;obtain⟨b,off,d,rfl,hbw,hd32,HD,hck⟩:=hx2.limb (k:=0) oM;rw[zAW]at hck;have hyd:nat ys=d:=by
  match ys,hn2,HD.out with
  | [y],_,h=>simp at h;simp[zCd,h]
 have hsh:=fun W h=>zSW ao1 n1 cap1 xs d W hn1 oM h oM hd32
 rw[hyd]at hge hy ⊢
 have HN1:=zI hn1;clear hn1 hn2 hyd;go_enter Tryz.func191,Tryz.ntmps191;go_wp2_with (first
  |(go_at_call 124;refine(hcmp _ hx1 hx2).mono ?_;rintro e w' ⟨rfl,nd,rfl⟩)
  |(go_at_call 206;refine(hsh _ (hx1.ext (lx (drN _ _)))).mono ?_;rintro e w1 ⟨g,qs,r,rfl,p1,p2,p3,p4,p5,p6⟩))
 go_ret2;have hB:Below w.heap.size w w1:=nx (drN _ _) p6;have hB2:Below w1.heap.size w1 (w1.alloc (.cells #[.int .u32 (r:Nat)] tU)):=(zA _ _).alloc (xgf _) _;exact⟨_,_,_,qs,_,_,_,[r],rfl,p3,xgf _,by omega,(p1.at_ p2).ext (lx hB2),rfl,xgf _,by omega,qV.one w1 r oM _ rfl,by simp[zCd];exact p5,by simp[zCd];exact p4,nx hB hB2⟩
end
theorem zMv(ao1 ao2:Option Addr)(n1 cap1 n2 cap2:Nat)(xs ys:List Nat)(w:World)(hn1:xs.length=n1)(hn2:ys.length=n2)(hl1:n1<=cap1)(hl2:n2<=cap2)
  (hc1:cap1<=9223372036854775807) (hc2:cap2<=9223372036854775807) (hb1:n1<=2*LIM) (hx1:qV w ao1 xs) (hx2:qV w ao2 ys) (hN1:zBC xs) (hN2:zBC ys)
  (hge:nat ys<=nat xs) (h2:2<n1) (h1:2<=n2):Calls Tryz.prog 191 #[.slice ao1 n1 cap1,.slice ao2 n2 cap2] w (zIO w (nat xs) (nat ys)):=by
 have hn12:n2<=n1:=by rw[<-hn1,<-hn2];exact zDJ hx1.1 hN2 hge
 have hcmp:=fun W h1 h2=>zDB ao1 ao2 n1 cap1 n2 cap2 xs ys W hn1 hn2 hl1 hl2 hc1 hc2 h1 h2 hN1 hN2
 obtain⟨cc,hcc,hcc0⟩:∃cc:Int,zAp (nat xs) (nat ys)=cc/\0<=cc:=⟨_,rfl,zDi oM⟩;rw[hcc]at hcmp;clear hcc;obtain⟨b,off,d,rfl,hbw,hd32,HD,hck⟩:=hx2.limb (k:=n2-1) oM;have hd0:0<d:=by
  have:=hN2 (n2-1) oM;rw[HD.out]at this;omega
 obtain⟨s,hs32,hs1,hs2,hlead⟩:=zTl d w hd0 hd32;have hsh1:=fun W h=>zME ao1 n1 cap1 xs s W hn1 oM h hs32
 have hsh2:=fun W h=>zME (some ⟨b,off,none⟩) n2 cap2 ys s W hn2 oM h hs32
 have hVB:nat ys*2^s<B32^n2:=by
  obtain⟨m,rfl⟩:∃m,n2=m+1:=⟨n2-1,by omega⟩;have e1:=jG ys m;rw[yH ys oM]at e1;have e2:=zEe (hx2.1.take m);rw[qD,zBH oM]at e2;rw[show m+1-1=m by omega]at HD;rw[HD.out]at e1;have e3:nat ys<(d+1)*B32^m:=by rw[e1,zY,zAo];omega
  have e4:nat ys*2^s<(d+1)*B32^m*2^s:=(zCQ (qP oM)).2 e3;have e5:(d+1)*B32^m*2^s=(d+1)*2^s*B32^m:=by rw[zC,zN (B32^m),<-zC]
  have e6:(d+1)*2^s<=B32:=by
   obtain⟨t,ht⟩:∃t,2^s*t=4294967296:=⟨2^(32-s),by rw[<-yQ,show s+(32-s)=32 by omega]⟩;rw[<-ht,zN d]at hs2;have:=Nat.lt_of_mul_lt_mul_left hs2;rw[zB9,<-ht,zN];exact zF _ this
  have e7:=zO (B32^m) e6;rw[e5]at e4;rw[qF,zN (B32^m)];exact zH e4 e7
 have hXB:nat xs*2^s<B32^n1*2^s:=(zCQ (qP oM)).2 (by have:=zEe hx1.1;rwa[hn1]at this);have HVB:=zI hVB;have HXB:=zI hXB;have HN1:=zI hn1;have HN2:=zI hn2;have HGE:=zI hge;have HS1:=zI hs1;have HS2:=zI hs2;clear hn1 hn2 hVB hXB hs1 hs2 hge;have f1:(n2:Int)<=(n2:Int)+1:=by omega
 have f2:(0:Int)<=(n2:Int):=by omega
 rw[zDD]at hb1;go_enter Tryz.func191,Tryz.ntmps191;go_wp2_with (first
  |(go_at_call 124;refine(hcmp _ hx1 hx2).mono ?_;rintro e w' ⟨rfl,nd,rfl⟩)
  |(go_at_call 207;refine(hlead _).mono ?_;rintro e w' ⟨rfl,rfl⟩))
 refine zD ?_;intro W1 hW1;have hB1:Below w.heap.size w W1:=by rw[hW1.out];exact drN _ _
 have lx1:=lx (nx hB1 (dr W1));go_region_held3 (fun _=>True) (exact trivial)
  (first
   |(go_at_call_of 208 ao1;refine(hsh1 _ (hx1.ext lx1)).mono ?_;rintro e w1 ⟨gu,us,rfl,p2,p3,p4,p5,p7,p6⟩)
   |(go_at_call_of 208 off;refine(hsh2 _ ((hx2.ext lx1).ext (lx p6))).mono ?_;rintro e w2 ⟨gv,vz,rfl,s2,s3,s1,s4,s5,s6⟩))
 have hmk:=fun W=>mkU ((n1:Int)-n2+1) (n1-n2+1) oM oM W
 go_upto_block 1 with(fail)
 clear hmk;refine zD ?_;intro W3 hW3;have hvt:nat (vz.take n2)=nat ys*2^s:=by
  have e1:=zEP vz n2 (by rw[s4];omega);rcases qN (nat (vz.drop n2))with h0|h0
  rw[h0,zCg,zAW,s5]at e1;exact e1.symm;exfalso;have h1:=zQ (B32^n2) h0;have h2:=HVB.out;rw[<-s5]at h2;omega
 have hgu:W1.heap.size<=gu:=p2;have hguv:gu<w1.heap.size:=p3.lt;have hgv:w1.heap.size<=gv:=s2;have hgvq:gv<w2.heap.size:=s3.lt;have hB2:Below w.heap.size w w2:=nx (nx (nx hB1 (dr W1)) p6) s6;have hB3:Below w.heap.size w W3:=by rw[hW3.out];exact hB2.alloc hB2.size _
 have hU3:zC3 W3 gu us:=by rw[hW3.out];exact(p3.ext (lx s6)).alloc _
 have hV3:zC3 W3 gv vz:=by rw[hW3.out];exact s3.alloc _
 have hQ3:zC3 W3 w2.heap.size (List.replicate (n1-n2+1) 0):=by rw[hW3.out];exact zC3.made _ _
 have hwu:w.heap.size<=gu:=by have:=hB1.size;omega
 have hst0:zIK (nat xs*2^s) (nat ys*2^s) n2 (n1-n2+1) us (List.replicate (n1-n2+1) 0):=by
  refine⟨p4,fun x hx=>by rw[List.eq_of_mem_replicate hx];exact zDf,?_,?_⟩;rw[qJ sI,p7,nat_nil,zBo,zBo,zAX];refine zVX oM ?_;rw[p7];refine zH HXB.out ?_;have h1:=zLy hN2 (n:=n2-1) (by rw[HN2.out];omega);have h2:B32^n1=B32^(n1-n2+1)*B32^(n2-1):=by rw[<-yQ];congr 1;omega
  rw[h2,zC];exact zF _ (zO _ h1)
 have hvl:(vz.take n2).length=n2:=by rw[qD,s4];omega
 have hhigh:2147483648<=(vz.take n2).getD (n2-1) 0:=by
  refine zUW (s1.take n2) (by rw[hvl];omega) ?_;rw[hvt];have h1:=zV1 (ys:=ys) (m:=n2-1) (by rw[HN2.out];omega) HD.out;have h2:=zO (2^s) h1;refine zB ?_ h2;rw[zC,zN (B32^(n2-1)),<-zC];exact zO _ HS1.out
 have hdig:=fun W j cap ul hU hul hv hlen hQ=>zQu gu j cap gv 0 n2 n2 ul (vz.take n2) W hU hul hv oM hvl h1 hlen (by rw[zDD];omega) hhigh hQ
 have HDIG:=zI hdig;have HVT:=zI hvt;have HST0:=zI hst0;have HVL:=zI hvl;clear hdig hvt hst0 hvl hhigh hW3 hsh1 hsh2 hcmp hlead s5 p7;obtain⟨W4,rfl⟩:∃W:World,W=W3:=⟨_,rfl⟩;obtain⟨gq,hgq⟩:∃g,w2.heap.size=g:=⟨_,rfl⟩;rw[hgq]at hgvq hQ3 ⊢
 have hgq':gq<=w2.heap.size:=by omega
 clear hgq;go_wp2;go_loopw [15] (fun iv wr=>∃(k:Nat) (ul qs:List Nat),k<=n1-n2+1/\iv= .int .i64 ((k:Int)-1)/\zC3 wr gu ul/\zC3 wr gq qs/\zC3 wr gv vz/\Below w.heap.size w wr/\ul.length=n1+1/\qs.length=n1-n2+1∧
   Hid (zIK (nat xs*2^s) (nat ys*2^s) n2 k ul qs)) (fun iv _=>(intOf iv+1).toNat)
 case atStart=>exact⟨n1-n2+1,us,_,xgf _,by go_num,hU3,hQ3,hV3,hB3,p5,by simp,HST0.out⟩
 obtain⟨k,ul,qs,hk,rfl,hU,hQ,hV,hB,hul,hql,HDS⟩:=hrel;have HUL:=zI hul;have HQL:=zI hql;have hul':n1+1<=ul.length:=by omega
 have hql':n1-n2+1<=qs.length:=by omega
 clear hul hql;cases k with
 | zero=>
  have hmk2:=fun W=>mkU (n2:Int) n2 rfl oM W
  go_upto_block 3 with(fail)
  clear hmk2;refine zD ?_;intro W5 hW5;obtain⟨gr,hgr⟩:∃g,wr.heap.size=g:=⟨_,rfl⟩;have hU5:zC3 W5 gu ul:=by rw[hW5.out];exact hU.alloc _
  have hQ5:zC3 W5 gq qs:=by rw[hW5.out];exact hQ.alloc _
  have hR5:zC3 W5 gr (List.replicate n2 0):=by rw[hW5.out,<-hgr];exact zC3.made _ _
  have hB5:Below w.heap.size w W5:=by rw[hW5.out];exact hB.alloc hB.size _
  have hgru:gu<gr:=by rw[<-hgr];exact hU.lt
  have hgrq:gq<gr:=by rw[<-hgr];exact hQ.lt
  rw[hgr];have hmod:Hid (ul.getD 0 0%2^s=0):=by
   show _=_;rw[<-zVv hs32 oM];have h1:=HDS.out.eq;rw[xgk,zEI,zAn,<-zC]at h1;have h2:(nat xs*2^s)%2^s=0:=Nat.mul_mod_left _ _;rw[h1,zN (nat qs*nat ys),Nat.mul_add_mod]at h2;exact h2
  have hlt0:Hid (nat ul<nat ys*2^s):=by have:=HDS.out.lt;rwa[xgk]at this
  have hzero:Hid (ul.getD n2 0=0/\nat (ul.take n2)=nat ul):=by
   have h0:=HDS.out.zero HVB.out oM;rw[zAX]at h0;have h1:=zEP ul n2 oM;have h2:=zDI ul n2 oM;rw[h0]at h1 h2;exact⟨by omega,by rw[h1,zCg,zAW]⟩
  clear hW5 hgr;obtain⟨W6,rfl⟩:∃W:World,W=W5:=⟨_,rfl⟩;go_wp2;go_loopw [103] (fun iv wr=>∃(k:Nat) (rs:List Nat),k<=n2/\iv= .int .i64 k/\zC3 wr gu ul/\zC3 wr gq qs/\zC3 wr gr rs/\Below w.heap.size w wr/\n2<=rs.length∧
    Hid (rs.length=n2/\zBD rs/\nat (rs.take k)*2^s=nat (ul.take k)+(ul.getD k 0%2^s)*B32^k)) (fun iv _=>n2-(intOf iv).toNat)
  case atStart=>exact⟨0,_,by omega,rfl,hU5,hQ5,hR5,hB5,by simp,⟨by simp,fun x hx=>by rw[List.eq_of_mem_replicate hx];exact zDf,by rw[hmod.out,jL,jL,nat_nil,zBo,zBo]⟩⟩
  obtain⟨k,rs,hk,rfl,hU7,hQ7,hR7,hB7,hrl,HH⟩:=hrel;by_cases hkn:k<n2
  ·obtain⟨xa,hxa⟩:∃a,ul.getD (k+1) 0=a:=⟨_,rfl⟩
   obtain⟨xb,hxb⟩:∃a,ul.getD k 0=a:=⟨_,rfl⟩;have ha32:xa<4294967296:=by rw[<-hxa];exact HDS.out.lim.get _
   have hb32:xb<4294967296:=by rw[<-hxb];exact HDS.out.lim.get _
   have c1:=hU7.cell (k:=k+1) oM;have c2:=hU7.cell (k:=k) oM;have c3:=hR7.cell (k:=k) oM;have c4:=hR7.frozen k;rw[hxa]at c1;rw[hxb]at c2;have HXA:=zI hxa;have HXB:=zI hxb;obtain⟨m,hm⟩:∃m,xa*4294967296+xb=m:=⟨_,rfl⟩;have eo:=zOP xa xb ha32 hb32;rw[hm]at eo;have HM:=zI hm;clear hm;have ew1:IntKind.u64.wrap (xa:Int)=(xa:Int):=by rw[zAg];omega
   have ew2:IntKind.u64.wrap (xb:Int)=(xb:Int):=by rw[zAg];omega
   have ew3:IntKind.u64.wrap ((xa:Int)*4294967296)=(xa:Int)*4294967296:=by rw[zAg];omega
   have i1:IntKind.i64.wrap ((k:Int)+1)=(k:Int)+1:=yR _ oM;have i2:((k:Int)+1).toNat=k+1:=by omega
   have i3:(0:Int)<=(k:Int)+1:=by omega
   have i4:(0:Int)<=(k:Int):=by omega
   have i5:(k:Int)<(n2:Int):=by omega
   have i6:(k:Int)+1<(n1:Int)+1:=by omega
   have i7:(k:Int)<(n1:Int)+1:=by omega
   clear hxa hxb;go_wp2;go_region_held3 (fun w'=>w'.cell? ⟨gu,k+1,none⟩=some (.int .u32 (xa:Nat))/\w'.cell? ⟨gu,k,none⟩=some (.int .u32 (xb:Nat)))
    ((((try go_split_ands);(repeat' apply And.intro))<;>first|exact zBh (by assumption)|exact zCv (by assumption) oM)) (fail)
   go_wp2;go_roundw
   case rel=>
    have hv:((m/2^s%4294967296:Nat):Int)=IntKind.u32.wrap ((m:Int)/2^s):=by rw[zA0];simp
    have hst:=zMV (ul:=ul) (rs:=rs) (k:=k) (s:=s) (v:=m/2^s%4294967296) hs32 ha32 hb32 HXA.out HXB.out oM (by rw[HM.out]) HH.out.2.2
    (repeat apply Exists.intro)
    exact⟨⟨k+1,rs.set k (m/2^s%4294967296),by omega,by go_num,(qR _ _ _ _ (by simp;omega)).trans hU7,(qR _ _ _ _ (by simp;omega)).trans hQ7,hR7.set' _ _ _ (by first|exact hv.symm|(rw[hv];done)|(rw[hv];simp)),(hB7.setCell (p:=⟨gr,k,none⟩) (by show _<=gr;omega) _).drew,by simpa using hrl,
     ⟨by simpa using HH.out.1,HH.out.2.1.set _ _ (yV _ dE),hst⟩⟩,rfl⟩
   case measure=>simp[intOf];omega
  obtain rfl:n2=k:=by omega
  go_wp2;go_ret2;have h1:=HH.out.2.2;rw[hzero.out.1,Nat.zero_mod,zBo,zAW,hzero.out.2,yH rs (by rw[HH.out.1];exact xgf _)]at h1;have h2:=HDS.out.eq;rw[xgk,zEI,zAn,<-h1,<-zC,<-zY]at h2;have h3:=hlt0.out;rw[<-h1]at h3;have hp:0<2^s:=qP oM;exact⟨_,_,_,qs,_,_,_,rs,rfl,HQL.out,xgf _,by omega,hQ7.at_ HDS.out.qlim,HH.out.1,xgf _,by omega,hR7.at_ HH.out.2.1,Nat.eq_of_mul_eq_mul_right hp h2,Nat.lt_of_mul_lt_mul_right h3,hB7⟩
 | succ k=>
  have hfr:=hQ.frozen k;have hcz:=hQ.cell (k:=k) oM;go_wp2_with fail
  rw[show k+n2+1-k=n2+1 by omega];refine(HDIG.out _ _ _ ul hU HDS.out.lim ((hV.at_ s1).take n2) oM ?_).mono ?_
  ·rw[HDS.out.seg_eq HVB.out oM,HVT.out]
   exact HDS.out.small oM
  rintro e w4 ⟨q,rs,rfl,t1,t2,t3,t4,t5,t6,t7⟩;have hQ4:zC3 w4 gq qs:=(t7.block gq hQ.lt (by simp;omega)).trans hQ;have hV4:zC3 w4 gv vz:=(t7.block gv hV.lt (by simp;omega)).trans hV;have hfr4:=hQ4.frozen k;have hcz4:=hQ4.cell (k:=k) oM;have hB4:Below w.heap.size w w4:=hB.grown t7 hB.size (fun k hk=>by injection hk with hk;omega);rw[HVT.out]at t4 t5;have hds:=HDS.out.step HVB.out oM oM t1 t2 t3 t4 t5;have HDS':=zI hds;clear hcz hfr t4 t5 hds;go_wp2;go_roundw
  case rel=>
   refine⟨k,put ul k rs,qs.set k q,by omega,by go_num,?_,?_,?_,?_,?_,?_,HDS'.out⟩;exact(qR _ _ _ _ (by simp;omega)).trans t6;exact hQ4.set' _ _ _ rfl;exact(qR _ _ _ _ (by simp;omega)).trans hV4;exact hB4.setCell (by simp;omega) _;rw[zEu (by rw[t2];omega)];exact HUL.out;simp[HQL.out]
  case measure=>simp[intOf]
theorem zJf(ao1 ao2:Option Addr)(n1 cap1 n2 cap2:Nat)(xs ys:List Nat)(w:World)(hn1:xs.length=n1)(hn2:ys.length=n2)(hl1:n1<=cap1)(hl2:n2<=cap2)
  (hc1:cap1<=9223372036854775807) (hc2:cap2<=9223372036854775807) (hb1:n1<=2*LIM) (hb2:n2<=2*LIM) (hx1:qV w ao1 xs) (hx2:qV w ao2 ys) (hN1:zBC xs) (hN2:zBC ys) (hy:0<nat ys):
  Calls Tryz.prog 191 #[.slice ao1 n1 cap1,.slice ao2 n2 cap2] w (zIO w (nat xs) (nat ys)):=by
 rcases zG (nat xs) (nat ys)with h|h
 exact zMu ao1 ao2 n1 cap1 n2 cap2 xs ys w hn1 hn2 hl1 hl2 hc1 hc2 hb1 hb2 hx1 hx2 hN1 hN2 hy h;by_cases h2:n1<=2
 ·exact zO6 ao1 ao2 n1 cap1 n2 cap2 xs ys w hn1 hn2 hl1 hl2 hc1 hc2 hb1 hb2 hx1 hx2 hN1 hN2 hy h h2
 by_cases h1:n2=1
 ·exact zLh ao1 ao2 n1 cap1 n2 cap2 xs ys w hn1 hn2 hl1 hl2 hc1 hc2 hb1 hb2 hx1 hx2 hN1 hN2 hy h oM h1
 have h0:n2≠0:=by
  rintro rfl;have:ys= []:=qB hn2;subst this;simp at hy
 exact zMv ao1 ao2 n1 cap1 n2 cap2 xs ys w hn1 hn2 hl1 hl2 hc1 hc2 hb1 hx1 hx2 hN1 hN2 h oM oM
end Go.Proofs.YtkidaebmhlijlaaGreat
