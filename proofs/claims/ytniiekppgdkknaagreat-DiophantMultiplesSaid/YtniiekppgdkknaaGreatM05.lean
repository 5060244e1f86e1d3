/- Joined. -/
import Derived.Shelf.Small.Bits
import Derived.Ground.Names2Prog
import Derived.Test.YtniiekppgdkknaaGreatM03
import Derived.Test.YtniiekppgdkknaaGreatM04
set_option linter.unusedVariables false
set_option linter.unusedSimpArgs false
set_option linter.unusedSectionVars false
set_option maxHeartbeats 16000000
set_option maxRecDepth 100000
variable{ms qs rr rs ul us xs:List Nat}{P Q R U V X a b d g j k m n off q s v x:Nat}{W w:Go.World}
namespace Go.Proofs.YtniiekppgdkknaaGreat
open Go.Shelf Go.RowKit
def Tryz.lays128_ren:Go.Shelf.Ren:=⟨fun|128=>171|n=>n,fun|51=>92|3=>3|4=>4|46=>93|5=>5|9=>9|n=>n,fun|n=>n⟩
def Tryz.lays133_ren:Go.Shelf.Ren:=⟨fun|133=>145|128=>171|n=>n,fun|51=>92|3=>3|4=>4|46=>93|5=>5|9=>9|n=>n,fun|n=>n⟩
theorem Tryz.lays133:Go.Proofs.Lays.n133 Tryz.prog Tryz.lays133_ren:={
 mixed:=by kernel_rfl
 f128:=Tryz.func171.trans (congrArg some kR)
 f133:=Tryz.func145.trans (congrArg some kR)
 t3:=zCi
 a3:=Tryz.isAgg3
 z3:=Tryz.sizeOf3
 v3:=Tryz.zeroValue3
 t4:=Tryz.underlying4
 a4:=Tryz.isAgg4
 z4:=Tryz.sizeOf4
 v4:=Tryz.zeroValue4
 t5:=zCj
 a5:=Tryz.isAgg5
 z5:=Tryz.sizeOf5
 v5:=Tryz.zeroValue5
 t9:=Tryz.underlying9
 a9:=Tryz.isAgg9
 z9:=Tryz.sizeOf9
 v9:=Tryz.zeroValue9
 t46:=Tryz.underlying93
 a46:=Tryz.isAgg93
 z46:=Tryz.sizeOf93
 v46:=Tryz.zeroValue93
 t51:=Tryz.underlying92
 a51:=Tryz.isAgg92
 z51:=Tryz.sizeOf92
 v51:=Tryz.zeroValue92}
theorem Tryz.bits_LeadingZeros32(x:Int)(w:World)(a:0<=x)(b:x<=4294967295):
  CPq 145 #[.int .u32 x] w fun e w'=>e= .returned (niq (32-(Lib.bitLen x.toNat:Int)))/\w'=w:=Any.bits_LeadingZeros32 Tryz.lays133 x w a b
theorem zFg:∀(f x:Nat),x<2^f->0<x->2^(Lib.bitLenAux f x-1)<=x/\x<2^Lib.bitLenAux f x/\0<Lib.bitLenAux f x
 |0,x,h,d=>by simp at h;omega
 | f+1,x,h,d=>by
  unfold Lib.bitLenAux;rw[zA oM];by_cases e:x/2=0
  .have:x=1:=oM
   subst this;cases f<;>simp[Lib.bitLenAux]
  obtain⟨a,b,c⟩:=zFg f (x/2) (by rw[qE]at h;omega) oM;generalize Lib.bitLenAux f (x/2)=m at*;obtain⟨m,rfl⟩:∃k,m=k+1:=⟨m-1,oM⟩;rw[show 1+(m+1)-1=m+1 by omega,show 1+(m+1)=m+1+1 by omega,qE,qE 2 (m+1)];simp only[Nat.add_sub_cancel]at a;omega
theorem zR5(x:Nat)(w:World)(d:0<x)(i:x<4294967296):
  ∃s:Nat,s<32/\2147483648<=x*2^s/\x*2^s<4294967296/\∀w,CPq 145 #[.int .u32 (x:Nat)] w fun e w'=>e= .returned (niq (s:Nat))/\w=w':=by
 have g:=zFg 64 x oM d;obtain⟨a,b,c⟩:=g;have j:Lib.bitLen x<=32:=by
  unfold Lib.bitLen;rcases zJ 32 (Lib.bitLenAux 64 x)with h|h
  .have:=zX (show 0<2 by omega) (show 32<=Lib.bitLenAux 64 x-1 by omega)
   omega
  exact h
 refine⟨32-Lib.bitLen x,?_,?_,?_,fun w=>(Tryz.bits_LeadingZeros32 (x:Int) w oM oM).mono fun e w' h=>⟨?_,h.2.symm⟩⟩;unfold Lib.bitLen;omega
 .unfold Lib.bitLen at*
  generalize Lib.bitLenAux 64 x=m at*;have:2^(m-1)*2^(32-m)=2^31:=by rw[<-zAS];congr 1;omega
  have f:=zK (2^(32-m)) a;omega
 .unfold Lib.bitLen at*
  generalize Lib.bitLenAux 64 x=m at*;have:2^m*2^(32-m)=2^32:=by rw[<-zAS];congr 1;omega
  have f:=(zBy (a:=2^(32-m)) (jH oM)).2 b;omega
 rw[h.1];simp only[Int.toNat_natCast];congr 2;omega
theorem zVm(d x s:Nat)(hd:d<2^s):d|||x*2^s=d+x*2^s:=by
 have h:=Nat.shiftLeft_add_eq_or_of_lt hd x;rw[Nat.shiftLeft_eq]at h;rw[Nat.or_comm,<-h,zCJ]
theorem zNf(b:x<4294967296)(a:s<32):x*2^s<=4294967295*2^s/\4294967296*2^s<18446744073709551616:=by
 refine⟨zK _ oM,?_⟩;have:2^s<=2^31:=zX oM oM;omega
theorem zUc(d x s:Nat)(hd:d<2^s)(b:x<4294967296)(a:s<32):bits BinOp.or IntKind.u64 (d:Int) (IntKind.u64.wrap ((x:Int)*2^s))=((d+x*2^s:Nat):Int):=by
 obtain⟨c,f⟩:=zNf b a;have e:IntKind.u64.wrap ((x:Int)*2^s)=((x*2^s:Nat):Int):=by
  rw[zAF,show(x:Int)*2^s=((x*2^s:Nat):Int) by simp];generalize x*2^s=m at*;generalize 2^s=p at*;omega
 have h:=u64_or_nat d (x*2^s) (by generalize x*2^s=m at*;generalize 2^s=p at*;omega) (by generalize x*2^s=m at*;generalize 2^s=p at*;omega);rw[e,h,zVm d x s hd]
theorem zOc{zs:List Nat}{p:Nat}(h:nat (zs.take k)+d*B32^k=nat (xs.take k)*p)(c:k<zs.length)(g:xs.getD k 0=x)(f:d+x*p=m):
  nat ((zs.set k (m%4294967296)).take (k+1))+m/4294967296*B32^(k+1)=nat (xs.take (k+1))*p:=by
 rw[zBZ _ _ _ c,yC xs,g,zS,<-h,qE,zBV];have e:=jP m 4294967296;generalize m/4294967296=q at*;generalize m%4294967296=r at*;have a:x*4294967296^k*p=x*p*4294967296^k:=by simp only[Nat.mul_assoc,Nat.mul_comm,Nat.mul_left_comm]
 rw[a];generalize 4294967296^k=t at*;have b:(4294967296*q+r)*t=(d+x*p)*t:=by rw[e,f]
 rw[zS,zS,zP 4294967296 q,zN,zP 4294967296 t]at b;omega
theorem zLF(o:Option Addr)(n E:Nat)(xs:List Nat)(s:Nat)(w:World)(v:xs.length=n)(G:n<=4*LIM)(l:qF w o xs)(z:s<32):
  CPq 146 #[.slice o n E,.int .i64 (s:Nat)] w fun e w'=>
   ∃g zs,e= .returned (.slice (some ⟨g,0,none⟩) (n+1) (n+1))/\w.heap.size<=g/\zCG w' g zs/\zAV zs/\zs.length=n+1/\nat zs=nat xs*2^s/\BWq w w':=by
 have O:=zH v;have T:xs.length<=n:=oM;have U:n<=xs.length:=oM;clear v;rw[zAd]at G;have J:=fun W=>mkU ((n:Int)+1) (n+1) oM oM W
 go_enter Tryz.func146,Tryz.ntmps146;go_wp2;clear J;go_loopw [6,15] (fun c i wr=>∃(k d:Nat) (zs:List Nat),k<=n/\i= .int .i64 k/\c= .int .u64 d/\d<4294967296/\zCG wr w.heap.size zs/\BWq w wr/\n<zs.length∧
   Hid (zs.length=n+1/\zAV zs/\d<2^s/\nat (zs.take k)+d*B32^k=nat (xs.take k)*2^s)) (fun _ i _=>n-(intOf i).toNat)
 case atStart=>exact⟨0,0,List.replicate (n+1) 0,oM,rfl,rfl,oM,zCG.made _ _,(zB _ _).alloc (xgf _) _,by simp,⟨by simp,fun x l=>by rw[List.eq_of_mem_replicate l];exact zBj,jH oM,by simp⟩⟩
 obtain⟨k,d,zs,R,rfl,rfl,hd,f,h,t,a⟩:=hrel;have Q:=f.frozen k;by_cases S:k<n
 .obtain⟨b,off,x,rfl,H,A,D,r⟩:=l.limb (k:=k) oM
  have P:=(h.cell (p:=⟨b,off+k,none⟩) H).trans r;have I:=f.cell (k:=k) oM;clear r;have L:=zUc d x s a.out.2.2.1 A z;obtain⟨M,N⟩:=zNf A z;obtain⟨m,j⟩:∃m,d+x*2^s=m:=⟨_,rfl⟩;rw[j]at L;have K:m<4294967296*2^s:=by have:=a.out.2.2.1;generalize x*2^s=y at*;generalize 2^s=p at*;omega
  have u:m/4294967296<2^s:=oM;have B:=zH j;have C:=zH u;have V:m<18446744073709551616:=by generalize 2^s=p at*;omega
  clear j K M N u;go_wp2;go_roundw
  case rel=>exact⟨k+1,m/4294967296,zs.set k (m%4294967296),oM,by go_num,by go_num,oM,f.set' _ _ _ (by simp[IntKind.wrap_u32]),h.setCell (xgf _) _,by simpa using t,
    ⟨by simpa using a.out.1,a.out.2.1.set _ _ (yE _ oM),C.out,zOc a.out.2.2.2 oM D.out B.out⟩⟩
  case measure=>exact meq
 obtain rfl:n=k:=oM;have I:=f.cell (k:=n) oM;go_wp2;go_ret;have F:=a.out.2.2.2;have q:=zBZ zs n d t;rw[qN _ (by simp[a.out.1]),F,qN xs oM]at q;exact⟨_,zs.set n d,rfl,xgf _,f.set' _ _ d (by simp[IntKind.wrap_u32]),a.out.2.1.set _ _ hd,by simpa using a.out.1,q,h.setCell (xgf _) _⟩
theorem zKv(w:World)(g:Nat):w.grownBy w (some g):=⟨rfl,rfl,rfl,xgf _,fun _ _ _=>rfl⟩
theorem zGN{a:World}(h:a.grownBy w (some g))(i:Nat)(u:Value):a.grownBy (w.setCell ⟨g,i,none⟩ u) (some g):=
 ⟨h.os,h.tape,h.output,by simpa[World.setCell]using h.size,fun k c b=>(qH w ⟨g,i,none⟩ u k (fun e=>b (by rw[e]))).trans (h.block k c b)⟩
theorem zOK{a:World}(h:a.grownBy w (some g))(n:Nat):a.grownBy (w.drewN n) (some g):=⟨h.os,h.tape,h.output,h.size,h.block⟩
theorem zKu{a:World}{o:Nat}{v:Value}(h:a.grownBy w (some g))(c:b≠g)(hc:a.cell? ⟨b,o,none⟩=some v):w.cell? ⟨b,o,none⟩=some v:=
 (World.cell?_of_block (w:=a) (h.block b (yW a _ hc) (fun e=>c (by injection e)))).trans hc
theorem zJE{a b c:World}(h:a.grownBy b (some g))(k:b.grownBy c (some g)):a.grownBy c (some g):=
 ⟨k.os.trans h.os,k.tape.trans h.tape,k.output.trans h.output,zF h.size k.size,fun i d e=>(k.block i (zI d h.size) e).trans (h.block i d e)⟩
theorem zP7(h:rr.length=k)(a:k<rs.length):(rr++rs.drop k).set k v=(rr++ [v])++rs.drop (k+1):=by
 rw[zAk _ _ oM,h,zAu,yX a,xgi];simp
theorem zUR(h:rr.length=k)(a:k<rs.length):(rr++rs.drop k).getD k 0=rs.getD k 0:=by
 simp only[xgb];rw[List.getElem?_append_right oM,h,zAu,List.getElem?_drop,jJ]
theorem zSx{c b d:Nat}(j:a+c*P=d+V)(e:d+P*b+(Q+1)*V=U+P*4294967296)(m:a<P)(l:V<P)(h:U<(Q+1)*V)(k:Q*V<=U)(i:b<4294967296)(hc:c<=1):
  b+c=4294967296/\U=Q*V+a:=by
 rw[zS,yU]at e h;rcases(show c=0∨c=1 by omega)with rfl|rfl
 .exfalso
  have f:P*b+P<=P*4294967296:=by rw[<-Nat.mul_succ];exact qA P i
  omega
 rcases zJ b 4294967295 with g|g
 .exfalso
  have f:P*b+P+P<=P*4294967296:=by
   have:=qA P (show b+2<=4294967296 by omega);rw[jT]at this;omega
  omega
 obtain rfl:b=4294967295:=oM;exact⟨rfl,oM⟩
def zRS(w:World)(g off n:Nat)(ua vs:List Nat)(e:Ending)(w':World):Prop:=
 ∃(q:Nat) (rs:List Nat),e= .returned (.int .u32 (q:Nat))/\q<4294967296/\rs.length=n+1/\zAV rs/\nat (seg ua off (n+1))=q*nat vs+nat rs/\nat rs<nat vs/\zCG w' g (put ua off rs)/\w.grownBy w' (some g)
theorem zIX(x y d:Nat)(a:x<4294967296)(b:y<4294967296)(hd:d<=1):
  ∃v e:Nat,IntKind.u32.wrap (IntKind.u64.wrap (IntKind.u64.wrap ((x:Int)-y)-d))=v/\IntKind.u64.wrap (IntKind.u64.wrap ((x:Int)-y)-d)/9223372036854775808=e/\v<4294967296/\e<=1/\v+y+d=x+e*4294967296:=by
 simp only[IntKind.wrap_u64,IntKind.wrap_u32];by_cases h:y+d<=x
 .exact⟨x-y-d,0,oM,oM,oM,oM,oM⟩
 exact⟨x+4294967296-y-d,1,oM,oM,oM,oM,oM⟩
theorem zTm(m:Nat)(h:m<18446744073709551616):bits BinOp.and IntKind.u64 (m:Int) 4294967295=((m%4294967296:Nat):Int):=by
 have a:=u64_and_nat m 4294967295 h oM;have b:m &&& 4294967295=m%4294967296:=Nat.and_two_pow_sub_one_eq_mod m 32;rw[b]at a;exact a
theorem zUi(c:R+q*V=U)(a:U<(Q+1)*V)(b:Q<=q):R<V:=by
 have:Q*V<=q*V:=zK V b;rw[zS,yU]at a;omega
theorem zWh(b:R+q*V=U+P)(e:R<P)(c:U<(Q+1)*V)(d:Q*V<=U)(h4:q<=Q+1∨q*V<U+V):q=Q+1:=by
 have a:Q<q:=by
  rcases zJ Q q with h|h
  exact h;have:=zK V h;omega
 rcases h4 with h4|h4
 omega;rcases zJ (Q+1) q with h|h
 .have:=zK V h
  rw[zS (Q+1) 1,yU]at this;omega
 omega
theorem zPV(g off m0 b2 c1 n m5:Nat)(f vs:List Nat)(w:World)(hU:zCG w g f)(b9:zAV f)(hv:qF w (some ⟨b2,c1,none⟩) vs)(i7:b2≠g)(hn:vs.length=n)(o7:2<=n)
  (o5:off+n<f.length) (hb:n<=4*LIM) (b0:2147483648<=vs.getD (n-1) 0) (hQ:nat (seg f off (n+1))<nat vs*4294967296):
  CPq 147 #[.slice (some ⟨g,off,none⟩) (n+1) m0,.slice (some ⟨b2,c1,none⟩) n m5] w (zRS w g off n f vs):=by
 have HN:=zH hn;have HQ:=zH hQ;have o6:n<=vs.length:=oM;have d3:∀k,k<n->w.cell? ⟨b2,c1+k,none⟩=some (.int .u32 (vs.getD k 0:Nat)):=fun k hk=>by
  obtain⟨b,p1,u,_,F⟩:=hv.cell (k:=k) oM;injection u with u;injection u with u e3;subst u;subst e3
  exact F
 obtain⟨e,c3⟩:∃x,vs.getD (n-1) 0=x:=⟨_,rfl⟩;obtain⟨J,c4⟩:∃x,vs.getD (n-2) 0=x:=⟨_,rfl⟩;obtain⟨Y,c6⟩:∃x,f.getD (off+n) 0=x:=⟨_,rfl⟩;obtain⟨x1,c7⟩:∃x,f.getD (off+(n-1)) 0=x:=⟨_,rfl⟩;obtain⟨Z,c8⟩:∃x,f.getD (off+(n-2)) 0=x:=⟨_,rfl⟩;have f1:=d3 (n-1) oM;have f2:=d3 (n-2) oM;have f3:=hU.cell (k:=off+n) oM;have f4:=hU.cell (k:=off+(n-1)) oM;have f5:=hU.cell (k:=off+(n-2)) oM;have a9:e<4294967296:=by rw[<-c3];exact hv.1.get _
 have S:J<4294967296:=by rw[<-c4];exact hv.1.get _
 have i9:Y<4294967296:=by rw[<-c6];exact b9.get _
 have o3:x1<4294967296:=by rw[<-c7];exact b9.get _
 have b3:Z<4294967296:=by rw[<-c8];exact b9.get _
 rw[c3]at f1 b0;rw[c4]at f2;rw[c6]at f3;rw[c7]at f4;rw[c8]at f5;have l5:=zH c3;have l6:=zH c4;have d8:=zH c6;have l7:=zH c7;have l8:=zH c8;have g8:=zH d3;clear c3 c4 c6 c7 c8 hn d3 hQ;rw[zAd]at hb;obtain⟨s,g4⟩:∃t,Y*4294967296+x1=t:=⟨_,rfl⟩;have eo:=zNO Y x1 i9 o3;rw[g4]at eo;have p0:s<18446744073709551616:=oM;obtain⟨U,a6⟩:∃U,nat (seg f off (n+1))=U:=⟨_,rfl⟩;obtain⟨V,a7⟩:∃V,nat vs=V:=⟨_,rfl⟩;obtain⟨Q,d0⟩:∃Q,U/V=Q:=⟨_,rfl⟩;have h9:0<V:=by
  rcases qY V with h|h
  have:=HQ.out;rw[a6,a7,h]at this;omega;exact h
 have l9:∃b4 Ul Vl,U=(s*4294967296+Z)*b4+Ul/\V=(e*4294967296+J)*b4+Vl/\0<b4/\Ul<b4/\Vl<b4/\Q*V<=U/\Q<4294967296/\U<V*4294967296/\U<(Q+1)*V:=by
  obtain⟨m,rfl⟩:∃m,n=m+2:=⟨n-2,oM⟩;obtain⟨Vl,o,D⟩:=zSG hv.1 HN.out;obtain⟨Ul,G,K⟩:=zSH (b9.seg off (m+2+1)) (zJK oM);have hg:∀k,k<m+3->(seg f off (m+2+1)).getD k 0=f.getD (off+k) 0:=fun k hk=>by
   unfold seg;simp only[xgb,List.getElem?_take,List.getElem?_drop];rw[zC oM]
  have a1:=l5.out;have a2:=l6.out;have a3:=d8.out;have a4:=l7.out;have a5:=l8.out;rw[show m+2-1=m+1 by omega]at a1 a4;rw[show m+2-2=m by omega]at a2 a5;rw[a7,a1,a2,zBV]at D;rw[a6,hg (m+2) oM,hg (m+1) oM,hg m oM,a3,a4,a5,zBV,g4]at K;refine⟨B32^m,Ul,Vl,K,D,jH zBj,G,o,?_,?_,?_,?_⟩;rw[<-d0];exact Nat.div_mul_le_self U V;rw[<-d0,zA7 h9,zP];have:=HQ.out;rwa[a6,a7]at this;have:=HQ.out;rwa[a6,a7]at this;rw[<-d0,zS,yU,zP];exact Nat.lt_mul_div_succ U h9
 obtain⟨b4,Ul,Vl,k1,k2,k3,k4,k5,W,X,k8,k9⟩:=l9;have l0:=fun q r a b c=>zVg (q:=q) (r:=r) k1 k2 k3 k4 k5 b3 S b0 a9 W X k8 a b c
 have l4:=fun q r a b=>zUJ (q:=q) (r:=r) k1 k2 k3 k4 k5 b3 S b0 a9 W X k8 a b
 have l3:=fun q r a b c=>zWZ (q:=q) (r:=r) k1 k2 k3 k4 k5 b3 S b0 a9 W X k8 a b c
 have l2:Hid (Q<=s/e):=zUI k1 k2 k3 k4 k5 b3 S b0 a9 W X k8;have l1:s/e<=4294967297:=zR2 k1 k2 k3 k4 k5 b3 S b0 a9 W X k8;have e0:=zH l0;have e6:=zH l4;have c9:=zH l3;have a0:Hid (Q*V<=U/\Q<4294967296/\U<(Q+1)*V/\nat (seg f off (n+1))=U/\nat vs=V):=⟨W,X,k9,a6,a7⟩;clear l0 l4 l3 k1 k2 k3 k4 k5 W X k8 k9 a6 a7 d0 g4 HQ;have i1:IntKind.i64.wrap ((n:Int)-1)=(n:Int)-1:=yB _ oM;have i2:((n:Int)-1).toNat=n-1:=oM;have i3:(0:Int)<=(n:Int)-1:=oM;go_enter Tryz.func147,Tryz.ntmps147;go_wp2;go_quiet (fail);go_wp2;go_quiet (fail);go_upto_block 0 with(fail)
 clear i1 i2 i3 eo;go_cut [8] (fun qv wr=>∃q k:Nat,qv= .int .u64 q/\q<4294967296/\Hid (wr=w.drewN k)/\Hid (Q<=q/\(q<=Q+1∨q*V<U+V)))
 case first=>
  go_wp2;go_loopw [8,9] (fun qv rv wr=>∃q r k:Nat,qv= .int .u64 q/\rv= .int .u64 r/\q<=4294967297/\r<4294967296/\Hid (wr=w.drewN k)/\Hid (Q<=q/\q*e+r=s)) (fun qv _ _=>(intOf qv).toNat)
  case atStart=>
   refine⟨s/e,s%e,_,?_,?_,l1,?_,by show _=_;rw[jL],l2.out,?_⟩
   .congr 1
    rw[show(s:Int)/(e:Int)=((s/e:Nat):Int) by simp,zAF];generalize s/e=t at l1;omega
   simp;exact Nat.lt_trans (yE _ oM) a9;rw[zP];exact jP _ _
  obtain⟨q,r,k,rfl,rfl,hq,hr,p,d⟩:=hrel;have g2:wr.cell? ⟨b2,c1+(n-2),none⟩=some (.int .u32 (J:Nat)):=by rw[p.out];exact f2
  have g5:wr.cell? ⟨g,off+(n-2),none⟩=some (.int .u32 (Z:Nat)):=by rw[p.out];exact f5
  have i1:IntKind.i64.wrap ((n:Int)-2)=(n:Int)-2:=yB _ oM;have i2:((n:Int)-2).toNat=n-2:=oM;have i3:(0:Int)<=(n:Int)-2:=oM;by_cases n1:4294967295<q
  .have hd:decide ((4294967295:Int)<(q:Int))=true:=by simp;omega
   have b5:Hid (Q<=q-1):=e0.out q r d.out.2 d.out.1 (.inl n1);have O:Hid ((q-1)*e+(r+e)=s):=by
    have o:=d.out.2;show _=_;rw[Nat.sub_mul,yU];have:e<=q*e:=jF e oM;omega
   by_cases f9:4294967295<r+e
   .have M:Hid (q-1<4294967296/\(q-1)*J<=(r+e)*4294967296+Z):=e6.out (q-1) (r+e) O.out f9
    have b6:Hid (q-1<=Q+1∨(q-1)*V<U+V):=c9.out (q-1) (r+e) O.out M.out.1 M.out.2;have f0:(4294967295:Int)<(r:Int)+(e:Int):=oM;go_wp2;go_quiet (fail);go_wp2;go_meet
    case rel=>exact⟨q-1,_,by go_num,M.out.1,by show _=_;rw[p.out,jL],b5.out,b6.out⟩
   have f0:(r:Int)+(e:Int)<=4294967295:=oM;go_wp2;go_quiet (fail);go_wp2;go_roundw
   case rel=>exact⟨q-1,r+e,_,by go_num,by go_num,oM,oM,by show _=_;rw[p.out,jL],b5.out,O.out⟩
   case measure=>exact meq
  have hd:decide ((4294967295:Int)<(q:Int))=false:=by simp;omega
  obtain⟨n9,o0⟩:=zGJ (x:=q) oM S;have n8:=zGI (x:=q) oM S;have m6:=zNO r Z hr b3;obtain⟨t,ht⟩:∃t,r*4294967296+Z=t:=⟨_,rfl⟩;rw[ht]at m6;have HT:=zH ht;clear ht;by_cases b8:t<q*J
  .have n5:decide ((t:Int)<(q:Int)*(J:Int))=true:=by simp;rw[<-yP];omega
   have b5:Hid (Q<=q-1):=e0.out q r d.out.2 d.out.1 (.inr (by rw[HT.out];exact b8));have o8:0<q:=by
    rcases qY q with h|h
    rw[h]at b8;simp at b8;exact h
   clear b8;have O:Hid ((q-1)*e+(r+e)=s):=by
    have o:=d.out.2;show _=_;rw[Nat.sub_mul,yU];have:e<=q*e:=jF e oM;omega
   by_cases f9:4294967295<r+e
   .have M:Hid (q-1<4294967296/\(q-1)*J<=(r+e)*4294967296+Z):=e6.out (q-1) (r+e) O.out f9
    have b6:Hid (q-1<=Q+1∨(q-1)*V<U+V):=c9.out (q-1) (r+e) O.out M.out.1 M.out.2;have f0:(4294967295:Int)<(r:Int)+(e:Int):=oM;go_wp2;go_quiet (fail);go_wp2;go_meet
    case rel=>exact⟨q-1,_,by go_num,M.out.1,by show _=_;rw[p.out,jL],b5.out,b6.out⟩
   have f0:(r:Int)+(e:Int)<=4294967295:=oM;go_wp2;go_quiet (fail);go_wp2;go_roundw
   case rel=>exact⟨q-1,r+e,_,by go_num,by go_num,oM,oM,by show _=_;rw[p.out,jL],b5.out,O.out⟩
   case measure=>exact meq
  have n5:decide ((t:Int)<(q:Int)*(J:Int))=false:=by simp;rw[<-yP];omega
  have b6:Hid (q<=Q+1∨q*V<U+V):=c9.out q r d.out.2 oM (by rw[HT.out];omega);clear b8;go_wp2;go_quiet (fail);go_wp2;go_meet
  case rel=>exact⟨q,_,rfl,oM,by show _=_;rw[p.out,jL],d.out.1,b6.out⟩
 obtain⟨q,k,rfl,d7,p,HQ⟩:=hcut;have g0:Hid (∀k,k<n->wc.cell? ⟨b2,c1+k,none⟩=some (.int .u32 (vs.getD k 0:Nat))):=by rw[p.out];exact g8.out
 have m9:zCG wc g f:=by rw[p.out];exact hU
 have g9:w.grownBy wc (some g):=by rw[p.out];exact zOK (zKv w g) k
 clear g8 p hU f1 f2 f3 f4 f5 e0 e6 c9 l2;obtain⟨w2,rfl⟩:∃w2:World,w2=wc:=⟨_,rfl⟩;go_wp2;go_loopw [10,11,76] (fun bv cv i wr=>∃(k b c:Nat) (ms:List Nat),k<=n/\i=niq k/\bv= .int .u64 b/\cv= .int .u64 c/\b<=1/\c<4294967296/\zCG wr g (put f off ms)/\w2.grownBy wr (some g)∧
   Hid (ms.length=k/\zAV ms/\nat ms+q*nat (vs.take k)=nat (seg f off k)+(b+c)*B32^k)) (fun _ _ i _=>n-(intOf i).toNat)
 case atStart=>exact⟨0,0,0,[],oM,rfl,rfl,rfl,oM,oM,by rw[zUh];exact m9,zKv _ _,⟨rfl,zAV.nil,by simp[seg]⟩⟩
 obtain⟨k,b,c,ms,hk,rfl,rfl,rfl,i0,n2,L,d5,d⟩:=hrel;obtain⟨ml,o1⟩:∃c0,ms.length=c0:=⟨_,rfl⟩;by_cases f8:k<n
 .have H:=L.cell (k:=off+k) (by rw[zEI (by rw[d.out.1];omega)];omega)
  rw[zNW (by rw[d.out.1];omega) (by rw[d.out.1];exact xgf _)]at H;have f6:=L.frozen (off+k);obtain⟨x,B⟩:∃x,f.getD (off+k) 0=x:=⟨_,rfl⟩;have k0:x<4294967296:=by rw[<-B];exact b9.get _
  rw[B]at H;have c5:=zH B;clear B;have e9:=zKu d5 i7 (g0.out k f8);obtain⟨y,C⟩:∃y,vs.getD k 0=y:=⟨_,rfl⟩;have g6:y<4294967296:=by rw[<-C];exact hv.1.get _
  rw[C]at e9;have d9:=zH C;clear C o1;obtain⟨n9,o0⟩:=zGJ d7 g6;have n8:=zGI d7 g6;obtain⟨lo,d6⟩:∃c0,(c+q*y)%4294967296=c0:=⟨_,rfl⟩;obtain⟨cn,d2⟩:∃c0,(c+q*y)/4294967296=c0:=⟨_,rfl⟩;have ea:=zTm (c+q*y) (by generalize q*y=m at*;omega);rw[d6,zAa,yP]at ea;have n7:lo<4294967296:=by rw[<-d6];exact yE _ oM
  have i8:Hid (c+q*y=cn*4294967296+lo):=by
   have:=jP (c+q*y) 4294967296;rw[d6,d2]at this;show _=_;omega
  have n4:cn<4294967296:=by rw[<-d2];generalize q*y=m at*;omega
  have EC:Hid (((c:Int)+(q:Int)*(y:Int))/4294967296=(cn:Int)):=by
   show _=_;rw[<-d2,<-yP,<-zAa,Int.natCast_ediv];rfl
  clear d6 d2;go_wp2;go_roundw;obtain⟨v,h6,u,F,e3,e4,e5⟩:=zIX x lo b k0 n7 i0
  case rel=>
   have N:=zQQ (us:=f) (ms:=ms) (off:=off) (v:=v) (by rw[d.out.1];omega);rw[d.out.1]at N;refine⟨k+1,h6,cn,ms++ [v],oM,by go_num,by rw[F],by rw[EC.out],e4,n4,by rw[<-N];exact L.set' _ _ v (by first|exact u|omega),zGN d5 _ _,⟨by simp[d.out.1],d.out.2.1.append (fun g7 z=>by simp at z;subst z;exact e3),?_⟩⟩;have b7:=zP8 (us:=f) (ms:=ms) (vs:=vs) (off:=off) (q:=q) (b:=b) (c:=c) (x:=x) (e:=y) (v:=v) (b':=h6) (c':=cn) (by rw[d.out.1];exact d.out.2.2) (by rw[d.out.1];omega) (by rw[d.out.1];exact c5.out) (by rw[d.out.1];exact d9.out) (by rw[i8.out];omega);rw[d.out.1]at b7;exact b7
  case measure=>exact meq
 obtain rfl:n=k:=oM;have o2:(put f off ms).length=f.length:=zEI (by rw[d.out.1];omega);have H:=L.cell (k:=off+n) (by rw[o2];omega);rw[zNW (by rw[d.out.1];omega) (by rw[d.out.1];exact xgf _),d8.out]at H;have f6:=L.frozen (off+n);obtain⟨j,le,u,F,e3,e4,e5⟩:=zIX Y c b i9 n2 i0;have N:=zQQ (us:=f) (ms:=ms) (off:=off) (v:=j) (by rw[d.out.1];omega);rw[d.out.1]at N;have d4:Hid (nat (ms++ [j])+q*V=U+le*B32^(n+1)):=by
  obtain⟨o,D,G⟩:=d.out;obtain⟨T,j2,E,I,A⟩:=a0.out;rw[qN vs (zBo HN.out),A]at G;rw[<-I,zHI oM,d8.out];show _=_;rw[zDZ,o,qE,zBV];rw[zBV]at G;have K:(j+c+b)*4294967296^n=(Y+le*4294967296)*4294967296^n:=by rw[e5]
  generalize 4294967296^n=P at*;have h5:le*(P*4294967296)=le*4294967296*P:=by rw[zN,zP P]
  rw[h5,zP P j];simp only[Nat.add_mul]at*;omega
 have g3:zAV (ms++ [j]):=d.out.2.1.append (fun g7 z=>by simp at z;subst z;exact e3);have R:(ms++ [j]).length=n+1:=by simp[d.out.1]
 have HP:=zH N;have m8:IntKind.u32.wrap (q:Int)=q:=zG8 q d7;rcases(show le=0∨le=1 by omega)with e7|e7
 .subst e7
  have i4:Hid (nat (seg f off (n+1))=q*nat vs+nat (ms++ [j])/\nat (ms++ [j])<nat vs):=by
   obtain⟨T,j2,E,I,A⟩:=a0.out;have o:=d4.out;rw[jZ,jJ]at o;rw[I,A];exact⟨oM,zUi o E HQ.out.1⟩
  have h7:IntKind.u64.wrap (IntKind.u64.wrap ((Y:Int)-c)-b)/9223372036854775808=0:=F;clear F N d4;go_wp2;go_ret;exact⟨q,ms++ [j],by first|rfl|(rw[m8];rfl),d7,R,g3,i4.out.1,i4.out.2,by rw[<-HP.out];exact L.set' _ _ j (by first|exact u|omega|(simp only[IntKind.wrap_u32,IntKind.wrap_u64];omega)),zJE g9 (zGN d5 _ _)⟩
 subst e7;have h7:IntKind.u64.wrap (IntKind.u64.wrap ((Y:Int)-c)-b)/9223372036854775808=1:=F;have g1:Hid (q=Q+1):=by
  obtain⟨T,j2,E,I,A⟩:=a0.out;have D:=zCY g3;rw[R]at D;have o:=d4.out;rw[yU]at o;exact zWh o D E T HQ.out.2
 have o9:1<=q:=by rw[g1.out];omega
 clear F N;go_wp2;refine zE ?_;intro W3 e8;have n0:zCG W3 g (put f off (ms++ [j])):=by
  rw[e8.out,<-HP.out];exact L.set' _ _ j (by first|exact u|omega|(simp only[IntKind.wrap_u32,IntKind.wrap_u64];omega))
 have n6:w2.grownBy W3 (some g):=by rw[e8.out];exact zGN d5 _ _
 clear u h7 H f6 e8;go_loopw [11,128] (fun cv i wr=>∃(k c:Nat) (rr:List Nat),k<=n/\i=niq k/\cv= .int .u64 c/\c<=1/\zCG wr g (put f off (rr++(ms++ [j]).drop k))/\w2.grownBy wr (some g)∧
   Hid (rr.length=k/\zAV rr/\nat rr+c*B32^k=nat ((ms++ [j]).take k)+nat (vs.take k))) (fun _ i _=>n-(intOf i).toNat)
 case atStart=>exact⟨0,0,[],oM,rfl,rfl,oM,by simpa using n0,n6,⟨rfl,zAV.nil,by simp⟩⟩
 obtain⟨k,c2,rr,hk,rfl,rfl,n3,d1,f7,l⟩:=hrel;have a8:(rr++(ms++ [j]).drop k).length=n+1:=by rw[zAD,zBw,R,l.out.1];omega
 have i5:(put f off (rr++(ms++ [j]).drop k)).length=f.length:=zEI (by rw[a8];omega);have H:=d1.cell (k:=off+k) (by rw[i5];omega);rw[zMW (by rw[a8];omega) (by rw[a8];omega),zUR l.out.1 (by rw[R];omega)]at H;have f6:=d1.frozen (off+k);have i6:=fun v=>zOM (us:=f) (ms:=rr++(ms++ [j]).drop k) (off:=off) (k:=k) (v:=v) (by rw[a8];omega) (by rw[a8];omega)
 have h0:=zH i6;clear i6;obtain⟨x,B⟩:∃x,(ms++ [j]).getD k 0=x:=⟨_,rfl⟩;have k0:x<4294967296:=by rw[<-B];exact g3.get _
 rw[B]at H;have c5:=zH B;clear B a8 i5;by_cases f8:k<n
 .have e9:=zKu f7 i7 (g0.out k f8)
  obtain⟨y,C⟩:∃y,vs.getD k 0=y:=⟨_,rfl⟩;have g6:y<4294967296:=by rw[<-C];exact hv.1.get _
  rw[C]at e9;have d9:=zH C;clear C;go_wp2;go_roundw
  case rel=>
   refine⟨k+1,(c2+(x+y))/4294967296,rr++ [(c2+(x+y))%4294967296],oM,by go_num,by go_num,oM,?_,zGN f7 _ _,⟨by simp[l.out.1],l.out.2.1.append (fun g7 z=>by simp at z;subst z;exact yE _ dE),?_⟩⟩
   .rw[<-zP7 l.out.1 (by rw[R];omega),<-h0.out]
    exact d1.set' _ _ _ sI
   have b7:=zKS (ms:=ms++ [j]) (vs:=vs) (rr:=rr) (c:=c2) (x:=x) (e:=y) (by rw[l.out.1];exact l.out.2.2) (by rw[l.out.1];exact c5.out) (by rw[l.out.1];exact d9.out);rw[l.out.1]at b7;exact b7
  case measure=>exact meq
 obtain rfl:n=k:=oM;have o4:Hid (x=j):=by
  show _=_;rw[<-c5.out,xgb,List.getElem?_append_right (by rw[d.out.1];exact xgf _),d.out.1];simp
 obtain⟨i8,h8⟩:x+c2=4294967296/\U=Q*V+nat rr:=by
  obtain⟨T,j2,E,I,A⟩:=a0.out;have o:=l.out.2.2;rw[jV (by rw[d.out.1];exact xgf _),qN ms (by rw[d.out.1];exact xgf _),qN vs (zBo HN.out),A]at o;have D:=d4.out;rw[zDZ,d.out.1,yU,g1.out,qE,zBV]at D;have G:=zCY l.out.2.1;rw[l.out.1]at G;have K:=zCY hv.1;rw[HN.out,A]at K;rw[o4.out];rw[zBV]at o G K;exact zSx o D G K E T e3 n3
 have HS:=zH h8;have m7:IntKind.u32.wrap ((x:Int)+(c2:Int))=0:=by rw[zAg];omega
 clear h8;go_wp2;go_ret;refine⟨q-1,rr++ [0],?_,oM,by simp[l.out.1],l.out.2.1.append (fun g7 z=>by simp at z;subst z;exact zBj),?_,?_,?_,zJE g9 (zGN f7 _ _)⟩
 .show Ending.returned (.int .u32 ((q:Int)-1))=Ending.returned (.int .u32 ((q-1:Nat):Int))
  congr 2;omega
 .obtain⟨T,j2,E,I,A⟩:=a0.out
  rw[I,A,zDZ,zBp,jJ,HS.out,g1.out,Nat.add_sub_cancel]
 .obtain⟨T,j2,E,I,A⟩:=a0.out
  rw[zDZ,zBp,jJ,A];have:=HS.out;rw[zS,yU]at E;omega
 have hm:=zP7 (rr:=rr) (rs:=ms++ [j]) (k:=n) (v:=0) l.out.1 (by rw[R];omega);rw[qX (show(ms++ [j]).length<=n+1 by rw[R];exact xgf _),zCE]at hm;rw[<-hm,<-h0.out];exact d1.set' _ _ 0 (by first|rfl|exact m7|omega)
/-! ### plain -/
theorem zCg(xs:List Nat)(k:Nat)(h:k<=xs.length):nat xs=nat (xs.take k)+B32^k*nat (xs.drop k):=by
 have:=zEG (xs.take k) (xs.drop k);rw[List.take_append_drop,qM,zAt h]at this;exact this
theorem zSW(h:off<=us.length):(put us off ms).drop off=ms++us.drop (off+ms.length):=by
 unfold put;rw[zAJ,List.drop_append,qX (by simp;omega)];simp[Nat.min_eq_left h]
theorem zSX(h:off<=us.length):(put us off ms).take off=us.take off:=by
 unfold put;rw[zAJ,jV (by simp;omega),zC7,Nat.min_self]
theorem zPW(a V p B t q r:Nat):a*V*(p*B)+(t+p*(q*V+r))=(q+B*a)*V*p+(t+p*r):=by
 simp only[Nat.add_mul,Nat.mul_add];have b:a*V*(p*B)=B*a*V*p:=by simp only[Nat.mul_assoc,Nat.mul_comm,Nat.mul_left_comm]
 have c:p*(q*V)=q*V*p:=zP _ _;omega
structure zHn(X V:Nat)(n k:Nat)(ul qs:List Nat):Prop where
 lim:zAV ul
 qlim:zAV qs
 eq:X=nat (qs.drop k)*V*B32^k+nat ul
 lt:nat (ul.drop k)<V
theorem zHn.zero(h:zHn X V n k ul qs)(c:V<B32^n)(d:k+n<=ul.length):nat (ul.drop (k+n))=0:=by
 have a:=zCg (ul.drop k) n (by simp;omega);rw[List.drop_drop]at a;have b:=h.lt;rcases qY (nat (ul.drop (k+n)))with h0|h0
 exact h0;have:=qJ (B32^n) h0;omega
theorem zHn.seg_eq(h:zHn X V n (j+1) ul qs)(b:V<B32^n)(c:j+1+n<=ul.length):nat (seg ul j (n+1))=nat (ul.drop j):=by
 have a:=zCg (ul.drop j) (n+1) (by simp;omega);rw[List.drop_drop,show j+(n+1)=j+1+n by omega,h.zero b c]at a;unfold seg;omega
theorem zHn.small(h:zHn X V n (j+1) ul qs)(c:j<ul.length):nat (ul.drop j)<V*4294967296:=by
 have a:=zCM ul j c;have b:=h.lim.get j;have e:=h.lt;rw[zBV]at a b;rw[a];clear a h;generalize nat (List.drop (j+1) ul)=d at*;generalize ul.getD j 0=x at*;omega
theorem zHn.step{rs:List Nat}(h:zHn X V n (j+1) ul qs)(d:V<B32^n)(e:j+1+n<=ul.length)(f:j<qs.length)(k:q<4294967296)
  (l:rs.length=n+1) (m:zAV rs) (g:nat (seg ul j (n+1))=q*V+nat rs) (i:nat rs<V):zHn X V n j (put ul j rs) (qs.set j q):=by
 have o:=h.zero d e;have hd:nat ((put ul j rs).drop j)=nat rs:=by
  rw[zSW oM,zEG,l,show j+(n+1)=j+1+n by omega,o,zBp,jJ]
 refine⟨zQP h.lim m,h.qlim.set _ _ k,?_,by rw[hd];exact i⟩;have b:=zCg ul j oM;have c:=zCg (put ul j rs) j (by rw[zEI oM];omega);rw[hd,zSX oM]at c;rw[<-h.seg_eq d e,g]at b;have a:=zCM (qs.set j q) j (by simpa using f);rw[zCw,xgb,List.getElem?_set_self f]at a;simp only[Option.getD_some]at a;rw[a,c,h.eq,b,qE];exact zPW _ _ _ _ _ _ _
theorem zLY(x:s<32)(u:a<4294967296)(v:b<4294967296):
  ((a*4294967296+b)/2^s%4294967296)*2^s+b%2^s=b+a%2^s*4294967296:=by
 obtain⟨t,d⟩:∃t,2^s*t=4294967296:=⟨2^(32-s),by rw[<-zAS,show s+(32-s)=32 by omega]⟩;have f:0<2^s:=jH oM;generalize 2^s=p at*;have o:=jP b p;have m:=jP a p;have q:=yE b f;have n:=yE a f;generalize b/p=c at*;generalize b%p=r at*;generalize a/p=g at*;generalize a%p=e at*;have i:(a*4294967296+b)/p=a*t+c:=by
  rw[<-d,<-o,<-zN,zP a p,zN,<-Nat.add_assoc,<-jT];rw[Nat.mul_add_div f,Nat.div_eq_of_lt q,jJ]
 have w:c<t:=by
  rcases zJ c t with h|h
  exact h;have:=qA p h;omega
 have j:a*t+c=e*t+c+4294967296*g:=by
  rw[<-d,<-m,zS,zN p t,zN,zP t g];omega
 have k:e*t+c<4294967296:=by
  have l:(e+1)*t<=p*t:=zK t n;rw[zS,yU,d]at l;omega
 rw[i,j,Nat.add_mul_mod_self_left,Nat.mod_eq_of_lt k,zS,zN,zP t p,d,zP c p];omega
theorem zLZ{v:Nat}(i:s<32)(d:a<4294967296)(f:b<4294967296)(j:ul.getD (k+1) 0=a)(l:ul.getD k 0=b)(g:k<rs.length)
  (hv:v=(a*4294967296+b)/2^s%4294967296) (h:nat (rs.take k)*2^s=nat (ul.take k)+(ul.getD k 0%2^s)*B32^k):
  nat ((rs.set k v).take (k+1))*2^s=nat (ul.take (k+1))+(ul.getD (k+1) 0%2^s)*B32^(k+1):=by
 have c:=zLY i d f;rw[<-hv]at c;rw[zBZ _ _ _ g,yC,zS,h,j,l,qE,zBV];generalize 2^s=p at*;generalize 4294967296^k=P;have e:=congrArg (· *P) c;simp only[Nat.add_mul]at e;have m:v*P*p=v*p*P:=by rw[zN,zP P,<-zN]
 have n:a%p*(P*4294967296)=a%p*4294967296*P:=by rw[zN,zP P]
 omega
theorem zSy{vs:List Nat}{t:Nat}(e:zAV vs)(f:vs.length=m+1)(h:t*B32^m<=nat vs):t<=vs.getD m 0:=by
 have b:=yC vs m;rw[qN vs oM]at b;have c:=zCY (e.take m);rw[qM,zAt oM]at c;rcases zJ (vs.getD m 0) t with a|a
 .exfalso
  have d:=zK (B32^m) a;rw[Nat.succ_mul]at d;omega
 exact a
theorem zUW{ys:List Nat}(b:ys.length=m+1)(hd:ys.getD m 0=d):d*B32^m<=nat ys:=by
 have a:=yC ys m;rw[qN ys oM,hd]at a;omega
theorem zTy{T:Nat}(b:k<=us.length)(h:nat us<B32^k*T):nat (us.drop k)<T:=by
 have c:=zCg us k b;have a:B32^k*nat (us.drop k)<B32^k*T:=oM;exact Nat.lt_of_mul_lt_mul_left a
theorem zUQ(d:s<32)(b:0<ul.length):nat ul%2^s=ul.getD 0 0%2^s:=by
 obtain⟨t,c⟩:∃t,2^s*t=4294967296:=⟨2^(32-s),by rw[<-zAS,show s+(32-s)=32 by omega]⟩;have a:=zCM ul 0 b;rw[xgk,zBV,<-c,zN]at a;rw[a,Nat.add_mul_mod_self_left]
theorem zHl(f:Option Addr)(n j:Nat)(xs:List Nat)(w:World)(r:xs.length=n)(y:n<=2)(c:qF w f xs):
  CPq 143 #[.slice f n j] w fun e w'=>e= .returned (.int .u64 (nat xs:Nat))/\w=w':=by
 match n,xs,r with
 |0,[],_=>
  go_enter Tryz.func143,Tryz.ntmps143;go_wp2;refine wp_loop_rounds 1 ?_;rw[rounds_succ];go_wp2;go_ret;exact⟨rfl,rfl⟩
 |1,[a],_=>
  obtain⟨b,off,x,rfl,p,z,g,q⟩:=c.limb (k:=0) sI;have s:x=a:=g.out.symm;subst s;rw[jJ]at q;have l:bits BinOp.or IntKind.u64 0 (x:Int)=(x:Int):=by have:=u64_or_nat 0 x oM oM;simpa using this
  have E:Hid (nat [x]=x):=by show _=_;simp[zBR]
  go_enter Tryz.func143,Tryz.ntmps143;go_wp2;refine wp_loop_rounds 2 ?_;rw[rounds_succ];go_wp2;rw[rounds_succ];go_wp2;go_ret;exact⟨by rw[E.out];rfl,rfl⟩
 | 2,[a,b],_=>
  obtain⟨t,off,o,p,d⟩:=c.cells sI;subst o;have h:=d 0 sI;have i:=d 1 sI;have m:a<4294967296:=c.1 a sI;have v:b<4294967296:=c.1 b sI;have l:bits BinOp.or IntKind.u64 0 (a:Int)=(a:Int):=by have:=u64_or_nat 0 a oM oM;simpa using this
  have u:bits BinOp.or IntKind.u64 (a:Int) ((b:Int)*4294967296)=((a+b*4294967296:Nat):Int):=by
   have:=u64_or_nat a (b*4294967296) oM oM;rw[Nat.or_comm,zNN b a m,zCJ]at this;rw[<-this];simp
  have E:Hid (nat [a,b]=a+b*4294967296):=by show _=_;simp[zBR,zBV];omega
  clear d;simp at h i;go_enter Tryz.func143,Tryz.ntmps143;go_wp2;refine wp_loop_rounds 3 ?_;rw[rounds_succ];go_wp2;rw[rounds_succ];go_wp2;rw[rounds_succ];go_wp2;go_ret;exact⟨by rw[E.out];rfl,rfl⟩
def zHq(w:World)(a b:Nat)(e:Ending)(w':World):Prop:=
 ∃qo ql qc qs ro rl rc rs,e= .returned (.tuple #[.slice qo ql qc,.slice ro rl rc])/\qs.length=ql/\ql<=qc/\qc<=9223372036854775807/\qF w' qo qs∧
  rs.length=rl/\rl<=rc/\rc<=9223372036854775807/\qF w' ro rs/\a=nat qs*b+nat rs/\nat rs<b/\BWq w w'
section
variable (ao1 ao2:Option Addr) (n1 cap1 n2 cap2:Nat) (xs ys:List Nat) (w:World) (hn1:xs.length=n1) (hn2:ys.length=n2) (hl1:n1<=cap1) (hl2:n2<=cap2)
  (hc1:cap1<=9223372036854775807) (hc2:cap2<=9223372036854775807) (hb1:n1<=2*LIM) (hb2:n2<=2*LIM) (hx1:qF w ao1 xs) (hx2:qF w ao2 ys) (hN1:zAL xs) (hN2:zAL ys) (hy:0<nat ys)
include hn1 hn2 hl1 hl2 hc1 hc2 hb1 hb2 hx1 hx2 hN1 hN2 hy
theorem zL2(i:nat xs<nat ys):CPq 115 #[.slice ao1 n1 cap1,.slice ao2 n2 cap2] w (zHq w (nat xs) (nat ys)):=by
 have c:=fun W a b=>zCk ao1 ao2 n1 cap1 n2 cap2 xs ys W hn1 hn2 hl1 hl2 hc1 hc2 a b hN1 hN2
 rw[zBb oM]at c;have d:=zH hn1;clear hn1 hn2;go_enter Tryz.func115,Tryz.ntmps115;go_wp2_with (go_at_call 113;refine(c _ hx1 hx2).mono ?_;rintro e n ⟨rfl,j,rfl⟩)
 refine(zD9 ao1 n1 cap1 xs _ d.out oM (hx1.ext (lx (drN _ _)))).mono ?_;rintro e o ⟨m,l,k,rfl,a,b,f,g,h⟩;go_wp2_with fail
 go_ret2;exact⟨_,_,_,[],_,_,_,xs,rfl,rfl,oM,oM,qF.nil _ _,a,b,f,g,by simp,i,nx (drN _ _) h⟩
theorem zNy(i:nat ys<=nat xs)(g:n1<=2):CPq 115 #[.slice ao1 n1 cap1,.slice ao2 n2 cap2] w (zHq w (nat xs) (nat ys)):=by
 have a7:n2<=n1:=by rw[<-hn1,<-hn2];exact zCV hx1.1 hN2 i
 have o:=fun W F g=>zCk ao1 ao2 n1 cap1 n2 cap2 xs ys W hn1 hn2 hl1 hl2 hc1 hc2 F g hN1 hN2
 obtain⟨d,n,a6⟩:∃d:Int,zAB (nat xs) (nat ys)=d/\0<=d:=⟨_,rfl,zEX oM⟩;rw[n]at o;clear n;have z:=fun W h=>zHl ao1 n1 cap1 xs W hn1 g h
 have A:=fun W h=>zHl ao2 n2 cap2 ys W hn2 oM h
 have y:nat xs<18446744073709551616:=by
  have G:=zCY hx1.1;have k:=zC0 (show xs.length<=2 by omega);rw[zBV]at k;have H:(4294967296:Nat)^2=18446744073709551616:=by decide
  rw[H]at k;rw[zBV]at G;omega
 have I:nat ys<18446744073709551616:=oM;obtain⟨a,l⟩:∃a,nat xs=a:=⟨_,rfl⟩;obtain⟨b,m⟩:∃b,nat ys=b:=⟨_,rfl⟩;rw[l]at z y i ⊢
 rw[m]at A I i hy ⊢
 clear hn1 hn2 l m;have t:=zE2 (a/b);have x:=zE2 (a%b);have s:a/b<18446744073709551616:=zM (zAs _ _) y;have v:a%b<b:=yE _ hy;have f:(a:Int)/(b:Int)=((a/b:Nat):Int):=by simp
 have j:(a:Int)%(b:Int)=((a%b:Nat):Int):=by simp
 have E:IntKind.u64.wrap ((a:Int)/(b:Int))=((a/b:Nat):Int):=by rw[f,zAF];generalize a/b=a8 at*;omega
 have c:Hid (a=a/b*b+a%b):=by show _=_;rw[zP];exact(jP a b).symm
 obtain⟨q,p⟩:∃q,a/b=q:=⟨_,rfl⟩;obtain⟨r,u⟩:∃r,a%b=r:=⟨_,rfl⟩;rw[p]at t s f E c;rw[u]at x v j c;clear p u;have a0:(a:Int).tdiv (b:Int)=(q:Int):=by rw[Int.tdiv_eq_ediv_of_nonneg oM];exact f
 have a1:(a:Int).tmod (b:Int)=(r:Int):=by rw[zBE oM];exact j
 have a2:IntKind.u64.wrap (q:Int)=(q:Int):=by rw[zAF];omega
 have a3:IntKind.u64.wrap (r:Int)=(r:Int):=by rw[zAF];omega
 have a5:¬ b=0:=oM;have a4:((b:Int)==0)=false:=by simp;omega
 go_enter Tryz.func115,Tryz.ntmps115;go_wp2_with (first
  |(go_at_call 113;refine(o _ hx1 hx2).mono ?_;rintro e D ⟨rfl,nd,rfl⟩)
  |(go_at_call_of 143 ao1;refine(z _ (hx1.ext (lx (drN _ _)))).mono ?_;rintro e D ⟨rfl,rfl⟩)
  |(go_at_call_of 143 ao2;refine(A _ (hx2.ext (lx (drN _ _)))).mono ?_;rintro e D ⟨rfl,rfl⟩))
 go_region_held3 (fun _=>True) (exact trivial)
  (first
   |(go_at_call_of 123 q;refine(t _ s).mono ?_;rintro e w1 ⟨R,Q,P,qs,rfl,J,K,L,M,N,O⟩)
   |(go_at_call_of 123 r;refine(x _ oM).mono ?_;rintro e w2 ⟨U,T,S,rs,rfl,V,X,Y,Z,B,C⟩))
 go_wp2_with fail
 go_ret2;exact⟨R,Q,P,qs,U,T,S,rs,rfl,J,K,L,M.ext (lx C),V,X,Y,Z,by rw[N,B];exact c.out,by rw[B];exact v,nx (nx (nx (drN _ _) (dr _)) O) C⟩
theorem zKg(t:nat ys<=nat xs)(i:2<n1)(f:n2=1):CPq 115 #[.slice ao1 n1 cap1,.slice ao2 n2 cap2] w (zHq w (nat xs) (nat ys)):=by
 have m:=fun W f i=>zCk ao1 ao2 n1 cap1 n2 cap2 xs ys W hn1 hn2 hl1 hl2 hc1 hc2 f i hN1 hN2
 obtain⟨c,l,F⟩:∃c:Int,zAB (nat xs) (nat ys)=c/\0<=c:=⟨_,rfl,zEX oM⟩;rw[l]at m;clear l;subst f;obtain⟨b,off,d,rfl,E,s,o,q⟩:=hx2.limb (k:=0) oM;rw[jJ]at q;have n:nat ys=d:=by
  match ys,hn2,o.out with
  | [y],_,h=>simp at h;simp[zBR,h]
 have u:=fun W h=>zQq ao1 n1 cap1 xs d W hn1 oM h oM s
 rw[n]at t hy ⊢
 have D:=zH hn1;clear hn1 hn2 n;go_enter Tryz.func115,Tryz.ntmps115;go_wp2_with (first
  |(go_at_call 113;refine(m _ hx1 hx2).mono ?_;rintro e H ⟨rfl,G,rfl⟩)
  |(go_at_call 144;refine(u _ (hx1.ext (lx (drN _ _)))).mono ?_;rintro e a ⟨g,qs,r,rfl,v,x,z,A,B,C⟩))
 go_ret2;have p:BWq w a:=nx (drN _ _) C;have j:BWq a (a.alloc (.cells #[.int .u32 (r:Nat)] tU)):=(zB _ _).alloc (xgf _) _;exact⟨_,_,_,qs,_,_,_,[r],rfl,z,xgf _,oM,(v.at_ x).ext (lx j),rfl,xgf _,oM,qF.one a r oM _ rfl,by simp[zBR];exact B,by simp[zBR];exact A,nx p j⟩
end
theorem zL3(H a8:Option Addr)(f I c J:Nat)(xs ys:List Nat)(w:World)(E:xs.length=f)(O:ys.length=c)(k3:f<=I)(k4:c<=J)
  (h9:I<=9223372036854775807) (i0:J<=9223372036854775807) (h8:f<=2*LIM) (a3:qF w H xs) (a4:qF w a8 ys) (g6:zAL xs) (V:zAL ys)
  (b5:nat ys<=nat xs) (i:2<f) (h:2<=c):CPq 115 #[.slice H f I,.slice a8 c J] w (zHq w (nat xs) (nat ys)):=by
 have n7:c<=f:=by rw[<-E,<-O];exact zCV a3.1 V b5
 have b4:=fun W h i=>zCk H a8 f I c J xs ys W E O k3 k4 h9 i0 h i g6 V
 obtain⟨cc,d2,m0⟩:∃cc:Int,zAB (nat xs) (nat ys)=cc/\0<=cc:=⟨_,rfl,zEX oM⟩;rw[d2]at b4;clear d2;obtain⟨b,off,d,rfl,l9,k0,R,m5⟩:=a4.limb (k:=c-1) oM;have i9:0<d:=by
  have:=V (c-1) oM;rw[R.out]at this;omega
 obtain⟨s,a0,d9,Z,d7⟩:=zR5 d w i9 k0;have e0:=fun W a9=>zLF H f I xs s W E oM a9 a0
 have e8:=fun W a9=>zLF (some ⟨b,off,none⟩) c J ys s W O oM a9 a0
 have c8:nat ys*2^s<B32^c:=by
  obtain⟨m,rfl⟩:∃m,c=m+1:=⟨c-1,oM⟩;have C:=yC ys m;rw[qN ys oM]at C;have e2:=zCY (a4.1.take m);rw[qM,zAt oM]at e2;rw[show m+1-1=m by omega]at R;rw[R.out]at C;have e3:nat ys<(d+1)*B32^m:=by rw[C,zS,yU];omega
  have e4:nat ys*2^s<(d+1)*B32^m*2^s:=(zBy (jH oM)).2 e3;have e5:(d+1)*B32^m*2^s=(d+1)*2^s*B32^m:=by rw[zN,zP (B32^m),<-zN]
  have e6:(d+1)*2^s<=B32:=by
   obtain⟨f4,ht⟩:∃f4,2^s*f4=4294967296:=⟨2^(32-s),by rw[<-zAS,show s+(32-s)=32 by omega]⟩;rw[<-ht,zP d]at Z;have:=Nat.lt_of_mul_lt_mul_left Z;rw[zBV,<-ht,zP];exact qA _ this
  have e7:=zK (B32^m) e6;rw[e5]at e4;rw[qE,zP (B32^m)];exact zI e4 e7
 have c9:nat xs*2^s<B32^f*2^s:=(zBy (jH oM)).2 (by have:=zCY a3.1;rwa[E]at this);have S:=zH c8;have a7:=zH c9;have l3:=zH E;have b7:=zH O;have l2:=zH b5;have f7:=zH d9;have l4:=zH Z;clear E O c8 c9 d9 Z b5;have f1:(c:Int)<=(c:Int)+1:=oM;have f2:(0:Int)<=(c:Int):=oM;rw[zAd]at h8;go_enter Tryz.func115,Tryz.ntmps115;go_wp2_with (first
  |(go_at_call 113;refine(b4 _ a3 a4).mono ?_;rintro e w' ⟨rfl,nd,rfl⟩)
  |(go_at_call 145;refine(d7 _).mono ?_;rintro e w' ⟨rfl,rfl⟩))
 refine zE ?_;intro T h7;have b0:BWq w T:=by rw[h7.out];exact drN _ _
 have f3:=lx (nx b0 (dr T));go_region_held3 (fun _=>True) (exact trivial)
  (first
   |(go_at_call_of 146 H;refine(e0 _ (a3.ext f3)).mono ?_;rintro e w1 ⟨o,us,rfl,p2,p3,p4,p5,p7,p6⟩)
   |(go_at_call_of 146 off;refine(e8 _ ((a4.ext f3).ext (lx p6))).mono ?_;rintro e Q ⟨A,r,rfl,s2,s3,s1,s4,s5,s6⟩))
 have k7:=fun W=>mkU ((f:Int)-c+1) (f-c+1) oM oM W
 go_upto_block 1 with(fail)
 clear k7;refine zE ?_;intro G L;have b6:nat (r.take c)=nat ys*2^s:=by
  have C:=zCg r c (by rw[s4];omega);rcases qY (nat (r.drop c))with h0|h0
  rw[h0,zBp,jJ,s5]at C;exact C.symm;exfalso;have h:=qJ (B32^c) h0;have i:=S.out;rw[<-s5]at i;omega
 have n3:T.heap.size<=o:=p2;have n4:o<w1.heap.size:=p3.lt;have n5:w1.heap.size<=A:=s2;have k2:A<Q.heap.size:=s3.lt;have c0:BWq w Q:=nx (nx (nx b0 (dr T)) p6) s6;have g3:BWq w G:=by rw[L.out];exact c0.alloc c0.size _
 have g9:zCG G o us:=by rw[L.out];exact(p3.ext (lx s6)).alloc _
 have h5:zCG G A r:=by rw[L.out];exact s3.alloc _
 have c6:zCG G Q.heap.size (List.replicate (f-c+1) 0):=by rw[L.out];exact zCG.made _ _
 have o0:w.heap.size<=o:=by have:=b0.size;omega
 have e9:zHn (nat xs*2^s) (nat ys*2^s) c (f-c+1) us (List.replicate (f-c+1) 0):=by
  refine⟨p4,fun x hx=>by rw[List.eq_of_mem_replicate hx];exact zBj,?_,?_⟩;rw[qX sI,p7,nat_nil,jZ,jZ,jC];refine zTy oM ?_;rw[p7];refine zI a7.out ?_;have h:=zGM V (n:=c-1) (by rw[b7.out];omega);have i:B32^f=B32^(f-c+1)*B32^(c-1):=by rw[<-zAS];congr 1;omega
  rw[i,zN];exact qA _ (zK _ h)
 have a2:(r.take c).length=c:=by rw[qM,s4];omega
 have d6:2147483648<=(r.take c).getD (c-1) 0:=by
  refine zSy (s1.take c) (by rw[a2];omega) ?_;rw[b6];have h:=zUW (ys:=ys) (m:=c-1) (by rw[b7.out];omega) R.out;have i:=zK (2^s) h;refine zF ?_ i;rw[zN,zP (B32^(c-1)),<-zN];exact zK _ f7.out
 have d3:=fun W j g2 ul K a1 P k5 t=>zPV o j g2 A 0 c c ul (r.take c) W K a1 P oM a2 h k5 (by rw[zAd];omega) d6 t
 have f5:=zH d3;have b9:=zH b6;have f8:=zH e9;have l5:=zH a2;clear d3 b6 e9 a2 d6 L e0 e8 b4 d7 s5 p7;obtain⟨W4,rfl⟩:∃W:World,W=G:=⟨_,rfl⟩;obtain⟨z,d5⟩:∃g,Q.heap.size=g:=⟨_,rfl⟩;rw[d5]at k2 c6 ⊢
 have m8:z<=Q.heap.size:=oM;clear d5;go_wp2;go_loopw [15] (fun B wr=>∃(k:Nat) (ul qs:List Nat),k<=f-c+1/\B= .int .i64 ((k:Int)-1)/\zCG wr o ul/\zCG wr z qs/\zCG wr A r/\BWq w wr/\ul.length=f+1/\qs.length=f-c+1∧
   Hid (zHn (nat xs*2^s) (nat ys*2^s) c k ul qs)) (fun B _=>(intOf B+1).toNat)
 case atStart=>exact⟨f-c+1,us,_,xgf _,by go_num,g9,c6,h5,g3,p5,by simp,f8.out⟩
 obtain⟨k,ul,qs,Y,rfl,K,t,hV,U,a1,d8,l⟩:=hrel;have f9:=zH a1;have b8:=zH d8;have n9:f+1<=ul.length:=oM;have n8:f-c+1<=qs.length:=oM;clear a1 d8;cases k with
 | zero=>
  have k8:=fun W=>mkU (c:Int) c rfl oM W
  go_upto_block 3 with(fail)
  clear k8;refine zE ?_;intro W5 M;obtain⟨D,N⟩:∃g,wr.heap.size=g:=⟨_,rfl⟩;have h4:zCG W5 o ul:=by rw[M.out];exact K.alloc _
  have g7:zCG W5 z qs:=by rw[M.out];exact t.alloc _
  have g8:zCG W5 D (List.replicate c 0):=by rw[M.out,<-N];exact zCG.made _ _
  have g5:BWq w W5:=by rw[M.out];exact U.alloc U.size _
  have n0:o<D:=by rw[<-N];exact K.lt
  have m9:z<D:=by rw[<-N];exact t.lt
  rw[N];have k9:Hid (ul.getD 0 0%2^s=0):=by
   show _=_;rw[<-zUQ a0 oM];have h:=l.out.eq;rw[xgk,zBq,zAp,<-zN]at h;have i:(nat xs*2^s)%2^s=0:=Nat.mul_mod_left _ _;rw[h,zP (nat qs*nat ys),Nat.mul_add_mod]at i;exact i
  have k6:Hid (nat ul<nat ys*2^s):=by have:=l.out.lt;rwa[xgk]at this
  have f0:Hid (ul.getD c 0=0/\nat (ul.take c)=nat ul):=by
   have h0:=l.out.zero S.out oM;rw[jC]at h0;have h:=zCg ul c oM;have i:=zCM ul c oM;rw[h0]at h i;exact⟨oM,by rw[h,zBp,jJ]⟩
  clear M N;obtain⟨W6,rfl⟩:∃W:World,W=W5:=⟨_,rfl⟩;go_wp2;go_loopw [103] (fun B wr=>∃(k:Nat) (rs:List Nat),k<=c/\B= .int .i64 k/\zCG wr o ul/\zCG wr z qs/\zCG wr D rs/\BWq w wr/\c<=rs.length∧
    Hid (rs.length=c/\zAV rs/\nat (rs.take k)*2^s=nat (ul.take k)+(ul.getD k 0%2^s)*B32^k)) (fun B _=>c-(intOf B).toNat)
  case atStart=>exact⟨0,_,oM,rfl,h4,g7,g8,g5,by simp,⟨by simp,fun x hx=>by rw[List.eq_of_mem_replicate hx];exact zBj,by rw[k9.out,zAW,zAW,nat_nil,jZ,jZ]⟩⟩
  obtain⟨k,rs,Y,rfl,b3,c7,X,c5,l0,y⟩:=hrel;by_cases n6:k<c
  .obtain⟨u,a5⟩:∃a,ul.getD (k+1) 0=a:=⟨_,rfl⟩
   obtain⟨F,a6⟩:∃a,ul.getD k 0=a:=⟨_,rfl⟩;have d0:u<4294967296:=by rw[<-a5];exact l.out.lim.get _
   have d1:F<4294967296:=by rw[<-a6];exact l.out.lim.get _
   have c1:=b3.cell (k:=k+1) oM;have c2:=b3.cell (k:=k) oM;have c3:=X.cell (k:=k) oM;have c4:=X.frozen k;rw[a5]at c1;rw[a6]at c2;have g1:=zH a5;have a7:=zH a6;obtain⟨m,hm⟩:∃m,u*4294967296+F=m:=⟨_,rfl⟩;have eo:=zNO u F d0 d1;rw[hm]at eo;have HM:=zH hm;clear hm;have l6:IntKind.u64.wrap (u:Int)=(u:Int):=by rw[zAF];omega
   have l7:IntKind.u64.wrap (F:Int)=(F:Int):=by rw[zAF];omega
   have l8:IntKind.u64.wrap ((u:Int)*4294967296)=(u:Int)*4294967296:=by rw[zAF];omega
   have i1:IntKind.i64.wrap ((k:Int)+1)=(k:Int)+1:=yB _ oM;have i2:((k:Int)+1).toNat=k+1:=oM;have i3:(0:Int)<=(k:Int)+1:=oM;have i4:(0:Int)<=(k:Int):=oM;have i5:(k:Int)<(c:Int):=oM;have i6:(k:Int)+1<(f:Int)+1:=oM;have i7:(k:Int)<(f:Int)+1:=oM;clear a5 a6;go_wp2;go_region_held3 (fun w'=>w'.cell? ⟨o,k+1,none⟩=some (.int .u32 (u:Nat))/\w'.cell? ⟨o,k,none⟩=some (.int .u32 (F:Nat)))
    ((((try go_split_ands);(repeat' apply And.intro))<;>first|exact zBr (by assumption)|exact zCf (by assumption) oM)) (fail)
   go_wp2;go_roundw
   case rel=>
    have P:((m/2^s%4294967296:Nat):Int)=IntKind.u32.wrap ((m:Int)/2^s):=by rw[zAg];simp
    have l1:=zLZ (ul:=ul) (rs:=rs) (k:=k) (s:=s) (v:=m/2^s%4294967296) a0 d0 d1 g1.out a7.out oM (by rw[HM.out]) y.out.2.2
    (repeat apply Exists.intro)
    exact⟨⟨k+1,rs.set k (m/2^s%4294967296),oM,by go_num,(qH _ _ _ _ (by simp;omega)).trans b3,(qH _ _ _ _ (by simp;omega)).trans c7,X.set' _ _ _ (by first|exact P.symm|(rw[P];done)|(rw[P];simp)),(c5.setCell (p:=⟨D,k,none⟩) (by show _<=D;omega) _).drew,by simpa using l0,
     ⟨by simpa using y.out.1,y.out.2.1.set _ _ (yE _ dE),l1⟩⟩,rfl⟩
   case measure=>exact meq
  obtain rfl:c=k:=oM;go_wp2;go_ret2;have h:=y.out.2.2;rw[f0.out.1,Nat.zero_mod,jZ,jJ,f0.out.2,qN rs (by rw[y.out.1];exact xgf _)]at h;have i:=l.out.eq;rw[xgk,zBq,zAp,<-h,<-zN,<-zS]at i;have h3:=k6.out;rw[<-h]at h3;have hp:0<2^s:=jH oM;exact⟨_,_,_,qs,_,_,_,rs,rfl,b8.out,xgf _,oM,c7.at_ l.out.qlim,y.out.1,xgf _,oM,X.at_ y.out.2.1,Nat.eq_of_mul_eq_mul_right hp i,Nat.lt_of_mul_lt_mul_right h3,c5⟩
 | succ k=>
  have k1:=t.frozen k;have i8:=t.cell (k:=k) oM;go_wp2_with fail
  rw[show k+c+1-k=c+1 by omega];refine(f5.out _ _ _ ul K l.out.lim ((hV.at_ s1).take c) oM ?_).mono ?_
  .rw[l.out.seg_eq S.out oM,b9.out]
   exact l.out.small oM
  rintro e w4 ⟨q,rs,rfl,t1,t2,t3,t4,t5,t6,t7⟩;have b2:zCG w4 z qs:=(t7.block z t.lt (by simp;omega)).trans t;have h6:zCG w4 A r:=(t7.block A hV.lt (by simp;omega)).trans hV;have m7:=b2.frozen k;have m6:=b2.cell (k:=k) oM;have g4:BWq w w4:=U.grown t7 U.size (fun k Y=>by injection Y with Y;omega);rw[b9.out]at t4 t5;have d4:=l.out.step S.out oM oM t1 t2 t3 t4 t5;have f6:=zH d4;clear i8 k1 t4 t5 d4;go_wp2;go_roundw
  case rel=>
   refine⟨k,put ul k rs,qs.set k q,oM,by go_num,?_,?_,?_,?_,?_,?_,f6.out⟩;exact(qH _ _ _ _ (by simp;omega)).trans t6;exact b2.set' _ _ _ rfl;exact(qH _ _ _ _ (by simp;omega)).trans h6;exact g4.setCell (by simp;omega) _;rw[zEI (by rw[t2];omega)];exact f9.out;simp[b8.out]
  case measure=>simp[intOf]
theorem zGm(e f:Option Addr)(b c a d:Nat)(xs ys:List Nat)(w:World)(p:xs.length=b)(g:ys.length=a)(n:b<=c)(o:a<=d)
  (l:c<=9223372036854775807) (m:d<=9223372036854775807) (k:b<=2*LIM) (t:a<=2*LIM) (q:qF w e xs) (r:qF w f ys) (i:zAL xs) (j:zAL ys) (s:0<nat ys):
  CPq 115 #[.slice e b c,.slice f a d] w (zHq w (nat xs) (nat ys)):=by
 rcases zJ (nat xs) (nat ys)with h|h
 exact zL2 e f b c a d xs ys w p g n o l m k t q r i j s h;by_cases v:b<=2
 .exact zNy e f b c a d xs ys w p g n o l m k t q r i j s h v
 by_cases u:a=1
 .exact zKg e f b c a d xs ys w p g n o l m k t q r i j s h oM u
 have x:a≠0:=by
  rintro rfl;have:ys= []:=zY g;subst this;simp at s
 exact zL3 e f b c a d xs ys w p g n o l m k q r i j h oM oM
def zRR(w:World)(z1 z2:Int)(e:Ending)(w':World):Prop:=
 ∃v1 v2,e= .returned (.tuple #[v1,v2,niq 0])/\yA w' v1 (z1/z2)/\yA w' v2 (z1%z2)/\BWq w w'
def dmQ(neg:Bool)(a b:Nat):Nat:=if neg=true/\0<a%b then a/b+1 else a/b
def dmR(neg:Bool)(a b:Nat):Nat:=if neg=true/\0<a%b then b-a%b else a%b
theorem zPX(c f:Bool)(a b:Nat)(n:0<b):sgn c a/sgn f b=sgn (c !=f) (dmQ c a b)/\sgn c a%sgn f b=(dmR c a b:Nat):=by
 have o:=yE a n;have i:=jP a b;have j:∀(z:Int) (q r:Int),z=q*b+r->0<=r->r<b->z/(b:Int)=q/\z%(b:Int)=r:=fun z q r k l m=>
  (Int.ediv_emod_unique oM).2 ⟨by rw[k,yN];omega,l,m⟩
 have g:sgn c a/(b:Int)=sgn c (dmQ c a b)/\sgn c a%(b:Int)=(dmR c a b:Nat):=by
  cases c with
  |false=>
   have d:dmQ false a b=a/b:=by unfold dmQ;rw[zA sI]
   have e:dmR false a b=a%b:=by unfold dmR;rw[zA sI]
   rw[d,e];simp
  | true=>
   by_cases h:0<a%b
   .have d:dmQ true a b=a/b+1:=by unfold dmQ;rw[zC ⟨rfl,h⟩]
    have e:dmR true a b=b-a%b:=by unfold dmR;rw[zC ⟨rfl,h⟩]
    rw[d,e];refine j _ _ _ ?_ oM oM;simp only[sgn_true];rw[yQ,zAa,zCb,zP]at*;have:((a/b*b:Nat):Int)+((a%b:Nat):Int)=(a:Int):=by exact_mod_cast i
    rw[yP]at this;omega
   have d:dmQ true a b=a/b:=by unfold dmQ;rw[zA (by simp;omega)]
   have e:dmR true a b=a%b:=by unfold dmR;rw[zA (by simp;omega)]
   rw[d,e];refine j _ _ _ ?_ oM oM;simp only[sgn_true];rw[yQ,zP]at*;have:((a/b*b:Nat):Int)+((a%b:Nat):Int)=(a:Int):=by exact_mod_cast i
   rw[yP]at this;omega
 cases f with
 |false=>simp only[sgn_false,Bool.bne_false];exact g
 |true=>
  simp only[sgn_true,Int.ediv_neg,Int.emod_neg,Bool.bne_true];rw[g.1,g.2,zKC];exact⟨rfl,rfl⟩
theorem zIa(d:xs.length=n)(e:zAV xs):zAU xs n=0↔nat xs=0:=by
 subst d;have a:=zCl xs;have b:=zIl xs;have c:=zD5 xs;rw[<-b,<-a];constructor;intro h;rw[zY h];rfl;intro h;rw[(zF1 c).1 h];rfl
theorem zHq.mod{w':World}{e:Ending}(h:zHq w a b e w'):
 ∃i d c qs j g f rs,e= .returned (.tuple #[.slice i d c,.slice j g f])/\qs.length=d/\d<=c/\c<=9223372036854775807/\qF w' i qs∧
  rs.length=g/\g<=f/\f<=9223372036854775807/\qF w' j rs/\Hid (nat qs=a/b/\nat rs=a%b)/\BWq w w':=by
 obtain⟨i,d,c,qs,j,g,f,rs,z,m,q,r,s,t,u,v,x,l,k,n⟩:=h;have y:0<b:=oM;have o:a/b=nat qs:=by rw[l,zP,Nat.mul_add_div y,Nat.div_eq_of_lt k];rfl
 have p:a%b=nat rs:=by rw[l,zP,Nat.mul_add_mod,Nat.mod_eq_of_lt k]
 exact⟨i,d,c,qs,j,g,f,rs,z,m,q,r,s,t,u,v,x,⟨o.symm,p.symm⟩,n⟩
theorem zCQ{r:Nat}{v:Array Value}(b:Blk W r 51 v)(a:v.size=2):(loadVar 51 ⟨r,0,none⟩).run Tryz.prog W= .ok (.agg v) W:=
 run_loadVar_row W r _ _ v _ _ b Tryz.underlying51 rfl (by rw[zEU,a])
theorem zEl{fn:Func}{a b u:Tmp}(h:fn.results=#[.cell a 51,.cell b 51,.tmp u])(tmps:Array Value){W:World}{c d:Nat}{e f:Array Value}
  (l:tmps.getD a undef=ptq c 0) (n:tmps.getD b undef=ptq d 0) (j:Blk W c 51 e) (k:Blk W d 51 f) (g:e.size=2) (i:f.size=2):
  (results fn tmps).run Tryz.prog W= .ok (.tuple #[.agg e,.agg f,tmps.getD u undef]) W:=by
 have m:tmps[a]?.getD undef=ptq c 0:=by simpa using l
 have o:tmps[b]?.getD undef=ptq d 0:=by simpa using n
 simp[results,h,m,o,asAddr,zCQ j g,zCQ k i]
theorem zIS{fn:Func}{a b c:Tmp}(h:fn.results=#[.cell a 51,.cell b 51,.cell c 51])(tmps:Array Value){W:World}{d e f:Nat}{g i j:Array Value}
  (q:tmps.getD a undef=ptq d 0) (s:tmps.getD b undef=ptq e 0) (u:tmps.getD c undef=ptq f 0)
  (n:Blk W d 51 g) (o:Blk W e 51 i) (p:Blk W f 51 j) (k:g.size=2) (l:i.size=2) (m:j.size=2):
  (results fn tmps).run Tryz.prog W= .ok (.tuple #[.agg g,.agg i,.agg j]) W:=by
 have r:tmps[a]?.getD undef=ptq d 0:=by simpa using q
 have t:tmps[b]?.getD undef=ptq e 0:=by simpa using s
 have v:tmps[c]?.getD undef=ptq f 0:=by simpa using u
 simp[results,h,r,t,v,asAddr,zCQ n k,zCQ o l,zCQ p m]
theorem zCU(v1 v2:Value)(z1 V:Int)(w:World)(a:zHR w v1 z1)(h2:zHR w v2 V)(s1:Sm z1)(s2:Sm V)(hz:V≠0):CPq 73 #[v1,v2] w (zRR w z1 V):=by
 obtain⟨a4,ao1,n1,cap1,xs,rfl,hn1,hl1,hc1,hx1,hN1,c6,a7⟩:=a.len s1;obtain⟨p,ao2,n2,cap2,ys,rfl,hn2,hl2,hc2,hx2,hN2,b9,a8⟩:=h2.len s2;have b3:=fun W x=>zB3 ao1 n1 cap1 xs W hn1 hl1 hc1 x
 rw[<-hn1,zAT hN1,hn1]at b3;have b4:=fun W x=>zB3 ao2 n2 cap2 ys W hn2 hl2 hc2 x
 rw[<-hn2,zAT hN2,hn2]at b4;have Q:Hid (0<nat ys):=by
  show _<_;rcases qY (nat ys)with h|h
  exact absurd (by rw[b9,h,zHh]) hz;exact h
 have d4:0<n2:=by
  rcases qY n2 with h|h
  .rw[h]at hn2
   have:=zY hn2;subst this;exact absurd Q.out sI
  exact h
 have z:Hid (z1/V=sgn (a4 !=p) (dmQ a4 (nat xs) (nat ys))/\z1%V=(dmR a4 (nat xs) (nat ys):Nat)):=by
  rw[c6,b9];exact zPX a4 p _ _ Q.out
 have b0:=zH hn1;have a5:=zH hn2;have d5:((n2:Int)==0)=false:=by simp;omega
 have c8:n1<=2*LIM:=oM;have c9:n2<=2*LIM:=oM;clear hn1 hn2 c6 b9 s1 s2 a h2 hz;rw[zAd]at a7 a8;replace a7:=c8;replace a8:=c9;cases a4 with
 | false=>
  have a2:(false !=p)=p:=by cases p<;>rfl
  rw[a2]at z;clear a2;go_enter Tryz.func73,Tryz.ntmps73;go_upto_region 1 with(fail)
  refine zE ?_;intro W0 b2;obtain⟨L,c,d,l,m,d0⟩:=zLb b2;have b7:=hx1.ext (lx L);have b8:=hx2.ext (lx L);have J:=c.two;have K:=d.two;go_quiet ((first|(go_at_call_of 110 ao1;exact yK ((b3 _ (b7.ext (lx (drN _ _)))).mono (by rintro e U ⟨rfl,rfl⟩;exact⟨rfl,rfl⟩)))|(go_at_call_of 110 ao2;exact yK ((b4 _ (b8.ext (lx (drN _ _)))).mono (by rintro e U ⟨rfl,rfl⟩;exact⟨rfl,rfl⟩)))));go_upto_region 4 with(fail)
  refine zE ?_;intro W1 k;have M:BWq w W1:=by rw[k.out];exact nx L (drN _ _)
  have Z:=qW k c;have a0:=qW k d;have X:=qW k l;have Y:=qW k m;clear J K k c d l m;go_wp2_with fail
  refine(zGm ao1 ao2 n1 n1 n2 n2 xs ys _ b0.out a5.out (xgf _) (xgf _) oM oM a7 a8 (hx1.ext (lx M)) (hx2.ext (lx M)) hN1 hN2 Q.out).mono ?_;intro e w2 a1;obtain⟨qo,P,qc,qs,T,y,rc,rs,rfl,p1,p2,p3,p4,O,p6,p7,E,b,hb2⟩:=a1.mod;have c:=Z.I hb2;have d:=a0.I hb2;have l:=X.I hb2;have m:=Y.I hb2;have a6:=nx M hb2;have J:=c.two;have K:=d.two;have b6:=zDR rs y;obtain⟨t,j⟩:∃t,zAU rs y=t:=⟨_,rfl⟩;rw[j]at b6;have a3:=fun W x=>zB3 T y rc rs W O p6 p7 x
  rw[j]at a3;have i:Hid ((t=0↔nat rs=0)/\nat (rs.take t)=nat rs/\(rs.take t).length=t/\zAL (rs.take t)):=by
   refine⟨by rw[<-j];exact zIa O E.1,?_,?_,by rw[<-j];exact zCX rs y oM⟩
   .have a:=zCl rs
    unfold zDU at a;rw[O,j]at a;exact a
   rw[qM];omega
  clear j a1 Z a0 X Y;go_wp2_with fail
  refine(a3 _ E).mono ?_;rintro e U ⟨rfl,rfl⟩;go_wp2_with fail
  have hQ:nat qs=dmQ false (nat xs) (nat ys):=by rw[b.out.1];unfold dmQ;rw[zA sI]
  have hR:sgn false (nat (rs.take t))=(dmR false (nat xs) (nat ys):Nat):=by rw[i.out.2.1,b.out.2];unfold dmR;rw[zA sI];rfl
  refine(zBG p qo P qc qs _ p1 p2 p3 p4).mono ?_;rintro e w5 ⟨v1,rfl,B,f⟩;go_wp2_with fail
  refine(zBG false T t t (rs.take t) _ i.out.2.2.1 (xgf _) oM ((E.take t).ext (lx f))).mono ?_;rintro e w6 ⟨v2,rfl,D,g⟩;have n:=(l.I f).I g;have o:=(m.I f).I g;have e1:=n.two;have g1:=o.two;have C:=B.ext (lx g);rw[hQ]at C;rw[hR]at D;clear B;obtain⟨v,q,s,r,qx,rfl,hq⟩:=C;obtain⟨I,F,H,G,rx,rfl,hr⟩:=D;go_wp2_with fail
  refine bodyPost_ret (zEl rfl _ rfl rfl (((n.put2 _ _).far oM _ _).far oM _ _) (((o.far oM _ _).far oM _ _).put2 _ _) rfl rfl) rfl ?_;have A:=(n.lext2 dE (.bool v) (.slice q s r)).trans (((o.far oM 0 (.bool v)).far oM 1 (.slice q s r)).lext2 dE (.bool I) (.slice F H G));refine⟨_,_,rfl,?_,?_,yM (yM (yM (yM (nx (nx a6 f) g) oM 0 _) oM 1 _) oM 0 _) oM 1 _⟩
  .rw[z.out.1]
   exact yA.ext ⟨v,q,s,r,qx,rfl,hq⟩ A
  rw[z.out.2];exact yA.ext ⟨I,F,H,G,rx,rfl,hr⟩ A
 | true=>
  have a2:(true !=p)=(!p):=by cases p<;>rfl
  rw[a2]at z;clear a2;go_enter Tryz.func73,Tryz.ntmps73;go_upto_region 1 with(fail)
  refine zE ?_;intro W0 b2;obtain⟨L,c,d,l,m,d0⟩:=zLb b2;have b7:=hx1.ext (lx L);have b8:=hx2.ext (lx L);have J:=c.two;have K:=d.two;go_quiet ((first|(go_at_call_of 110 ao1;exact yK ((b3 _ (b7.ext (lx (drN _ _)))).mono (by rintro e U ⟨rfl,rfl⟩;exact⟨rfl,rfl⟩)))|(go_at_call_of 110 ao2;exact yK ((b4 _ (b8.ext (lx (drN _ _)))).mono (by rintro e U ⟨rfl,rfl⟩;exact⟨rfl,rfl⟩)))));go_upto_region 4 with(fail)
  refine zE ?_;intro W1 k;have M:BWq w W1:=by rw[k.out];exact nx L (drN _ _)
  have Z:=qW k c;have a0:=qW k d;have X:=qW k l;have Y:=qW k m;clear J K k c d l m;go_wp2_with fail
  refine(zGm ao1 ao2 n1 n1 n2 n2 xs ys _ b0.out a5.out (xgf _) (xgf _) oM oM a7 a8 (hx1.ext (lx M)) (hx2.ext (lx M)) hN1 hN2 Q.out).mono ?_;intro e w2 a1;obtain⟨qo,P,qc,qs,T,y,rc,rs,rfl,p1,p2,p3,p4,O,p6,p7,E,b,hb2⟩:=a1.mod;have c:=Z.I hb2;have d:=a0.I hb2;have l:=X.I hb2;have m:=Y.I hb2;have a6:=nx M hb2;have J:=c.two;have K:=d.two;have b6:=zDR rs y;obtain⟨t,j⟩:∃t,zAU rs y=t:=⟨_,rfl⟩;rw[j]at b6;have a3:=fun W x=>zB3 T y rc rs W O p6 p7 x
  rw[j]at a3;have i:Hid ((t=0↔nat rs=0)/\nat (rs.take t)=nat rs/\(rs.take t).length=t/\zAL (rs.take t)):=by
   refine⟨by rw[<-j];exact zIa O E.1,?_,?_,by rw[<-j];exact zCX rs y oM⟩
   .have a:=zCl rs
    unfold zDU at a;rw[O,j]at a;exact a
   rw[qM];omega
  clear j a1 Z a0 X Y;go_wp2_with fail
  refine(a3 _ E).mono ?_;rintro e U ⟨rfl,rfl⟩;by_cases b5:t=0
  .have c5:Hid (nat rs=0):=i.out.1.1 b5
   have c4:Hid (nat (rs.take t)=nat rs/\(rs.take t).length=t):=⟨i.out.2.1,i.out.2.2.1⟩;clear i;subst b5;go_wp2_with fail
   have hQ:nat qs=dmQ true (nat xs) (nat ys):=by rw[b.out.1];unfold dmQ;rw[zA (by rw[<-b.out.2,c5.out];simp)]
   have hR:sgn false (nat (rs.take 0))=(dmR true (nat xs) (nat ys):Nat):=by rw[c4.out.1,b.out.2];unfold dmR;rw[zA (by rw[<-b.out.2,c5.out];simp)];rfl
   refine(zBG (!p) qo P qc qs _ p1 p2 p3 p4).mono ?_;rintro e w5 ⟨v1,rfl,B,f⟩;go_wp2_with fail
   refine(zBG false T 0 0 (rs.take 0) _ c4.out.2 (xgf _) oM ((E.take 0).ext (lx f))).mono ?_;rintro e w6 ⟨v2,rfl,D,g⟩;have n:=(l.I f).I g;have o:=(m.I f).I g;have e1:=n.two;have g1:=o.two;have C:=B.ext (lx g);rw[hQ]at C;rw[hR]at D;clear B;obtain⟨v,q,s,r,qx,rfl,hq⟩:=C;obtain⟨I,F,H,G,rx,rfl,hr⟩:=D;go_wp2_with fail
   refine bodyPost_ret (zEl rfl _ rfl rfl (((n.put2 _ _).far oM _ _).far oM _ _) (((o.far oM _ _).far oM _ _).put2 _ _) rfl rfl) rfl ?_;have A:=(n.lext2 dE (.bool v) (.slice q s r)).trans (((o.far oM 0 (.bool v)).far oM 1 (.slice q s r)).lext2 dE (.bool I) (.slice F H G));refine⟨_,_,rfl,?_,?_,yM (yM (yM (yM (nx (nx a6 f) g) oM 0 _) oM 1 _) oM 0 _) oM 1 _⟩
   .rw[z.out.1]
    exact yA.ext ⟨v,q,s,r,qx,rfl,hq⟩ A
   rw[z.out.2];exact yA.ext ⟨I,F,H,G,rx,rfl,hr⟩ A
  have d6:(0:Int)<(t:Int):=oM;have c2:Hid (0<nat rs):=Nat.pos_of_ne_zero (fun h=>b5 (i.out.1.2 h));have c3:=fun W x=>zB3 qo P qc qs W p1 p2 p3 x
  have d2:=zDR qs P;obtain⟨u,HU⟩:∃u,zAU qs P=u:=⟨_,rfl⟩;rw[HU]at c3 d2;have a9:Hid (nat (qs.take u)=nat qs/\(qs.take u).length=u):=by
   refine⟨?_,by rw[qM];omega⟩;have a:=zCl qs;unfold zDU at a;rw[p1,HU]at a;exact a
  have d3:u<=4*LIM:=by
   have a:zAL (qs.take u):=by rw[<-HU];exact zCX qs P oM
   have h2:=zCV hx1.1 a (by rw[a9.out.1,b.out.1];exact zAs _ _);rw[a9.out.2,b0.out]at h2;omega
  clear HU;go_wp2_with fail
  refine(c3 _ p4).mono ?_;rintro e U ⟨rfl,rfl⟩;go_wp2_with fail
  have N:BWq w2 (w2.alloc (.cells #[.int .u32 1] tU)):=(zB _ _).alloc (xgf _) _;refine(zNS qo (some ⟨w2.heap.size,0,none⟩) u u 1 1 (qs.take u) [1] _ a9.out.2 rfl (xgf _) (xgf _) oM oM d3 (by rw[zAd];omega) ((p4.take u).ext (lx N)) (qF.one w2 1 oM 1 rfl)).mono ?_;rintro e w3 ⟨ko,kl,kc,ks,rfl,k1,k2,k3,k4,k5,R⟩;have c0:=nx (nx a6 N) R;go_wp2_with fail
  refine(zIC ao2 T n2 n2 t t ys (rs.take t) _ a5.out i.out.2.2.1 (xgf _) (xgf _) oM oM oM (hx2.ext (lx c0)) ((E.take t).ext (lx (nx N R))) (by have h:=zCV hx2.1 i.out.2.2.2 (by rw[i.out.2.1,b.out.2];exact zAc (yE _ Q.out));rw[i.out.2.2.1,a5.out]at h;exact h) (by rw[i.out.2.1,b.out.2];exact zAc (yE _ Q.out))).mono ?_;rintro e w4 ⟨lo,ll,lc,ls,rfl,l1,l2,l3,l4,l5,S⟩;have c7:=nx c0 S;replace l:=((l.I N).I R).I S;replace m:=((m.I N).I R).I S;replace c:=((c.I N).I R).I S;replace d:=((d.I N).I R).I S;clear J K;have J:=c.two;have K:=d.two;go_wp2_with fail
  have hQ:nat ks=dmQ true (nat xs) (nat ys):=by
   rw[k5,a9.out.1,b.out.1];unfold dmQ;rw[zC ⟨rfl,by rw[<-b.out.2];exact c2.out⟩];rfl
  have hR:sgn false (nat ls)=(dmR true (nat xs) (nat ys):Nat):=by
   rw[l5,i.out.2.1,b.out.2];unfold dmR;rw[zC ⟨rfl,by rw[<-b.out.2];exact c2.out⟩];rfl
  refine(zBG (!p) ko kl kc ks _ k1 k2 k3 (k4.ext (lx S))).mono ?_;rintro e w5 ⟨v1,rfl,B,f⟩;go_wp2_with fail
  refine(zBG false lo ll lc ls _ l1 l2 l3 (l4.ext (lx f))).mono ?_;rintro e w6 ⟨v2,rfl,D,g⟩;have n:=(l.I f).I g;have o:=(m.I f).I g;have e1:=n.two;have g1:=o.two;have C:=B.ext (lx g);rw[hQ]at C;rw[hR]at D;clear B;obtain⟨v,q,s,r,qx,rfl,hq⟩:=C;obtain⟨I,F,H,G,rx,rfl,hr⟩:=D;go_wp2_with fail
  refine bodyPost_ret (zEl rfl _ rfl rfl (((n.put2 _ _).far oM _ _).far oM _ _) (((o.far oM _ _).far oM _ _).put2 _ _) rfl rfl) rfl ?_;have A:=(n.lext2 dE (.bool v) (.slice q s r)).trans (((o.far oM 0 (.bool v)).far oM 1 (.slice q s r)).lext2 dE (.bool I) (.slice F H G));refine⟨_,_,rfl,?_,?_,yM (yM (yM (yM (nx (nx c7 f) g) oM 0 _) oM 1 _) oM 0 _) oM 1 _⟩
  .rw[z.out.1]
   exact yA.ext ⟨v,q,s,r,qx,rfl,hq⟩ A
  rw[z.out.2];exact yA.ext ⟨I,F,H,G,rx,rfl,hr⟩ A
theorem zBQ(M:Option Addr)(n l:Nat)(xs:List Nat)(neg:Bool)(w:World)(G:xs.length=n)(W:n<=l)(T:l<=9223372036854775807)(P:n<=8*LIM)(Q:qF w M xs):
  CPq 43 #[.slice M n l,.bool neg] w (zBk w (sgn neg (nat xs))):=by
 have R:=zH G;have X:xs.length<=n:=oM;have Y:n<=xs.length:=oM;rw[zAd]at P;have O:Hid (∀k,zAU xs k=zAU xs n->zAU xs n=k->(zAL (xs.take k)/\nat (xs.take k)=nat xs)):=fun k _ h=>by
  have d:=zCl xs;have e:=zD5 xs;unfold zDU at d e;rw[G,h]at d e;exact⟨e,d⟩
 clear G;go_enter Tryz.func43,Tryz.ntmps43;go_upto_region 1 with(fail)
 refine zE ?_;intro a N;obtain⟨z,B,Z⟩:=qL N;have I:=Q.ext (lx z);clear N;go_wp2;go_loop [5] (fun v=>∃k:Nat,k<=n/\v=niq k/\Hid (zAU xs k=zAU xs n)) (fun v=>(intOf v).toNat)
 case atStart=>exact⟨n,xgf _,rfl,rfl⟩
 obtain⟨k,V,rfl,s⟩:=hrel;have y:Hid ((xs.take k).length=k):=by show _=_;rw[qM];omega
 cases k with
 | zero=>
  have u:Hid (zAL (xs.take 0)/\nat (xs.take 0)=nat xs):=O.out 0 s.out s.out.symm;have K:Hid (nat xs=0):=u.out.2.symm;cases neg with
  |false=>
   go_wp2_with (at_builtin;refine zM5 rfl _ _ rfl a.heap.size (slq a.heap.size 0 0) [] rfl (zHp.empty a _ (xgf _)) _ 0 l ([]:List Nat) rfl (qF.nil _ _) rfl (by first|(simp;done)|(simp;omega)) sI ?_;intro J t r q;have f:BWq a t:=((zB _ _).alloc (xgf _) _).grown q sI (fun g p=>by simp[Value.ownBlock]at p;omega);have c:=B.I f;obtain⟨C,D,E,F⟩:=c.two;obtain⟨j,m,i,d,e,o⟩:=r.at_;rw[zA6,show([]:List Nat).length=0 from rfl]at i d;subst i)
   refine yS rfl rfl rfl (c.put2 _ _) ?_ (yM (yM (nx z f) oM 0 _) oM 1 _);refine yA.ext ?_ (c.lext2 dE _ _);exact⟨false,j,0,m,[],rfl,rfl,d,e,by simpa using o,zAL.nil,by rw[K.out];rfl,by simp⟩
  |true=>
   go_wp2_with (at_builtin;refine zM5 rfl _ _ rfl a.heap.size (slq a.heap.size 0 0) [] rfl (zHp.empty a _ (xgf _)) _ 0 l ([]:List Nat) rfl (qF.nil _ _) rfl (by first|(simp;done)|(simp;omega)) sI ?_;intro J t r q;have f:BWq a t:=((zB _ _).alloc (xgf _) _).grown q sI (fun g p=>by simp[Value.ownBlock]at p;omega);have c:=B.I f;obtain⟨C,D,E,F⟩:=c.two;obtain⟨j,m,i,d,e,o⟩:=r.at_;rw[zA6,show([]:List Nat).length=0 from rfl]at i d;subst i)
   refine yS rfl rfl rfl (c.put2 _ _) ?_ (yM (yM (nx z f) oM 0 _) oM 1 _);refine yA.ext ?_ (c.lext2 dE _ _);exact⟨false,j,0,m,[],rfl,rfl,d,e,by simpa using o,zAL.nil,by rw[K.out];rfl,by simp⟩
 | succ k=>
  obtain⟨b,off,x,rfl,S,a0,L,U⟩:=I.limb (k:=k) oM;by_cases A:x=0
  .have H:Hid (zAU xs k=zAU xs n):=by
    have:=s.out;rw[show zAU xs (k+1)=if xs.getD k 0=0 then zAU xs k else k+1 from rfl,zC (L.out.trans A)]at this;exact this
   subst A;clear s;go_wp2;go_round
   case rel=>exact⟨k,oM,by go_num,H⟩
   case measure=>simp[intOf]
  have H:Hid (zAU xs n=k+1):=by
   have:=s.out;rw[show zAU xs (k+1)=if xs.getD k 0=0 then zAU xs k else k+1 from rfl,zA (by rw[L.out];exact A)]at this;exact this.symm
  have u:Hid (zAL (xs.take (k+1))/\nat (xs.take (k+1))=nat xs):=O.out (k+1) s.out H.out;have a1:((x:Int)==0)=false:=by simpa using A
  clear A s;cases neg with
  |false=>
   go_wp2_with (at_builtin;refine zM5 rfl _ _ rfl a.heap.size (slq a.heap.size 0 0) [] rfl (zHp.empty a _ (xgf _)) _ (k+1) l (xs.take (k+1)) rfl ((I.take (k+1)).ext (lx ((zB _ _).alloc (xgf _) _))) y.out (by first|(simp;done)|(simp;omega)) sI ?_;intro J t r q;have f:BWq a t:=((zB _ _).alloc (xgf _) _).grown q sI (fun g p=>by simp[Value.ownBlock]at p;omega);have c:=B.I f;obtain⟨C,D,E,F⟩:=c.two;obtain⟨j,m,i,d,e,o⟩:=r.at_;rw[zA6,show(xs.take (k+1)).length=(k+1) from y.out]at i d;subst i)
   refine yS rfl rfl rfl (c.put2 _ _) ?_ (yM (yM (nx z f) oM 0 _) oM 1 _);refine yA.ext ?_ (c.lext2 dE _ _);exact⟨false,j,k+1,m,xs.take (k+1),rfl,y.out,d,e,by simpa using o,u.out.1,by rw[u.out.2];rfl,by simp⟩
  |true=>
   go_wp2_with (at_builtin;refine zM5 rfl _ _ rfl a.heap.size (slq a.heap.size 0 0) [] rfl (zHp.empty a _ (xgf _)) _ (k+1) l (xs.take (k+1)) rfl ((I.take (k+1)).ext (lx ((zB _ _).alloc (xgf _) _))) y.out (by first|(simp;done)|(simp;omega)) sI ?_;intro J t r q;have f:BWq a t:=((zB _ _).alloc (xgf _) _).grown q sI (fun g p=>by simp[Value.ownBlock]at p;omega);have c:=B.I f;obtain⟨C,D,E,F⟩:=c.two;obtain⟨j,m,i,d,e,o⟩:=r.at_;rw[zA6,show(xs.take (k+1)).length=(k+1) from y.out]at i d;subst i)
   refine yS rfl rfl rfl (c.put2 _ _) ?_ (yM (yM (nx z f) oM 0 _) oM 1 _);refine yA.ext ?_ (c.lext2 dE _ _);exact⟨true,j,k+1,m,xs.take (k+1),rfl,y.out,d,e,by simpa using o,u.out.1,by rw[u.out.2];rfl,by simp⟩
theorem zDK{P:Program}{f:FuncId}{args:Array Value}{R:Ending->World->Prop}(h:∀W0,Hid (W0=w)->Calls P f args W0 R):Calls P f args w R:=h w rfl
theorem zP3{m k:Int}(h:Blk w g tU #[.int .u32 m,.int .u32 k])(f:a<4294967296)(i:b<4294967296)(d:m=a)(c:k=b):qF w (some ⟨g,0,none⟩) [a,b]:=by
 subst d;subst c;exact zCG.at_ (xs:=[a,b]) h (fun x e=>by simp at e;unfold B32;omega)
theorem zC2(n:Int)(w:World)(D:-9223372036854775808<=n)(E:n<=9223372036854775807):
  CPq 14 #[niq n] w (zBk w n):=by
 obtain⟨m,r⟩:∃m,n.natAbs=m:=⟨_,rfl⟩;have F:m<=9223372036854775808:=oM;have z:([m%4294967296,m/4294967296]:List Nat).length=2:=rfl;have t:nat [m%4294967296,m/4294967296]=m:=by simp[zBR,zBV];omega
 have u:Hid (sgn (decide (n<0)) (nat [m%4294967296,m/4294967296])=n):=by show _=_;rw[t];by_cases h:n<0<;>simp[h,sgn]<;>omega
 clear t z;by_cases s:n<0
 .have e:IntKind.u64.wrap (-IntKind.u64.wrap n)=((m:Nat):Int):=by simp only[IntKind.wrap_u64];omega
  have j:Hid (sgn true (nat [m%4294967296,m/4294967296])=n):=by have:=u.out;rw[show decide (n<0)=true by simpa using s]at this;exact this
  clear r;go_enter Tryz.func14,Tryz.ntmps14;go_wp2_with fail
  refine zDK ?_;intro x g;obtain⟨f,d,c,A⟩:=jW g;refine(zBQ _ 2 2 [m%4294967296,m/4294967296] true _ rfl (xgf _) oM (by rw[zAd];omega) (zP3 c oM oM (by simp[IntKind.wrap_u32]) (by simp[IntKind.wrap_u32]))).mono ?_;rintro y C ⟨v,rfl,b,hb2⟩;have a:=d.I hb2;have B:=a.two;rw[j.out]at b;obtain⟨p,k,o,l,q,rfl,i⟩:=b;go_wp2_with fail
  refine yS rfl rfl rfl (a.put2 _ _) ?_ (yM (yM (nx f hb2) oM 0 _) oM 1 _);exact yA.ext ⟨p,k,o,l,q,rfl,i⟩ (a.lext2 dE _ _)
 have e:IntKind.u64.wrap n=((m:Nat):Int):=by simp only[IntKind.wrap_u64];omega
 have j:Hid (sgn false (nat [m%4294967296,m/4294967296])=n):=by have:=u.out;rw[show decide (n<0)=false by simpa using s]at this;exact this
 clear r;go_enter Tryz.func14,Tryz.ntmps14;go_wp2_with fail
 refine zDK ?_;intro x g;obtain⟨f,d,c,A⟩:=jW g;refine(zBQ _ 2 2 [m%4294967296,m/4294967296] false _ rfl (xgf _) oM (by rw[zAd];omega) (zP3 c oM oM (by simp[IntKind.wrap_u32]) (by simp[IntKind.wrap_u32]))).mono ?_;rintro y C ⟨v,rfl,b,hb2⟩;have a:=d.I hb2;have B:=a.two;rw[j.out]at b;obtain⟨p,k,o,l,q,rfl,i⟩:=b;go_wp2_with fail
 refine yS rfl rfl rfl (a.put2 _ _) ?_ (yM (yM (nx f hb2) oM 0 _) oM 1 _);exact yA.ext ⟨p,k,o,l,q,rfl,i⟩ (a.lext2 dE _ _)
end Go.Proofs.YtniiekppgdkknaaGreat
