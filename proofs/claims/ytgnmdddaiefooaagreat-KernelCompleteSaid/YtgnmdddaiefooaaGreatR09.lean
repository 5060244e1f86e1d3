/- The reference's integers, seventh part: short. The reference's integers, eighth part: estimate. -/
import Derived.Test.YtgnmdddaiefooaaGreatR08
set_option linter.unusedVariables false
set_option linter.unusedSimpArgs false
set_option linter.unusedSectionVars false
set_option maxHeartbeats 16000000
set_option maxRecDepth 100000
namespace Go.Proofs.YtgnmdddaiefooaaGreat
open Go.RowKit
theorem zEn(ao:Option Addr)(n cap:Nat)(xs:List Nat)(d:Nat)(w:World)(hn:xs.length=n)(hb:n<=4*LIM)(hx:zG w ao xs)(hd0:0<d)(hd:d<4294967296):
  Calls Tryz.prog 148 #[.slice ao n cap,.int .u32 (d:Nat)] w fun e w'=>
   ∃g qs r,e= .returned (.tuple #[.slice (some ⟨g,0,none⟩) n n,.int .u32 (r:Nat)])/\jJ w' g qs/\qN qs/\qs.length=n/\r<d/\nat xs=nat qs*d+r/\Below w.heap.size w w':=by
 have HN:=Lib.hid hn;have hlen1:xs.length<=n:=by omega
 have hlen1':n<=xs.length:=by omega
 clear hn;rw[yA]at hb;have hmk:=fun W=>mkU (n:Int) n oM oM W
 go_enter Tryz.func148,Tryz.ntmps148;go_wp2;clear hmk;go_loopw [7,8] (fun rv i wr=>∃(k r:Nat) (zs:List Nat),k<=n/\i= .int .i64 ((k:Int)-1)/\rv= .int .u64 r/\r<d/\jJ wr w.heap.size zs/\Below w.heap.size w wr/\n<=zs.length∧
   Hid (zs.length=n/\qN zs/\nat (xs.drop k)=nat (zs.drop k)*d+r)) (fun _ i _=>(intOf i+1).toNat)
 case atStart=>exact⟨n,0,List.replicate n 0,by omega,by go_num,rfl,by omega,jJ.made _ _,(Below.refl _ _).alloc (xgf _) _,by simp,⟨by simp,fun x hx=>by rw[List.eq_of_mem_replicate hx];exact yT,by rw[List.drop_eq_nil_of_le hlen1,List.drop_eq_nil_of_le sI];simp⟩⟩
 case round=>
  obtain⟨k,r,zs,hk,rfl,rfl,hr,hblk,hbel,hlz,HH⟩:=hrel;cases k with
  |zero=>
   go_wp2;go_ret2;refine⟨_,zs,r,by congr 3,hblk,HH.out.2.1,HH.out.1,hr,by simpa using HH.out.2.2,hbel⟩
  | succ k=>
   have hfr:=hblk.frozen k;obtain⟨b,off,x,rfl,hbw,hx32,HX,hck⟩:=hx.limb (k:=k) oM;have hck':=(hbel.cell (p:=⟨b,off+k,none⟩) hbw).trans hck;have hcz:=hblk.cell (k:=k) oM;clear hck;have hq:(r*4294967296+x)/d<4294967296:=by
    rw[Nat.div_lt_iff_lt_mul hd0];have:(r+1)*4294967296<=d*4294967296:=Nat.mul_le_mul_right _ hr;omega
   have hr':(r*4294967296+x)%d<d:=Nat.mod_lt _ hd0;have EQ:Hid (((r:Int)*4294967296+x)/d=(((r*4294967296+x)/d:Nat):Int)):=by show _=_;simp
   have ER:Hid (((r:Int)*4294967296+x)%d=(((r*4294967296+x)%d:Nat):Int)):=by show _=_;simp
   go_wp2;go_roundw
   case rel=>exact⟨k,(r*4294967296+x)%d,zs.set k ((r*4294967296+x)/d),by omega,by go_num,by rw[ER.out],hr',hblk.set' _ _ _ (by rw[EQ.out];exact zDf _ hq),hbel.setCell (xgf _) _,by simpa using hlz,
     ⟨by simpa using HH.out.1,HH.out.2.1.set _ _ hq,zFY HH.out.2.2 oM oM HX.out⟩⟩
   case measure=>simp[intOf]
theorem zQW{xs ys:List Nat}{n x y:Nat}(hX:xs.length=n+1)(hY:ys.length=n+1)(ly:qN ys)(hx:xs.getD n 0=x)(hy:ys.getD n 0=y):x/(y+1)*nat ys<=nat xs:=by
 have h1:=zO xs n;have h2:=zO ys n;rw[zH _ oM,hx]at h1;rw[zH _ oM,hy]at h2;have h3:=jW (ly.take n);have h4:(ys.take n).length=n:=by simp;omega
 rw[h4]at h3;have h5:nat ys<=(y+1)*B32^n:=by rw[Nat.add_mul,Nat.one_mul];omega
 have h6:x/(y+1)*(y+1)<=x:=Nat.div_mul_le_self _ _
 calc x/(y+1)*nat ys<=x/(y+1)*((y+1)*B32^n):=Nat.mul_le_mul_left _ h5
  _=x/(y+1)*(y+1)*B32^n:=by rw[Nat.mul_assoc]
  _<=x*B32^n:=Nat.mul_le_mul_right _ h6
  _<=nat xs:=by omega
theorem zQX{xs ys:List Nat}{m k x x2 y:Nat}(hX:xs.length=m+k+2)(hY:ys.length=m+1)(ly:qN ys)(hx:xs.getD (m+k+1) 0=x)(hx2:xs.getD (m+k) 0=x2)(hy:ys.getD m 0=y):
  (x*4294967296+x2)/(y+1)*B32^k*nat ys<=nat xs:=by
 have h1:=zO xs (m+k+1);have h1':=zO xs (m+k);have h2:=zO ys m;rw[zH _ oM,hx,h1',hx2]at h1;rw[zH _ oM,hy]at h2;have h3:=jW (ly.take m);have h4:(ys.take m).length=m:=by simp;omega
 rw[h4]at h3;have h5:nat ys<=(y+1)*B32^m:=by rw[Nat.add_mul,Nat.one_mul];omega
 have h6:(x*4294967296+x2)/(y+1)*(y+1)<=x*4294967296+x2:=Nat.div_mul_le_self _ _;have h7:(x*4294967296+x2)*B32^(m+k)<=nat xs:=by
  rw[Nat.add_mul,h1,Nat.pow_succ,<-yL,Nat.mul_comm (B32^_) B32,<-Nat.mul_assoc x];omega
 generalize (x*4294967296+x2)/(y+1)=q at*
 calc q*B32^k*nat ys<=q*B32^k*((y+1)*B32^m):=Nat.mul_le_mul_left _ h5
  _=q*(y+1)*B32^(m+k):=by rw[Nat.pow_add];simp only[Nat.mul_assoc,Nat.mul_comm,Nat.mul_left_comm]
  _<=(x*4294967296+x2)*B32^(m+k):=Nat.mul_le_mul_right _ h6
  _<=nat xs:=h7
theorem zNf(k q:Nat):nat (List.replicate k 0++ [q%4294967296,q/4294967296])=q*B32^k:=by
 rw[zBP,zCT,Nat.zero_add,List.length_replicate,Nat.mul_comm];congr 1;simp[yK,yL];omega
theorem zDG.made0(w:World)(base k:Nat)(h:base<=w.heap.size)(hk:k<=70368744177664):zDG (w.alloc (.cells (yM (List.replicate k 0)) tU)) base (.slice (some ⟨w.heap.size,0,none⟩) k k) (List.replicate k 0):=by
 refine⟨fun x hx=>by rw[List.eq_of_mem_replicate hx];exact yT,?_⟩;have:=World.ownsRow_lit (base:=base) (e:=tU) (size:=1) w (yM (List.replicate k 0)) k h (by simp[maxLen];omega) (by simp[yM]);simpa[yM]using this
theorem zCq{fn:Func}{a:Act}{w W:World}{z:Int}{r:Nat}{v:Array Value}{p:Tmp}{Q:Ending->World->Prop}(h:fn.results=#[.cell p 51])(hd:a.defers= [])
  (hp:a.tmps.getD p undef= .pointer (some ⟨r,0,none⟩)) (hb:Blk W r 51 v) (hv:zR W (.agg v) z) (hbel:Below w.heap.size w W) (hQ:∀e w',zAI w z e w'->Q e w'):bodyPost Tryz.prog fn Q .ret a W:=by
 obtain⟨neg,ao,n,cap,xs,h1,h2⟩:=hv;injection h1 with h1
 subst h1;exact bodyPost_ret (results_cell_row h _ W r _ _ _ _ hp hb Tryz.underlying51 rfl (by rw[Tryz.sizeI];rfl)) hd (hQ _ _ ⟨_,rfl,⟨neg,ao,n,cap,xs,rfl,h2⟩,hbel⟩)
def zOb(w:World)(a b:Nat)(e:Ending)(w':World):Prop:=
 ∃v z,e= .returned v/\zR w' v (z:Nat)/\0<z/\z*b<=a/\Below w.heap.size w w'
theorem zK5(ao1 ao2:Option Addr)(n1 cap1 n2 cap2:Nat)(xs ys:List Nat)(w:World)(hn1:xs.length=n1+1)(hn2:ys.length=n2+1)
  (hb1:n1+1<=4*LIM) (hx1:zG w ao1 xs) (hx2:zG w ao2 ys) (hN:qP xs) (hle:n2<=n1) (hval:nat ys<=nat xs):
  Calls Tryz.prog 149 #[.slice ao1 (n1+1) cap1,.slice ao2 (n2+1) cap2] w (zOb w (nat xs) (nat ys)):=by
 have HN1:=Lib.hid hn1;have HN2:=Lib.hid hn2;have HV:=Lib.hid hval;have hlen1':n1+1<=xs.length:=by omega
 have hlen2':n2+1<=ys.length:=by omega
 obtain⟨b1,off1,x,rfl,hbw1,hx32,HX,hcx⟩:=hx1.limb (k:=n1) oM;obtain⟨b2,off2,y,rfl,hbw2,hy32,HY,hcy⟩:=hx2.limb (k:=n2) oM;have hxp:0<x:=by have:=hN n1 hn1;rw[HX.out]at this;omega
 clear hn1 hn2 hval hN;rw[yA]at hb1;go_enter Tryz.func149,Tryz.ntmps149;go_upto_region 1 with(fail)
 refine zC ?_;intro W0 hW0;obtain⟨hB0,br,hs0⟩:=zN hW0;obtain⟨d1,d2,d3,d4⟩:=br.two;have hcx0:=(hB0.cell (p:=⟨b1,off1+n1,none⟩) hbw1).trans hcx;have hcy0:=(hB0.cell (p:=⟨b2,off2+n2,none⟩) hbw2).trans hcy;clear hcx hcy;go_quiet (fail);by_cases hk:n1=n2
 ·subst hk
  go_wp2_with fail
  have hq64:x/(y+1)<=x:=Nat.div_le_self _ _;have hmx:wrap64 (max 1 (IntKind.u64.wrap ((x:Int)/((y:Int)+1))))=((max 1 (x/(y+1)):Nat):Int):=by
   rw[show(x:Int)/((y:Int)+1)=((x/(y+1):Nat):Int) by simp,IntKind.wrap_u64];generalize x/(y+1)=q at*;simp[wrap64];omega
  rw[hmx];refine(zBg _ _ oM oM).mono ?_;rintro e w2 ⟨v,rfl,hv,hb2⟩;have br2:=(br.drewN _).below hb2;obtain⟨e1,e2,e3,e4⟩:=br2.two;obtain⟨vn,va,vl,vc,vx,rfl,hv2⟩:=hv;go_wp2_with fail
  refine zCq rfl rfl rfl (br2.put2 _ _) (hv:=zR.ext ⟨vn,va,vl,vc,vx,rfl,hv2⟩ (br2.lext2 dE _ _)) (hbel:=zP (zP (nx (nx hB0 (drN _ _)) hb2) oM 0 _) oM 1 _) ?_;rintro e w' ⟨v,rfl,q1,q2⟩;refine⟨v,_,rfl,q1,by omega,?_,q2⟩;rcases Nat.le_total 1 (x/(y+1))with h1|h1
  ·rw[Nat.max_eq_right h1];exact zQW HN1.out HN2.out hx2.1 HX.out HY.out
  ·rw[Nat.max_eq_left h1,Nat.one_mul];exact HV.out
 ·obtain⟨k,rfl⟩:∃k,n1=n2+k+1:=⟨n1-n2-1,by omega⟩
  obtain⟨b3,off3,x2,e3,hbw3,hx32',HX2,hcx2⟩:=hx1.limb (k:=n2+k) oM;injection e3 with e3
  injection e3 with e3 e4
  subst e3;subst e4;have hcx2:=(hB0.cell (p:=⟨_,off1+(n2+k),none⟩) hbw1).trans hcx2;go_wp2;have hd:Hid (((x:Int)*4294967296+x2)/((y:Int)+1)=(((x*4294967296+x2)/(y+1):Nat):Int)):=by
   show _=_;rw[Int.natCast_ediv,show((x*4294967296+x2:Nat):Int)=(x:Int)*4294967296+x2 by omega,show((y+1:Nat):Int)=(y:Int)+1 by omega]
  have hq64:(x*4294967296+x2)/(y+1)<18446744073709551616:=Nat.lt_of_le_of_lt (Nat.div_le_self _ _) oM;go_quiet (fail);rw[hd.out];obtain⟨q,hq⟩:∃q,(x*4294967296+x2)/(y+1)=q:=⟨_,rfl⟩;rw[hq];rw[hq]at hq64;have HQ:=Lib.hid hq;clear hq hd;have hmk:=fun W=>mkU ((n2:Int)+k+1+1-(n2+1)-1) k oM oM W
  have hqp:0<q:=by
   rw[<-HQ.out];exact Nat.div_pos oM oM
  clear d1 d2 d3 d4;go_wp2_with (at_builtin;refine zH8 rfl _ _ rfl W0.heap.size (.slice (some ⟨W0.heap.size,0,none⟩) k k) (List.replicate k 0) rfl ?h1 _ 2 2 [q%4294967296,q/4294967296] rfl ?h2 rfl ?h3 ?h4 ?h5)
  case h1=>exact((zDG.made0 (W0.drewN _) W0.heap.size k (xgf _) oM).alloc _)
  case h2=>
   refine zKc (m:=(q:Int)%4294967296) (k:=(q:Int)/4294967296) ?_ oM oM sI sI;exact(qK (w:=W0.drewN _) (A:=yM (List.replicate k 0)) (T1:=tU) (B:=#[.int .u32 ((q:Int)%4294967296),.int .u32 ((q:Int)/4294967296)]) (T2:=tU) (W0:=_) rfl).2.2.1
  case h3=>simp;omega
  case h4=>simp;omega
  case h5=>
   intro v' w' hown hgr;have hbw':Below W0.heap.size W0 w':=by
    refine Below.grown (w:=_) ?_ hgr (by simp;omega) (fun g hg=>by simp[Value.ownBlock]at hg;omega);exact((drN W0 _).alloc (xgf _) _).alloc sI _
   obtain⟨ao',cap',rfl,q1,q2,q3⟩:=hown.at_;go_wp2_with fail
   have hlen:(List.replicate k 0++ [q%4294967296,q/4294967296]).length=k+2:=by simp
   have hz:=zNf k q;generalize List.replicate k 0++ [q%4294967296,q/4294967296]=zs at*;have hM:=yN ao' (k+2) cap' zs false w' hlen oM q2 (by rw[yA];omega) q3;rw[hz]at hM;refine hM.mono ?_;rintro e w2 ⟨v,rfl,hv,hb2⟩;have br2:=(br.below hbw').below hb2;obtain⟨e1,e2,e3,e4⟩:=br2.two;obtain⟨vn,va,vl,vc,vx,rfl,hv2⟩:=hv;go_wp2_with fail
   refine zCq (z:=((q*B32^k:Nat):Int)) rfl rfl rfl (br2.put2 _ _) (hv:=zR.ext ⟨vn,va,vl,vc,vx,rfl,hv2⟩ (br2.lext2 dE _ _)) (hbel:=zP (zP (nx (nx hB0 hbw') hb2) oM 0 _) oM 1 _) ?_;rintro e w' ⟨v,rfl,q1,q2⟩;exact⟨v,_,rfl,q1,Nat.mul_pos hqp (Nat.pow_pos yT),by rw[<-HQ.out];exact zQX HN1.out HN2.out hx2.1 HX.out HX2.out HY.out,q2⟩
end Go.Proofs.YtgnmdddaiefooaaGreat
