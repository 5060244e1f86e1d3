/- The reference's integers, seventh part: short. The reference's integers, eighth part: estimate. A region that draws its order, proved by an invariant over the set of operations that have come up: one step a operation, whatever the order. The reference's integers, ninth part: divide. The reference's integers, tenth part: DivMod. -/
import Derived.StillTail
import Derived.Test.YtnbmaipobhppcaaGreatE01
import Derived.Test.YtnbmaipobhppcaaGreatE02
set_option linter.unusedVariables false
set_option linter.unusedSimpArgs false
set_option linter.unusedSectionVars false
set_option maxHeartbeats 16000000
set_option maxRecDepth 100000
namespace Go.Proofs.YtnbmaipobhppcaaGreat
open Go.RowKit
theorem zEk(ao:Option Addr)(n cap:Nat)(xs:List Nat)(d:Nat)(w:World)(hn:xs.length=n)(hb:n<=4*LIM)(hx:zG w ao xs)(hd0:0<d)(hd:d<4294967296):
  Calls Tryz.prog 314 #[.slice ao n cap,.int .u32 (d:Nat)] w fun e w'=>
   ∃g qs r,e= .returned (.tuple #[.slice (some ⟨g,0,none⟩) n n,.int .u32 (r:Nat)])/\jQ w' g qs/\qT qs/\qs.length=n/\r<d/\nat xs=nat qs*d+r/\Below w.heap.size w w':=by
 have HN:=Lib.hid hn;have hlen1:xs.length<=n:=by omega
 have hlen1':n<=xs.length:=by omega
 clear hn;rw[qW]at hb;have hmk:=fun W=>mkU (n:Int) n oM oM W
 go_enter Tryz.func314,Tryz.ntmps314;go_wp2;clear hmk;go_loopw [7,8] (fun rv i wr=>∃(k r:Nat) (zs:List Nat),k<=n/\i= .int .i64 ((k:Int)-1)/\rv= .int .u64 r/\r<d/\jQ wr w.heap.size zs/\Below w.heap.size w wr/\n<=zs.length∧
   Hid (zs.length=n/\qT zs/\nat (xs.drop k)=nat (zs.drop k)*d+r)) (fun _ i _=>(intOf i+1).toNat)
 case atStart=>exact⟨n,0,List.replicate n 0,by omega,by go_num,rfl,by omega,jQ.made _ _,(Below.refl _ _).alloc (xgf _) _,by simp,⟨by simp,fun x hx=>by rw[List.eq_of_mem_replicate hx];exact yZ,by rw[List.drop_eq_nil_of_le hlen1,List.drop_eq_nil_of_le sI];simp⟩⟩
 case round=>
  obtain⟨k,r,zs,hk,rfl,rfl,hr,hblk,hbel,hlz,HH⟩:=hrel;cases k with
  |zero=>
   go_wp2;go_ret2;refine⟨_,zs,r,by congr 3,hblk,HH.out.2.1,HH.out.1,hr,by simpa using HH.out.2.2,hbel⟩
  | succ k=>
   have hfr:=hblk.frozen k;obtain⟨b,off,x,rfl,hbw,hx32,HX,hck⟩:=hx.limb (k:=k) oM;have hck':=(hbel.cell (p:=⟨b,off+k,none⟩) hbw).trans hck;have hcz:=hblk.cell (k:=k) oM;clear hck;have hq:(r*4294967296+x)/d<4294967296:=by
    rw[Nat.div_lt_iff_lt_mul hd0];have:(r+1)*4294967296<=d*4294967296:=Nat.mul_le_mul_right _ hr;omega
   have hr':(r*4294967296+x)%d<d:=Nat.mod_lt _ hd0;have EQ:Hid (((r:Int)*4294967296+x)/d=(((r*4294967296+x)/d:Nat):Int)):=by show _=_;simp
   have ER:Hid (((r:Int)*4294967296+x)%d=(((r*4294967296+x)%d:Nat):Int)):=by show _=_;simp
   go_wp2;go_roundw
   case rel=>exact⟨k,(r*4294967296+x)%d,zs.set k ((r*4294967296+x)/d),by omega,by go_num,by rw[ER.out],hr',hblk.set' _ _ _ (by rw[EQ.out];exact zDo _ hq),hbel.setCell (xgf _) _,by simpa using hlz,
     ⟨by simpa using HH.out.1,HH.out.2.1.set _ _ hq,zFi HH.out.2.2 oM oM HX.out⟩⟩
   case measure=>simp[intOf]
theorem zRB{xs ys:List Nat}{n x y:Nat}(hX:xs.length=n+1)(hY:ys.length=n+1)(ly:qT ys)(hx:xs.getD n 0=x)(hy:ys.getD n 0=y):x/(y+1)*nat ys<=nat xs:=by
 have h1:=zR xs n;have h2:=zR ys n;rw[zJ _ oM,hx]at h1;rw[zJ _ oM,hy]at h2;have h3:=jZ (ly.take n);have h4:(ys.take n).length=n:=by simp;omega
 rw[h4]at h3;have h5:nat ys<=(y+1)*B32^n:=by rw[Nat.add_mul,Nat.one_mul];omega
 have h6:x/(y+1)*(y+1)<=x:=Nat.div_mul_le_self _ _
 calc x/(y+1)*nat ys<=x/(y+1)*((y+1)*B32^n):=Nat.mul_le_mul_left _ h5
  _=x/(y+1)*(y+1)*B32^n:=by rw[Nat.mul_assoc]
  _<=x*B32^n:=Nat.mul_le_mul_right _ h6
  _<=nat xs:=by omega
theorem zRC{xs ys:List Nat}{m k x x2 y:Nat}(hX:xs.length=m+k+2)(hY:ys.length=m+1)(ly:qT ys)(hx:xs.getD (m+k+1) 0=x)(hx2:xs.getD (m+k) 0=x2)(hy:ys.getD m 0=y):
  (x*4294967296+x2)/(y+1)*B32^k*nat ys<=nat xs:=by
 have h1:=zR xs (m+k+1);have h1':=zR xs (m+k);have h2:=zR ys m;rw[zJ _ oM,hx,h1',hx2]at h1;rw[zJ _ oM,hy]at h2;have h3:=jZ (ly.take m);have h4:(ys.take m).length=m:=by simp;omega
 rw[h4]at h3;have h5:nat ys<=(y+1)*B32^m:=by rw[Nat.add_mul,Nat.one_mul];omega
 have h6:(x*4294967296+x2)/(y+1)*(y+1)<=x*4294967296+x2:=Nat.div_mul_le_self _ _;have h7:(x*4294967296+x2)*B32^(m+k)<=nat xs:=by
  rw[Nat.add_mul,h1,Nat.pow_succ,<-yQ,Nat.mul_comm (B32^_) B32,<-Nat.mul_assoc x];omega
 generalize (x*4294967296+x2)/(y+1)=q at*
 calc q*B32^k*nat ys<=q*B32^k*((y+1)*B32^m):=Nat.mul_le_mul_left _ h5
  _=q*(y+1)*B32^(m+k):=by rw[Nat.pow_add];simp only[Nat.mul_assoc,Nat.mul_comm,Nat.mul_left_comm]
  _<=(x*4294967296+x2)*B32^(m+k):=Nat.mul_le_mul_right _ h6
  _<=nat xs:=h7
theorem zOM(k q:Nat):nat (List.replicate k 0++ [q%4294967296,q/4294967296])=q*B32^k:=by
 rw[zBY,zCX,Nat.zero_add,List.length_replicate,Nat.mul_comm];congr 1;simp[yN,yQ];omega
theorem zEP.made0(w:World)(base k:Nat)(h:base<=w.heap.size)(hk:k<=70368744177664):zEP (w.alloc (.cells (yS (List.replicate k 0)) tU)) base (.slice (some ⟨w.heap.size,0,none⟩) k k) (List.replicate k 0):=by
 refine⟨fun x hx=>by rw[List.eq_of_mem_replicate hx];exact yZ,?_⟩;have:=World.ownsRow_lit (base:=base) (e:=tU) (size:=1) w (yS (List.replicate k 0)) k h (by simp[maxLen];omega) (by simp[yS]);simpa[yS]using this
theorem zCw{fn:Func}{a:Act}{w W:World}{z:Int}{r:Nat}{v:Array Value}{p:Tmp}{Q:Ending->World->Prop}(h:fn.results=#[.cell p 35])(hd:a.defers= [])
  (hp:a.tmps.getD p undef= .pointer (some ⟨r,0,none⟩)) (hb:Blk W r 35 v) (hv:zH W (.agg v) z) (hbel:Below w.heap.size w W) (hQ:∀e w',jL w z e w'->Q e w'):bodyPost Tryz.prog fn Q .ret a W:=by
 obtain⟨neg,ao,n,cap,xs,h1,h2⟩:=hv;injection h1 with h1
 subst h1;exact bodyPost_ret (results_cell_row h _ W r _ _ _ _ hp hb Tryz.underlying35 rfl (by rw[Tryz.sizeI];rfl)) hd (hQ _ _ ⟨_,rfl,⟨neg,ao,n,cap,xs,rfl,h2⟩,hbel⟩)
def zPG(w:World)(a b:Nat)(e:Ending)(w':World):Prop:=
 ∃v z,e= .returned v/\zH w' v (z:Nat)/\0<z/\z*b<=a/\Below w.heap.size w w'
theorem zLR(ao1 ao2:Option Addr)(n1 cap1 n2 cap2:Nat)(xs ys:List Nat)(w:World)(hn1:xs.length=n1+1)(hn2:ys.length=n2+1)
  (hb1:n1+1<=4*LIM) (hx1:zG w ao1 xs) (hx2:zG w ao2 ys) (hN:qO xs) (hle:n2<=n1) (hval:nat ys<=nat xs):
  Calls Tryz.prog 315 #[.slice ao1 (n1+1) cap1,.slice ao2 (n2+1) cap2] w (zPG w (nat xs) (nat ys)):=by
 have HN1:=Lib.hid hn1;have HN2:=Lib.hid hn2;have HV:=Lib.hid hval;have hlen1':n1+1<=xs.length:=by omega
 have hlen2':n2+1<=ys.length:=by omega
 obtain⟨b1,off1,x,rfl,hbw1,hx32,HX,hcx⟩:=hx1.limb (k:=n1) oM;obtain⟨b2,off2,y,rfl,hbw2,hy32,HY,hcy⟩:=hx2.limb (k:=n2) oM;have hxp:0<x:=by have:=hN n1 hn1;rw[HX.out]at this;omega
 clear hn1 hn2 hval hN;rw[qW]at hb1;go_enter Tryz.func315,Tryz.ntmps315;go_upto_region 1 with(fail)
 refine zB ?_;intro W0 hW0;obtain⟨hB0,br,hs0⟩:=zK hW0;obtain⟨d1,d2,d3,d4⟩:=br.two;have hcx0:=(hB0.cell (p:=⟨b1,off1+n1,none⟩) hbw1).trans hcx;have hcy0:=(hB0.cell (p:=⟨b2,off2+n2,none⟩) hbw2).trans hcy;clear hcx hcy;go_quiet (fail);by_cases hk:n1=n2
 ·subst hk
  go_wp2_with fail
  have hq64:x/(y+1)<=x:=Nat.div_le_self _ _;have hmx:wrap64 (max 1 (IntKind.u64.wrap ((x:Int)/((y:Int)+1))))=((max 1 (x/(y+1)):Nat):Int):=by
   rw[show(x:Int)/((y:Int)+1)=((x/(y+1):Nat):Int) by simp,IntKind.wrap_u64];generalize x/(y+1)=q at*;simp[wrap64];omega
  rw[hmx];refine(zAH _ _ oM oM).mono ?_;rintro e w2 ⟨v,rfl,hv,hb2⟩;have br2:=(br.drewN _).below hb2;obtain⟨e1,e2,e3,e4⟩:=br2.two;obtain⟨vn,va,vl,vc,vx,rfl,hv2⟩:=hv;go_wp2_with fail
  refine zCw rfl rfl rfl (br2.put2 _ _) (hv:=zH.ext ⟨vn,va,vl,vc,vx,rfl,hv2⟩ (br2.lext2 dE _ _)) (hbel:=zO (zO (nx (nx hB0 (drN _ _)) hb2) oM 0 _) oM 1 _) ?_;rintro e w' ⟨v,rfl,q1,q2⟩;refine⟨v,_,rfl,q1,by omega,?_,q2⟩;rcases Nat.le_total 1 (x/(y+1))with h1|h1
  ·rw[Nat.max_eq_right h1];exact zRB HN1.out HN2.out hx2.1 HX.out HY.out
  ·rw[Nat.max_eq_left h1,Nat.one_mul];exact HV.out
 ·obtain⟨k,rfl⟩:∃k,n1=n2+k+1:=⟨n1-n2-1,by omega⟩
  obtain⟨b3,off3,x2,e3,hbw3,hx32',HX2,hcx2⟩:=hx1.limb (k:=n2+k) oM;injection e3 with e3
  injection e3 with e3 e4
  subst e3;subst e4;have hcx2:=(hB0.cell (p:=⟨_,off1+(n2+k),none⟩) hbw1).trans hcx2;go_wp2;have hd:Hid (((x:Int)*4294967296+x2)/((y:Int)+1)=(((x*4294967296+x2)/(y+1):Nat):Int)):=by
   show _=_;rw[Int.natCast_ediv,show((x*4294967296+x2:Nat):Int)=(x:Int)*4294967296+x2 by omega,show((y+1:Nat):Int)=(y:Int)+1 by omega]
  have hq64:(x*4294967296+x2)/(y+1)<18446744073709551616:=Nat.lt_of_le_of_lt (Nat.div_le_self _ _) oM;go_quiet (fail);rw[hd.out];obtain⟨q,hq⟩:∃q,(x*4294967296+x2)/(y+1)=q:=⟨_,rfl⟩;rw[hq];rw[hq]at hq64;have HQ:=Lib.hid hq;clear hq hd;have hmk:=fun W=>mkU ((n2:Int)+k+1+1-(n2+1)-1) k oM oM W
  have hqp:0<q:=by
   rw[<-HQ.out];exact Nat.div_pos oM oM
  clear d1 d2 d3 d4;go_wp2_with (at_builtin;refine zIa rfl _ _ rfl W0.heap.size (.slice (some ⟨W0.heap.size,0,none⟩) k k) (List.replicate k 0) rfl ?h1 _ 2 2 [q%4294967296,q/4294967296] rfl ?h2 rfl ?h3 ?h4 ?h5)
  case h1=>exact((zEP.made0 (W0.drewN _) W0.heap.size k (xgf _) oM).alloc _)
  case h2=>
   refine zK3 (m:=(q:Int)%4294967296) (k:=(q:Int)/4294967296) ?_ oM oM sI sI;exact(qH (w:=W0.drewN _) (A:=yS (List.replicate k 0)) (T1:=tU) (B:=#[.int .u32 ((q:Int)%4294967296),.int .u32 ((q:Int)/4294967296)]) (T2:=tU) (W0:=_) rfl).2.2.1
  case h3=>simp;omega
  case h4=>simp;omega
  case h5=>
   intro v' w' hown hgr;have hbw':Below W0.heap.size W0 w':=by
    refine Below.grown (w:=_) ?_ hgr (by simp;omega) (fun g hg=>by simp[Value.ownBlock]at hg;omega);exact((drN W0 _).alloc (xgf _) _).alloc sI _
   obtain⟨ao',cap',rfl,q1,q2,q3⟩:=hown.at_;go_wp2_with fail
   have hlen:(List.replicate k 0++ [q%4294967296,q/4294967296]).length=k+2:=by simp
   have hz:=zOM k q;generalize List.replicate k 0++ [q%4294967296,q/4294967296]=zs at*;have hM:=yM ao' (k+2) cap' zs false w' hlen oM q2 (by rw[qW];omega) q3;rw[hz]at hM;refine hM.mono ?_;rintro e w2 ⟨v,rfl,hv,hb2⟩;have br2:=(br.below hbw').below hb2;obtain⟨e1,e2,e3,e4⟩:=br2.two;obtain⟨vn,va,vl,vc,vx,rfl,hv2⟩:=hv;go_wp2_with fail
   refine zCw (z:=((q*B32^k:Nat):Int)) rfl rfl rfl (br2.put2 _ _) (hv:=zH.ext ⟨vn,va,vl,vc,vx,rfl,hv2⟩ (br2.lext2 dE _ _)) (hbel:=zO (zO (nx (nx hB0 hbw') hb2) oM 0 _) oM 1 _) ?_;rintro e w' ⟨v,rfl,q1,q2⟩;exact⟨v,_,rfl,q1,Nat.mul_pos hqp (Nat.pow_pos yZ),by rw[<-HQ.out];exact zRC HN1.out HN2.out hx2.1 HX.out HX2.out HY.out,q2⟩
theorem nom{α:Type _}{p:α->Prop}:∀x∈([]:List α),p x:=xgn p
section
variable {P:Program} {ops:Array Oper} {Q:Exit->Act->World->Prop}
def zBX(ops:Array Oper):Bool:=(List.range ops.size).all fun i=>((ops[i]?).map (fun o=>o.after.all fun e=>!Region.binds .any e||decide (e.on<i))).getD true
theorem zBP(h:zBX ops=true){i:Nat}{o:Oper}(ho:ops[i]?=some o):∀e∈o.after,Region.binds .any e=true->e.on<i:=by
 intro e he hbd;have hi:i<ops.size:=(Array.getElem?_eq_some_iff.1 ho).1;have h1:=List.all_eq_true.1 h i (List.mem_range.2 hi);rw[ho]at h1;have h2:=Array.all_eq_true_iff_forall_mem.1 h1 e he;simpa[hbd]using h2
theorem zBo(hb:zBX ops=true){L:Array Bool}(hs:L.size=ops.size)(hr:Region.ready .any ops L= []):
  ∀i,i<ops.size->L[i]?=some true:=by
 intro i;induction i using Nat.strongRecOn with
 | ind i ih=>
  intro hi;have hi':i<L.size:=by omega
  cases hc:L[i]with
  |true=>rw[Array.getElem?_eq_getElem hi',hc]
  | false=>
   exfalso;have hm:i∈Region.ready .any ops L:=by
    rw[mem_ready];refine⟨by simp[hi',hc],ops[i],Array.getElem?_eq_getElem hi,?_⟩;intro e he hbd;have hlt:=zBP hb (Array.getElem?_eq_getElem hi) e he hbd;have:=ih e.on hlt (by omega);simp[this]
   rw[hr]at hm;cases hm
theorem zFD{L:Array Bool}{n:Nat}(hs:L.size=n)(h:∀i,i<n->L[i]?=some true):L=Array.replicate n true:=by
 apply Array.ext
 ·simp[hs]
 ·intro i h1 h2
  have:=h i (by omega);rw[Array.getElem?_eq_getElem h1]at this;simpa using this
def left(L:Array Bool):Nat:=L.toList.count false
theorem zGA{L:Array Bool}{i:Nat}(h:L[i]?=some false):left (L.setIfInBounds i true)+1=left L:=by
 unfold left;obtain⟨hi,hv⟩:=Array.getElem?_eq_some_iff.1 h;have hi':i<L.toList.length:=by simpa using hi
 rw[Array.toList_setIfInBounds,List.count_set hi'];have hv':L.toList[i]=false:=by simpa using hv
 have hpos:0<L.toList.count false:=List.count_pos_iff.2 (by rw[<-hv'];exact List.getElem_mem hi');have e1:(L.toList[i]==false)=true:=by rw[hv'];rfl
 have e2:(true==false)=false:=rfl;rw[e1,e2];simp only[if_true,Bool.false_eq_true,if_false];omega
def zGT(o:Oper)(k:Nat):Bool:=o.after.any fun e=>Region.binds .any e && e.on==k
def zF(P:Program)(ops:Array Oper)(Q:Exit->Act->World->Prop)(ds:List Deferred)(I:Array Bool->Array Value->World->Prop)(i:Nat)(o:Oper):Prop:=
 ∀L T w,L[i]?=some false->(∀(k:Nat) (_:zGT o k=true:=by kernel_rfl),L[k]?=some true)->(∀(j:Nat) (o':Oper),ops[j]?=some o'->L[j]?=some true->∀k,zGT o' k=true->L[k]?=some true)->I L T w->∀K:Act->World->Prop,(∀T' w',I (L.setIfInBounds i true) T' w'->K ⟨T',ds⟩ w')->
   if Region.wanted o (yielded ops T)=true then Oper.wp P o ⟨T,ds⟩ w K Q else K ((⟨T,ds⟩:Act).put o.dst undef) w
theorem zA{o:Oper}{T:Array Value}{A B:Prop}(h:Region.wanted o (yielded ops T)=true)(hh:A):if Region.wanted o (yielded ops T)=true then A else B:=by
 rw[if_pos h];exact hh
theorem qD{o:Oper}{T:Array Value}{A B:Prop}(h:Region.wanted o (yielded ops T)=false)(hh:B):if Region.wanted o (yielded ops T)=true then A else B:=by
 rw[if_neg (by rw[h];simp)];exact hh
def zAQ(ops:Array Oper)(L:Array Bool):Prop:=∀(j:Nat) (o':Oper),ops[j]?=some o'->L[j]?=some true->∀k,zGT o' k=true->L[k]?=some true
theorem zAQ.start{n:Nat}:zAQ ops (Array.replicate n false):=by
 intro j o' _ h;rw[Array.getElem?_replicate]at h;split at h<;>simp at h
theorem yG{L:Array Bool}{i j:Nat}(h:L[j]?=some true):(L.setIfInBounds i true)[j]?=some true:=by
 by_cases e:i=j
 ·subst e
  exact Array.getElem?_setIfInBounds_self_of_lt (Array.getElem?_eq_some_iff.1 h).1
 ·rw[xgc e];exact h
theorem zAQ.set{L:Array Bool}{i:Nat}{o:Oper}(h:zAQ ops L)(ho:ops[i]?=some o)(hd:∀k,zGT o k=true->L[k]?=some true):zAQ ops (L.setIfInBounds i true):=by
 intro j o' ho' hj k hk;by_cases e:i=j
 ·subst e
  have:o'=o:=Option.some.inj (ho'.symm.trans ho);subst this;exact yG (hd k hk)
 ·rw[xgc e]at hj
  exact yG (h j o' ho' hj k hk)
theorem zL3{I:Array Bool->Array Value->World->Prop}{ds:List Deferred}(hb:zBX ops=true)
  (hstep:∀i o,ops[i]?=some o->zF P ops Q ds I i o)
  (hend:∀T w,I (Array.replicate ops.size true) T w->Q .normal ⟨T,ds⟩ w):
  ∀(fuel:Nat) (L:Array Bool) (T:Array Value) (w:World),L.size=ops.size->left L<=fuel->zAQ ops L->I L T w->wpAny P .any ops Q fuel L ⟨T,ds⟩ w:=by
 intro fuel;induction fuel with
 | zero=>
  intro L T w hs hl hcl hI;have hall:∀i,i<ops.size->L[i]?=some true:=by
   intro i hi;have hi':i<L.size:=by omega
   cases hc:L[i]with
   |true=>rw[Array.getElem?_eq_getElem hi',hc]
   |false=>
    exfalso;have:=zGA (L:=L) (i:=i) (by rw[Array.getElem?_eq_getElem hi',hc]);omega
  have hL:=zFD hs hall;refine⟨?_,hend T w (hL ▸ hI)⟩;cases hr:Region.ready .any ops L with
  |nil=>rfl
  |cons x xs=>
   have hx:x∈Region.ready .any ops L:=by rw[hr];simp
   rw[mem_ready]at hx;obtain⟨h0,o,ho,-⟩:=hx;have hx':x<ops.size:=(Array.getElem?_eq_some_iff.1 ho).1;have:=hall x hx';simp[this]at h0
 | succ fuel ih=>
  intro L T w hs hl hcl hI;refine⟨fun hr=>hend T w (zFD hs (zBo hb hs hr) ▸ hI),?_⟩;intro i hi;obtain⟨h0,o,ho,hall⟩:=mem_ready.1 hi;have hio:i<ops.size:=(Array.getElem?_eq_some_iff.1 ho).1;have hiL:i<L.size:=by omega
  have hLi:L[i]?=some false:=by
   rw[Array.getElem?_eq_getElem hiL];simpa[hiL]using h0
  have hdep:∀k,zGT o k=true->L[k]?=some true:=by
   intro k hk;unfold zGT at hk;rw[<-Array.any_toList,List.any_eq_true]at hk;obtain⟨e,he,hk⟩:=hk;have he:=Array.mem_toList_iff.1 he;simp only[Bool.and_eq_true,beq_iff_eq]at hk;obtain⟨hbd,hon⟩:=hk;subst hon;have hlt:=zBP hb ho e he hbd;have h1:=hall e he hbd;have h2:e.on<L.size:=by omega
   rw[Array.getElem?_eq_getElem h2];simpa[h2]using h1
  have hls:=zGA hLi;refine wpOp_step ho (fun K' hK=>?_);exact hstep i o ho L T w hLi hdep hcl hI K' (fun T' w' hI'=>hK ⟨T',ds⟩ w' (ih _ _ _ (by simp[hs]) (by omega) (hcl.set ho hdep) hI'))
theorem zGU{id:Nat}{T0:Array Value}{ds:List Deferred}{w:World}(hm:P.follows .mixedOrders=true)(I:Array Bool->Array Value->World->Prop)(hb:zBX ops=true)
  (h0:I (Array.replicate ops.size false) T0 w.drew)
  (hstep:∀i o,ops[i]?=some o->zF P ops Q ds I i o)
  (hend:∀T w,I (Array.replicate ops.size true) T w->Q .normal ⟨T,ds⟩ w):(Code.region id ops true).wp P Q ⟨T0,ds⟩ w:=
 wp_region_any hm (zL3 hb hstep hend ops.size _ T0 _ (by simp) (by
  unfold left
  rw[Array.toList_replicate,List.count_replicate]
  simp) zAQ.start h0)
def zFC(p:Nat->Oper->Prop):Nat->List Oper->Prop
 |_,[]=>True
 |i,o::os=>p i o/\zFC p (i+1) os
theorem zFC.get{p:Nat->Oper->Prop}:∀{l:List Oper} {k:Nat},zFC p k l->∀i o,l[i]?=some o->p (k+i) o
 | [],_,_,i,o,h=>by simp at h
 | x::xs,k,hh,i,o,h=>by
  cases i with
  |zero=>simp at h;subst h;exact hh.1
  |succ i=>
   have:=zFC.get hh.2 i o (by simpa using h);rwa[show k+1+i=k+(i+1) by omega]at this
theorem zE{id:Nat}{os:List Oper}{T0:Array Value}{ds:List Deferred}{w:World}(hm:P.follows .mixedOrders=true)(I:Array Bool->Array Value->World->Prop)(hb:zBX os.toArray=true)
  (h0:I (Array.replicate os.length false) T0 w.drew)
  (hend:∀T w,I (Array.replicate os.length true) T w->Q .normal ⟨T,ds⟩ w)
  (hstep:zFC (zF P os.toArray Q ds I) 0 os):(Code.region id os.toArray true).wp P Q ⟨T0,ds⟩ w:=
 zGU hm I hb (by simpa using h0) (fun i o ho=>by
  have:=hstep.get i o (by simpa using ho);rw[Nat.zero_add]at this;exact this) (by simpa using hend)
end
section
variable {P:Program} {l:List Oper} {Q:Exit->Act->World->Prop}
def zE4(n m:Nat):Array Bool:=(List.replicate n true++List.replicate (m-n) false).toArray
def zMc(l:List Oper)(n:Nat):Bool:=
 decide (n<l.length) && zBX l.toArray && Region.sinkB .any l.toArray n && Region.chainB .any l.toArray n && Region.seqB .any l.toArray (l.length-n) n (zE4 n l.length)
theorem zK2{L:Array Bool}{n:Nat}(hs:n<=L.size)(ht:∀t,n<=t->t<L.size->L[t]?=some false)(hl:left L=L.size-n):L=zE4 n L.size:=by
 have h1:L.toList=L.toList.take n++L.toList.drop n:=(List.take_append_drop n _).symm;have h2:L.toList.drop n=List.replicate (L.size-n) false:=by
  apply List.ext_getElem
  ·simp
  ·intro i hi _
   simp only[List.getElem_drop,List.getElem_replicate];have:=ht (n+i) (by omega) (by simp at hi;omega);obtain⟨_,h⟩:=Array.getElem?_eq_some_iff.1 this;simpa using h
 have h3:(L.toList.take n).count false=0:=by
  unfold left at hl;rw[h1,List.count_append,h2,List.count_replicate]at hl;simp at hl;simpa using hl
 have h4:L.toList.take n=List.replicate n true:=by
  rw[List.eq_replicate_iff];refine⟨by simp;omega,fun b hb=>?_⟩;cases b with
  |true=>rfl
  |false=>exact absurd hb (List.count_eq_zero.1 h3)
 apply Array.toList_inj.1;rw[h1,h2,h4];simp[zE4]
theorem zJ8{n:Nat}{I:Array Bool->Array Value->World->Prop}{ds:List Deferred}(hB:zMc l n=true)
  (hstep:∀i o,l[i]?=some o->i<n->zF P l.toArray Q ds I i o)
  (hend:∀T w,I (zE4 n l.length) T w->wpList P l.toArray Q (l.drop n) ⟨T,ds⟩ w):
  ∀(f:Nat) (L:Array Bool) (T:Array Value) (w:World),HeadInv .any l.toArray n L->left L=f+(l.length-n)->zAQ l.toArray L->I L T w->wpAny P .any l.toArray Q (f+(l.length-n)) L ⟨T,ds⟩ w:=by
 unfold zMc at hB;simp only[Bool.and_eq_true,decide_eq_true_eq]at hB;obtain⟨⟨⟨⟨hn,hb⟩,hsk⟩,hch⟩,hsq⟩:=hB;have htl:∀{L:Array Bool},HeadInv .any l.toArray n L->∀t,n<=t->t<L.size->L[t]?=some false:=by
  intro L inv t ht hts;have:=inv.tail t ht (by have:=inv.size;omega);rw[Array.getElem?_eq_getElem hts];simpa[hts]using this
 intro f;induction f with
 | zero=>
  intro L T w inv hl hcl hI;have hsz:L.size=l.length:=by simpa using inv.size
  have hL:L=zE4 n l.length:=by
   have:=zK2 (L:=L) (n:=n) (by omega) (htl inv) (by rw[hl,hsz];omega);rwa[hsz]at this
  subst hL;rw[Nat.zero_add];have hdl:(l.drop n).length=l.length-n:=by simp
  have:=wpAny_of_seq (P:=P) (md:=.any) (ops:=l.toArray) (Q':=Q) (l.drop n) n (zE4 n l.length) ⟨T,ds⟩ w (fun j=>by simp[List.getElem?_drop]) (by rw[hdl];exact hsq) (hend T w hI);rwa[hdl]at this
 | succ f ih=>
  intro L T w inv hl hcl hI;have hsz:L.size=l.length:=by simpa using inv.size
  rw [show f+1+(l.length-n)=(f+(l.length-n))+1 by omega];have hex:∃i,i<n/\L[i]?=some false:=by
   refine Classical.byContradiction fun hno=>?_
   have hall:∀i,i<n->L[i]?=some true:=by
    intro i hi;have hi':i<L.size:=by omega
    cases hc:L[i]with
    |true=>rw[Array.getElem?_eq_getElem hi',hc]
    |false=>exact absurd ⟨i,hi,by rw[Array.getElem?_eq_getElem hi',hc]⟩ hno
   have hLe:L=zE4 n l.length:=by
    apply Array.ext_getElem?;intro j;unfold zE4;rcases Nat.lt_or_ge j n with hj|hj
    ·rw[hall j hj];simp[List.getElem?_append,hj]
    ·rcases Nat.lt_or_ge j L.size with hj2|hj2
     ·rw[htl inv j hj hj2]
      have:j-n<l.length-n:=by omega
      simp[List.getElem?_append,Nat.not_lt.2 hj,this]
     ·rw[Array.getElem?_eq_none hj2]
      symm;simp;try omega
   rw[hLe]at hl;unfold left zE4 at hl;simp[List.count_replicate]at hl
  obtain⟨i0,hi0,hun⟩:=hex;have hun':L.getD i0 true=false:=by
   obtain⟨h1,h2⟩:=Array.getElem?_eq_some_iff.1 hun;simp[h1,h2]
  refine⟨fun hr=>?_,?_⟩
  ·have:=zBo hb inv.size hr i0 (by simp;omega)
   rw[this]at hun;cases hun
  ·intro i hi
   have hin:i<n:=by
    rcases Nat.lt_or_ge i n with h|h
    ·exact h
    ·exact absurd hi (tail_waits hsk hch (by simpa using hn) inv _ i0 rfl hi0 hun' i h)
   obtain⟨h0,o,ho,hall⟩:=mem_ready.1 hi;have hio:i<l.length:=by have:=(Array.getElem?_eq_some_iff.1 ho).1;simpa using this
   have hiL:i<L.size:=by omega
   have hLi:L[i]?=some false:=by
    rw[Array.getElem?_eq_getElem hiL];simpa[hiL]using h0
   have hdep:∀k,zGT o k=true->L[k]?=some true:=by
    intro k hk;unfold zGT at hk;rw[<-Array.any_toList,List.any_eq_true]at hk;obtain⟨e,he,hk⟩:=hk;have he:=Array.mem_toList_iff.1 he;simp only[Bool.and_eq_true,beq_iff_eq]at hk;obtain⟨hbd,hon⟩:=hk;subst hon;have hlt:=zBP hb ho e he hbd;have h1:=hall e he hbd;have h2:e.on<L.size:=by omega
    rw[Array.getElem?_eq_getElem h2];simpa[h2]using h1
   have hls:=zGA hLi;refine wpOp_step ho (fun K' hK=>?_);exact hstep i o (by simpa using ho) hin L T w hLi hdep hcl hI K' (fun T' w' hI'=>hK ⟨T',ds⟩ w' (ih _ _ _ (inv.set hi hin) (by omega) (hcl.set ho hdep) hI'))
theorem zC{id:Nat}{T0:Array Value}{ds:List Deferred}{w:World}(n:Nat)(hm:P.follows .mixedOrders=true)(I:Array Bool->Array Value->World->Prop)(hB:zMc l n=true)
  (h0:I (Array.replicate l.length false) T0 w.drew)
  (hend:∀T w,I (zE4 n l.length) T w->wpList P l.toArray Q (l.drop n) ⟨T,ds⟩ w)
  (hstep:zFC (zF P l.toArray Q ds I) 0 (l.take n)):(Code.region id l.toArray true).wp P Q ⟨T0,ds⟩ w:=by
 have hn:n<l.length:=by
  unfold zMc at hB;simp only[Bool.and_eq_true,decide_eq_true_eq]at hB;exact hB.1.1.1.1
 have hst:∀i o,l[i]?=some o->i<n->zF P l.toArray Q ds I i o:=by
  intro i o ho hi;have:=hstep.get i o (by rw[List.getElem?_take_of_lt hi];exact ho);rw[Nat.zero_add]at this;exact this
 have inv0:HeadInv .any l.toArray n (Array.replicate l.toArray.size false):=
  ⟨by simp,fun j oj _ hl=>(by rw[getD_replicate_false]at hl;cases hl),fun t _ ht=>getD_in (by simpa using ht) (getD_replicate_false _ _)⟩
 have H:=zJ8 hB hst hend n (Array.replicate l.toArray.size false) T0 w.drew inv0 (by unfold left;rw[Array.toList_replicate,List.count_replicate];simp;omega) zAQ.start (by simpa using h0);refine wp_region_any hm ?_;rw[show n+(l.length-n)=l.toArray.size by simp;omega]at H;exact H
end
theorem zAJ:∀(kv:List (Nat × Value)) {T T0:Array Value},(∀j,(∀p∈kv,p.1≠j)->T[j]?=T0[j]?)->(∀p∈kv,T[p.1]?=some p.2)->T.size=T0.size->
  T=kv.foldl (fun a p=>a.setIfInBounds p.1 p.2) T0
 | [],T,T0,h,_,_=>Array.ext_getElem? (fun j=>h j (fun p hp=>by cases hp))
 | (k,v)::kv,T,T0,h,hv,hs=>by
  refine zAJ kv (T0:=T0.setIfInBounds k v) ?_ (fun p hp=>hv p (List.mem_cons_of_mem _ hp)) (by simp[hs]);intro j hj;have hk:=hv (k,v) (by simp);by_cases e:k=j
  ·subst e
   have hlt:k<T0.size:=by rw[<-hs];exact(Array.getElem?_eq_some_iff.1 hk).1
   rw[Array.getElem?_setIfInBounds_self_of_lt hlt];exact hk
  ·rw[xgc e]
   refine h j ?_;intro p hp;rcases List.mem_cons.1 hp with e1|hp
   ·rw[e1];exact e
   ·exact hj p hp
theorem zN{α β:Type}{f:α->β}:∀{l:List α},(l.map f).Nodup->∀{a b:α},a∈l->b∈l->f a=f b->a=b
 | [],_,_,_,h,_,_=>by cases h
 | x::xs,hn,a,b,ha,hb,he=>by
  rw[List.map_cons,List.nodup_cons]at hn;obtain⟨h1,h2⟩:=hn;rcases List.mem_cons.1 ha with e1|ha'
  ·rcases List.mem_cons.1 hb with e2|hb'
   ·rw[e1,e2]
   ·exact absurd (List.mem_map.2 ⟨b,hb',by rw[<-he,e1]⟩) h1
  ·rcases List.mem_cons.1 hb with e2|hb'
   ·exact absurd (List.mem_map.2 ⟨a,ha',by rw[he,e2]⟩) h1
   ·exact zN h2 ha' hb' he
/-! ### The invariant: values in their slots,boxes of two cells -/
theorem Blk.below'{w w':World}{g:Nat}{t:TypeId}{cs:Array Value}{B:Nat}(h:Blk w g t cs)(hb:Below B w w')(hg:g<B):Blk w' g t cs:=(hb.block g hg).trans h
structure qE(p:Prop):Prop where
 out:p
theorem xgv{p:Prop}(h:p):qE p:=⟨h⟩
theorem xgw{p:Prop}(h:p):Hid p:=Lib.hid h
structure VS where
 op:Nat
 slot:Nat
 P:World->Value->Prop
structure BS where
 al:Nat
 slot:Nat
 st:Nat
 P:World->Value->Prop
def zEO(P:World->Value->Prop):Prop:=∀w w' v,yI w w'->P w v->P w' v
theorem zEf(z:Int):zEO (fun w v=>zH w v z):=fun _ _ _ e h=>h.ext e
theorem zF5(x:Value):zEO (fun _ v=>v=x):=fun _ _ _ _ h=>h
def ptr(b:Nat):Value:=.pointer (some ⟨b,0,none⟩)
structure ES where
 st:Nat
 blk:Nat
 P:World->Value->Prop
def zBp(N:Nat)(vs:List VS)(bs:List BS)(es:List ES):Bool:=
 let slots:=vs.map (·.slot)++bs.map (·.slot)
 let ops:=vs.map (·.op)++bs.map (·.al)++(bs.map (·.st)++es.map (·.st))
 decide slots.Nodup && decide ops.Nodup && slots.all (fun s=>decide (s<N))
structure RI(W:World)(n0:Nat)(T0:Array Value)(tB:TypeId)(vs:List VS)(bs:List BS)(es:List ES)(L:Array Bool)(T:Array Value)(w:World):Prop where
 wf:zBp T0.size vs bs es=true
 tb:tB≠tU
 lv:∀s∈vs,zEO s.P
 lb:∀s∈bs,zEO s.P
 le:∀s∈es,zEO s.P
 eb:∀s∈es,s.blk<n0
 ed:∀s∈es,∀t∈es,s.st≠t.st->s.blk≠t.blk
 size:T.size=T0.size
 keep:∀j,(∀s∈vs,s.slot≠j)->(∀s∈bs,s.slot≠j)->T[j]?=T0[j]?
 bel0:Below 0 W w
 old:∀k,k<n0->(∀s∈es,s.blk≠k)->w.heap[k]?=W.heap[k]?
 lext:yI W w
 ge:n0<=w.heap.size
 sto:∀s∈bs,L[s.st]?=some true->L[s.al]?=some true
 val:∀s∈vs,L[s.op]?=some true->∃v,T[s.slot]?=some v/\s.P w v
 box:∀s∈bs,L[s.al]?=some true->∃b x y,T[s.slot]?=some (ptr b)/\n0<=b/\Blk w b tB #[x,y]/\(L[s.st]?=some true->s.P w (.agg #[x,y]))
 far:∀s∈bs,∀t∈bs,s.al≠t.al->L[s.al]?=some true->L[t.al]?=some true->∀b c,T[s.slot]?=some (ptr b)->T[t.slot]?=some (ptr c)->b≠c
 ex:∀s∈es,(∃x y,Blk w s.blk tB #[x,y]/\(L[s.st]?=some true->s.P w (.agg #[x,y])))/\(L[s.st]?≠some true->w.heap[s.blk]?=W.heap[s.blk]?)
section
variable {W:World} {n0:Nat} {T0:Array Value} {tB:TypeId} {vs:List VS} {bs:List BS} {es:List ES} {L:Array Bool} {T:Array Value} {w w':World}
theorem zL{i j:Nat}(h:(L.setIfInBounds i true)[j]?=some true)(hne:i≠j):L[j]?=some true:=by
 rwa[xgc hne]at h
theorem zEq{i j:Nat}(h:(L.setIfInBounds i true)[j]?≠some true):L[j]?≠some true:=fun hh=>h (yG hh)
theorem RI.start(hwf:zBp T0.size vs bs es=true:=by kernel_rfl)(htb:tB≠tU:=by decide)(hv:∀s∈vs,zEO s.P:=by repeat' (first|exact zEf _|exact zF5 _|assumption|refine xgm.2 ⟨?_,?_⟩|exact xgn _))(hbs:∀s∈bs,zEO s.P:=by repeat' (first|exact zEf _|exact zF5 _|assumption|refine xgm.2 ⟨?_,?_⟩|exact xgn _))(hes:∀s∈es,zEO s.P:=by repeat' (first|exact zEf _|exact zF5 _|assumption|refine xgm.2 ⟨?_,?_⟩|exact xgn _))(heb:∀s∈es,s.blk<n0:=by repeat' (first|refine xgm.2 ⟨?_,?_⟩|exact xgn _|(dsimp only;omega)))
  (hed:∀s∈es,∀t∈es,s.st≠t.st->s.blk≠t.blk:=by repeat' (first|refine xgm.2 ⟨?_,?_⟩|exact xgn _|(intro h;exact absurd rfl h)|(intro _;dsimp only;omega))) (hex:∀s∈es,∃x y,Blk W s.blk tB #[x,y]:=by repeat' (first|refine xgm.2 ⟨?_,?_⟩|exact xgn _|exact⟨_,_,by assumption⟩)) (hge:n0<=W.heap.size:=by first|exact xgf _|omega) {n:Nat}:RI W n0 T0 tB vs bs es (Array.replicate n false) T0 W.drew:=by
 have hf:∀k:Nat,(Array.replicate n false)[k]?≠some true:=by
  intro k h;rw[Array.getElem?_replicate]at h;split at h<;>simp at h
 exact⟨hwf,htb,hv,hbs,hes,heb,hed,rfl,fun _ _ _=>rfl,(Below.refl _ _).drew,fun _ _ _=>rfl,yI.refl W,hge,fun s _ h=>absurd h (hf _),fun s _ h=>absurd h (hf _),fun s _ h=>absurd h (hf _),fun s _ t _ _ h=>absurd h (hf _),
  fun s hs=>⟨(hex s hs).elim fun x h=>h.elim fun y h=>⟨x,y,h,fun hh=>absurd hh (hf _)⟩,fun _=>rfl⟩⟩
theorem RI.world(h:RI W n0 T0 tB vs bs es L T w)(hb:Below w.heap.size w w'):RI W n0 T0 tB vs bs es L T w':=by
 have hx:yI w w':=yI.below hb (xgf _);refine⟨h.wf,h.tb,h.lv,h.lb,h.le,h.eb,h.ed,h.size,h.keep,h.bel0.trans (hb.mono (Nat.zero_le _)),fun k hk hn=>(hb.block k (Nat.lt_of_lt_of_le hk h.ge)).trans (h.old k hk hn),h.lext.trans hx,Nat.le_trans h.ge hb.size,h.sto,?_,?_,h.far,?_⟩
 ·intro s hs hl
  obtain⟨v,h1,h2⟩:=h.val s hs hl;exact⟨v,h1,h.lv s hs _ _ _ hx h2⟩
 ·intro s hs hl
  obtain⟨b,x,y,h1,h2,h3,h4⟩:=h.box s hs hl;exact⟨b,x,y,h1,h2,h3.below hb,fun hh=>h.lb s hs _ _ _ hx (h4 hh)⟩
 ·intro s hs
  obtain⟨⟨x,y,h1,h2⟩,h3⟩:=h.ex s hs;exact⟨⟨x,y,h1.below hb,fun hh=>h.le s hs _ _ _ hx (h2 hh)⟩,fun hh=>(hb.block _ h1.lt).trans (h3 hh)⟩
theorem zBp.parts{N:Nat}(hwf:zBp N vs bs es=true):
  (∀s∈vs,s.slot<N)/\(∀s∈bs,s.slot<N)∧
  (∀s∈vs,∀t∈vs,t≠s->t.op≠s.op/\t.slot≠s.slot)∧
  (∀s∈bs,∀t∈bs,t≠s->t.al≠s.al/\t.slot≠s.slot/\t.st≠s.st)∧
  (∀s∈vs,∀t∈bs,s.op≠t.al/\s.op≠t.st/\s.slot≠t.slot)∧
  (∀s∈bs,∀t∈bs,s.al≠t.st)∧
  (∀s∈es,∀t∈es,t≠s->t.st≠s.st)∧
  (∀s∈es,(∀t∈vs,s.st≠t.op)/\∀t∈bs,s.st≠t.al/\s.st≠t.st):=by
 unfold zBp at hwf;simp only[Bool.and_eq_true,decide_eq_true_eq,List.all_eq_true]at hwf;obtain⟨⟨hw1,hw2⟩,hw3⟩:=hwf;rw[List.nodup_append]at hw1;obtain⟨hw1a,hw1b,hw1c⟩:=hw1;rw[List.nodup_append]at hw2;obtain⟨hw2a,hw2b,hw2c⟩:=hw2;rw[List.nodup_append]at hw2a hw2b;obtain⟨hw2d,hw2e,hw2f⟩:=hw2a;obtain⟨hw2g,hw2h,hw2i⟩:=hw2b;have mv:∀s∈vs,s.op∈vs.map (·.op):=fun s hs=>List.mem_map.2 ⟨s,hs,rfl⟩
 have mvs:∀s∈vs,s.slot∈vs.map (·.slot):=fun s hs=>List.mem_map.2 ⟨s,hs,rfl⟩
 have mba:∀s∈bs,s.al∈bs.map (·.al):=fun s hs=>List.mem_map.2 ⟨s,hs,rfl⟩
 have mbs:∀s∈bs,s.slot∈bs.map (·.slot):=fun s hs=>List.mem_map.2 ⟨s,hs,rfl⟩
 have mbt:∀s∈bs,s.st∈bs.map (·.st):=fun s hs=>List.mem_map.2 ⟨s,hs,rfl⟩
 have mes:∀s∈es,s.st∈es.map (·.st):=fun s hs=>List.mem_map.2 ⟨s,hs,rfl⟩
 refine⟨fun s hs=>hw3 _ (List.mem_append_left _ (mvs s hs)),fun s hs=>hw3 _ (List.mem_append_right _ (mbs s hs)),?_,?_,?_,?_,?_,?_⟩
 ·exact fun s hs t ht hne=>⟨fun e=>hne (zN hw2d ht hs e),fun e=>hne (zN hw1a ht hs e)⟩
 ·exact fun s hs t ht hne=>⟨fun e=>hne (zN hw2e ht hs e),fun e=>hne (zN hw1b ht hs e),fun e=>hne (zN hw2g ht hs e)⟩
 ·exact fun s hs t ht=>⟨hw2f _ (mv s hs) _ (mba t ht),hw2c _ (List.mem_append_left _ (mv s hs)) _ (List.mem_append_left _ (mbt t ht)),hw1c _ (mvs s hs) _ (mbs t ht)⟩
 ·exact fun s hs t ht=>hw2c _ (List.mem_append_right _ (mba s hs)) _ (List.mem_append_left _ (mbt t ht))
 ·exact fun s hs t ht hne e=>hne (zN hw2h ht hs e)
 ·exact fun s hs=>⟨fun t ht=>Ne.symm (hw2c _ (List.mem_append_left _ (mv t ht)) _ (List.mem_append_right _ (mes s hs))),
   fun t ht=>⟨Ne.symm (hw2c _ (List.mem_append_right _ (mba t ht)) _ (List.mem_append_right _ (mes s hs))),Ne.symm (hw2i _ (mbt t ht) _ (mes s hs))⟩⟩
theorem RI.value{k:Nat}{v:Value}(h:RI W n0 T0 tB vs bs es L T w)(s:VS)(hs:s∈vs)(hk:s.op=k)(hP:s.P w v):
  RI W n0 T0 tB vs bs es (L.setIfInBounds k true) (T.setIfInBounds s.slot v) w:=by
 subst hk;obtain⟨p1,p2,p3,p4,p5,p6,p7,p8⟩:=zBp.parts h.wf;refine⟨h.wf,h.tb,h.lv,h.lb,h.le,h.eb,h.ed,by simp[h.size],fun j h1 h2=>by rw[xgc (h1 s hs)];exact h.keep j h1 h2,h.bel0,h.old,h.lext,h.ge,
  fun t ht hl=>yG (h.sto t ht (zL hl (p5 s hs t ht).2.1)),?_,?_,?_,?_⟩
 ·intro t ht hl
  by_cases he:t=s
  ·subst he
   exact⟨v,by rw[Array.getElem?_setIfInBounds_self_of_lt (by rw[h.size];exact p1 _ hs)],hP⟩
  ·obtain⟨n1,n2⟩:=p3 s hs t ht he
   obtain⟨u,h1,h2⟩:=h.val t ht (zL hl (Ne.symm n1));exact⟨u,by rw[xgc (Ne.symm n2)];exact h1,h2⟩
 ·intro t ht hl
  obtain⟨n1,n2,n3⟩:=p5 s hs t ht;obtain⟨b,x,y,h1,h2,h3,h4⟩:=h.box t ht (zL hl n1);exact⟨b,x,y,by rw[xgc n3];exact h1,h2,h3,fun hh=>h4 (zL hh n2)⟩
 ·intro t ht u hu hne hl1 hl2 b c e1 e2
  obtain⟨n1,n2,n3⟩:=p5 s hs t ht;obtain⟨m1,m2,m3⟩:=p5 s hs u hu;rw[xgc n3]at e1;rw[xgc m3]at e2;exact h.far t ht u hu hne (zL hl1 n1) (zL hl2 m1) b c e1 e2
 ·intro t ht
  have n1:=(p8 t ht).1 s hs;obtain⟨⟨x,y,h1,h2⟩,h3⟩:=h.ex t ht;exact⟨⟨x,y,h1,fun hh=>h2 (zL hh (Ne.symm n1))⟩,fun hh=>h3 (zEq hh)⟩
theorem RI.v{s:VS}(h:RI W n0 T0 tB vs bs es L T w)(hs:s∈vs)(hl:L[s.op]?=some true):∃v,T[s.slot]?=some v/\s.P w v:=h.val s hs hl
theorem RI.y{k:Nat}{v:Value}(h:RI W n0 T0 tB vs bs es L T w){s:VS}(hs:s∈vs)(hP:s.P w v)(hk:s.op=k:=by rfl):RI W n0 T0 tB vs bs es (L.setIfInBounds k true) (T.setIfInBounds s.slot v) w:=h.value s hs hk hP
theorem RI.alloc{k:Nat}{x0 y0:Value}(h:RI W n0 T0 tB vs bs es L T w)(s:BS)(hs:s∈bs)(hk:s.al=k)(hL:L[k]?=some false):
  RI W n0 T0 tB vs bs es (L.setIfInBounds k true) (T.setIfInBounds s.slot (ptr w.heap.size)) (w.alloc (.cells #[x0,y0] tB)):=by
 subst hk;obtain⟨p1,p2,p3,p4,p5,p6,p7,p8⟩:=zBp.parts h.wf;have hslot:=p2 s hs;have hb:Below w.heap.size w (w.alloc (.cells #[x0,y0] tB)):=(Below.refl _ _).alloc (xgf _) _;have hx:=yI.below hb (xgf _);have hst:L[s.st]?≠some true:=fun hh=>by have:=h.sto s hs hh;rw[hL]at this;cases this
 have hlook:∀t∈bs,L[t.al]?=some true->∀b,T[t.slot]?=some (ptr b)->b<w.heap.size:=by
  intro t ht hl b hb;obtain⟨b',x,y,h1,h2,h3,-⟩:=h.box t ht hl;rw[h1]at hb;injection hb with hb
  injection hb with hb
  injection hb with hb
  injection hb with hb
  subst hb;exact h3.lt
 refine⟨h.wf,h.tb,h.lv,h.lb,h.le,h.eb,h.ed,by simp[h.size],fun j h1 h2=>by rw[xgc (h2 s hs)];exact h.keep j h1 h2,h.bel0.trans (hb.mono (Nat.zero_le _)),
  fun k hk hn=>(hb.block k (Nat.lt_of_lt_of_le hk h.ge)).trans (h.old k hk hn),h.lext.trans hx,Nat.le_trans h.ge hb.size,fun t ht hl=>yG (h.sto t ht (zL hl (p6 s hs t ht))),?_,?_,?_,?_⟩
 ·intro t ht hl
  obtain⟨n1,n2,n3⟩:=p5 t ht s hs;obtain⟨u,h1,h2⟩:=h.val t ht (zL hl (Ne.symm n1));exact⟨u,by rw[xgc (Ne.symm n3)];exact h1,h.lv t ht _ _ _ hx h2⟩
 ·intro t ht hl
  by_cases he:t=s
  ·subst he
   exact⟨w.heap.size,x0,y0,by rw[Array.getElem?_setIfInBounds_self_of_lt (by rw[h.size];exact hslot)],h.ge,Blk.new _ _ _,fun hh=>absurd (zL hh (p6 _ hs _ hs)) hst⟩
  ·obtain⟨n1,n2,n3⟩:=p4 s hs t ht he
   obtain⟨b,x,y,h1,h2,h3,h4⟩:=h.box t ht (zL hl (Ne.symm n1));exact⟨b,x,y,by rw[xgc (Ne.symm n2)];exact h1,h2,h3.below hb,fun hh=>h.lb t ht _ _ _ hx (h4 (zL hh (p6 s hs t ht)))⟩
 ·intro t ht u hu hne hl1 hl2 b c e1 e2
  by_cases he:t=s
  ·subst he
   have hu':u≠t:=fun e=>hne (by rw[e])
   obtain⟨n1,n2,-⟩:=p4 _ hs u hu hu';rw[Array.getElem?_setIfInBounds_self_of_lt (by rw[h.size];exact hslot)]at e1;rw[xgc (Ne.symm n2)]at e2;injection e1 with e1
   injection e1 with e1
   injection e1 with e1
   injection e1 with e1
   have:=hlook u hu (zL hl2 (Ne.symm n1)) c e2;omega
  ·obtain⟨n1,n2,-⟩:=p4 s hs t ht he
   rw[xgc (Ne.symm n2)]at e1;by_cases he2:u=s
   ·subst he2
    rw[Array.getElem?_setIfInBounds_self_of_lt (by rw[h.size];exact hslot)]at e2;injection e2 with e2
    injection e2 with e2
    injection e2 with e2
    injection e2 with e2
    have:=hlook t ht (zL hl1 (Ne.symm n1)) b e1;omega
   ·obtain⟨m1,m2,-⟩:=p4 s hs u hu he2
    rw[xgc (Ne.symm m2)]at e2;exact h.far t ht u hu hne (zL hl1 (Ne.symm n1)) (zL hl2 (Ne.symm m1)) b c e1 e2
 ·intro t ht
  have n1:=((p8 t ht).2 s hs).1;obtain⟨⟨x,y,h1,h2⟩,h3⟩:=h.ex t ht;exact⟨⟨x,y,h1.below hb,fun hh=>h.le t ht _ _ _ hx (h2 (zL hh (Ne.symm n1)))⟩,fun hh=>(hb.block _ h1.lt).trans (h3 (zEq hh))⟩
theorem RI.store{k b:Nat}{x1 y1:Value}(h:RI W n0 T0 tB vs bs es L T w)(s:BS)(hs:s∈bs)(hk:s.st=k)(hal:L[s.al]?=some true)
  (hb:T[s.slot]?=some (ptr b)) (hP:s.P w (.agg #[x1,y1])):
  RI W n0 T0 tB vs bs es (L.setIfInBounds k true) T ((w.setCell ⟨b,0,none⟩ x1).setCell ⟨b,1,none⟩ y1):=by
 subst hk;obtain⟨p1,p2,p3,p4,p5,p6,p7,p8⟩:=zBp.parts h.wf;obtain⟨b',x,y,h1,h2,h3,-⟩:=h.box s hs hal;obtain rfl:b=b':=by
  rw[h1]at hb;injection hb with hb
  injection hb with hb
  injection hb with hb
  injection hb with hb
  exact hb.symm
 have hx:=h3.lext2 h.tb x1 y1;have hbel:Below n0 w ((w.setCell ⟨b,0,none⟩ x1).setCell ⟨b,1,none⟩ y1):=((Below.refl _ _).setCell h2 _).setCell h2 _;refine⟨h.wf,h.tb,h.lv,h.lb,h.le,h.eb,h.ed,h.size,h.keep,h.bel0.trans (hbel.mono (Nat.zero_le _)),fun k hk hn=>(hbel.block k hk).trans (h.old k hk hn),h.lext.trans hx,Nat.le_trans h.ge hbel.size,?_,?_,?_,?_,?_⟩
 ·intro t ht hl
  by_cases he:t=s
  ·subst he;exact yG hal
  ·exact yG (h.sto t ht (zL hl (Ne.symm (p4 s hs t ht he).2.2)))
 ·intro t ht hl
  obtain⟨u,e1,e2⟩:=h.val t ht (zL hl (Ne.symm (p5 t ht s hs).2.1));exact⟨u,e1,h.lv t ht _ _ _ hx e2⟩
 ·intro t ht hl
  by_cases he:t=s
  ·subst he
   exact⟨b,x1,y1,h1,h2,h3.put2 _ _,fun _=>h.lb _ hs _ _ _ hx hP⟩
  ·obtain⟨n1,n2,n3⟩:=p4 s hs t ht he
   obtain⟨c,u,v,e1,e2,e3,e4⟩:=h.box t ht (zL hl (Ne.symm (p6 t ht s hs)));have hne:c≠b:=h.far t ht s hs n1 (zL hl (Ne.symm (p6 t ht s hs))) hal c b e1 h1;exact⟨c,u,v,e1,e2,(e3.far hne _ _).far hne _ _,fun hh=>h.lb t ht _ _ _ hx (e4 (zL hh (Ne.symm n3)))⟩
 ·intro t ht u hu hne hl1 hl2
  exact h.far t ht u hu hne (zL hl1 (Ne.symm (p6 t ht s hs))) (zL hl2 (Ne.symm (p6 u hu s hs)))
 ·intro t ht
  have n1:=((p8 t ht).2 s hs).2;obtain⟨⟨x,y,e1,e2⟩,e3⟩:=h.ex t ht;exact⟨⟨x,y,e1.below' hbel (h.eb t ht),fun hh=>h.le t ht _ _ _ hx (e2 (zL hh (Ne.symm n1)))⟩,fun hh=>(hbel.block _ (h.eb t ht)).trans (e3 (zEq hh))⟩
theorem RI.storeE{k b:Nat}{x1 y1:Value}(h:RI W n0 T0 tB vs bs es L T w)(s:ES)(hs:s∈es)(hk:s.st=k)(hL:L[k]?=some false)(hbk:s.blk=b)(hP:s.P w (.agg #[x1,y1])):
  RI W n0 T0 tB vs bs es (L.setIfInBounds k true) T ((w.setCell ⟨b,0,none⟩ x1).setCell ⟨b,1,none⟩ y1):=by
 subst hk;subst hbk;obtain⟨p1,p2,p3,p4,p5,p6,p7,p8⟩:=zBp.parts h.wf;obtain⟨⟨x,y,h3,-⟩,-⟩:=h.ex s hs;have hx:=h3.lext2 h.tb x1 y1;have hbel:Below 0 w ((w.setCell ⟨s.blk,0,none⟩ x1).setCell ⟨s.blk,1,none⟩ y1):=((Below.refl _ _).setCell (Nat.zero_le _) _).setCell (Nat.zero_le _) _;have hoth:∀k,k≠s.blk->((w.setCell ⟨s.blk,0,none⟩ x1).setCell ⟨s.blk,1,none⟩ y1).heap[k]?=w.heap[k]?:=fun k hk=>
  (Below.heap_setCell _ ⟨s.blk,1,none⟩ _ k hk).trans (Below.heap_setCell _ ⟨s.blk,0,none⟩ _ k hk)
 refine⟨h.wf,h.tb,h.lv,h.lb,h.le,h.eb,h.ed,h.size,h.keep,h.bel0.trans hbel,fun k hk hn=>(hoth k (Ne.symm (hn s hs))).trans (h.old k hk hn),h.lext.trans hx,Nat.le_trans h.ge hbel.size,?_,?_,?_,?_,?_⟩
 ·exact fun t ht hl=>yG (h.sto t ht (zL hl ((p8 s hs).2 t ht).2))
 ·intro t ht hl
  obtain⟨u,e1,e2⟩:=h.val t ht (zL hl ((p8 s hs).1 t ht));exact⟨u,e1,h.lv t ht _ _ _ hx e2⟩
 ·intro t ht hl
  obtain⟨n1,n2⟩:=(p8 s hs).2 t ht;obtain⟨c,u,v,e1,e2,e3,e4⟩:=h.box t ht (zL hl n1);have hne:c≠s.blk:=by have:=h.eb s hs;omega
  exact⟨c,u,v,e1,e2,(e3.far hne _ _).far hne _ _,fun hh=>h.lb t ht _ _ _ hx (e4 (zL hh n2))⟩
 ·intro t ht u hu hne hl1 hl2
  exact h.far t ht u hu hne (zL hl1 ((p8 s hs).2 t ht).1) (zL hl2 ((p8 s hs).2 u hu).1)
 ·intro t ht
  by_cases he:t=s
  ·subst he
   refine⟨⟨x1,y1,h3.put2 _ _,fun _=>h.le _ hs _ _ _ hx hP⟩,fun hh=>?_⟩;exact absurd (Array.getElem?_setIfInBounds_self_of_lt (Array.getElem?_eq_some_iff.1 hL).1) hh
  ·have n1:=p7 s hs t ht he
   have n2:=h.ed t ht s hs n1;obtain⟨⟨x,y,e1,e2⟩,e3⟩:=h.ex t ht;exact⟨⟨x,y,(e1.far n2 _ _).far n2 _ _,fun hh=>h.le t ht _ _ _ hx (e2 (zL hh (Ne.symm n1)))⟩,fun hh=>(hoth _ n2).trans (e3 (zEq hh))⟩
theorem RI.cell{b o:Nat}{v:Value}(h:RI W n0 T0 tB vs bs es L T w)(hc:W.cell? ⟨b,o,none⟩=some v)(hb:b<n0)(hn:∀s∈es,s.blk≠b):w.cell? ⟨b,o,none⟩=some v:=
 (World.cell?_of_block (w:=W) (h.old b hb hn)).trans hc
theorem RI.cellE{o:Nat}{v:Value}(h:RI W n0 T0 tB vs bs es L T w)(s:ES)(hs:s∈es)(hc:W.cell? ⟨s.blk,o,none⟩=some v)(hl:L[s.st]?≠some true):w.cell? ⟨s.blk,o,none⟩=some v:=
 (World.cell?_of_block (w:=W) ((h.ex s hs).2 hl)).trans hc
theorem RI.bel(h:RI W n0 T0 tB vs bs es L T w)(B:Nat)(hB:B<=n0)(hn:∀s∈es,B<=s.blk):Below B W w:=
 ⟨h.bel0.os,h.bel0.tape,h.bel0.output,h.bel0.size,fun k hk=>h.old k (by omega) (fun s hs=>by have:=hn s hs;omega)⟩
end
abbrev E(i s:Nat)(x:Value):VS:=⟨i,s,fun _ v=>v=x⟩
abbrev EI(i s:Nat)(z:Int):VS:=⟨i,s,fun w v=>zH w v z⟩
abbrev VP(i s b o:Nat):VS:=⟨i,s,fun _ v=>v= .pointer (some ⟨b,o,none⟩)⟩
abbrev VSl(i s b n c:Nat):VS:=⟨i,s,fun _ v=>v= .slice (some ⟨b,0,none⟩) n c⟩
abbrev VN(i s:Nat)(n:Int):VS:=⟨i,s,fun _ v=>v= .int .i64 n⟩
def Fin(w:World):List VS->Array Value->Array Value->Prop
 | [],T0,T=>T=T0
 |s::vs,T0,T=>∃v,s.P w v/\Fin w vs (T0.setIfInBounds s.slot v) T
theorem zKj{w:World}:∀(vs:List VS) {T0 T:Array Value},(∀j,(∀s∈vs,s.slot≠j)->T[j]?=T0[j]?)->(∀s∈vs,∃v,T[s.slot]?=some v/\s.P w v)->T.size=T0.size->(vs.map (·.slot)).Nodup->Fin w vs T0 T
 | [],T0,T,h,_,_,_=>Array.ext_getElem? (fun j=>h j (fun p hp=>by cases hp))
 | s::vs,T0,T,h,hv,hs,hn=>by
  obtain⟨v,h1,h2⟩:=hv s (by simp);rw[List.map_cons,List.nodup_cons]at hn;refine⟨v,h2,zKj vs (fun j hj=>?_) (fun t ht=>hv t (List.mem_cons_of_mem _ ht)) (by simp[hs]) hn.2⟩;by_cases e:s.slot=j
  ·subst e
   have hlt:s.slot<T0.size:=by rw[<-hs];exact(Array.getElem?_eq_some_iff.1 h1).1
   rw[h1,Array.getElem?_setIfInBounds_self_of_lt hlt]
  ·rw[xgc e]
   exact h j (fun t ht=>by
    rcases List.mem_cons.1 ht with rfl|ht
    ·exact e
    ·exact hj t ht)
def zD7(w:World)(n0:Nat)(tB:TypeId):List BS->List Nat->Array Value->Array Value->Prop
 | [],_,T0,T=>T=T0
 |b::bs,u,T0,T=>∃c x y,n0<=c/\Blk w c tB #[x,y]/\b.P w (.agg #[x,y])/\(∀d∈u,d≠c)/\zD7 w n0 tB bs (c::u) (T0.setIfInBounds b.slot (ptr c)) T
def zEN(w:World)(n0:Nat)(tB:TypeId)(bs:List BS):List VS->Array Value->Array Value->Prop
 | [],T0,T=>zD7 w n0 tB bs [] T0 T
 |s::vs,T0,T=>∃v,s.P w v/\zEN w n0 tB bs vs (T0.setIfInBounds s.slot v) T
theorem zI9{T0 T:Array Value}{k j:Nat}{v:Value}(h1:T[k]?=some v)(hs:T.size=T0.size)(h:k≠j->T[j]?=T0[j]?):T[j]?=(T0.setIfInBounds k v)[j]?:=by
 by_cases e:k=j
 ·subst e
  have hlt:k<T0.size:=by rw[<-hs];exact(Array.getElem?_eq_some_iff.1 h1).1
  rw[h1,Array.getElem?_setIfInBounds_self_of_lt hlt]
 ·rw[xgc e]
  exact h e
theorem zKh{w:World}{n0:Nat}{tB:TypeId}:∀(bs:List BS) (u:List Nat) {T0 T:Array Value},(∀j,(∀s∈bs,s.slot≠j)->T[j]?=T0[j]?)->(∀s∈bs,∃c x y,T[s.slot]?=some (ptr c)/\n0<=c/\Blk w c tB #[x,y]/\s.P w (.agg #[x,y]))->T.size=T0.size->(bs.map (·.slot)).Nodup->
  (∀s∈bs,∀c,T[s.slot]?=some (ptr c)->∀d∈u,d≠c)->(∀s∈bs,∀t∈bs,s.slot≠t.slot->∀c d,T[s.slot]?=some (ptr c)->T[t.slot]?=some (ptr d)->c≠d)->zD7 w n0 tB bs u T0 T
 | [],_,T0,T,h,_,_,_,_,_=>Array.ext_getElem? (fun j=>h j (fun p hp=>by cases hp))
 | b::bs,u,T0,T,h,hv,hs,hn,hu,hf=>by
  obtain⟨c,x,y,h1,h2,h3,h4⟩:=hv b (by simp);rw[List.map_cons,List.nodup_cons]at hn;refine⟨c,x,y,h2,h3,h4,hu b (by simp) c h1,zKh bs _ (fun j hj=>zI9 h1 hs fun e=>h j (fun t ht=>by
   rcases List.mem_cons.1 ht with rfl|ht
   ·exact e
   ·exact hj t ht)) (fun t ht=>hv t (List.mem_cons_of_mem _ ht)) (by simp[hs]) hn.2 (fun t ht d hd e he=>?_) (fun s hs t ht=>hf s (List.mem_cons_of_mem _ hs) t (List.mem_cons_of_mem _ ht))⟩
  rcases List.mem_cons.1 he with rfl|he
  ·exact hf b (by simp) t (List.mem_cons_of_mem _ ht) (fun e=>hn.1 (List.mem_map.2 ⟨t,ht,e.symm⟩)) _ _ h1 hd
  ·exact hu t (List.mem_cons_of_mem _ ht) d hd e he
theorem zKi{w:World}{n0:Nat}{tB:TypeId}{bs:List BS}{T:Array Value}:∀(vs:List VS) {T0:Array Value},(∀j,(∀s∈vs,s.slot≠j)->(∀s∈bs,s.slot≠j)->T[j]?=T0[j]?)->(∀s∈vs,∃v,T[s.slot]?=some v/\s.P w v)->T.size=T0.size->(vs.map (·.slot)).Nodup->
  (∀T1:Array Value,(∀j,(∀s∈bs,s.slot≠j)->T[j]?=T1[j]?)->T.size=T1.size->zD7 w n0 tB bs [] T1 T)->zEN w n0 tB bs vs T0 T
 | [],T0,h,_,hs,_,hb=>hb T0 (fun j hj=>h j (fun p hp=>by cases hp) hj) hs
 | s::vs,T0,h,hv,hs,hn,hb=>by
  obtain⟨v,h1,h2⟩:=hv s (by simp);rw[List.map_cons,List.nodup_cons]at hn;exact⟨v,h2,zKi vs (fun j hj hj2=>zI9 h1 hs fun e=>h j (fun t ht=>by
   rcases List.mem_cons.1 ht with rfl|ht
   ·exact e
   ·exact hj t ht) hj2) (fun t ht=>hv t (List.mem_cons_of_mem _ ht)) (by simp[hs]) hn.2 hb⟩
section
variable {W:World} {n0:Nat} {T0:Array Value} {tB:TypeId} {vs:List VS} {bs:List BS} {es:List ES} {L:Array Bool} {T:Array Value} {w w':World}
theorem RI.e{i s:Nat}{x:Value}(h:RI W n0 T0 tB vs bs es L T w)(hm:E i s x∈vs)(hl:L[i]?=some true):T[s]?=some x:=by
 obtain⟨v,h1,rfl⟩:=h.val _ hm hl;exact h1
theorem RI.vi{i s:Nat}{z:Int}(h:RI W n0 T0 tB vs bs es L T w)(hm:EI i s z∈vs)(hl:L[i]?=some true):∃v,T[s]?=some v/\zH w v z:=h.val _ hm hl
theorem RI.k{x:Value}(h:RI W n0 T0 tB vs bs es L T w)(j:Nat)(h2:T0[j]?=some x)(h1:((vs.all fun s=>!(s.slot==j)) && bs.all fun s=>!(s.slot==j))=true):T[j]?=some x:=by
 rw[Bool.and_eq_true]at h1;exact(h.keep j (fun s hs e=>by have:=List.all_eq_true.1 h1.1 s hs;simp[e]at this) (fun s hs e=>by have:=List.all_eq_true.1 h1.2 s hs;simp[e]at this)).trans h2
theorem RI.q{i s:Nat}{x:Value}(h:RI W n0 T0 tB vs bs es L T w)(hm:E i s x∈vs):RI W n0 T0 tB vs bs es (L.setIfInBounds i true) (T.setIfInBounds s x) w:=h.value _ hm rfl rfl
theorem RI.n{i s:Nat}{z:Int}{v:Value}(h:RI W n0 T0 tB vs bs es L T w)(hm:EI i s z∈vs)(hv:zH w v z):RI W n0 T0 tB vs bs es (L.setIfInBounds i true) (T.setIfInBounds s v) w:=h.value _ hm rfl hv
theorem RI.finx(hI:RI W n0 T0 tB vs bs es L T w)(h1:(vs.all fun s=>L[s.op]?==some true)=true)(h2:(bs.all fun s=>L[s.al]?==some true && L[s.st]?==some true)=true):zEN w n0 tB bs vs T0 T:=by
 have hw:=hI.wf;unfold zBp at hw;simp only[Bool.and_eq_true,decide_eq_true_eq]at hw;have hnd:=List.nodup_append.1 hw.1.1;obtain⟨p1,p2,p3,p4,p5,p6,p7,p8⟩:=zBp.parts hI.wf;have on1:∀s∈vs,L[s.op]?=some true:=fun s hs=>by have:=List.all_eq_true.1 h1 s hs;simpa using this
 have on2:∀s∈bs,L[s.al]?=some true/\L[s.st]?=some true:=fun s hs=>by have:=List.all_eq_true.1 h2 s hs;simpa using this
 refine zKi vs hI.keep (fun s hs=>hI.val s hs (on1 s hs)) hI.size hnd.1 fun T1 k1 k2=>zKh bs [] k1 (fun s hs=>?_) k2 hnd.2.1 (fun s _ c _ d hd=>by cases hd) (fun s hs t ht hne c d hc hd=>?_)
 ·obtain⟨b,x,y,g1,g2,g3,g4⟩:=hI.box s hs (on2 s hs).1
  exact⟨b,x,y,g1,g2,g3,g4 (on2 s hs).2⟩
 ·exact hI.far s hs t ht (p4 t ht s hs (fun e=>hne (by rw[e]))).1 (on2 s hs).1 (on2 t ht).1 c d hc hd
theorem RI.fin{G:Array Value->World->Prop}(hL:(vs.all fun s=>L[s.op]?==some true)=true)(h:∀w,yI W w->Below n0 W w->(∀k,k<n0->w.heap[k]?=W.heap[k]?)->∀T,Fin w vs T0 T->G T w)(T:Array Value)(w:World)(hI:RI W n0 T0 tB vs [] [] L T w):G T w:=by
 refine h w hI.lext (hI.bel n0 (xgf _) (fun s hs=>by cases hs)) (fun k hk=>hI.old k hk (fun s hs=>by cases hs)) T (zKj vs (fun j hj=>hI.keep j hj (fun s hs=>by cases hs)) (fun s hs=>hI.val s hs ?_) hI.size ?_)
 ·have:=List.all_eq_true.1 hL s hs
  simpa using this
 ·have hw:=hI.wf
  unfold zBp at hw;simp only[Bool.and_eq_true,decide_eq_true_eq]at hw;exact(List.nodup_append.1 hw.1.1).1
end
theorem xgu{p:Prop}(h:p:=by(go_simp;first|exact hK _ _ (hI.q mm0)|exact hK _ _ (hI.q mm1)|exact hK _ _ (hI.q mm2)|exact hK _ _ (hI.q mm3)|exact hK _ _ (hI.q mm4)|exact hK _ _ (hI.q mm5)|exact hK _ _ (hI.q mm6)|exact hK _ _ (hI.q mm7)|exact hK _ _ (hI.q mm8)|exact hK _ _ (hI.q mm9)|exact hK _ _ (hI.q zAB)|exact hK _ _ (hI.q zAG)|exact hK _ _ (hI.q zAs)|exact hK _ _ (hI.q zCS)|exact hK _ _ (hI.q zBq)|exact hK _ _ (hI.q zCV)|exact hK _ _ (hI.q zDy)|exact hK _ _ (hI.q zEy)|exact hK _ _ (hI.q zCl)|exact hK _ _ (hI.q zE5)|exact hK _ _ (hI.q zEz)|exact hK _ _ (hI.q zE0)|exact hK _ _ (hI.q zFa)|exact hK _ _ (hI.q zFb)|exact hK _ _ (hI.q zHa)|exact hK _ _ (hI.q zE1)|exact hK _ _ (hI.q zIp)|exact hK _ _ (hI.q zJf)|exact hK _ _ (hI.q zKA)|exact hK _ _ (hI.q zIq)|exact hK _ _ (hI.q zMA)|exact hK _ _ (hI.q zO7)|exact hK _ _ (hI.q zO8)|exact hK _ _ (hI.q zKB)|exact hK _ _ (hI.q zO9)|exact hK _ _ (hI.q zOe)|exact hK _ _ (hI.q zOf)|exact hK _ _ (hI.q zPA)|exact hK _ _ (hI.q zOg)|exact hK _ _ (hI.q zPB)|exact hK _ _ (hI.q zPC))):p:=h
theorem xgs{p q:Prop}(zt:q)(h:q->p:=by(intro zt;go_simp;first|exact hK _ _ (hI.q mm0)|exact hK _ _ (hI.q mm1)|exact hK _ _ (hI.q mm2)|exact hK _ _ (hI.q mm3)|exact hK _ _ (hI.q mm4)|exact hK _ _ (hI.q mm5)|exact hK _ _ (hI.q mm6)|exact hK _ _ (hI.q mm7)|exact hK _ _ (hI.q mm8)|exact hK _ _ (hI.q mm9)|exact hK _ _ (hI.q zAB)|exact hK _ _ (hI.q zAG)|exact hK _ _ (hI.q zAs)|exact hK _ _ (hI.q zCS)|exact hK _ _ (hI.q zBq)|exact hK _ _ (hI.q zCV)|exact hK _ _ (hI.q zDy)|exact hK _ _ (hI.q zEy)|exact hK _ _ (hI.q zCl)|exact hK _ _ (hI.q zE5)|exact hK _ _ (hI.q zEz)|exact hK _ _ (hI.q zE0)|exact hK _ _ (hI.q zFa)|exact hK _ _ (hI.q zFb)|exact hK _ _ (hI.q zHa)|exact hK _ _ (hI.q zE1)|exact hK _ _ (hI.q zIp)|exact hK _ _ (hI.q zJf)|exact hK _ _ (hI.q zKA)|exact hK _ _ (hI.q zIq)|exact hK _ _ (hI.q zMA)|exact hK _ _ (hI.q zO7)|exact hK _ _ (hI.q zO8)|exact hK _ _ (hI.q zKB)|exact hK _ _ (hI.q zO9)|exact hK _ _ (hI.q zOe)|exact hK _ _ (hI.q zOf)|exact hK _ _ (hI.q zPA)|exact hK _ _ (hI.q zOg)|exact hK _ _ (hI.q zPB)|exact hK _ _ (hI.q zPC))):p:=h zt
theorem xgt{p q r:Prop}(z1:q)(z2:r)(h:q->r->p:=by(intro z1 z2;go_simp;first|exact hK _ _ (hI.q mm0)|exact hK _ _ (hI.q mm1)|exact hK _ _ (hI.q mm2)|exact hK _ _ (hI.q mm3)|exact hK _ _ (hI.q mm4)|exact hK _ _ (hI.q mm5)|exact hK _ _ (hI.q mm6)|exact hK _ _ (hI.q mm7)|exact hK _ _ (hI.q mm8)|exact hK _ _ (hI.q mm9)|exact hK _ _ (hI.q zAB)|exact hK _ _ (hI.q zAG)|exact hK _ _ (hI.q zAs)|exact hK _ _ (hI.q zCS)|exact hK _ _ (hI.q zBq)|exact hK _ _ (hI.q zCV)|exact hK _ _ (hI.q zDy)|exact hK _ _ (hI.q zEy)|exact hK _ _ (hI.q zCl)|exact hK _ _ (hI.q zE5)|exact hK _ _ (hI.q zEz)|exact hK _ _ (hI.q zE0)|exact hK _ _ (hI.q zFa)|exact hK _ _ (hI.q zFb)|exact hK _ _ (hI.q zHa)|exact hK _ _ (hI.q zE1)|exact hK _ _ (hI.q zIp)|exact hK _ _ (hI.q zJf)|exact hK _ _ (hI.q zKA)|exact hK _ _ (hI.q zIq)|exact hK _ _ (hI.q zMA)|exact hK _ _ (hI.q zO7)|exact hK _ _ (hI.q zO8)|exact hK _ _ (hI.q zKB)|exact hK _ _ (hI.q zO9)|exact hK _ _ (hI.q zOe)|exact hK _ _ (hI.q zOf)|exact hK _ _ (hI.q zPA)|exact hK _ _ (hI.q zOg)|exact hK _ _ (hI.q zPB)|exact hK _ _ (hI.q zPC))):p:=h z1 z2
theorem xgo{p:Prop}(h:p:=by(rintro e wa ⟨v,rfl,hv,hba⟩;first|exact hK _ _ ((hI.world hba).n mm0 hv)|exact hK _ _ ((hI.world hba).n mm1 hv)|exact hK _ _ ((hI.world hba).n mm2 hv)|exact hK _ _ ((hI.world hba).n mm3 hv)|exact hK _ _ ((hI.world hba).n mm4 hv)|exact hK _ _ ((hI.world hba).n mm5 hv)|exact hK _ _ ((hI.world hba).n mm6 hv)|exact hK _ _ ((hI.world hba).n mm7 hv)|exact hK _ _ ((hI.world hba).n mm8 hv)|exact hK _ _ ((hI.world hba).n mm9 hv)|exact hK _ _ ((hI.world hba).n zAB hv)|exact hK _ _ ((hI.world hba).n zAG hv)|exact hK _ _ ((hI.world hba).n zAs hv)|exact hK _ _ ((hI.world hba).n zCS hv)|exact hK _ _ ((hI.world hba).n zBq hv)|exact hK _ _ ((hI.world hba).n zCV hv)|exact hK _ _ ((hI.world hba).n zDy hv)|exact hK _ _ ((hI.world hba).n zEy hv)|exact hK _ _ ((hI.world hba).n zCl hv)|exact hK _ _ ((hI.world hba).n zE5 hv)|exact hK _ _ ((hI.world hba).n zEz hv)|exact hK _ _ ((hI.world hba).n zE0 hv)|exact hK _ _ ((hI.world hba).n zFa hv)|exact hK _ _ ((hI.world hba).n zFb hv)|exact hK _ _ ((hI.world hba).n zHa hv)|exact hK _ _ ((hI.world hba).n zE1 hv)|exact hK _ _ ((hI.world hba).n zIp hv)|exact hK _ _ ((hI.world hba).n zJf hv)|exact hK _ _ ((hI.world hba).n zKA hv)|exact hK _ _ ((hI.world hba).n zIq hv)|exact hK _ _ ((hI.world hba).n zMA hv)|exact hK _ _ ((hI.world hba).n zO7 hv)|exact hK _ _ ((hI.world hba).n zO8 hv)|exact hK _ _ ((hI.world hba).n zKB hv)|exact hK _ _ ((hI.world hba).n zO9 hv)|exact hK _ _ ((hI.world hba).n zOe hv)|exact hK _ _ ((hI.world hba).n zOf hv)|exact hK _ _ ((hI.world hba).n zPA hv)|exact hK _ _ ((hI.world hba).n zOg hv)|exact hK _ _ ((hI.world hba).n zPB hv)|exact hK _ _ ((hI.world hba).n zPC hv))):p:=h
theorem xgp{p:Prop}(h:p:=by simp[Region.wanted,yielded,zg]):p:=h
theorem zD5.uniq{w:World}{v:Value}{z z':Int}(h:zD5 w v z)(h':zD5 w v z'):z=z':=by
 obtain⟨neg,ao,n,cap,xs,rfl,h1,-,-,h2,-,rfl⟩:=h;obtain⟨neg',ao',n',cap',ys,hv,k1,-,-,k2,-,rfl⟩:=h';injection hv with hv
 simp only[Array.mk.injEq,List.cons.injEq,Value.bool.injEq,Value.slice.injEq]at hv;obtain⟨rfl,⟨rfl,e,-⟩,-⟩:=hv;have hn:xs.length=ys.length:=by rw[h1,k1];exact e
 have:xs=ys:=by
  refine List.ext_getElem hn fun k ha hb=>?_
  obtain⟨b,off,e1,-,hc⟩:=h2.cell ha;obtain⟨b',off',e1',-,hc'⟩:=k2.cell hb;rw[e1]at e1';injection e1' with e1'
  injection e1' with e2 e3
  subst e2;subst e3;rw[hc]at hc';injection hc' with hc'
  injection hc' with _ hc'
  have hc'':xs.getD k 0=ys.getD k 0:=by omega
  simpa[xgb,ha,hb]using hc''
 rw[this]
theorem zF2:∃f:World->Nat->Int,∀(w:World) (b:Nat) (x y:Value) (z:Int),Blk w b 35 #[x,y]->zH w (.agg #[x,y]) z->f w b=z:=by
 refine⟨fun w b=>Classical.epsilon fun z=>∃x y,Blk w b 35 #[x,y]/\zH w (.agg #[x,y]) z,fun w b x y z h1 h2=>?_⟩;have hs:=Classical.epsilon_spec (p:=fun z=>∃x y,Blk w b 35 #[x,y]/\zH w (.agg #[x,y]) z) ⟨z,x,y,h1,h2⟩;obtain⟨x',y',k1,k2⟩:=hs;unfold Blk at h1 k1;rw[h1]at k1;injection k1 with k1
 injection k1 with k1
 simp only[Array.mk.injEq,List.cons.injEq]at k1;obtain⟨rfl,rfl,-⟩:=k1;exact k2.weak.uniq h2.weak
theorem zFe{fn:Func}{p1 p2:Tmp}(h:fn.results=#[.cell p1 35,.cell p2 35])(tmps:Array Value){W:World}{r1 r2:Nat}{v1 v2:Array Value}
  (hp1:tmps.getD p1 undef= .pointer (some ⟨r1,0,none⟩)) (hp2:tmps.getD p2 undef= .pointer (some ⟨r2,0,none⟩)) (hb1:Blk W r1 35 v1) (hb2:Blk W r2 35 v2) (h1:v1.size=2) (h2:v2.size=2):
  (results fn tmps).run Tryz.prog W= .ok (.tuple #[.agg v1,.agg v2]) W:=by
 have hp1':tmps[p1]?.getD undef= .pointer (some ⟨r1,0,none⟩):=by simpa using hp1
 have hp2':tmps[p2]?.getD undef= .pointer (some ⟨r2,0,none⟩):=by simpa using hp2
 simp[results,h,hp1',hp2',asAddr,zAL hb1 h1,zAL hb2 h2]
theorem zFN{a q d r:Nat}(h:a=q*d+r)(hr:r<d):a/d=q/\a%d=r:=by
 subst h;have hd:0<d:=by omega
 constructor
 ·rw[Nat.mul_comm,Nat.mul_add_div hd,Nat.div_eq_of_lt hr,Nat.add_zero]
 ·rw[Nat.mul_comm,Nat.mul_add_mod,Nat.mod_eq_of_lt hr]
theorem zAD(w:World):zH w (.agg #[.bool false,.slice none 0 0]) 0:=
 ⟨false,none,0,0,[],rfl,rfl,xgf _,by omega,zG.nil _ _,qO.nil,rfl,fun _=>rfl⟩
theorem zOC{A B s q r g t:Nat}(hs:0<s)(h:A*s=q*(B*s)+r)(hr:r=g*s+t)(ht:t<s)(hlt:r<B*s):A/B=q/\A%B=g:=by
 have e:A*s=(q*B+g)*s+t:=by
  rw[h,hr,Nat.add_mul,Nat.mul_assoc];omega
 have ht0:t=0:=by
  have h1:(A*s)%s=0:=Nat.mul_mod_left _ _;rw[e,Nat.mul_comm,Nat.mul_add_mod,Nat.mod_eq_of_lt ht]at h1;exact h1
 subst ht0;rw[Nat.add_zero]at e hr;have e2:A=q*B+g:=Nat.eq_of_mul_eq_mul_right hs e;have hg:g<B:=by
  rw[hr]at hlt;exact Nat.lt_of_mul_lt_mul_right hlt
 exact zFN e2 hg
theorem zPg{xs ys:List Nat}(hN:qO ys)(lx:qT xs)(h:nat ys<=nat xs):ys.length<=xs.length:=by
 cases hy:ys.length with
 |zero=>omega
 |succ k=>
  have h1:=zC8 hN hy;have h2:=jZ lx;rcases Nat.lt_or_ge xs.length (k+1)with h3|h3
  ·have:=zAZ (show xs.length<=k by omega);omega
  ·omega
def zQA(w:World)(a b:Nat)(e:Ending)(w':World):Prop:=
 ∃v1 v2,e= .returned (.tuple #[v1,v2])/\zH w' v1 ((a/b:Nat):Int)/\zH w' v2 ((a%b:Nat):Int)/\Below w.heap.size w w'
theorem zG9(ao1 ao2:Option Addr)(n1 cap1 n2 cap2:Nat)(xs ys:List Nat)(w:World)(hn1:xs.length=n1)(hn2:ys.length=n2+1)
  (hl1:n1<=cap1) (hc1:cap1<=9223372036854775807) (hl2:n2+1<=cap2) (hc2:cap2<=9223372036854775807)
  (hb1:n1+1<=LIM) (hb2:n2+2<=LIM) (hx1:zG w ao1 xs) (hx2:zG w ao2 ys) (hN1:qO xs) (hN2:qO ys):
  Calls Tryz.prog 292 #[.slice ao1 n1 cap1,.slice ao2 (n2+1) cap2] w (zQA w (nat xs) (nat ys)):=by
 have HN1:=xgw hn1;have HN2:=xgw hn2;have hlen1':n1<=xs.length:=by omega
 have hlen2':n2+1<=ys.length:=by omega
 obtain⟨b2,off2,y,rfl,hbw2,hy32,HY,hcy⟩:=hx2.limb (k:=n2) oM;have hyp:0<y:=by have:=hN2 n2 hn2;rw[HY.out]at this;omega
 have hys0:0<nat ys:=Nat.lt_of_lt_of_le (Nat.pow_pos dE) (zC8 hN2 hn2);have HA:∀s,s<4294967296->Hid (Sm ((nat xs*s:Nat):Int)):=fun s hs=>Sm.of_pow (k:=n1+1) (by
  have h1:=jZ hx1.1;rw[hn1]at h1;rw[Int.natAbs_natCast,Nat.pow_succ];exact Nat.lt_of_le_of_lt (Nat.mul_le_mul_left _ (Nat.le_of_lt hs)) (Nat.mul_lt_mul_of_pos_right h1 dE)) hb1
 have HB:∀s,s<4294967296->Hid (Sm ((nat ys*s:Nat):Int)):=fun s hs=>Sm.of_pow (k:=n2+2) (by
  have h1:=jZ hx2.1;rw[hn2]at h1;rw[Int.natAbs_natCast,Nat.pow_succ];exact Nat.lt_of_le_of_lt (Nat.mul_le_mul_left _ (Nat.le_of_lt hs)) (Nat.mul_lt_mul_of_pos_right h1 dE)) hb2
 clear hn1 hn2;have hM1:n1<=8*LIM:=by omega
 have hM2:n2+1<=8*LIM:=by omega
 rw[qW]at hb1 hb2;go_enter Tryz.func292,Tryz.ntmps292;go_upto_region 1 with(fail)
 refine zB ?_;intro W0 hW0;obtain⟨hB0,br1,br2,hs0⟩:=qH hW0;obtain⟨d1,d2,d3,d4⟩:=br1.two;obtain⟨e1,e2,e3,e4⟩:=br2.two;have hcy0:=(hB0.cell (p:=⟨b2,off2+n2,none⟩) hbw2).trans hcy;clear hcy;by_cases hone:n2=0
 ·subst hone
  simp only[Nat.add_zero]at hcy0;have hd1:((0:Nat):Int)+1=1:=rfl;go_wp2_with fail
  refine(zEk ao1 n1 cap1 xs y W0 HN1.out (by rw[qW];omega) (hx1.ext (lx hB0)) hyp hy32).mono ?_;rintro e w1 ⟨g,qs,r,rfl,k1,k2,k3,k4,k5,k6⟩;have HV:=xgw k5;clear k5;go_wp2_with fail
  refine(yM _ n1 n1 qs false w1 k3 (xgf _) oM (by rw[qW];omega) (k1.at_ k2)).mono ?_;rintro e w2 ⟨v,rfl,⟨vn,va,vl,vc,vx,rfl,hv⟩,hb2⟩;go_wp2_with fail
  refine zAl ?_;intro W3 hW3;obtain⟨hB3,br3,hs3⟩:=zK hW3;have bl3:jQ W3 w2.heap.size [r]:=br3;refine(yM _ 1 1 [r] false W3 rfl (xgf _) oM (by rw[qW];omega) (bl3.at_ (fun x hx=>by simp at hx;unfold B32;omega))).mono ?_;rintro e w4 ⟨v2,rfl,⟨un,ua,ul,uc,ux,rfl,hu⟩,hb4⟩;have br1a:=(((br1.below k6).below hb2).below hB3).below hb4;have br2a:=(((br2.below k6).below hb2).below hB3).below hb4;obtain⟨f1,f2,f3,f4⟩:=br1a.two;obtain⟨g1,g2,g3,g4⟩:=br2a.two;go_wp2_with fail
  refine bodyPost_ret (zFe rfl _ rfl rfl (((br1a.put2 _ _).far oM _ _).far oM _ _) (((br2a.far oM _ _).far oM _ _).put2 _ _) rfl rfl) rfl ?_;have hlx:=(br1a.lext2 dE (.bool vn) (.slice va vl vc)).trans (((br2a.far oM 0 (.bool vn)).far oM 1 (.slice va vl vc)).lext2 dE (.bool un) (.slice ua ul uc));have hy1:nat ys=y:=by
   have h:=zR ys 0;rw[zJ _ (by have:=HN2.out;omega),HY.out]at h;simpa using h
  obtain⟨q1,q2⟩:=zFN HV.out k4;refine⟨_,_,rfl,?_,?_,zO (zO (zO (zO (nx (nx (nx (nx hB0 k6) hb2) hB3) hb4) oM 0 _) oM 1 _) oM 0 _) oM 1 _⟩
  ·rw[hy1,q1]
   exact zH.ext (zH.ext ⟨vn,va,vl,vc,vx,rfl,hv⟩ (lx (nx hB3 hb4))) hlx
  ·rw[hy1,q2]
   have hr1:nat [r]=r:=by simp[yN]
   rw[<-hr1];exact zH.ext ⟨un,ua,ul,uc,ux,rfl,hu⟩ hlx
 ·go_wp2
  go_loopw [8] (fun sv wr=>wr=W0/\∃s:Nat,sv= .int .u32 s/\0<s/\s<4294967296/\y*s<4294967296) (fun sv _=>4294967296-(intOf sv).toNat)
  case atStart=>exact⟨rfl,1,rfl,by omega,by omega,by omega⟩
  case round=>
   obtain⟨hwr,s,rfl,hs1,hs2,hs3⟩:=hrel;have hwr:=hwr.symm;subst hwr;have hys:s<=y*s:=Nat.le_mul_of_pos_left s hyp;have ec:((y*s:Nat):Int)=(y:Int)*(s:Int):=by simp
   have hi0:0<=(y:Int)*(s:Int):=by omega
   have hi1:(y:Int)*(s:Int)<4294967296:=by omega
   by_cases hlt:y*s<2147483648
   ·have hi2:(y:Int)*(s:Int)<2147483648:=by omega
    go_wp2;go_roundw
    case rel=>exact⟨trivial,2*s,by simp,by omega,by omega,by rw[Nat.mul_left_comm];omega⟩
    case measure=>simp[intOf];omega
   ·have hi2:¬ (y:Int)*(s:Int)<2147483648:=by omega
    go_wp2_with fail
    refine zAl ?_;intro W1 hW1;obtain⟨hB1,br3,hs4⟩:=zK hW1;have bl3:jQ W1 W0.heap.size [s]:=br3;refine(yM _ 1 1 [s] false W1 rfl (xgf _) oM (by rw[qW];omega) (bl3.at_ (fun x hx=>by simp at hx;unfold B32;omega))).mono ?_;rintro e w2 ⟨v,rfl,⟨vn,va,vl,vc,vx,rfl,hv⟩,hb2⟩;go_upto_region 8 with(fail)
    refine zB ?_;intro W3 hW3;have HV:=xgw hv;clear hv d1 d2 d3 d4 e1 e2 e3 e4;obtain⟨hB3,br4,hs5⟩:=zK hW3;obtain⟨d1,d2,d3,d4⟩:=br4.two;have hb3:Below W0.heap.size W0 W3:=nx (nx hB1 hb2) hB3;have hx1b:=hx1.ext (lx (nx hB0 hb3));have hx2b:=hx2.ext (lx (nx hB0 hb3));have hvI:zH W3 (.agg #[.bool vn,.slice va vl vc]) (sgn false (nat [s])):=zH.ext ⟨vn,va,vl,vc,vx,rfl,HV.out⟩ (lx hB3);clear hW0 hW1 hW3 hB1 hb2 hB3;have hne1:=World.new_ne W3 _ d1;have hne2:=World.new_ne W3 _ d2;replace HA:=HA s hs2;replace HB:=HB s hs2;have eS:nat [s]=s:=by simp[yN]
    have eA:sgn false (nat xs)*sgn false (nat [s])=((nat xs*s:Nat):Int):=by rw[eS];simp[sgn]
    have eB:sgn false (nat ys)*sgn false (nat [s])=((nat ys*s:Nat):Int):=by rw[eS];simp[sgn]
    have hHA:=HA.out;have sA:Sm (sgn false (nat xs)):=Sm.mono hHA (by simp[zZ];exact Nat.le_mul_of_pos_right _ hs1);have hHB:=HB.out;have sB:Sm (sgn false (nat ys)):=Sm.mono hHB (by simp[zZ];exact Nat.le_mul_of_pos_right _ hs1);have sS:Sm (sgn false (nat [s])):=Sm.mono hHB (by simp[zZ];rw[eS];exact Nat.le_mul_of_pos_left _ hys0);clear hb1 hb2 hHA hHB;refine zE rfl (RI W3 (W3.heap.size) _ 35
      [E 0 48 (.slice ao1 n1 cap1),EI 1 49 (sgn false (nat xs)),E 2 50 (.agg #[.bool vn,.slice va vl vc]),EI 3 51 (((nat xs*s:Nat):Int)),E 4 52 (.slice (some ⟨b2,off2,none⟩) (n2+1) cap2),EI 5 53 (sgn false (nat ys)),E 6 54 (.agg #[.bool vn,.slice va vl vc]),EI 7 55 (((nat ys*s:Nat):Int)),⟨8,56,fun w v=>zH w v 0⟩] [⟨9,10,12,fun w v=>zH w v (((nat xs*s:Nat):Int))⟩,⟨10,11,13,fun w v=>zH w v (((nat ys*s:Nat):Int))⟩,⟨11,12,14,fun w v=>zH w v (0)⟩] []) kR RI.start ?fin1 ?steps1
    case steps1=>
     (repeat' constructor)<;>(intro L T wS hL hd hcl hI K hK;try refine zA rfl ?_)
     ·exact xgs (hI.k 0 rfl kR)
     ·have zt0:=hI.e mm0 (hd 0)
      go_simp;refine(yM ao1 n1 cap1 xs false _ HN1.out hl1 hc1 hM1 (hx1b.ext hI.lext)).mono ?_;exact xgo
     ·have zt:=hI.k 9 rfl kR
      have cc0:=hI.cell d1 oM nom;have cc1:=hI.cell d2 oM nom;exact xgu
     ·obtain⟨v1,zt1,h1⟩:=hI.vi mm1 (hd 1)
      have zt2:=hI.e mm2 (hd 2);go_simp;refine(zAb _ _ (sgn false (nat xs)) (sgn false (nat [s])) _ h1 (hvI.ext hI.lext) sA sS).mono ?_;rintro e wa ⟨v,rfl,hv,hba⟩;rw[eA]at hv;exact hK _ _ ((hI.world hba).n mm3 hv)
     ·exact xgs (hI.k 1 rfl kR)
     ·have zt4:=hI.e mm4 (hd 4)
      go_simp;refine(yM _ _ _ ys false _ HN2.out hl2 hc2 hM2 (hx2b.ext hI.lext)).mono ?_;exact xgo
     ·have zt:=hI.k 9 rfl kR
      have cc0:=hI.cell d1 oM nom;have cc1:=hI.cell d2 oM nom;exact xgu
     ·obtain⟨v5,zt5,h5⟩:=hI.vi mm5 (hd 5)
      have zt6:=hI.e mm6 (hd 6);go_simp;refine(zAb _ _ (sgn false (nat ys)) (sgn false (nat [s])) _ h5 (hvI.ext hI.lext) sB sS).mono ?_;rintro e wa ⟨v,rfl,hv,hba⟩;rw[eB]at hv;exact hK _ _ ((hI.world hba).n mm7 hv)
     ·go_simp
      exact hK _ _ (hI.value ⟨8,56,_⟩ (.tail _ (.tail _ (.tail _ (.tail _ (.tail _ (.tail _ (.tail _ (.tail _ (.head _))))))))) rfl (zAD _))
     ·go_simp
      exact hK _ _ (hI.alloc ⟨9,10,12,_⟩ mm0 rfl hL)
     ·go_simp
      exact hK _ _ (hI.alloc ⟨10,11,13,_⟩ mm1 rfl hL)
     ·go_simp
      exact hK _ _ (hI.alloc ⟨11,12,14,_⟩ mm2 rfl hL)
     ·obtain⟨v,t1,hv⟩:=hI.vi mm3 (hd 3)
      obtain⟨b,x,y,t2,hb1,hb2,-⟩:=hI.box _ mm0 (hd 9);obtain⟨vneg,vao,vlen,vcap,vls,rfl,hv'⟩:=id hv;have HT:=xgw t2;unfold ptr at t2;obtain⟨k1,k2,k3,k4⟩:=hb2.two;go_simp;exact hK _ _ (hI.store ⟨9,10,12,_⟩ mm0 rfl (hd 9) HT.out hv)
     ·obtain⟨v,t1,hv⟩:=hI.vi mm7 (hd 7)
      obtain⟨b,x,y,t2,hb1,hb2,-⟩:=hI.box _ mm1 (hd 10);obtain⟨vneg,vao,vlen,vcap,vls,rfl,hv'⟩:=id hv;have HT:=xgw t2;unfold ptr at t2;obtain⟨k1,k2,k3,k4⟩:=hb2.two;go_simp;exact hK _ _ (hI.store ⟨10,11,13,_⟩ mm1 rfl (hd 10) HT.out hv)
     ·obtain⟨v,t1,hv⟩:=hI.v mm8 (hd 8)
      obtain⟨b,x,y,t2,hb1,hb2,-⟩:=hI.box _ mm2 (hd 11);obtain⟨vneg,vao,vlen,vcap,vls,rfl,hv'⟩:=id hv;have HT:=xgw t2;unfold ptr at t2;obtain⟨k1,k2,k3,k4⟩:=hb2.two;go_simp;exact hK _ _ (hI.store ⟨11,12,14,_⟩ mm2 rfl (hd 11) HT.out hv)
    intro T wx hI;have hT:=hI.finx kR kR;have hlwx:=hI.lext;have hbwx:=hI.bel (W3.heap.size) oM nom;have holdwx:=hI.old;clear hI;simp only[zEN,zD7,E,EI,ptr,xgm,List.not_mem_nil,false_implies,implies_true,and_true,true_and,xgg,xgh,xgi,xgj]at hT;obtain⟨va1,ha1,va3,ha3,va5,ha5,va7,ha7,va8,ha8,ca9,xa9,ya9,ga9,ka9,ia9,ca10,xa10,ya10,ga10,ka10,ia10,na9_10,ca11,xa11,ya11,ga11,ka11,ia11,⟨na10_11,na9_11⟩,rfl⟩:=hT;clear ha1 ha3 ha5 ha7 ha8 hvI hx1b hx2b d1 d2 d3 d4 hne1 hne2 sA sB sS HV br4 eA eB eS bl3 br3 hM1 hM2 HN1 HN2 hx1 hx2 hcy0 HY;have hDI:=ia10;obtain⟨dn,da,dl,dc,dx,hdv,hdl,hd1,hd2,hdL,hdN,hdz,hds⟩:=ia10;injection hdv with hdv
    simp only[Array.mk.injEq,List.cons.injEq,and_true]at hdv;obtain⟨rfl,rfl⟩:=hdv;have hD:nat dx=nat ys*s:=by
     have:=congrArg Int.natAbs hdz;rw[zZ]at this;omega
    have hD0:0<nat ys*s:=Nat.mul_pos hys0 hs1;obtain⟨dm,rfl⟩:∃dm,dl=dm+1:=by
     cases dl with
     |zero=>rw[List.length_eq_zero_iff.1 hdl]at hD;simp[nat]at hD;omega
     |succ k=>exact⟨k,rfl⟩
    have HDl:=xgw hdl;clear hdl hdz;have hsz:=hb3.size;have n30:ca11≠w.heap.size:=by omega
    have n31:ca11≠w.heap.size+1:=by omega
    have l11:=ka11.lt;obtain⟨f,hf⟩:=zF2;go_wp2;go_loopw [] (fun wr=>∃(q r:Nat) (x1 y1 x3 y3:Value),Below W3.heap.size W3 wr/\yI wx wr/\wx.heap.size<=wr.heap.size/\Blk wr ca9 35 #[x1,y1]/\zH wr (.agg #[x1,y1]) r/\Blk wr ca10 35 #[.bool dn,.slice da (dm+1) dc]∧
     Blk wr ca11 35 #[x3,y3]/\zH wr (.agg #[x3,y3]) q/\Hid (nat xs*s=q*(nat ys*s)+r)) (fun wr=>(f wr ca9).toNat)
    case atStart=>
     exact⟨0,nat xs*s,xa9,ya9,xa11,ya11,hbwx,yI.refl _,xgf _,ka9,ia9,ka10,ka11,ia11,by rw[Nat.zero_mul,Nat.zero_add];exact xgw rfl⟩
    case round=>
     obtain⟨q,r,rx1,ry1,rx3,ry3,hbr,hxr,hsr,p1,j1,p2,p3,j3,hinv⟩:=hrel;have hfr:=hf _ _ _ _ _ p1 j1;obtain⟨rn,ra,rl,rc,rx,hrv,hrl,hr1,hr2,hrL,hrN,hrz,hrs⟩:=id j1;injection hrv with hrv
     simp only[Array.mk.injEq,List.cons.injEq,and_true]at hrv;obtain⟨rfl,rfl⟩:=hrv;have hR:nat rx=r:=by
      have:=congrArg Int.natAbs hrz;rw[zZ]at this;omega
     have HSR:Hid (Sm (r:Int)):=Sm.mono HA.out (by have:=hinv.out;simp only[Int.natAbs_natCast];omega);have HSQ:Hid (Sm (q:Int)):=Sm.mono HA.out (by have:=hinv.out;have h2:q<=q*(nat ys*s):=Nat.le_mul_of_pos_right _ hD0;simp only[Int.natAbs_natCast];omega);have hrl4:rl<=4*LIM:=by
      have h0:=HSR.out;rw[<-hR]at h0;have h1:Sm (sgn false (nat rx)):=h0.mono (by simp[zZ]);have h2:=h1.len hrN;rw[hrl]at h2;clear h0 h1;rw[qW]at h2 ⊢
      omega
     have HRl:=xgw hrl;clear hrl hrz;obtain⟨m1,m2,m3,m4⟩:=p1.two;obtain⟨l1,l2,l3,l4⟩:=p2.two;obtain⟨qn,qa,ql,qc,qx,hqv,hq'⟩:=id j3;injection hqv with hqv
     simp only[Array.mk.injEq,List.cons.injEq,and_true]at hqv;obtain⟨rfl,rfl⟩:=hqv;have HQ':=xgw hq';clear hq';obtain⟨o1,o2,o3,o4⟩:=p3.two;go_wp2_with fail
     refine(zD9 ra da rl rc (dm+1) dc rx dx wr HRl.out HDl.out hr1 hd1 hr2 hd2 hrL (hdL.ext hxr) hrN hdN).mono ?_;rintro e wq ⟨rfl,nq,rfl⟩;by_cases hlt2:nat rx<nat dx
     ·rw[decide_eq_true hlt2]
      go_wp2_with fail
      refine(zEk ra rl rc rx s _ HRl.out hrl4 (hrL.ext (lx (drN wr nq))) hs1 hs2).mono ?_;rintro e w4 ⟨g,qs,rr,rfl,t1,t2,t3,t4,t5,t6⟩;have P3:=(p3.drewN nq).below t6;obtain⟨e1,e2,e3,e4⟩:=P3.two;have HT5:=xgw t5;clear t5;have B1:=(((br1.below hb3).below hbr).drewN nq).below t6;have B2:=(((br2.below hb3).below hbr).drewN nq).below t6;have P3l:=P3.lt;clear m1 m2 m3 m4 l1 l2 l3 l4 o1 o2 o3 o4;go_upto_region 14 with(fail)
      refine zC 3 rfl (RI w4 (w4.heap.size) _ 35
        [E 0 83 (.agg #[.bool qn,.slice qa ql qc]),VSl 1 84 g rl rl,EI 2 85 (((nat qs:Nat):Int))] [] []) kR RI.start (RI.fin kR ?fin2) ?steps2
      case steps2=>
       (repeat' constructor)<;>(intro L T wS hL hd hcl hI K hK;try refine zA rfl ?_)
       ·have zt:=hI.k 12 rfl kR
        have cc0:=hI.cell e1 oM nom;have cc1:=hI.cell e2 oM nom;exact xgu
       ·exact xgs (hI.k 14 rfl kR)
       ·have zt1:=hI.e mm1 (hd 1)
        go_simp;refine(yM _ rl rl qs false _ t3 (xgf _) oM oM ((t1.at_ t2).ext hI.lext)).mono ?_;rintro e wa ⟨v,rfl,hv,hba⟩;simp only[sgn_false]at hv;exact hK _ _ ((hI.world hba).n mm2 hv)
      intro w5 hlw5 hbw5 holdw5 T hT;simp only[Fin,E,EI,VP,VSl,VN,xgg,xgh,xgi,xgj]at hT;obtain⟨vb2,hb2,rfl⟩:=hT;simp only[xgl,xgk];obtain⟨fn,fa,fl,fc,fx,rfl,hff⟩:=id hb2;have HFF:=xgw hff;clear hff;have C1:=B1.below hbw5;have C2:=B2.below hbw5;obtain⟨z1,z2,z3,z4⟩:=C1.two;obtain⟨y1,y2,y3,y4⟩:=C2.two;go_wp2_with fail
      refine bodyPost_ret (zFe rfl _ rfl rfl (((C1.put2 _ _).far oM _ _).far oM _ _) (((C2.far oM _ _).far oM _ _).put2 _ _) rfl rfl) rfl ?_;obtain⟨g1,g2⟩:=zOC hs1 hinv.out (hR ▸ HT5.out) t4 (by rw[<-hD,<-hR];exact hlt2);have hlx:=(C1.lext2 dE (.bool qn) (.slice qa ql qc)).trans (((C2.far oM 0 (.bool qn)).far oM 1 (.slice qa ql qc)).lext2 dE (.bool fn) (.slice fa fl fc));refine⟨_,_,rfl,?_,?_,zO (zO (zO (zO (nx (nx (nx (nx (nx hB0 hb3) hbr) (drN wr nq)) t6) hbw5) oM 0 _) oM 1 _) oM 0 _) oM 1 _⟩
      ·rw[g1]
       exact(j3.ext (lx (nx (nx (drN wr nq) t6) hbw5))).ext hlx
      ·rw[g2]
       exact hb2.ext hlx
     ·rw[decide_eq_false hlt2]
      have hdr:nat dx<=nat rx:=Nat.le_of_not_lt hlt2;have hlen:=zPg hdN hrL.1 hdr;rw[HRl.out,HDl.out]at hlen;obtain⟨rm,rfl⟩:∃rm,rl=rm+1:=⟨rl-1,by omega⟩;go_wp2_with fail
      refine(zLR ra da rm rc dm dc rx dx _ HRl.out HDl.out hrl4 (hrL.ext (lx (drN wr nq))) (hdL.ext (hxr.trans (lx (drN wr nq)))) hrN oM hdr).mono ?_;rintro e w4 ⟨v,z,rfl,hz,hz0,hzb,hb4⟩;obtain⟨zn,za,zl,zc,zx,rfl,hz'⟩:=id hz;rw[hD,hR]at hzb;have hzD:0<z*(nat ys*s):=Nat.mul_pos hz0 hD0;have SZD:Hid (Sm ((z:Int)*((nat ys*s:Nat):Int))):=Sm.mono HSR.out (by rw[<-Int.natCast_mul,Int.natAbs_natCast,Int.natAbs_natCast];exact hzb);have SZ:Hid (Sm (z:Int)):=Sm.mono HSR.out (by rw[Int.natAbs_natCast,Int.natAbs_natCast];exact Nat.le_trans (Nat.le_mul_of_pos_right _ hD0) hzb);have HZB:=xgw hzb;have HZD:=xgw hzD;clear hzb hz' hzD;go_upto_region 11 with(fail)
      refine zB ?_;intro W5 hW5;obtain⟨hB5,br5,hs6⟩:=zK hW5;have P1:=((p1.drewN nq).below hb4).below hB5;have P2:=((p2.drewN nq).below hb4).below hB5;have P3:=((p3.drewN nq).below hb4).below hB5;obtain⟨e1,e2,e3,e4⟩:=P3.two;obtain⟨f1,f2,f3,f4⟩:=br5.two;clear m1 m2 m3 m4 l1 l2 l3 l4 o1 o2 o3 o4;go_wp2_with fail
      refine(zB7 _ _ (q:Int) (z:Int) W5 (j3.ext ((lx (drN wr nq)).trans (lx (nx hb4 hB5)))) (hz.ext (lx hB5)) HSQ.out SZ.out).mono ?_;rintro e w6 ⟨v,rfl,hq2,hb6⟩;obtain⟨vn2,va2,vl2,vc2,vx2,rfl,hq2'⟩:=id hq2;have HQ2':=xgw hq2';clear hq2';have P3':=P3.below hb6;obtain⟨k31,k32,k33,k34⟩:=P3'.two;clear e1 e2 e3 e4 f1 f2 f3 f4;go_upto_region 12 with(fail)
      refine zB ?_;intro W7 hW7;have Q3:=Blk.at_ hW7 (P3'.put2 _ _);have Q1:=Blk.at_ hW7 (((P1.below hb6).far na9_11 _ _).far na9_11 _ _);have Q2:=Blk.at_ hW7 (((P2.below hb6).far na10_11 _ _).far na10_11 _ _);have n53:w4.heap.size≠ca11:=by
       have h1:=p3.lt;have h2:=hb4.size;have h3:(wr.drewN nq).heap.size=wr.heap.size:=rfl;omega
      have Q5:=Blk.at_ hW7 (((br5.below hb6).far n53 _ _).far n53 _ _);obtain⟨s1,s2,s3,s4⟩:=Q1.two;obtain⟨a1,a2,a3,a4⟩:=Q2.two;obtain⟨f1,f2,f3,f4⟩:=Q5.two;have hx67:yI w6 W7:=by rw[hW7.out];exact P3'.lext2 dE _ _
      have hb67:Below W3.heap.size W3 W7:=by
       rw[hW7.out];have h0:=(((hbr.trans ((drN wr nq).mono hbr.size)).trans (hb4.mono hbr.size)).trans (hB5.mono (Nat.le_trans hbr.size hb4.size))).trans (hb6.mono (Nat.le_trans (Nat.le_trans hbr.size hb4.size) hB5.size));exact zO (zO h0 ga11 0 _) ga11 1 _
      have hx7:yI wr W7:=((lx (drN wr nq)).trans (lx (nx (nx hb4 hB5) hb6))).trans hx67;have q1l:=Q1.lt;have q2l:=Q2.lt;have q5l:=Q5.lt;have hsz7:wx.heap.size<=W7.heap.size:=by
       rw[hW7.out];have h1:=hb4.size;have h2:=hB5.size;have h3:=hb6.size;have h4:(wr.drewN nq).heap.size=wr.heap.size:=rfl;simp only[World.size_setCell];omega
      have hr7:=j1.ext hx7;have hD7:zH W7 (.agg #[.bool dn,.slice da (dm+1) dc]) ((nat ys*s:Nat):Int):=hDI.ext (hxr.trans hx7);have hz7:zH W7 (.agg #[.bool zn,.slice za zl zc]) (z:Int):=hz.ext ((lx (nx hB5 hb6)).trans hx67);clear hW7 hW5 hb4 hB5 P1 P2 P3 P3' k31 k32 k33 k34 br5;refine zC 5 rfl (RI W7 (W7.heap.size) _ 35
        [E 0 71 (.agg #[.bool rn,.slice ra (rm+1) rc]),E 1 72 (.agg #[.bool zn,.slice za zl zc]),E 2 73 (.agg #[.bool dn,.slice da (dm+1) dc]),EI 3 74 ((z:Int)*((nat ys*s:Nat):Int)),EI 4 75 ((r:Int)-(z:Int)*((nat ys*s:Nat):Int))] [] []) kR RI.start (RI.fin kR ?fin3) ?steps3
      case steps3=>
       (repeat' constructor)<;>(intro L T wS hL hd hcl hI K hK;try refine zA rfl ?_)
       ·have zt:=hI.k 10 rfl kR
        have cc0:=hI.cell s1 oM nom;have cc1:=hI.cell s2 oM nom;exact xgu
       ·have zt:=hI.k 13 rfl kR
        have cc0:=hI.cell f1 oM nom;have cc1:=hI.cell f2 oM nom;exact xgu
       ·have zt:=hI.k 11 rfl kR
        have cc0:=hI.cell a1 oM nom;have cc1:=hI.cell a2 oM nom;exact xgu
       ·have zt1:=hI.e mm1 (hd 1)
        have zt2:=hI.e mm2 (hd 2);go_simp;refine(zAb _ _ (z:Int) ((nat ys*s:Nat):Int) _ (hz7.ext hI.lext) (hD7.ext hI.lext) SZ.out HB.out).mono ?_;exact xgo
       ·have zt0:=hI.e mm0 (hd 0)
        obtain⟨v3,zt3,h3⟩:=hI.vi mm3 (hd 3);go_simp;refine(zEl _ _ (r:Int) ((z:Int)*((nat ys*s:Nat):Int)) _ (hr7.ext hI.lext) h3 HSR.out SZD.out).mono ?_;exact xgo
      intro w9 hlw9 hbw9 holdw9 T hT;simp only[Fin,E,EI,VP,VSl,VN,xgg,xgh,xgi,xgj]at hT;obtain⟨vc3,hc3,vc4,hc4,rfl⟩:=hT;simp only[xgl,xgk];obtain⟨on,oa,ol,oc,ox,rfl,ho⟩:=id hc4;have HO:=xgw ho;clear ho;have C1:=Q1.below hbw9;have C2:=Q2.below hbw9;have C3:=Q3.below hbw9;have hnew0:zH w9 (.agg #[.bool on,.slice oa ol oc]) ((r-z*(nat ys*s):Nat):Int):=by
       have h1:=HZB.out;have h2:(r:Int)-(z:Int)*((nat ys*s:Nat):Int)=((r-z*(nat ys*s):Nat):Int):=by
        rw[<-Int.natCast_mul];omega
       rw[<-h2];exact hc4
      have hxs:=C1.lext2 dE (.bool on) (.slice oa ol oc);have hnew:=hnew0.ext hxs;have hb9:Below W3.heap.size W3 w9:=hb67.trans (hbw9.mono hb67.size);have hx9:yI wx w9:=(hxr.trans hx7).trans (lx hbw9);have hsz9:wx.heap.size<=((w9.setCell ⟨ca9,0,none⟩ (.bool on)).setCell ⟨ca9,1,none⟩ (.slice oa ol oc)).heap.size:=by
       have h1:=hbw9.size;simp only[World.size_setCell];omega
      obtain⟨z1,z2,z3,z4⟩:=C1.two;go_wp2;go_roundw
      case rel=>
       exact⟨q+z,r-z*(nat ys*s),_,_,_,_,zO (zO hb9 ga9 0 _) ga9 1 _,hx9.trans hxs,hsz9,C1.put2 _ _,hnew,(C2.far (Ne.symm na9_10) _ _).far (Ne.symm na9_10) _ _,(C3.far (Ne.symm na9_11) _ _).far (Ne.symm na9_11) _ _,(hq2.ext (hx67.trans (lx hbw9))).ext hxs,by
        have h1:=hinv.out;have h2:=HZB.out;refine xgw ?_;rw[Nat.add_mul];omega⟩
      case measure=>
       rw[hf _ _ _ _ _ (C1.put2 _ _) hnew,hfr];have h1:=HZB.out;have h2:=HZD.out;omega
def zKH:Nat:=1099511627774
theorem zAR:zKH=1099511627774:=rfl
structure Smd(z:Int):Prop where
 lt:z.natAbs<B32^zKH
theorem Smd.sm{z:Int}(h:Smd z):Sm z:=Nat.lt_of_lt_of_le h.lt (zAZ (by rw[zAR,qW];omega))
theorem Smd.mono{z y:Int}(h:Smd z)(hy:y.natAbs<=z.natAbs):Smd y:=⟨Nat.lt_of_le_of_lt hy h.lt⟩
theorem zFA(a b:Nat)(h:a+1<=b):B32^a<B32^b:=by
 have h1:B32^(a+1)<=B32^b:=zAZ h;rw[Nat.pow_succ]at h1;have h2:0<B32^a:=Nat.pow_pos dE;have h3:B32^a*2<=B32^a*B32:=Nat.mul_le_mul_left _ dE;omega
theorem Smd.sm1{z y:Int}(h:Smd z)(hy:y.natAbs<=z.natAbs+1):Sm y:=
 Nat.lt_of_le_of_lt hy (Nat.lt_of_le_of_lt h.lt (zFA zKH LIM (by rw[zAR,qW];omega)))
theorem Smd.len{neg:Bool}{xs:List Nat}(h:Smd (sgn neg (nat xs)))(hn:qO xs):xs.length<=zKH:=by
 have h:=h.lt;rw[zZ]at h;cases hx:xs.length with
 |zero=>omega
 |succ n=>
  have h1:=zC8 hn hx;rcases Nat.lt_or_ge n zKH with h2|h2
  ·omega
  ·have:=zAZ h2;omega
theorem zB8(v1 v2:Value)(z1 z2:Int)(w:World)(h1:zH w v1 z1)(h2:zH w v2 z2)(s1:Smd z1)(s2:Smd z2)(hz:z2≠0):
  Calls Tryz.prog 254 #[v1,v2] w (zME w z1 z2):=by
 obtain⟨neg1,ao1,n1,cap1,xs,rfl,hn1,hl1,hc1,hx1,hN1,hz1,hp1⟩:=h1;obtain⟨neg2,ao2,n2,cap2,ys,rfl,hn2,hl2,hc2,hx2,hN2,hz2,hp2⟩:=h2;have hM1:n1<=8*LIM:=by
  have:=(hz1 ▸ s1).len hN1;rw[hn1,zAR]at this;clear s1 s2;rw[qW];omega
 have hM2:n2<=8*LIM:=by
  have:=(hz2 ▸ s2).len hN2;rw[hn2,zAR]at this;clear s1 s2;rw[qW];omega
 have HN1:=xgw hn1;have HN2:=xgw hn2;have HZ1:=xgw hz1;have HZ2:=xgw hz2;have HS1:=xgw s1;have HS2:=xgw s2;have HZ:=xgw hz;clear hn1 hn2 hz1 hz2 s1 s2 hz;go_enter Tryz.func254,Tryz.ntmps254;go_upto_region 1 with(fail)
 refine zB ?_;intro W0 hW0;obtain⟨hB0,bx1,bx2,br1,br2,hs0⟩:=zFn hW0;obtain⟨c1,c2,c3,c4⟩:=bx1.two;obtain⟨d1,d2,d3,d4⟩:=bx2.two;have hx1':=hx1.ext (lx hB0);have hx2':=hx2.ext (lx hB0);refine zC 10 rfl (RI W0 (W0.heap.size) _ 35
   [VP 0 9 w.heap.size 1,E 1 10 (.slice ao1 n1 cap1),VP 2 11 w.heap.size 0,E 3 12 (.bool neg1),EI 4 13 (z1),VP 5 14 (w.heap.size+1) 1,E 6 15 (.slice ao2 n2 cap2),VP 7 16 (w.heap.size+1) 0,E 8 17 (.bool neg2),EI 9 18 (z2)] [] []) kR RI.start (RI.fin kR ?fin1) ?steps1
 case steps1=>
  (repeat' constructor)<;>(intro L T wS hL hd hcl hI K hK;try refine zA rfl ?_)
  ·exact xgs (hI.k 2 rfl kR)
  ·have zt0:=hI.e mm0 (hd 0)
   have cc0:=hI.cell c2 oM nom;exact xgu
  ·exact xgs (hI.k 2 rfl kR)
  ·have zt2:=hI.e mm2 (hd 2)
   have cc0:=hI.cell c1 oM nom;exact xgu
  ·have zt1:=hI.e mm1 (hd 1)
   have zt3:=hI.e mm3 (hd 3);go_simp;refine(yM ao1 n1 cap1 xs neg1 _ HN1.out hl1 hc1 hM1 (hx1'.ext hI.lext)).mono ?_;rintro e wa ⟨v,rfl,hv,hba⟩;rw[<-HZ1.out]at hv;exact hK _ _ ((hI.world hba).n mm4 hv)
  ·exact xgs (hI.k 3 rfl kR)
  ·have zt5:=hI.e mm5 (hd 5)
   have cc0:=hI.cell d2 oM nom;exact xgu
  ·exact xgs (hI.k 3 rfl kR)
  ·have zt7:=hI.e mm7 (hd 7)
   have cc0:=hI.cell d1 oM nom;exact xgu
  ·have zt6:=hI.e mm6 (hd 6)
   have zt8:=hI.e mm8 (hd 8);go_simp;refine(yM ao2 n2 cap2 ys neg2 _ HN2.out hl2 hc2 hM2 (hx2'.ext hI.lext)).mono ?_;rintro e wa ⟨v,rfl,hv,hba⟩;rw[<-HZ2.out]at hv;exact hK _ _ ((hI.world hba).n mm9 hv)
 intro W1 hlW1 hbW1 holdW1 T hT;simp only[Fin,E,EI,VP,VSl,VN,xgg,xgh,xgi,xgj]at hT;obtain⟨va4,ha4,va9,ha9,rfl⟩:=hT;simp only[xgl,xgk];clear c1 c2 c3 c4 d1 d2 d3 d4 hx1' hx2' hx1 hx2;obtain⟨an,aa,al,ac,ax,rfl,h1l,h1a,h1b,h1x,h1N,h1z,h1p⟩:=ha4;obtain⟨bn,ba,bl,bc,bx,rfl,h2l,h2a,h2b,h2x,h2N,h2z,h2p⟩:=ha9;have hal:al<=zKH:=by
  have:=(h1z ▸ HS1.out).len h1N;rwa[h1l]at this
 have hbl:bl<=zKH:=by
  have:=(h2z ▸ HS2.out).len h2N;rwa[h2l]at this
 have hA:nat ax=z1.natAbs:=by rw[h1z,zZ]
 have hBv:nat bx=z2.natAbs:=by rw[h2z,zZ]
 obtain⟨bm,rfl⟩:∃bm,bl=bm+1:=by
  cases bl with
  |zero=>rw[List.length_eq_zero_iff.1 h2l]at hBv;have:=HZ.out;simp[nat]at hBv;omega
  |succ k=>exact⟨k,rfl⟩
 have H1L:=xgw h1l;have H2L:=xgw h2l;have H1Z:=xgw h1z;have H2Z:=xgw h2z;have H1A:=xgw hA;have H2A:=xgw hBv;have H1P:=xgw h1p;have H2P:=xgw h2p;clear h1l h2l h1z h2z hA hBv h1p h2p;have bx1:=bx1.below hbW1;have bx2:=bx2.below hbW1;have br1:=br1.below hbW1;have br2:=br2.below hbW1;obtain⟨c1,c2,c3,c4⟩:=bx1.two;obtain⟨d1,d2,d3,d4⟩:=bx2.two;go_upto_region 2 with(fail)
 refine zB ?_;intro W2 hW2;have X1:=Blk.at_ hW2 (((bx1.put2 _ _).far oM _ _).far oM _ _);have X2:=Blk.at_ hW2 (((bx2.far oM _ _).far oM _ _).put2 _ _);have R1:=Blk.at_ hW2 ((((br1.far oM _ _).far oM _ _).far oM _ _).far oM _ _);have R2:=Blk.at_ hW2 ((((br2.far oM _ _).far oM _ _).far oM _ _).far oM _ _);have hs2:=R2.lt;have hx12:yI W1 W2:=by
  rw[hW2.out];exact(bx1.lext2 dE _ _).trans (((bx2.far oM _ _).far oM _ _).lext2 dE _ _)
 have hB2:Below w.heap.size w W2:=by
  rw[hW2.out];exact zO (zO (zO (zO (nx hB0 hbW1) oM 0 _) oM 1 _) oM 0 _) oM 1 _
 clear hW2 bx1 bx2 br1 br2 c1 c2 c3 c4 d1 d2 d3 d4;obtain⟨c1,c2,c3,c4⟩:=X1.two;obtain⟨d1,d2,d3,d4⟩:=X2.two;have h2v:zH W2 (.agg #[.bool bn,.slice ba (bm+1) bc]) z2:=⟨bn,ba,bm+1,bc,bx,rfl,H2L.out,h2a,h2b,h2x.ext hx12,h2N,H2Z.out,H2P.out⟩;go_wp2_with fail
 refine(zA0 _ z2 W2 h2v).mono ?_;rintro e w3 ⟨rfl,hb3⟩;have hc0:qJ z2 0≠0:=by have:=HZ.out;unfold qJ;split<;>(try split)<;>omega
 obtain⟨k,hk⟩:∃k,qJ z2 0=k:=⟨_,rfl⟩;rw[hk]at hc0 ⊢
 have e1:=zI c1 hb3;have e2:=zI c2 hb3;have e3:=zI d1 hb3;have e4:=zI d2 hb3;clear c1 c2 c3 c4 d1 d2 d3 d4;go_wp2_with fail
 refine(zG9 aa ba al ac bm bc ax bx w3 H1L.out H2L.out h1a h1b h2a h2b (by rw[zAR]at hal;rw[qW];omega) (by rw[zAR]at hbl;rw[qW];omega) (h1x.ext (hx12.trans (lx hb3))) (h2x.ext (hx12.trans (lx hb3))) h1N h2N).mono ?_;rintro e w4 ⟨q0,r0,rfl,hq,hr,hb4⟩;obtain⟨qn,qa,ql,qc,qx,rfl,hq'⟩:=id hq;obtain⟨rn,ra,rl,rc,rx,rfl,hr'⟩:=id hr;have HQ':=xgw hq';have HR':=xgw hr';clear hq' hr' e1 e2 e3 e4 hk hc0;go_upto_region 5 with(fail)
 refine zB ?_;intro W5 hW5;obtain⟨hB5,T7,T8,hs5⟩:=qH hW5;have Y1:=((X1.below hb3).below hb4).below hB5;have Y2:=((X2.below hb3).below hb4).below hB5;have R1:=((R1.below hb3).below hb4).below hB5;have R2:=((R2.below hb3).below hb4).below hB5;have hBt:Below w.heap.size w W5:=nx (nx (nx hB2 hb3) hb4) hB5;have hs4:w.heap.size+1+1+1<w4.heap.size:=by
  have h3:=hb3.size;have h4:=hb4.size;omega
 have hb0:0<nat bx:=by have:=HZ.out;have:=H2A.out;omega
 obtain⟨DM1,DM2⟩:=zKc an bn (nat ax) (nat bx) hb0;rw[<-H1Z.out,<-H2Z.out]at DM1 DM2;have h2x5:zG W5 ba bx:=h2x.ext ((hx12.trans (lx hb3)).trans (lx (nx hb4 hB5)));have tq:=hq.ext (lx hB5);have tr:=hr.ext (lx hB5);clear hq hr hW5 hB5 hb4 hb3 X1 X2 hW0 h2v;have SQ:Sm ((nat ax/nat bx+1:Nat):Int):=HS1.out.sm1 (by simp only[Int.natAbs_natCast];rw[<-H1A.out];have:=Nat.div_le_self (nat ax) (nat bx);omega);have HSQ:=xgw SQ;clear SQ;obtain⟨k1,k2,k3,k4⟩:=Y1.two;obtain⟨l1,l2,l3,l4⟩:=Y2.two;obtain⟨c1,c2,c3,c4⟩:=T7.two;obtain⟨d1,d2,d3,d4⟩:=T8.two;cases an with
 | false=>
  have hq:dmQ false (nat ax) (nat bx)=nat ax/nat bx:=rfl;have hr:dmR false (nat ax) (nat bx)=nat ax%nat bx:=rfl;rw[hq]at DM1;rw[hr]at DM2;have HSQ:=xgw (HSQ.out.mono (y:=((nat ax/nat bx:Nat):Int)) (by simp only[Int.natAbs_natCast];omega));clear hq hr;cases bn with
  | false=>
   have HD1:Hid (z1/z2=((nat ax/nat bx:Nat):Int)):=DM1;have HD2:Hid (z1%z2=((nat ax%nat bx:Nat):Int)):=DM2;clear DM1 DM2;go_upto_region 10 with(fail)
   obtain⟨c1,c2,c3,c4⟩:=T7.two;obtain⟨d1,d2,d3,d4⟩:=T8.two;have hl7:=T7.lt;have hl8:=T8.lt;refine zE rfl (RI W5 (W5.heap.size) _ 35
     [E 0 54 (.agg #[.bool qn,.slice qa ql qc]),E 1 55 (.agg #[.bool rn,.slice ra rl rc]),VN 4 6 0] [] [⟨2,w.heap.size+1+1,fun w v=>zH w v (((nat ax/nat bx:Nat):Int))⟩,⟨3,w.heap.size+1+1+1,fun w v=>zH w v (((nat ax%nat bx:Nat):Int))⟩]) kR RI.start ?fin2 ?steps2
   case steps2=>
    (repeat' constructor)<;>(intro L T wS hL hd hcl hI K hK;try refine zA rfl ?_)
    ·have zt:=hI.k 7 rfl kR
     have cc0:=hI.cell c1 oM aU;have cc1:=hI.cell c2 oM aU;exact xgu
    ·have zt:=hI.k 8 rfl kR
     have cc0:=hI.cell d1 oM aU;have cc1:=hI.cell d2 oM aU;exact xgu
    ·have zt:=hI.k 4 rfl kR
     have zv:=hI.e mm0 (hd 0);obtain⟨⟨xo,yo,zb,-⟩,-⟩:=hI.ex _ mm0;replace zb:Blk wS (w.heap.size+1+1) 35 #[xo,yo]:=zb;obtain⟨zk1,zk2,zk3,zk4⟩:=zb.two;go_simp;exact hK _ _ (hI.storeE ⟨2,w.heap.size+1+1,_⟩ mm0 rfl hL rfl (zH.ext tq hI.lext))
    ·have zt:=hI.k 5 rfl kR
     have zv:=hI.e mm1 (hd 1);obtain⟨⟨xo,yo,zb,-⟩,-⟩:=hI.ex _ mm1;replace zb:Blk wS (w.heap.size+1+1+1) 35 #[xo,yo]:=zb;obtain⟨zk1,zk2,zk3,zk4⟩:=zb.two;go_simp;exact hK _ _ (hI.storeE ⟨3,w.heap.size+1+1+1,_⟩ mm1 rfl hL rfl (zH.ext tr hI.lext))
    ·go_simp
     exact hK _ _ (hI.q mm2)
   intro T We hI;obtain⟨⟨exe2,eye2,ebe2,eie2⟩,-⟩:=hI.ex _ mm0;replace ebe2:Blk We (w.heap.size+1+1) 35 #[exe2,eye2]:=ebe2;replace eie2:zH We (.agg #[exe2,eye2]) (((nat ax/nat bx:Nat):Int)):=eie2 rfl;obtain⟨⟨exe3,eye3,ebe3,eie3⟩,-⟩:=hI.ex _ mm1;replace ebe3:Blk We (w.heap.size+1+1+1) 35 #[exe3,eye3]:=ebe3;replace eie3:zH We (.agg #[exe3,eye3]) (((nat ax%nat bx:Nat):Int)):=eie3 rfl;have hT:=hI.finx kR kR;have hlWe:=hI.lext;have hbWe:=hI.bel (w.heap.size) oM aU;have holdWe:=hI.old;clear hI;simp only[zEN,zD7,E,EI,ptr,xgm,List.not_mem_nil,false_implies,implies_true,and_true,true_and,xgg,xgh,xgi,xgj]at hT;subst hT;go_wp2_with fail
   refine bodyPost_ret (jH rfl _ rfl rfl ebe2 ebe3 rfl rfl) rfl ⟨_,_,rfl,?_,?_,hBt.trans hbWe⟩
   ·rw[HD1.out];exact eie2
   ·rw[HD2.out];exact eie3
  | true=>
   have HD1:Hid (z1/z2=-((nat ax/nat bx:Nat):Int)):=DM1;have HD2:Hid (z1%z2=((nat ax%nat bx:Nat):Int)):=DM2;clear DM1 DM2;go_wp2_with fail
   refine(zBb _ (((nat ax/nat bx:Nat):Int)) _ tq.weak HSQ.out).mono ?_;rintro e wn ⟨v,rfl,tq2,hbn⟩;obtain⟨nqn,nqa,nql,nqc,nqx,rfl,hnq⟩:=id tq2;have HNQ:=xgw hnq;clear hnq;have T7:=T7.below hbn;have T8:=T8.below hbn;have R1:=R1.below hbn;have R2:=R2.below hbn;obtain⟨c1,c2,c3,c4⟩:=T7.two;go_upto_region 10 with(fail)
   refine zB ?_;intro Wn hWn;have T7':=Blk.at_ hWn (T7.put2 _ _);have T8:=Blk.at_ hWn ((T8.far oM _ _).far oM _ _);have R1:=Blk.at_ hWn ((R1.far oM _ _).far oM _ _);have R2:=Blk.at_ hWn ((R2.far oM _ _).far oM _ _);have hxn:yI W5 Wn:=by rw[hWn.out];exact(lx hbn).trans (T7.lext2 dE _ _)
   have hBt:Below w.heap.size w Wn:=by rw[hWn.out];exact zO (zO (nx hBt hbn) oM 0 _) oM 1 _
   have tr:=tr.ext hxn;have tq:zH Wn (.agg #[.bool nqn,.slice nqa nql nqc]) (-((nat ax/nat bx:Nat):Int)):=by rw[hWn.out];exact tq2.ext (T7.lext2 dE _ _)
   have T7:=T7';clear T7' tq2 hWn hxn hbn;obtain⟨c1,c2,c3,c4⟩:=T7.two;obtain⟨d1,d2,d3,d4⟩:=T8.two;have hl7:=T7.lt;have hl8:=T8.lt;refine zE rfl (RI Wn (Wn.heap.size) _ 35
     [E 0 54 (.agg #[.bool nqn,.slice nqa nql nqc]),E 1 55 (.agg #[.bool rn,.slice ra rl rc]),VN 4 6 0] [] [⟨2,w.heap.size+1+1,fun w v=>zH w v ((-((nat ax/nat bx:Nat):Int)))⟩,⟨3,w.heap.size+1+1+1,fun w v=>zH w v (((nat ax%nat bx:Nat):Int))⟩]) kR RI.start ?fin3 ?steps3
   case steps3=>
    (repeat' constructor)<;>(intro L T wS hL hd hcl hI K hK;try refine zA rfl ?_)
    ·have zt:=hI.k 7 rfl kR
     have cc0:=hI.cell c1 oM aU;have cc1:=hI.cell c2 oM aU;exact xgu
    ·have zt:=hI.k 8 rfl kR
     have cc0:=hI.cell d1 oM aU;have cc1:=hI.cell d2 oM aU;exact xgu
    ·have zt:=hI.k 4 rfl kR
     have zv:=hI.e mm0 (hd 0);obtain⟨⟨xo,yo,zb,-⟩,-⟩:=hI.ex _ mm0;replace zb:Blk wS (w.heap.size+1+1) 35 #[xo,yo]:=zb;obtain⟨zk1,zk2,zk3,zk4⟩:=zb.two;go_simp;exact hK _ _ (hI.storeE ⟨2,w.heap.size+1+1,_⟩ mm0 rfl hL rfl (zH.ext tq hI.lext))
    ·have zt:=hI.k 5 rfl kR
     have zv:=hI.e mm1 (hd 1);obtain⟨⟨xo,yo,zb,-⟩,-⟩:=hI.ex _ mm1;replace zb:Blk wS (w.heap.size+1+1+1) 35 #[xo,yo]:=zb;obtain⟨zk1,zk2,zk3,zk4⟩:=zb.two;go_simp;exact hK _ _ (hI.storeE ⟨3,w.heap.size+1+1+1,_⟩ mm1 rfl hL rfl (zH.ext tr hI.lext))
    ·go_simp
     exact hK _ _ (hI.q mm2)
   intro T We hI;obtain⟨⟨exe2,eye2,ebe2,eie2⟩,-⟩:=hI.ex _ mm0;replace ebe2:Blk We (w.heap.size+1+1) 35 #[exe2,eye2]:=ebe2;replace eie2:zH We (.agg #[exe2,eye2]) ((-((nat ax/nat bx:Nat):Int))):=eie2 rfl;obtain⟨⟨exe3,eye3,ebe3,eie3⟩,-⟩:=hI.ex _ mm1;replace ebe3:Blk We (w.heap.size+1+1+1) 35 #[exe3,eye3]:=ebe3;replace eie3:zH We (.agg #[exe3,eye3]) (((nat ax%nat bx:Nat):Int)):=eie3 rfl;have hT:=hI.finx kR kR;have hlWe:=hI.lext;have hbWe:=hI.bel (w.heap.size) oM aU;have holdWe:=hI.old;clear hI;simp only[zEN,zD7,E,EI,ptr,xgm,List.not_mem_nil,false_implies,implies_true,and_true,true_and,xgg,xgh,xgi,xgj]at hT;subst hT;go_wp2_with fail
   refine bodyPost_ret (jH rfl _ rfl rfl ebe2 ebe3 rfl rfl) rfl ⟨_,_,rfl,?_,?_,hBt.trans hbWe⟩
   ·rw[HD1.out];exact eie2
   ·rw[HD2.out];exact eie3
 | true=>
  have hm:=Nat.mod_lt (nat ax) hb0;go_wp2_with fail
  refine(zA0 _ _ _ tr).mono ?_;rintro e w6 ⟨rfl,hb6⟩;have T7:=T7.below hb6;have T8:=T8.below hb6;have R1:=R1.below hb6;have R2:=R2.below hb6;have Y1:=Y1.below hb6;have Y2:=Y2.below hb6;have hBt:=nx hBt hb6;have tq:=tq.ext (lx hb6);have tr:=tr.ext (lx hb6);have h2x6:zG w6 ba bx:=h2x5.ext (lx hb6);clear hb6 c1 c2 c3 c4 d1 d2 d3 d4 k1 k2 k3 k4 l1 l2 l3 l4;obtain⟨k1,k2,k3,k4⟩:=Y1.two;obtain⟨l1,l2,l3,l4⟩:=Y2.two;obtain⟨c1,c2,c3,c4⟩:=T7.two;obtain⟨d1,d2,d3,d4⟩:=T8.two;by_cases h0:0<nat ax%nat bx
  ·have hc:qJ ((nat ax%nat bx:Nat):Int) 0=1:=by unfold qJ;rw[if_neg oM,if_pos oM]
   have hq:dmQ true (nat ax) (nat bx)=nat ax/nat bx+1:=by unfold dmQ;rw[if_pos ⟨rfl,h0⟩]
   have hr:dmR true (nat ax) (nat bx)=nat bx-nat ax%nat bx:=by unfold dmR;rw[if_pos ⟨rfl,h0⟩]
   rw[hq]at DM1;rw[hr]at DM2;rw[hc];clear hq hr hc;go_upto_region 6 with(fail)
   have hs6:w4.heap.size+1<w6.heap.size:=T8.lt;have hl7:=T7.lt;have SQ0:Hid (Sm ((nat ax/nat bx:Nat):Int)):=HSQ.out.mono (by simp only[Int.natAbs_natCast];omega);have SB:Hid (Sm (sgn false (nat bx))):=HS2.out.sm.mono (by rw[zZ,H2A.out];exact xgf _);have SR:Hid (Sm ((nat ax%nat bx:Nat):Int)):=SB.out.mono (by rw[zZ,Int.natAbs_natCast];omega);have S1:Hid (Sm 1):=HSQ.out.mono (by rw[Int.natAbs_natCast];exact Nat.succ_le_succ (Nat.zero_le _));have hbl8:bm+1<=8*LIM:=by rw[zAR]at hbl;rw[qW];omega
   refine zC 3 rfl (RI w6 (w6.heap.size) _ 35
     [E 0 39 (.agg #[.bool qn,.slice qa ql qc]),EI 1 40 (1),EI 2 41 (((nat ax/nat bx+1:Nat):Int))] [] []) kR RI.start (RI.fin kR ?fin4) ?steps4
   case steps4=>
    (repeat' constructor)<;>(intro L T wS hL hd hcl hI K hK;try refine zA rfl ?_)
    ·have zt:=hI.k 7 rfl kR
     have cc0:=hI.cell c1 oM nom;have cc1:=hI.cell c2 oM nom;exact xgu
    ·go_simp
     refine(zAH 1 _ oM oM).mono ?_;exact xgo
    ·have zt0:=hI.e mm0 (hd 0)
     obtain⟨v1,zt1,h1⟩:=hI.vi mm1 (hd 1);go_simp;refine(zB7 _ _ ((nat ax/nat bx:Nat):Int) 1 _ (tq.ext hI.lext) h1 SQ0.out S1.out).mono ?_;exact xgo
   intro w7 hlw7 hbw7 holdw7 T hT;simp only[Fin,E,EI,VP,VSl,VN,xgg,xgh,xgi,xgj]at hT;obtain⟨va1,ha1,va2,ha2,rfl⟩:=hT;simp only[xgl,xgk];obtain⟨pn,pa,pl,pc,px,rfl,hpq⟩:=id ha2;have HPQ:=xgw hpq;clear hpq;have T7:=T7.below hbw7;have T8:=T8.below hbw7;have R1:=R1.below hbw7;have R2:=R2.below hbw7;have Y1:=Y1.below hbw7;have Y2:=Y2.below hbw7;clear c1 c2 c3 c4 d1 d2 d3 d4 k1 k2 k3 k4 l1 l2 l3 l4;obtain⟨c1,c2,c3,c4⟩:=T7.two;go_upto_region 7 with(fail)
   refine zB ?_;intro W8 hW8;have T7':=Blk.at_ hW8 (T7.put2 _ _);have T8:=Blk.at_ hW8 ((T8.far oM _ _).far oM _ _);have R1:=Blk.at_ hW8 ((R1.far oM _ _).far oM _ _);have R2:=Blk.at_ hW8 ((R2.far oM _ _).far oM _ _);have Y1:=Blk.at_ hW8 ((Y1.far oM _ _).far oM _ _);have Y2:=Blk.at_ hW8 ((Y2.far oM _ _).far oM _ _);have hx8:yI w7 W8:=by rw[hW8.out];exact T7.lext2 dE _ _
   have hBt:Below w.heap.size w W8:=by rw[hW8.out];exact zO (zO (nx hBt hbw7) oM 0 _) oM 1 _
   have tr:=tr.ext ((lx hbw7).trans hx8);have tq:=ha2.ext hx8;have h2x8:zG W8 ba bx:=h2x6.ext ((lx hbw7).trans hx8);have T7:=T7';clear T7' hW8 hx8 hbw7 hlw7 c1 c2 c3 c4;obtain⟨l1,l2,l3,l4⟩:=Y2.two;obtain⟨d1,d2,d3,d4⟩:=T8.two;have hl8:=T8.lt;have hly:=Y2.lt;have hse:sgn false (nat bx)-((nat ax%nat bx:Nat):Int)=((nat bx-nat ax%nat bx:Nat):Int):=by rw[sgn_false];omega
   refine zC 5 rfl (RI W8 (W8.heap.size) _ 35
     [VP 0 42 (w.heap.size+1) 1,E 1 43 (.slice ba (bm+1) bc),EI 2 44 (sgn false (nat bx)),E 3 45 (.agg #[.bool rn,.slice ra rl rc]),EI 4 46 (((nat bx-nat ax%nat bx:Nat):Int))] [] []) kR RI.start (RI.fin kR ?fin5) ?steps5
   case steps5=>
    (repeat' constructor)<;>(intro L T wS hL hd hcl hI K hK;try refine zA rfl ?_)
    ·exact xgs (hI.k 3 rfl kR)
    ·have zt0:=hI.e mm0 (hd 0)
     have cc0:=hI.cell l2 oM nom;exact xgu
    ·have zt1:=hI.e mm1 (hd 1)
     go_simp;refine(yM ba (bm+1) bc bx false _ H2L.out h2a h2b hbl8 (h2x8.ext hI.lext)).mono ?_;exact xgo
    ·have zt:=hI.k 8 rfl kR
     have cc0:=hI.cell d1 oM nom;have cc1:=hI.cell d2 oM nom;exact xgu
    ·obtain⟨v2,zt2,h2⟩:=hI.vi mm2 (hd 2)
     have zt3:=hI.e mm3 (hd 3);go_simp;refine(zEl _ _ (sgn false (nat bx)) ((nat ax%nat bx:Nat):Int) _ h2 (tr.ext hI.lext) SB.out SR.out).mono ?_;rintro e wa ⟨v,rfl,hv,hba⟩;rw[hse]at hv;exact hK _ _ ((hI.world hba).n mm4 hv)
   intro w9 hlw9 hbw9 holdw9 T hT;simp only[Fin,E,EI,VP,VSl,VN,xgg,xgh,xgi,xgj]at hT;obtain⟨vb2,hb2,vb4,hb4,rfl⟩:=hT;simp only[xgl,xgk];obtain⟨on,oa,ol,oc,ox,rfl,hor⟩:=id hb4;have HOR:=xgw hor;clear hor;have T7:=T7.below hbw9;have T8:=T8.below hbw9;have R1:=R1.below hbw9;have R2:=R2.below hbw9;have Y1:=Y1.below hbw9;have Y2:=Y2.below hbw9;clear d1 d2 d3 d4 l1 l2 l3 l4;obtain⟨d1,d2,d3,d4⟩:=T8.two;obtain⟨k1,k2,k3,k4⟩:=Y1.two;obtain⟨l1,l2,l3,l4⟩:=Y2.two;go_upto_region 8 with(fail)
   refine zB ?_;intro WA hWA;have T8':=Blk.at_ hWA (T8.put2 _ _);have T7:=Blk.at_ hWA ((T7.far oM _ _).far oM _ _);have R1:=Blk.at_ hWA ((R1.far oM _ _).far oM _ _);have R2:=Blk.at_ hWA ((R2.far oM _ _).far oM _ _);have Y1:=Blk.at_ hWA ((Y1.far oM _ _).far oM _ _);have Y2:=Blk.at_ hWA ((Y2.far oM _ _).far oM _ _);have hxA:yI w9 WA:=by rw[hWA.out];exact T8.lext2 dE _ _
   have hBt:Below w.heap.size w WA:=by rw[hWA.out];exact zO (zO (nx hBt hbw9) oM 0 _) oM 1 _
   have tr:=hb4.ext hxA;have tq:=tq.ext ((lx hbw9).trans hxA);have T8:=T8';clear T8' hWA hxA hbw9 hlw9 d1 d2 d3 d4 k1 k2 k3 k4 l1 l2 l3 l4;obtain⟨k1,k2,k3,k4⟩:=Y1.two;obtain⟨l1,l2,l3,l4⟩:=Y2.two;obtain⟨c1,c2,c3,c4⟩:=T7.two;cases bn with
   | true=>
    have HD1:Hid (z1/z2=((nat ax/nat bx+1:Nat):Int)):=DM1;have HD2:Hid (z1%z2=((nat bx-nat ax%nat bx:Nat):Int)):=DM2;clear DM1 DM2;go_upto_region 10 with(fail)
    obtain⟨c1,c2,c3,c4⟩:=T7.two;obtain⟨d1,d2,d3,d4⟩:=T8.two;have hl7:=T7.lt;have hl8:=T8.lt;refine zE rfl (RI WA (WA.heap.size) _ 35
      [E 0 54 (.agg #[.bool pn,.slice pa pl pc]),E 1 55 (.agg #[.bool on,.slice oa ol oc]),VN 4 6 0] [] [⟨2,w.heap.size+1+1,fun w v=>zH w v (((nat ax/nat bx+1:Nat):Int))⟩,⟨3,w.heap.size+1+1+1,fun w v=>zH w v (((nat bx-nat ax%nat bx:Nat):Int))⟩]) kR RI.start ?fin6 ?steps6
    case steps6=>
     (repeat' constructor)<;>(intro L T wS hL hd hcl hI K hK;try refine zA rfl ?_)
     ·have zt:=hI.k 7 rfl kR
      have cc0:=hI.cell c1 oM aU;have cc1:=hI.cell c2 oM aU;exact xgu
     ·have zt:=hI.k 8 rfl kR
      have cc0:=hI.cell d1 oM aU;have cc1:=hI.cell d2 oM aU;exact xgu
     ·have zt:=hI.k 4 rfl kR
      have zv:=hI.e mm0 (hd 0);obtain⟨⟨xo,yo,zb,-⟩,-⟩:=hI.ex _ mm0;replace zb:Blk wS (w.heap.size+1+1) 35 #[xo,yo]:=zb;obtain⟨zk1,zk2,zk3,zk4⟩:=zb.two;go_simp;exact hK _ _ (hI.storeE ⟨2,w.heap.size+1+1,_⟩ mm0 rfl hL rfl (zH.ext tq hI.lext))
     ·have zt:=hI.k 5 rfl kR
      have zv:=hI.e mm1 (hd 1);obtain⟨⟨xo,yo,zb,-⟩,-⟩:=hI.ex _ mm1;replace zb:Blk wS (w.heap.size+1+1+1) 35 #[xo,yo]:=zb;obtain⟨zk1,zk2,zk3,zk4⟩:=zb.two;go_simp;exact hK _ _ (hI.storeE ⟨3,w.heap.size+1+1+1,_⟩ mm1 rfl hL rfl (zH.ext tr hI.lext))
     ·go_simp
      exact hK _ _ (hI.q mm2)
    intro T We hI;obtain⟨⟨exe2,eye2,ebe2,eie2⟩,-⟩:=hI.ex _ mm0;replace ebe2:Blk We (w.heap.size+1+1) 35 #[exe2,eye2]:=ebe2;replace eie2:zH We (.agg #[exe2,eye2]) (((nat ax/nat bx+1:Nat):Int)):=eie2 rfl;obtain⟨⟨exe3,eye3,ebe3,eie3⟩,-⟩:=hI.ex _ mm1;replace ebe3:Blk We (w.heap.size+1+1+1) 35 #[exe3,eye3]:=ebe3;replace eie3:zH We (.agg #[exe3,eye3]) (((nat bx-nat ax%nat bx:Nat):Int)):=eie3 rfl;have hT:=hI.finx kR kR;have hlWe:=hI.lext;have hbWe:=hI.bel (w.heap.size) oM aU;have holdWe:=hI.old;clear hI;simp only[zEN,zD7,E,EI,ptr,xgm,List.not_mem_nil,false_implies,implies_true,and_true,true_and,xgg,xgh,xgi,xgj]at hT;subst hT;go_wp2_with fail
    refine bodyPost_ret (jH rfl _ rfl rfl ebe2 ebe3 rfl rfl) rfl ⟨_,_,rfl,?_,?_,hBt.trans hbWe⟩
    ·rw[HD1.out];exact eie2
    ·rw[HD2.out];exact eie3
   | false=>
    have HD1:Hid (z1/z2=-((nat ax/nat bx+1:Nat):Int)):=DM1;have HD2:Hid (z1%z2=((nat bx-nat ax%nat bx:Nat):Int)):=DM2;clear DM1 DM2;go_wp2_with fail
    refine(zBb _ (((nat ax/nat bx+1:Nat):Int)) _ tq.weak HSQ.out).mono ?_;rintro e wn ⟨v,rfl,tq2,hbn⟩;obtain⟨nqn,nqa,nql,nqc,nqx,rfl,hnq⟩:=id tq2;have HNQ:=xgw hnq;clear hnq;have T7:=T7.below hbn;have T8:=T8.below hbn;have R1:=R1.below hbn;have R2:=R2.below hbn;obtain⟨c1,c2,c3,c4⟩:=T7.two;go_upto_region 10 with(fail)
    refine zB ?_;intro Wn hWn;have T7':=Blk.at_ hWn (T7.put2 _ _);have T8:=Blk.at_ hWn ((T8.far oM _ _).far oM _ _);have R1:=Blk.at_ hWn ((R1.far oM _ _).far oM _ _);have R2:=Blk.at_ hWn ((R2.far oM _ _).far oM _ _);have hxn:yI WA Wn:=by rw[hWn.out];exact(lx hbn).trans (T7.lext2 dE _ _)
    have hBt:Below w.heap.size w Wn:=by rw[hWn.out];exact zO (zO (nx hBt hbn) oM 0 _) oM 1 _
    have tr:=tr.ext hxn;have tq:zH Wn (.agg #[.bool nqn,.slice nqa nql nqc]) (-((nat ax/nat bx+1:Nat):Int)):=by rw[hWn.out];exact tq2.ext (T7.lext2 dE _ _)
    have T7:=T7';clear T7' tq2 hWn hxn hbn;obtain⟨c1,c2,c3,c4⟩:=T7.two;obtain⟨d1,d2,d3,d4⟩:=T8.two;have hl7:=T7.lt;have hl8:=T8.lt;refine zE rfl (RI Wn (Wn.heap.size) _ 35
      [E 0 54 (.agg #[.bool nqn,.slice nqa nql nqc]),E 1 55 (.agg #[.bool on,.slice oa ol oc]),VN 4 6 0] [] [⟨2,w.heap.size+1+1,fun w v=>zH w v ((-((nat ax/nat bx+1:Nat):Int)))⟩,⟨3,w.heap.size+1+1+1,fun w v=>zH w v (((nat bx-nat ax%nat bx:Nat):Int))⟩]) kR RI.start ?fin7 ?steps7
    case steps7=>
     (repeat' constructor)<;>(intro L T wS hL hd hcl hI K hK;try refine zA rfl ?_)
     ·have zt:=hI.k 7 rfl kR
      have cc0:=hI.cell c1 oM aU;have cc1:=hI.cell c2 oM aU;exact xgu
     ·have zt:=hI.k 8 rfl kR
      have cc0:=hI.cell d1 oM aU;have cc1:=hI.cell d2 oM aU;exact xgu
     ·have zt:=hI.k 4 rfl kR
      have zv:=hI.e mm0 (hd 0);obtain⟨⟨xo,yo,zb,-⟩,-⟩:=hI.ex _ mm0;replace zb:Blk wS (w.heap.size+1+1) 35 #[xo,yo]:=zb;obtain⟨zk1,zk2,zk3,zk4⟩:=zb.two;go_simp;exact hK _ _ (hI.storeE ⟨2,w.heap.size+1+1,_⟩ mm0 rfl hL rfl (zH.ext tq hI.lext))
     ·have zt:=hI.k 5 rfl kR
      have zv:=hI.e mm1 (hd 1);obtain⟨⟨xo,yo,zb,-⟩,-⟩:=hI.ex _ mm1;replace zb:Blk wS (w.heap.size+1+1+1) 35 #[xo,yo]:=zb;obtain⟨zk1,zk2,zk3,zk4⟩:=zb.two;go_simp;exact hK _ _ (hI.storeE ⟨3,w.heap.size+1+1+1,_⟩ mm1 rfl hL rfl (zH.ext tr hI.lext))
     ·go_simp
      exact hK _ _ (hI.q mm2)
    intro T We hI;obtain⟨⟨exe2,eye2,ebe2,eie2⟩,-⟩:=hI.ex _ mm0;replace ebe2:Blk We (w.heap.size+1+1) 35 #[exe2,eye2]:=ebe2;replace eie2:zH We (.agg #[exe2,eye2]) ((-((nat ax/nat bx+1:Nat):Int))):=eie2 rfl;obtain⟨⟨exe3,eye3,ebe3,eie3⟩,-⟩:=hI.ex _ mm1;replace ebe3:Blk We (w.heap.size+1+1+1) 35 #[exe3,eye3]:=ebe3;replace eie3:zH We (.agg #[exe3,eye3]) (((nat bx-nat ax%nat bx:Nat):Int)):=eie3 rfl;have hT:=hI.finx kR kR;have hlWe:=hI.lext;have hbWe:=hI.bel (w.heap.size) oM aU;have holdWe:=hI.old;clear hI;simp only[zEN,zD7,E,EI,ptr,xgm,List.not_mem_nil,false_implies,implies_true,and_true,true_and,xgg,xgh,xgi,xgj]at hT;subst hT;go_wp2_with fail
    refine bodyPost_ret (jH rfl _ rfl rfl ebe2 ebe3 rfl rfl) rfl ⟨_,_,rfl,?_,?_,hBt.trans hbWe⟩
    ·rw[HD1.out];exact eie2
    ·rw[HD2.out];exact eie3
  ·have hc:qJ ((nat ax%nat bx:Nat):Int) 0=0:=by unfold qJ;rw[if_neg oM,if_neg oM]
   have hq:dmQ true (nat ax) (nat bx)=nat ax/nat bx:=by unfold dmQ;rw[if_neg (by simp;omega)]
   have hr:dmR true (nat ax) (nat bx)=nat ax%nat bx:=by unfold dmR;rw[if_neg (by simp;omega)]
   rw[hq]at DM1;rw[hr]at DM2;rw[hc];have HSQ:=xgw (HSQ.out.mono (y:=((nat ax/nat bx:Nat):Int)) (by simp only[Int.natAbs_natCast];omega));clear hq hr hc;cases bn with
   | true=>
    have HD1:Hid (z1/z2=((nat ax/nat bx:Nat):Int)):=DM1;have HD2:Hid (z1%z2=((nat ax%nat bx:Nat):Int)):=DM2;clear DM1 DM2;go_upto_region 10 with(fail)
    obtain⟨c1,c2,c3,c4⟩:=T7.two;obtain⟨d1,d2,d3,d4⟩:=T8.two;have hl7:=T7.lt;have hl8:=T8.lt;refine zE rfl (RI w6 (w6.heap.size) _ 35
      [E 0 54 (.agg #[.bool qn,.slice qa ql qc]),E 1 55 (.agg #[.bool rn,.slice ra rl rc]),VN 4 6 0] [] [⟨2,w.heap.size+1+1,fun w v=>zH w v (((nat ax/nat bx:Nat):Int))⟩,⟨3,w.heap.size+1+1+1,fun w v=>zH w v (((nat ax%nat bx:Nat):Int))⟩]) kR RI.start ?fin8 ?steps8
    case steps8=>
     (repeat' constructor)<;>(intro L T wS hL hd hcl hI K hK;try refine zA rfl ?_)
     ·have zt:=hI.k 7 rfl kR
      have cc0:=hI.cell c1 oM aU;have cc1:=hI.cell c2 oM aU;exact xgu
     ·have zt:=hI.k 8 rfl kR
      have cc0:=hI.cell d1 oM aU;have cc1:=hI.cell d2 oM aU;exact xgu
     ·have zt:=hI.k 4 rfl kR
      have zv:=hI.e mm0 (hd 0);obtain⟨⟨xo,yo,zb,-⟩,-⟩:=hI.ex _ mm0;replace zb:Blk wS (w.heap.size+1+1) 35 #[xo,yo]:=zb;obtain⟨zk1,zk2,zk3,zk4⟩:=zb.two;go_simp;exact hK _ _ (hI.storeE ⟨2,w.heap.size+1+1,_⟩ mm0 rfl hL rfl (zH.ext tq hI.lext))
     ·have zt:=hI.k 5 rfl kR
      have zv:=hI.e mm1 (hd 1);obtain⟨⟨xo,yo,zb,-⟩,-⟩:=hI.ex _ mm1;replace zb:Blk wS (w.heap.size+1+1+1) 35 #[xo,yo]:=zb;obtain⟨zk1,zk2,zk3,zk4⟩:=zb.two;go_simp;exact hK _ _ (hI.storeE ⟨3,w.heap.size+1+1+1,_⟩ mm1 rfl hL rfl (zH.ext tr hI.lext))
     ·go_simp
      exact hK _ _ (hI.q mm2)
    intro T We hI;obtain⟨⟨exe2,eye2,ebe2,eie2⟩,-⟩:=hI.ex _ mm0;replace ebe2:Blk We (w.heap.size+1+1) 35 #[exe2,eye2]:=ebe2;replace eie2:zH We (.agg #[exe2,eye2]) (((nat ax/nat bx:Nat):Int)):=eie2 rfl;obtain⟨⟨exe3,eye3,ebe3,eie3⟩,-⟩:=hI.ex _ mm1;replace ebe3:Blk We (w.heap.size+1+1+1) 35 #[exe3,eye3]:=ebe3;replace eie3:zH We (.agg #[exe3,eye3]) (((nat ax%nat bx:Nat):Int)):=eie3 rfl;have hT:=hI.finx kR kR;have hlWe:=hI.lext;have hbWe:=hI.bel (w.heap.size) oM aU;have holdWe:=hI.old;clear hI;simp only[zEN,zD7,E,EI,ptr,xgm,List.not_mem_nil,false_implies,implies_true,and_true,true_and,xgg,xgh,xgi,xgj]at hT;subst hT;go_wp2_with fail
    refine bodyPost_ret (jH rfl _ rfl rfl ebe2 ebe3 rfl rfl) rfl ⟨_,_,rfl,?_,?_,hBt.trans hbWe⟩
    ·rw[HD1.out];exact eie2
    ·rw[HD2.out];exact eie3
   | false=>
    have HD1:Hid (z1/z2=-((nat ax/nat bx:Nat):Int)):=DM1;have HD2:Hid (z1%z2=((nat ax%nat bx:Nat):Int)):=DM2;clear DM1 DM2;go_wp2_with fail
    refine(zBb _ (((nat ax/nat bx:Nat):Int)) _ tq.weak HSQ.out).mono ?_;rintro e wn ⟨v,rfl,tq2,hbn⟩;obtain⟨nqn,nqa,nql,nqc,nqx,rfl,hnq⟩:=id tq2;have HNQ:=xgw hnq;clear hnq;have T7:=T7.below hbn;have T8:=T8.below hbn;have R1:=R1.below hbn;have R2:=R2.below hbn;obtain⟨c1,c2,c3,c4⟩:=T7.two;go_upto_region 10 with(fail)
    refine zB ?_;intro Wn hWn;have T7':=Blk.at_ hWn (T7.put2 _ _);have T8:=Blk.at_ hWn ((T8.far oM _ _).far oM _ _);have R1:=Blk.at_ hWn ((R1.far oM _ _).far oM _ _);have R2:=Blk.at_ hWn ((R2.far oM _ _).far oM _ _);have hxn:yI w6 Wn:=by rw[hWn.out];exact(lx hbn).trans (T7.lext2 dE _ _)
    have hBt:Below w.heap.size w Wn:=by rw[hWn.out];exact zO (zO (nx hBt hbn) oM 0 _) oM 1 _
    have tr:=tr.ext hxn;have tq:zH Wn (.agg #[.bool nqn,.slice nqa nql nqc]) (-((nat ax/nat bx:Nat):Int)):=by rw[hWn.out];exact tq2.ext (T7.lext2 dE _ _)
    have T7:=T7';clear T7' tq2 hWn hxn hbn;obtain⟨c1,c2,c3,c4⟩:=T7.two;obtain⟨d1,d2,d3,d4⟩:=T8.two;have hl7:=T7.lt;have hl8:=T8.lt;refine zE rfl (RI Wn (Wn.heap.size) _ 35
      [E 0 54 (.agg #[.bool nqn,.slice nqa nql nqc]),E 1 55 (.agg #[.bool rn,.slice ra rl rc]),VN 4 6 0] [] [⟨2,w.heap.size+1+1,fun w v=>zH w v ((-((nat ax/nat bx:Nat):Int)))⟩,⟨3,w.heap.size+1+1+1,fun w v=>zH w v (((nat ax%nat bx:Nat):Int))⟩]) kR RI.start ?fin9 ?steps9
    case steps9=>
     (repeat' constructor)<;>(intro L T wS hL hd hcl hI K hK;try refine zA rfl ?_)
     ·have zt:=hI.k 7 rfl kR
      have cc0:=hI.cell c1 oM aU;have cc1:=hI.cell c2 oM aU;exact xgu
     ·have zt:=hI.k 8 rfl kR
      have cc0:=hI.cell d1 oM aU;have cc1:=hI.cell d2 oM aU;exact xgu
     ·have zt:=hI.k 4 rfl kR
      have zv:=hI.e mm0 (hd 0);obtain⟨⟨xo,yo,zb,-⟩,-⟩:=hI.ex _ mm0;replace zb:Blk wS (w.heap.size+1+1) 35 #[xo,yo]:=zb;obtain⟨zk1,zk2,zk3,zk4⟩:=zb.two;go_simp;exact hK _ _ (hI.storeE ⟨2,w.heap.size+1+1,_⟩ mm0 rfl hL rfl (zH.ext tq hI.lext))
     ·have zt:=hI.k 5 rfl kR
      have zv:=hI.e mm1 (hd 1);obtain⟨⟨xo,yo,zb,-⟩,-⟩:=hI.ex _ mm1;replace zb:Blk wS (w.heap.size+1+1+1) 35 #[xo,yo]:=zb;obtain⟨zk1,zk2,zk3,zk4⟩:=zb.two;go_simp;exact hK _ _ (hI.storeE ⟨3,w.heap.size+1+1+1,_⟩ mm1 rfl hL rfl (zH.ext tr hI.lext))
     ·go_simp
      exact hK _ _ (hI.q mm2)
    intro T We hI;obtain⟨⟨exe2,eye2,ebe2,eie2⟩,-⟩:=hI.ex _ mm0;replace ebe2:Blk We (w.heap.size+1+1) 35 #[exe2,eye2]:=ebe2;replace eie2:zH We (.agg #[exe2,eye2]) ((-((nat ax/nat bx:Nat):Int))):=eie2 rfl;obtain⟨⟨exe3,eye3,ebe3,eie3⟩,-⟩:=hI.ex _ mm1;replace ebe3:Blk We (w.heap.size+1+1+1) 35 #[exe3,eye3]:=ebe3;replace eie3:zH We (.agg #[exe3,eye3]) (((nat ax%nat bx:Nat):Int)):=eie3 rfl;have hT:=hI.finx kR kR;have hlWe:=hI.lext;have hbWe:=hI.bel (w.heap.size) oM aU;have holdWe:=hI.old;clear hI;simp only[zEN,zD7,E,EI,ptr,xgm,List.not_mem_nil,false_implies,implies_true,and_true,true_and,xgg,xgh,xgi,xgj]at hT;subst hT;go_wp2_with fail
    refine bodyPost_ret (jH rfl _ rfl rfl ebe2 ebe3 rfl rfl) rfl ⟨_,_,rfl,?_,?_,hBt.trans hbWe⟩
    ·rw[HD1.out];exact eie2
    ·rw[HD2.out];exact eie3
end Go.Proofs.YtnbmaipobhppcaaGreat
