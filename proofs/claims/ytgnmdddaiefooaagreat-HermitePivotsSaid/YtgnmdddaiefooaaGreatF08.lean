/- The reference's integers, second part: Sign, Valid, Neg, Abs, less, Same. The reference's integers, third part: plus, minus. The reference's integers, fourth part: minus, Add, Sub, Cmp. The reference's integers, fifth part: Sub, Cmp, Same. -/
import Derived.Test.YtgnmdddaiefooaaGreatF07
set_option linter.unusedVariables false
set_option linter.unusedSimpArgs false
set_option linter.unusedSectionVars false
set_option maxHeartbeats 16000000
set_option maxRecDepth 100000
namespace Go.Proofs.YtgnmdddaiefooaaGreat
open Go.RowKit
theorem qB.len{w:World}{v:Value}{z:Int}(h:qB w v z)(s:Sm z):
  ∃neg ao n cap xs,v= .agg #[.bool neg,.slice ao n cap]/\xs.length=n/\n<=cap/\cap<=9223372036854775807/\zG w ao xs/\qK xs/\z=sgn neg (nat xs)/\(n=0->neg=false)/\n<=LIM:=by
 obtain⟨neg,ao,n,cap,xs,h1,h2,h3,h4,h5,h6,h7,h8⟩:=h;exact⟨neg,ao,n,cap,xs,h1,h2,h3,h4,h5,h6,h7,h8,by rw[<-h2];exact Sm.len (neg:=neg) (by rw[<-h7];exact s) h6⟩
theorem zAx(v:Value)(z:Int)(w:World)(h:qB w v z):
  Calls Tryz.prog 76 #[v] w fun e w'=>e= .returned (.int .i64 (qO z 0))/\Below w.heap.size w w':=by
 obtain⟨neg,ao,n,cap,xs,rfl,hn,hl,hcap,hx,hN,hz,_⟩:=h;by_cases h0:n=0
 ·have E:Hid (qO z 0=0):=by
   have:xs= []:=List.eq_nil_of_length_eq_zero oM;subst this;exact yQ (by rw[hz];simp[zC8])
  clear hz hn;subst h0;go_enter Tryz.func76,Tryz.ntmps76;go_wp2;go_ret;exact⟨by rw[E.out];rfl,(Below.refl _ _).alloc (xgf _) _⟩
 ·have hp:0<nat xs:=zGP hN (by rintro rfl;simp at hn;omega)
  have h0':((n:Int)==0)=false:=by simpa using h0
  cases neg with
  |true=>
   have E:Hid (qO z 0=-1):=qR (by rw[hz];simp;omega);clear hz hn;go_enter Tryz.func76,Tryz.ntmps76;go_wp2;go_ret;exact⟨by rw[E.out];rfl,(Below.refl _ _).alloc (xgf _) _⟩
  |false=>
   have E:Hid (qO z 0=1):=yJ (by rw[hz];simp;omega);clear hz hn;go_enter Tryz.func76,Tryz.ntmps76;go_wp2;go_ret;exact⟨by rw[E.out];rfl,(Below.refl _ _).alloc (xgf _) _⟩
theorem zGX(v1:Value)(z:Int)(w:World)(h1:qB w v1 z):Calls Tryz.prog 141 #[v1] w fun e w'=>e= .returned (.bool true)/\Below w.heap.size w w':=by
 obtain⟨neg,ao,n,cap,xs,rfl,hn,hl,hc,hx,hN,hz,hpos⟩:=h1;have HN:=Lib.hid hn;clear hz;cases n with
 |zero=>
  obtain rfl:=hpos rfl;clear hn;go_enter Tryz.func141,Tryz.ntmps141;go_wp2;go_ret;exact⟨rfl,(Below.refl _ _).alloc (xgf _) _⟩
 | succ n=>
  obtain⟨b,off,x,rfl,hbw,hx32,HX,hck⟩:=hx.limb (k:=n) oM;have hx0:((x:Int) !=0)=true:=by
   have:=hN n hn;rw[HX.out]at this;simpa using this
  clear hn hpos;go_enter Tryz.func141,Tryz.ntmps141;go_wp2;go_ret;exact⟨rfl,(Below.refl _ _).alloc (xgf _) _⟩
theorem zFh(v1:Value)(z:Int)(w:World)(h1:zCl w v1 z)(s1:Sm z):Calls Tryz.prog 89 #[v1] w (jC w (-z)):=by
 obtain⟨neg,ao,n,cap,xs,rfl,hn,hl,hc,hx,hN,hz,hq⟩:=h1.len s1;have HN:=Lib.hid hn;have HZ:=Lib.hid hz;clear hn hz s1 h1;have hq':n<=8*LIM:=by omega
 go_enter Tryz.func89,Tryz.ntmps89;go_upto_region 1 with(fail)
 refine zB ?_;intro W0 hW0;obtain⟨hB0,bx1,br,hs0⟩:=qV hW0;obtain⟨c1,c2,c3,c4⟩:=bx1.two;obtain⟨d1,d2,d3,d4⟩:=br.two;go_wp2_with fail
 refine(zAh ao n cap xs (!neg) _ HN.out hl hc hq' (hx.ext (lx hB0))).mono ?_;rintro e w2 ⟨v,rfl,hv,hb2⟩;have br2:=br.below hb2;obtain⟨e1,e2,e3,e4⟩:=br2.two;obtain⟨vn,va,vl,vc,vx,rfl,hv2⟩:=hv;go_wp2_with fail
 refine zP rfl rfl rfl (br2.put2 _ _) ?_ (qC (qC (nx hB0 hb2) oM 0 _) oM 1 _);refine qB.ext ?_ (br2.lext2 dE _ _);rw[HZ.out,<-zE0];exact⟨vn,va,vl,vc,vx,rfl,hv2⟩
theorem zJK(v1:Value)(z:Int)(w:World)(h1:zCl w v1 z)(s1:Sm z):Calls Tryz.prog 59 #[v1] w (jC w (z.natAbs:Nat)):=by
 obtain⟨neg,ao,n,cap,xs,rfl,hn,hl,hc,hx,hN,hz,hq⟩:=h1.len s1;have HN:=Lib.hid hn;have HZ:=Lib.hid hz;clear hn hz s1 h1;have hq':n<=8*LIM:=by omega
 go_enter Tryz.func59,Tryz.ntmps59;go_upto_region 1 with(fail)
 refine zB ?_;intro W0 hW0;obtain⟨hB0,bx1,br,hs0⟩:=qV hW0;obtain⟨c1,c2,c3,c4⟩:=bx1.two;obtain⟨d1,d2,d3,d4⟩:=br.two;go_wp2_with fail
 refine(zAh ao n cap xs false _ HN.out hl hc hq' (hx.ext (lx hB0))).mono ?_;rintro e w2 ⟨v,rfl,hv,hb2⟩;have br2:=br.below hb2;obtain⟨e1,e2,e3,e4⟩:=br2.two;obtain⟨vn,va,vl,vc,vx,rfl,hv2⟩:=hv;go_wp2_with fail
 refine zP rfl rfl rfl (br2.put2 _ _) ?_ (qC (qC (nx hB0 hb2) oM 0 _) oM 1 _);refine qB.ext ?_ (br2.lext2 dE _ _);rw[show((z.natAbs:Nat):Int)=sgn false (nat xs) by rw[HZ.out,qH];rfl];exact⟨vn,va,vl,vc,vx,rfl,hv2⟩
theorem zEp(ao1 ao2:Option Addr)(n1 cap1 n2 cap2:Nat)(xs ys:List Nat)(w:World)(hn1:xs.length=n1)(hn2:ys.length=n2)(hl1:n1<=cap1)(hl2:n2<=cap2)
  (hc1:cap1<=9223372036854775807) (hc2:cap2<=9223372036854775807) (hx1:zG w ao1 xs) (hx2:zG w ao2 ys) (hN1:qK xs) (hN2:qK ys):
  Calls Tryz.prog 99 #[.slice ao1 n1 cap1,.slice ao2 n2 cap2] w fun e w'=>e= .returned (.bool (decide (nat xs<nat ys)))/\∃q,w'=w.drewN q:=by
 have HN1:=Lib.hid hn1;have HN2:=Lib.hid hn2;by_cases hne:n1=n2
 ·subst hne
  have hlen1:xs.length<=n1:=by omega
  have hlen1':n1<=xs.length:=by omega
  have hlen2:ys.length<=n1:=by omega
  have hlen2':n1<=ys.length:=by omega
  clear hn1 hn2;go_enter Tryz.func99,Tryz.ntmps99;go_wp2;go_loopw [5] (fun i wr=>∃k q:Nat,k<=n1/\i= .int .i64 ((k:Int)-1)/\Hid (xs.drop k=ys.drop k)/\Hid (wr=w.drewN q)) (fun i _=>(intOf i+1).toNat)
  case atStart=>exact⟨n1,0,xgf _,rfl,by show _=_;rw[List.drop_eq_nil_of_le oM,List.drop_eq_nil_of_le oM],rfl⟩
  case round=>
   obtain⟨k,q,hk,rfl,HD,HW⟩:=hrel;cases k with
   | zero=>
    have E:Hid (decide (nat xs<nat ys)=false):=by
     have:xs=ys:=by simpa using HD.out
     subst this;show _=_;simp
    go_wp2;go_ret;exact⟨by rw[E.out];rfl,_,HW.out⟩
   | succ k=>
    obtain⟨b,off,x,rfl,hbw,hx32,HX,hck⟩:=hx1.limb (k:=k) oM;obtain⟨b2,off2,y,rfl,hbw2,hy32,HY,hcy⟩:=hx2.limb (k:=k) oM;have hck':wr.cell? ⟨b,off+k,none⟩=some (.int .u32 (x:Nat)):=by rw[HW.out];exact hck
    have hcy':wr.cell? ⟨b2,off2+k,none⟩=some (.int .u32 (y:Nat)):=by rw[HW.out];exact hcy
    have ek:IntKind.i64.wrap ((k:Int)+1-1)=k:=by rw[IntWalk.i64_in _ oM];omega
    clear hck hcy;by_cases hxy:x=y
    ·subst hxy
     have HD':Hid (xs.drop k=ys.drop k):=by
      show _=_;rw[List.drop_eq_getElem_cons (l:=xs) (i:=k) oM,List.drop_eq_getElem_cons (l:=ys) (i:=k) oM,HD.out];have h1:=HX.out;have h2:=HY.out;rw[xgb,xga oM]at h1 h2;simp at h1 h2;rw[h1,h2]
     have e0:((x:Int) !=x)=false:=by simp
     clear HD HX HY;go_wp2;go_quiet (fail);go_wp2;go_roundw
     case rel=>exact⟨k,_,by omega,by go_num,HD',by show _=_;rw[HW.out,World.drewN_drewN]⟩
     case measure=>simp[intOf]
    ·have e0:((x:Int) !=y)=true:=by simp;omega
     have E:Hid (decide (nat xs<nat ys)=decide (x<y)):=by
      show _=_;rcases Nat.lt_or_gt_of_ne hxy with h|h
      ·have:=zGk hx1.1 oM oM HD.out HX.out HY.out h
       simp[this,h]
      ·have:=zGk hx2.1 oM oM HD.out.symm HY.out HX.out h
       simp;constructor<;>intro<;>omega
     by_cases hlt:x<y
     ·have e1:decide ((x:Int)<(y:Int))=true:=by simp;omega
      have e2:Hid (decide (nat xs<nat ys)=true):=by show _=_;rw[E.out];simp[hlt]
      go_wp2;go_quiet (fail);go_wp2;go_quiet (fail);go_wp2;go_ret;exact⟨by rw[e2.out];rfl,_,by rw[HW.out];simp only[World.drewN_drewN];rfl⟩
     ·have e1:decide ((x:Int)<(y:Int))=false:=by simp;omega
      have e2:Hid (decide (nat xs<nat ys)=false):=by show _=_;rw[E.out];simp[hlt]
      go_wp2;go_quiet (fail);go_wp2;go_quiet (fail);go_wp2;go_ret;exact⟨by rw[e2.out];rfl,_,by rw[HW.out];simp only[World.drewN_drewN];rfl⟩
 ·have e0:((n1:Int) !=n2)=true:=by simp;omega
  rcases Nat.lt_or_gt_of_ne hne with h|h
  ·have e2:Hid (decide (nat xs<nat ys)=true):=by
    have:=zEd hx1.1 hN2 oM;show _=_;simp[this]
   clear hn1 hn2;go_enter Tryz.func99,Tryz.ntmps99;go_wp2;go_ret;exact⟨by rw[e2.out];first|rfl|(show Ending.returned (.bool (decide (n1<n2)))=_;first|rw[decide_eq_true h]|rw[decide_eq_false oM]),0,rfl⟩
  ·have e2:Hid (decide (nat xs<nat ys)=false):=by
    have:=zEd hx2.1 hN1 oM;show _=_;simp;omega
   clear hn1 hn2;go_enter Tryz.func99,Tryz.ntmps99;go_wp2;go_ret;exact⟨by rw[e2.out];first|rfl|(show Ending.returned (.bool (decide (n1<n2)))=_;first|rw[decide_eq_true h]|rw[decide_eq_false oM]),0,rfl⟩
def zE8(w:World)(n:Nat)(e:Ending)(w':World):Prop:=
 ∃ao len cap xs,e= .returned (.slice ao len cap)/\xs.length=len/\len<=cap/\cap<=9223372036854775807/\zG w' ao xs/\nat xs=n/\Below w.heap.size w w'/\len<=8*LIM
theorem zCG{xs ys zs:List Nat}{k d x y:Nat}(hl:zs.length=k)(h:nat zs+d*B32^k=nat (xs.take k)+nat (ys.take k))(hx:xs.getD k 0=x)(hy:ys.getD k 0=y):
  nat (zs++ [(d+x+y)%4294967296])+(d+x+y)/4294967296*B32^(k+1)=nat (xs.take (k+1))+nat (ys.take (k+1)):=by
 have h1:=zBR (xs:=xs) (ys:=ys) (zs:=zs++ [0]) (k:=k) (d:=d) (x:=x) (y:=y) (by rw[List.take_append_of_le_length oM,zJ zs oM];exact h) (by simp;omega) hx hy;have h2:(zs++ [0]).set k ((d+x+y)%4294967296)=zs++ [(d+x+y)%4294967296]:=by
  rw[List.set_append_right _ _ oM,hl,Nat.sub_self];rfl
 rw[h2,zJ _ (by simp;omega)]at h1;exact h1
theorem zBL{xs:List Nat}{k:Nat}(h:xs.length<=k):xs.getD k 0=0:=by rw[xgb,List.getElem?_eq_none h];rfl
theorem zCw.base_le{w:World}{base:Nat}{v:Value}{xs:List Nat}(h:zCw w base v xs):∀g,v.ownBlock=some g->base<=g:=fun g hg=>(h.2.lt g hg).1
theorem zHo(ao1 ao2:Option Addr)(n1 cap1 n2 cap2:Nat)(xs ys:List Nat)(w:World)(hn1:xs.length=n1)(hn2:ys.length=n2)
  (hb1:n1<=4*LIM) (hb2:n2<=4*LIM) (hx1:zG w ao1 xs) (hx2:zG w ao2 ys):
  Calls Tryz.prog 98 #[.slice ao1 n1 cap1,.slice ao2 n2 cap2] w (zE8 w (nat xs+nat ys)):=by
 have HN1:=Lib.hid hn1;have HN2:=Lib.hid hn2;have hlen1:xs.length<=n1:=by omega
 have hlen1':n1<=xs.length:=by omega
 have hlen2:ys.length<=n2:=by omega
 have hlen2':n2<=ys.length:=by omega
 clear hn1 hn2;rw[yT]at hb1 hb2;obtain⟨mx,hmx1,hmx2,hmx3⟩:∃m,n1<=m/\n2<=m/\m<=4*1099511627776:=⟨max n1 n2,by omega,by omega,by omega⟩;go_enter Tryz.func98,Tryz.ntmps98;go_wp2;go_loopw [5,6,7] (fun v c i wr=>∃(k d:Nat) (zs:List Nat),k<=mx+1/\i= .int .i64 k/\c= .int .u64 d/\d<=1/\k+d<=mx+1/\zs.length<=mx+1/\zCw wr w.heap.size v zs/\Below w.heap.size w wr∧
   Hid (zs.length=k/\nat zs+d*B32^k=nat (xs.take k)+nat (ys.take k))) (fun _ _ i _=>mx+1-(intOf i).toNat)
 case atStart=>exact⟨0,0,[],by omega,rfl,rfl,by omega,by omega,by simp,zCw.empty w _ (xgf _),(Below.refl _ _).alloc (xgf _) _,⟨rfl,by simp⟩⟩
 case round=>
  obtain⟨k,d,zs,hk,rfl,rfl,hd,hkd,hzl,hown,hbel,HH⟩:=hrel;have hzk:zs.length<=k:=Nat.le_of_eq HH.out.1;by_cases h1:k<n1
  ·obtain⟨b,off,x,rfl,hbw,hx32,HX,hck⟩:=hx1.limb (k:=k) oM
   have hck':=(hbel.cell (p:=⟨b,off+k,none⟩) hbw).trans hck;clear hck;by_cases h2:k<n2
   ·obtain⟨b2,off2,y,rfl,hbw2,hy32,HY,hcy⟩:=hx2.limb (k:=k) oM
    have hcy':=(hbel.cell (p:=⟨b2,off2+k,none⟩) hbw2).trans hcy;clear hcy;go_wp2_with (at_builtin;refine zHN rfl _ _ rfl w.heap.size u5 zs rfl (hown.alloc _) _ 1 _ [(d+x+y)%4294967296] rfl (zG.one _ ((d+x+y)%4294967296) (Nat.mod_lt _ dE) _ (by first|rfl|omega|simp)) rfl oM (by have:=hbel.size;simp;omega) ?_;intro v' w' hown' hgr';have hbel':Below w.heap.size w w':=(hbel.alloc hbel.size _).grown hgr' (by have:=hbel.size;simp;omega) (fun g hg=>hown.base_le g hg))
    go_roundw
    case rel=>exact⟨k+1,(d+x+y)/4294967296,zs++ [(d+x+y)%4294967296],by omega,by go_num,by go_num,by omega,by omega,by simp;omega,hown',hbel',⟨by simp[HH.out.1],zCG HH.out.1 HH.out.2 HX.out HY.out⟩⟩
    case measure=>simp[intOf];omega
   ·have HY:Hid (ys.getD k 0=0):=zBL oM
    have hs0:d+x+0=d+x:=rfl;go_wp2_with (at_builtin;refine zHN rfl _ _ rfl w.heap.size u5 zs rfl (hown.alloc _) _ 1 _ [(d+x+0)%4294967296] rfl (zG.one _ ((d+x+0)%4294967296) (Nat.mod_lt _ dE) _ (by first|rfl|omega|simp)) rfl oM (by have:=hbel.size;simp;omega) ?_;intro v' w' hown' hgr';have hbel':Below w.heap.size w w':=(hbel.alloc hbel.size _).grown hgr' (by have:=hbel.size;simp;omega) (fun g hg=>hown.base_le g hg))
    go_roundw
    case rel=>exact⟨k+1,(d+x+0)/4294967296,zs++ [(d+x+0)%4294967296],by omega,by go_num,by go_num,by omega,by omega,by simp;omega,hown',hbel',⟨by simp[HH.out.1],zCG HH.out.1 HH.out.2 HX.out HY.out⟩⟩
    case measure=>simp[intOf];omega
  ·have HX:Hid (xs.getD k 0=0):=zBL oM
   by_cases h2:k<n2
   ·obtain⟨b2,off2,y,rfl,hbw2,hy32,HY,hcy⟩:=hx2.limb (k:=k) oM
    have hcy':=(hbel.cell (p:=⟨b2,off2+k,none⟩) hbw2).trans hcy;clear hcy;go_wp2_with (at_builtin;refine zHN rfl _ _ rfl w.heap.size u5 zs rfl (hown.alloc _) _ 1 _ [(d+0+y)%4294967296] rfl (zG.one _ ((d+0+y)%4294967296) (Nat.mod_lt _ dE) _ (by first|rfl|omega|simp)) rfl oM (by have:=hbel.size;simp;omega) ?_;intro v' w' hown' hgr';have hbel':Below w.heap.size w w':=(hbel.alloc hbel.size _).grown hgr' (by have:=hbel.size;simp;omega) (fun g hg=>hown.base_le g hg))
    go_roundw
    case rel=>exact⟨k+1,(d+0+y)/4294967296,zs++ [(d+0+y)%4294967296],by omega,by go_num,by go_num,by omega,by omega,by simp;omega,hown',hbel',⟨by simp[HH.out.1],zCG HH.out.1 HH.out.2 HX.out HY.out⟩⟩
    case measure=>simp[intOf];omega
   ·have HY:Hid (ys.getD k 0=0):=zBL oM
    by_cases h3:0<d
    ·
     go_wp2_with (at_builtin;refine zHN rfl _ _ rfl w.heap.size u5 zs rfl (hown.alloc _) _ 1 _ [(d+0+0)%4294967296] rfl (zG.one _ ((d+0+0)%4294967296) (Nat.mod_lt _ dE) _ (by first|rfl|omega|simp)) rfl oM (by have:=hbel.size;simp;omega) ?_;intro v' w' hown' hgr';have hbel':Below w.heap.size w w':=(hbel.alloc hbel.size _).grown hgr' (by have:=hbel.size;simp;omega) (fun g hg=>hown.base_le g hg))
     go_roundw
     case rel=>exact⟨k+1,(d+0+0)/4294967296,zs++ [(d+0+0)%4294967296],by omega,by go_num,by go_num,by omega,by omega,by simp;omega,hown',hbel',⟨by simp[HH.out.1],zCG HH.out.1 HH.out.2 HX.out HY.out⟩⟩
     case measure=>simp[intOf];omega
    ·obtain rfl:0=d:=by omega
     go_wp2;go_ret;obtain⟨ao',cap',hv,q1,q2,q3⟩:=hown.at_;have h4:=HH.out.2;rw[Nat.zero_mul,Nat.add_zero,zJ xs oM,zJ ys oM]at h4;exact⟨ao',_,cap',zs,by rw[hv];rfl,rfl,q1,q2,q3,h4,hbel,by rw[yT];omega⟩
theorem zBc{xs ys zs:List Nat}{k d x y v e:Nat}(hl:zs.length=k)(h:nat zs+nat (ys.take k)=nat (xs.take k)+d*B32^k)(hx:xs.getD k 0=x)(hy:ys.getD k 0=y)(hv:v+y+d=x+e*4294967296):
  nat (zs++ [v])+nat (ys.take (k+1))=nat (xs.take (k+1))+e*B32^(k+1):=by
 have h1:=zCZ (xs:=xs) (ys:=ys) (zs:=zs++ [0]) (k:=k) (d:=d) (x:=x) (y:=y) (v:=v) (e:=e) (by rw[List.take_append_of_le_length oM,zJ zs oM];exact h) (by simp;omega) hx hy hv;have h2:(zs++ [0]).set k v=zs++ [v]:=by
  rw[List.set_append_right _ _ oM,hl,Nat.sub_self];rfl
 rw[h2,zJ _ (by simp;omega)]at h1;exact h1
theorem zDa(ao1 ao2:Option Addr)(n1 cap1 n2 cap2:Nat)(xs ys:List Nat)(w:World)(hn1:xs.length=n1)(hn2:ys.length=n2)
  (hb1:n1<=4*LIM) (hx1:zG w ao1 xs) (hx2:zG w ao2 ys) (hle:n2<=n1) (hval:nat ys<=nat xs):
  Calls Tryz.prog 100 #[.slice ao1 n1 cap1,.slice ao2 n2 cap2] w (zE8 w (nat xs-nat ys)):=by
 have HN1:=Lib.hid hn1;have HN2:=Lib.hid hn2;have HV:=Lib.hid hval;have hlen1:xs.length<=n1:=by omega
 have hlen1':n1<=xs.length:=by omega
 have hlen2:ys.length<=n2:=by omega
 have hlen2':n2<=ys.length:=by omega
 clear hn1 hn2 hval;rw[yT]at hb1;go_enter Tryz.func100,Tryz.ntmps100;go_wp2;go_loopw [5,6,7] (fun v c i wr=>∃(k d:Nat) (zs:List Nat),k<=n1/\i= .int .i64 k/\c= .int .i64 d/\d<=1/\zCw wr w.heap.size v zs/\Below w.heap.size w wr∧
   Hid (zs.length=k/\nat zs+nat (ys.take k)=nat (xs.take k)+d*B32^k)) (fun _ _ i _=>n1-(intOf i).toNat)
 case atStart=>exact⟨0,0,[],by omega,rfl,rfl,by omega,zCw.empty w _ (xgf _),(Below.refl _ _).alloc (xgf _) _,⟨rfl,by simp⟩⟩
 case round=>
  obtain⟨k,d,zs,hk,rfl,rfl,hd,hown,hbel,HH⟩:=hrel;have hzk:zs.length<=k:=Nat.le_of_eq HH.out.1;by_cases h1:k<n1
  ·obtain⟨b,off,x,rfl,hbw,hx32,HX,hck⟩:=hx1.limb (k:=k) oM
   have hck':=(hbel.cell (p:=⟨b,off+k,none⟩) hbw).trans hck;clear hck;by_cases h2:k<n2
   ·obtain⟨b2,off2,y,rfl,hbw2,hy32,HY,hcy⟩:=hx2.limb (k:=k) oM
    have hcy':=(hbel.cell (p:=⟨b2,off2+k,none⟩) hbw2).trans hcy;clear hcy;by_cases hs:y+d<=x
    ·
     go_wp2_with (at_builtin;refine zHN rfl _ _ rfl w.heap.size u5 zs rfl (hown.alloc _) _ 1 _ [(x-d-y)] rfl (zG.one _ ((x-d-y)) oM _ (by first|rfl|omega|(rw[IntKind.wrap_u32];omega))) rfl oM (by have:=hbel.size;simp;omega) ?_;intro v' w' hown' hgr';have hbel':Below w.heap.size w w':=(hbel.alloc hbel.size _).grown hgr' (by have:=hbel.size;simp;omega) (fun g hg=>hown.base_le g hg))
     go_roundw
     case rel=>exact⟨k+1,0,zs++ [(x-d-y)],by omega,by go_num,rfl,by omega,hown',hbel',⟨by simp[HH.out.1],zBc HH.out.1 HH.out.2 HX.out HY.out oM⟩⟩
     case measure=>simp[intOf];omega
    ·
     go_wp2_with (at_builtin;refine zHN rfl _ _ rfl w.heap.size u5 zs rfl (hown.alloc _) _ 1 _ [(x+4294967296-d-y)] rfl (zG.one _ ((x+4294967296-d-y)) oM _ (by first|rfl|omega|(rw[IntKind.wrap_u32];omega))) rfl oM (by have:=hbel.size;simp;omega) ?_;intro v' w' hown' hgr';have hbel':Below w.heap.size w w':=(hbel.alloc hbel.size _).grown hgr' (by have:=hbel.size;simp;omega) (fun g hg=>hown.base_le g hg))
     go_roundw
     case rel=>exact⟨k+1,1,zs++ [(x+4294967296-d-y)],by omega,by go_num,rfl,by omega,hown',hbel',⟨by simp[HH.out.1],zBc HH.out.1 HH.out.2 HX.out HY.out oM⟩⟩
     case measure=>simp[intOf];omega
   ·have HY:Hid (ys.getD k 0=0):=zBL oM
    by_cases hs:d<=x
    ·
     go_wp2_with (at_builtin;refine zHN rfl _ _ rfl w.heap.size u5 zs rfl (hown.alloc _) _ 1 _ [(x-d)] rfl (zG.one _ ((x-d)) oM _ (by first|rfl|omega|(rw[IntKind.wrap_u32];omega))) rfl oM (by have:=hbel.size;simp;omega) ?_;intro v' w' hown' hgr';have hbel':Below w.heap.size w w':=(hbel.alloc hbel.size _).grown hgr' (by have:=hbel.size;simp;omega) (fun g hg=>hown.base_le g hg))
     go_roundw
     case rel=>exact⟨k+1,0,zs++ [(x-d)],by omega,by go_num,rfl,by omega,hown',hbel',⟨by simp[HH.out.1],zBc HH.out.1 HH.out.2 HX.out HY.out oM⟩⟩
     case measure=>simp[intOf];omega
    ·
     go_wp2_with (at_builtin;refine zHN rfl _ _ rfl w.heap.size u5 zs rfl (hown.alloc _) _ 1 _ [(x+4294967296-d)] rfl (zG.one _ ((x+4294967296-d)) oM _ (by first|rfl|omega|(rw[IntKind.wrap_u32];omega))) rfl oM (by have:=hbel.size;simp;omega) ?_;intro v' w' hown' hgr';have hbel':Below w.heap.size w w':=(hbel.alloc hbel.size _).grown hgr' (by have:=hbel.size;simp;omega) (fun g hg=>hown.base_le g hg))
     go_roundw
     case rel=>exact⟨k+1,1,zs++ [(x+4294967296-d)],by omega,by go_num,rfl,by omega,hown',hbel',⟨by simp[HH.out.1],zBc HH.out.1 HH.out.2 HX.out HY.out oM⟩⟩
     case measure=>simp[intOf];omega
  ·obtain rfl:n1=k:=by omega
   go_wp2;go_ret;obtain⟨ao',cap',hv,q1,q2,q3⟩:=hown.at_;have h4:=HH.out.2;rw[zJ xs oM,zJ ys oM]at h4;have h2:=zAP hown.1;rw[HH.out.1]at h2;have h3:=HV.out;refine⟨ao',_,cap',zs,by rw[hv];rfl,rfl,q1,q2,q3,?_,hbel,by rw[yT];omega⟩;generalize B32^n1=p at h4 h2;have h5:d=0∨d=1:=by omega
   rcases h5 with rfl|rfl<;>omega
theorem zCH(v1 v2:Value)(z1 z2:Int)(w:World)(h1:qB w v1 z1)(h2:qB w v2 z2)(s1:Sm z1)(s2:Sm z2):
  Calls Tryz.prog 50 #[v1,v2] w (jC w (z1+z2)):=by
 obtain⟨neg1,ao1,n1,cap1,xs,rfl,hn1,hl1,hc1,hx1,hN1,hz1,hp1,hq1⟩:=h1.len s1;obtain⟨neg2,ao2,n2,cap2,ys,rfl,hn2,hl2,hc2,hx2,hN2,hz2,hp2,hq2⟩:=h2.len s2;have HN1:=Lib.hid hn1;have HN2:=Lib.hid hn2;have HZ1:=Lib.hid hz1;have HZ2:=Lib.hid hz2;clear hn1 hn2 hz1 hz2 s1 s2 h1 h2 hp1 hp2;have hq1':n1<=4*LIM:=by omega
 have hq2':n2<=4*LIM:=by omega
 clear hq1 hq2;by_cases hs:neg1=neg2
 ·subst hs
  go_enter Tryz.func50,Tryz.ntmps50;go_upto_region 1 with(fail)
  refine zB ?_;intro W0 hW0;obtain⟨hB0,bx1,bx2,br,hs0⟩:=zAK hW0;obtain⟨c1,c2,c3,c4⟩:=bx1.two;obtain⟨d1,d2,d3,d4⟩:=bx2.two;go_wp2_with fail
  have lx1:=lx (nx hB0 (dr W0));go_region_held3 (fun w'=>w'.cell? ⟨w.heap.size,1,none⟩=some (.slice ao1 n1 cap1)/\w'.cell? ⟨w.heap.size+1,1,none⟩=some (.slice ao2 n2 cap2)/\w'.cell? ⟨w.heap.size,0,none⟩=some (.bool neg1))
   ((((try go_split_ands);(repeat' apply And.intro))<;>first|exact qX (by assumption)|exact qD (by assumption) hb1|exact qD (by assumption) hb2|exact jE (jE (by assumption) oM) oM))
   (first
    |(go_at_call 98;refine(zHo ao1 ao2 n1 cap1 n2 cap2 xs ys _ HN1.out HN2.out hq1' hq2' (hx1.ext lx1) (hx2.ext lx1)).mono ?_;rintro e w1 ⟨ao,len,cap,zs,rfl,hz1,hz2,hz3,hz4,hz5,hb1,hz6⟩;have br1:=br.drew.below hb1)
    |(go_at_call 97;refine(zAh ao len cap zs neg1 _ hz1 hz2 hz3 hz6 hz4).mono ?_;rintro e w2 ⟨v,rfl,hv,hb2⟩;have br2:=br1.below hb2;obtain⟨e1,e2,e3,e4⟩:=br2.two;obtain⟨vn,va,vl,vc,vx,rfl,hv2⟩:=hv))
  go_wp2_with fail
  refine zP rfl rfl rfl (br2.put2 _ _) ?_ (qC (qC (nx (nx (nx hB0 (dr W0)) hb1) hb2) oM 0 _) oM 1 _);refine qB.ext ?_ (br2.lext2 dE _ _);rw[hz5]at hv2;rw[HZ1.out,HZ2.out,<-zJU];exact⟨vn,va,vl,vc,vx,rfl,hv2⟩
 ·have hs':(neg1==neg2)=false:=by simpa using hs
  have Hs:=Lib.hid hs;clear hs;have hless:=fun W h1 h2=>zEp ao1 ao2 n1 cap1 n2 cap2 xs ys W HN1.out HN2.out hl1 hl2 hc1 hc2 h1 h2 hN1 hN2
  by_cases hlt:nat xs<nat ys
  ·rw[decide_eq_true hlt]at hless
   go_enter Tryz.func50,Tryz.ntmps50;go_upto_region 1 with(fail)
   refine zB ?_;intro W0 hW0;obtain⟨hB0,bx1,bx2,br,hs0⟩:=zAK hW0;obtain⟨c1,c2,c3,c4⟩:=bx1.two;obtain⟨d1,d2,d3,d4⟩:=bx2.two;go_wp2_with (go_at_call 99;refine(hless _ (hx1.ext (lx hB0)) (hx2.ext (lx hB0))).mono ?_;rintro e w' ⟨rfl,nd,rfl⟩)
   have lx1:=lx (nx (nx hB0 (drN W0 nd)) (dr (W0.drewN nd)));go_region_held3 (fun w'=>w'.cell? ⟨w.heap.size,1,none⟩=some (.slice ao1 n1 cap1)/\w'.cell? ⟨w.heap.size+1,1,none⟩=some (.slice ao2 n2 cap2)/\w'.cell? ⟨(w.heap.size+1),0,none⟩=some (.bool neg2))
    ((((try go_split_ands);(repeat' apply And.intro))<;>first|exact qX (by assumption)|exact qD (by assumption) hb1|exact qD (by assumption) hb2|exact jE (jE (by assumption) oM) oM))
    (first
     |(go_at_call 100;refine(zDa ao2 ao1 n2 cap2 n1 cap1 ys xs _ HN2.out HN1.out hq2' (hx2.ext lx1) (hx1.ext lx1) (by rw[<-HN1.out,<-HN2.out];exact jL hx2.1 hN1 oM) oM).mono ?_;rintro e w1 ⟨ao,len,cap,zs,rfl,hz1,hz2,hz3,hz4,hz5,hb1,hz6⟩;have br1:=(br.drewN nd).drew.below hb1)
     |(go_at_call 97;refine(zAh ao len cap zs neg2 _ hz1 hz2 hz3 hz6 hz4).mono ?_;rintro e w2 ⟨v,rfl,hv,hb2⟩;have br2:=br1.below hb2;obtain⟨e1,e2,e3,e4⟩:=br2.two;obtain⟨vn,va,vl,vc,vx,rfl,hv2⟩:=hv))
   go_wp2_with fail
   refine zP rfl rfl rfl (br2.put2 _ _) ?_ (qC (qC (nx (nx (nx (nx hB0 (drN W0 nd)) (dr (W0.drewN nd))) hb1) hb2) oM 0 _) oM 1 _);refine qB.ext ?_ (br2.lext2 dE _ _);rw[hz5]at hv2;rw[HZ1.out,HZ2.out,<-zHB Hs.out _ _ oM];exact⟨vn,va,vl,vc,vx,rfl,hv2⟩
  ·rw[decide_eq_false hlt]at hless
   go_enter Tryz.func50,Tryz.ntmps50;go_upto_region 1 with(fail)
   refine zB ?_;intro W0 hW0;obtain⟨hB0,bx1,bx2,br,hs0⟩:=zAK hW0;obtain⟨c1,c2,c3,c4⟩:=bx1.two;obtain⟨d1,d2,d3,d4⟩:=bx2.two;go_wp2_with (go_at_call 99;refine(hless _ (hx1.ext (lx hB0)) (hx2.ext (lx hB0))).mono ?_;rintro e w' ⟨rfl,nd,rfl⟩)
   have lx1:=lx (nx (nx hB0 (drN W0 nd)) (dr (W0.drewN nd)));go_region_held3 (fun w'=>w'.cell? ⟨w.heap.size,1,none⟩=some (.slice ao1 n1 cap1)/\w'.cell? ⟨w.heap.size+1,1,none⟩=some (.slice ao2 n2 cap2)/\w'.cell? ⟨w.heap.size,0,none⟩=some (.bool neg1))
    ((((try go_split_ands);(repeat' apply And.intro))<;>first|exact qX (by assumption)|exact qD (by assumption) hb1|exact qD (by assumption) hb2|exact jE (jE (by assumption) oM) oM))
    (first
     |(go_at_call 100;refine(zDa ao1 ao2 n1 cap1 n2 cap2 xs ys _ HN1.out HN2.out hq1' (hx1.ext lx1) (hx2.ext lx1) (by rw[<-HN1.out,<-HN2.out];exact jL hx1.1 hN2 oM) oM).mono ?_;rintro e w1 ⟨ao,len,cap,zs,rfl,hz1,hz2,hz3,hz4,hz5,hb1,hz6⟩;have br1:=(br.drewN nd).drew.below hb1)
     |(go_at_call 97;refine(zAh ao len cap zs neg1 _ hz1 hz2 hz3 hz6 hz4).mono ?_;rintro e w2 ⟨v,rfl,hv,hb2⟩;have br2:=br1.below hb2;obtain⟨e1,e2,e3,e4⟩:=br2.two;obtain⟨vn,va,vl,vc,vx,rfl,hv2⟩:=hv))
   go_wp2_with fail
   refine zP rfl rfl rfl (br2.put2 _ _) ?_ (qC (qC (nx (nx (nx (nx hB0 (drN W0 nd)) (dr (W0.drewN nd))) hb1) hb2) oM 0 _) oM 1 _);refine qB.ext ?_ (br2.lext2 dE _ _);rw[hz5]at hv2;rw[HZ1.out,HZ2.out,<-zHA Hs.out _ _ oM];exact⟨vn,va,vl,vc,vx,rfl,hv2⟩
theorem Sm.neg{z:Int}(h:Sm z):Sm (-z):=by unfold Sm at h ⊢;rwa[Int.natAbs_neg]
theorem zJM(v1 v2:Value)(z1 z2:Int)(w:World)(h1:qB w v1 z1)(h2:qB w v2 z2)(s1:Sm z1)(s2:Sm z2):
  Calls Tryz.prog 96 #[v1,v2] w (jC w (z1-z2)):=by
 have H1:=Lib.hid h1;have H2:=Lib.hid h2;obtain⟨neg1,ao1,n1,cap1,xs,rfl,-⟩:=h1;obtain⟨neg2,ao2,n2,cap2,ys,rfl,-⟩:=h2;have hneg:=fun W h=>zFh (.agg #[.bool neg2,.slice ao2 n2 cap2]) z2 W h s2
 have hadd:=fun v W h1 h2=>zCH (.agg #[.bool neg1,.slice ao1 n1 cap1]) v z1 (-z2) W h1 h2 s1 s2.neg
 clear s1 s2;go_enter Tryz.func96,Tryz.ntmps96;go_upto_region 1 with(fail)
 refine zB ?_;intro W0 hW0;obtain⟨hB0,bx1,bx2,br,hs0⟩:=zAK hW0;obtain⟨c1,c2,c3,c4⟩:=bx1.two;obtain⟨d1,d2,d3,d4⟩:=bx2.two;have lx1:=lx (nx hB0 (dr W0));go_region_held3 (fun w'=>w'.cell? ⟨w.heap.size,0,none⟩=some (.bool neg1)/\w'.cell? ⟨w.heap.size,1,none⟩=some (.slice ao1 n1 cap1)/\w'.cell? ⟨w.heap.size+1,0,none⟩=some (.bool neg2)/\w'.cell? ⟨w.heap.size+1,1,none⟩=some (.slice ao2 n2 cap2))
  ((((try go_split_ands);(repeat' apply And.intro))<;>first|exact qX (by assumption)|exact qD (by assumption) hb1|exact qD (by assumption) hb2|exact jE (jE (by assumption) oM) oM))
  (first
   |(go_at_call 89;refine(hneg _ (H2.out.weak.ext lx1)).mono ?_;rintro e w1 ⟨vneg,rfl,hvn,hb1⟩;have br1:=br.drew.below hb1;have h1':=H1.out.ext (lx (nx (nx hB0 (dr W0)) hb1)))
   |(go_at_call 50;refine(hadd vneg _ h1' hvn).mono ?_;rintro e w2 ⟨v,rfl,hv,hb2⟩;have br2:=br1.below hb2;obtain⟨e1,e2,e3,e4⟩:=br2.two;obtain⟨vn,va,vl,vc,vx,rfl,hv2⟩:=hv))
 go_wp2_with fail
 refine zP rfl rfl rfl (br2.put2 _ _) ?_ (qC (qC (nx (nx (nx hB0 (dr W0)) hb1) hb2) oM 0 _) oM 1 _);refine qB.ext ?_ (br2.lext2 dE _ _);rw[Int.sub_eq_add_neg];exact⟨vn,va,vl,vc,vx,rfl,hv2⟩
theorem zJL(v1 v2:Value)(z1 z2:Int)(w:World)(h1:qB w v1 z1)(h2:qB w v2 z2)(s1:Sm z1)(s2:Sm z2):
  Calls Tryz.prog 77 #[v1,v2] w fun e w'=>e= .returned (.int .i64 (qO z1 z2))/\Below w.heap.size w w':=by
 have H1:=Lib.hid h1;have H2:=Lib.hid h2;obtain⟨neg1,ao1,n1,cap1,xs,rfl,-⟩:=h1;obtain⟨neg2,ao2,n2,cap2,ys,rfl,-⟩:=h2;have hsub:=fun W h1 h2=>zJM (.agg #[.bool neg1,.slice ao1 n1 cap1]) (.agg #[.bool neg2,.slice ao2 n2 cap2]) z1 z2 W h1 h2 s1 s2
 have E:Hid (qO (z1-z2) 0=qO z1 z2):=by
  rcases Int.lt_trichotomy z1 z2 with h|h|h
  ·show _=_;rw[qR h,qR oM]
  ·show _=_;rw[yQ h,yQ oM]
  ·show _=_;rw[yJ h,yJ oM]
 clear s1 s2;go_enter Tryz.func77,Tryz.ntmps77;go_upto_region 1 with(fail)
 refine zB ?_;intro W0 hW0;obtain⟨hB0,bx1,bx2,hs0⟩:=qV hW0;obtain⟨c1,c2,c3,c4⟩:=bx1.two;obtain⟨d1,d2,d3,d4⟩:=bx2.two;go_wp2_with fail
 refine(hsub _ (H1.out.ext (lx hB0)) (H2.out.ext (lx hB0))).mono ?_;rintro e w1 ⟨v,rfl,hv,hb1⟩;go_wp2_with fail
 refine(zAx v _ _ hv).mono ?_;rintro e w2 ⟨rfl,hb2⟩;go_wp2_with fail
 go_ret;exact⟨by rw[<-E.out];rfl,nx (nx hB0 hb1) hb2⟩
theorem zMl{a b:Bool}{m n:Nat}(h:sgn a m=sgn b n):m=n/\(m≠0->a=b):=by
 have h1:=congrArg Int.natAbs h;rw[qH,qH]at h1;subst h1;refine⟨rfl,fun h0=>?_⟩;cases a<;>cases b<;>simp at h ⊢<;>omega
theorem zEO(v1 v2:Value)(z1 z2:Int)(w:World)(h1:qB w v1 z1)(h2:qB w v2 z2):
  Calls Tryz.prog 58 #[v1,v2] w fun e w'=>e= .returned (.bool (decide (z1=z2)))/\Below w.heap.size w w':=by
 obtain⟨neg1,ao1,n1,cap1,xs,rfl,hn1,hl1,hc1,hx1,hN1,hz1,hp1⟩:=h1;obtain⟨neg2,ao2,n2,cap2,ys,rfl,hn2,hl2,hc2,hx2,hN2,hz2,hp2⟩:=h2;have hz:Hid (z1=z2↔(neg1=neg2/\¬ nat xs<nat ys/\¬ nat ys<nat xs)):=by
  show _↔_;rw[hz1,hz2];constructor
  ·intro h
   obtain⟨h3,h4⟩:=zMl h;refine⟨?_,by omega,by omega⟩;by_cases h0:nat xs=0
   ·have e1:=(zBv hN1).1 h0
    have e2:=(zBv hN2).1 oM;subst e1;subst e2;rw[hp1 hn1.symm,hp2 hn2.symm]
   ·exact h4 h0
  ·rintro⟨h3,h4,h5⟩
   rw[h3,show nat xs=nat ys by omega]
 have hl12:=fun W h1 h2=>zEp ao1 ao2 n1 cap1 n2 cap2 xs ys W hn1 hn2 hl1 hl2 hc1 hc2 h1 h2 hN1 hN2
 have hl21:=fun W h1 h2=>zEp ao2 ao1 n2 cap2 n1 cap1 ys xs W hn2 hn1 hl2 hl1 hc2 hc1 h1 h2 hN2 hN1
 clear hn1 hn2 hz1 hz2 hp1 hp2;by_cases hs:neg1=neg2
 ·subst hs
  by_cases h12:nat xs<nat ys
  ·rw[decide_eq_true h12]at hl12
   have E:Hid (decide (z1=z2)=false):=by show _=_;rw[decide_eq_false];rw[hz.out];omega
   clear hz;go_enter Tryz.func58,Tryz.ntmps58;go_upto_region 1 with(fail)
   refine zB ?_;intro W0 hW0;obtain⟨hB0,bx1,bx2,hs0⟩:=qV hW0;obtain⟨c1,c2,c3,c4⟩:=bx1.two;obtain⟨d1,d2,d3,d4⟩:=bx2.two;go_wp2_with (go_at_call 99;refine(hl12 _ (hx1.ext (lx hB0)) (hx2.ext (lx hB0))).mono ?_;rintro e w' ⟨rfl,nd,rfl⟩)
   go_ret;exact⟨by rw[E.out];rfl,nx hB0 (drN _ _)⟩
  ·rw[decide_eq_false h12]at hl12
   by_cases h21:nat ys<nat xs
   ·rw[decide_eq_true h21]at hl21
    have E:Hid (decide (z1=z2)=false):=by show _=_;rw[decide_eq_false];rw[hz.out];omega
    clear hz;go_enter Tryz.func58,Tryz.ntmps58;go_upto_region 1 with(fail)
    refine zB ?_;intro W0 hW0;obtain⟨hB0,bx1,bx2,hs0⟩:=qV hW0;obtain⟨c1,c2,c3,c4⟩:=bx1.two;obtain⟨d1,d2,d3,d4⟩:=bx2.two;go_wp2_with fail
    refine(hl12 _ (hx1.ext (lx hB0)) (hx2.ext (lx hB0))).mono ?_;rintro e w' ⟨rfl,nd,rfl⟩;go_wp2_with fail
    refine(hl21 _ (hx2.ext (lx (nx hB0 (drN _ _)))) (hx1.ext (lx (nx hB0 (drN _ _))))).mono ?_;rintro e w' ⟨rfl,nd2,rfl⟩;go_wp2_with fail
    go_ret;exact⟨by rw[E.out];rfl,nx hB0 (drN _ _)⟩
   ·rw[decide_eq_false h21]at hl21
    have E:Hid (decide (z1=z2)=true):=by show _=_;rw[decide_eq_true];rw[hz.out];exact⟨rfl,h12,h21⟩
    clear hz;go_enter Tryz.func58,Tryz.ntmps58;go_upto_region 1 with(fail)
    refine zB ?_;intro W0 hW0;obtain⟨hB0,bx1,bx2,hs0⟩:=qV hW0;obtain⟨c1,c2,c3,c4⟩:=bx1.two;obtain⟨d1,d2,d3,d4⟩:=bx2.two;go_wp2_with fail
    refine(hl12 _ (hx1.ext (lx hB0)) (hx2.ext (lx hB0))).mono ?_;rintro e w' ⟨rfl,nd,rfl⟩;go_wp2_with fail
    refine(hl21 _ (hx2.ext (lx (nx hB0 (drN _ _)))) (hx1.ext (lx (nx hB0 (drN _ _))))).mono ?_;rintro e w' ⟨rfl,nd2,rfl⟩;go_wp2_with fail
    go_ret;exact⟨by rw[E.out];rfl,nx hB0 (drN _ _)⟩
 ·have hs':(neg1==neg2)=false:=by simpa using hs
  have E:Hid (decide (z1=z2)=false):=by show _=_;rw[decide_eq_false];rw[hz.out];intro h;exact hs h.1
  clear hz hs;go_enter Tryz.func58,Tryz.ntmps58;go_wp2_with fail
  go_ret;exact⟨by rw[E.out];rfl,((Below.refl _ _).alloc (xgf _) _).alloc sI _⟩
end Go.Proofs.YtgnmdddaiefooaaGreat
