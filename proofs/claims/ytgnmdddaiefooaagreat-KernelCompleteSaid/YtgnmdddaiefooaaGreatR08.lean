/- The reference's integers, third part: plus, minus. The reference's integers, fourth part: minus, Add, Sub, Cmp. The reference's integers, fifth part: Sub, Cmp, Same. The reference's integers, sixth part: Mul. -/
import Derived.Test.YtgnmdddaiefooaaGreatR07
set_option linter.unusedVariables false
set_option linter.unusedSimpArgs false
set_option linter.unusedSectionVars false
set_option maxHeartbeats 16000000
set_option maxRecDepth 100000
namespace Go.Proofs.YtgnmdddaiefooaaGreat
open Go.RowKit
def zGM(w:World)(n:Nat)(e:Ending)(w':World):Prop:=
 ∃ao len cap xs,e= .returned (.slice ao len cap)/\xs.length=len/\len<=cap/\cap<=9223372036854775807/\zG w' ao xs/\nat xs=n/\Below w.heap.size w w'/\len<=8*LIM
theorem zDA{xs ys zs:List Nat}{k d x y:Nat}(hl:zs.length=k)(h:nat zs+d*B32^k=nat (xs.take k)+nat (ys.take k))(hx:xs.getD k 0=x)(hy:ys.getD k 0=y):
  nat (zs++ [(d+x+y)%4294967296])+(d+x+y)/4294967296*B32^(k+1)=nat (xs.take (k+1))+nat (ys.take (k+1)):=by
 have h1:=zBy (xs:=xs) (ys:=ys) (zs:=zs++ [0]) (k:=k) (d:=d) (x:=x) (y:=y) (by rw[List.take_append_of_le_length oM,zH zs oM];exact h) (by simp;omega) hx hy;have h2:(zs++ [0]).set k ((d+x+y)%4294967296)=zs++ [(d+x+y)%4294967296]:=by
  rw[List.set_append_right _ _ oM,hl,Nat.sub_self];rfl
 rw[h2,zH _ (by simp;omega)]at h1;exact h1
theorem zBr{xs:List Nat}{k:Nat}(h:xs.length<=k):xs.getD k 0=0:=by rw[xgb,List.getElem?_eq_none h];rfl
theorem zDG.base_le{w:World}{base:Nat}{v:Value}{xs:List Nat}(h:zDG w base v xs):∀g,v.ownBlock=some g->base<=g:=fun g hg=>(h.2.lt g hg).1
theorem zJO(ao1 ao2:Option Addr)(n1 cap1 n2 cap2:Nat)(xs ys:List Nat)(w:World)(hn1:xs.length=n1)(hn2:ys.length=n2)
  (hb1:n1<=4*LIM) (hb2:n2<=4*LIM) (hx1:zG w ao1 xs) (hx2:zG w ao2 ys):
  Calls Tryz.prog 98 #[.slice ao1 n1 cap1,.slice ao2 n2 cap2] w (zGM w (nat xs+nat ys)):=by
 have HN1:=Lib.hid hn1;have HN2:=Lib.hid hn2;have hlen1:xs.length<=n1:=by omega
 have hlen1':n1<=xs.length:=by omega
 have hlen2:ys.length<=n2:=by omega
 have hlen2':n2<=ys.length:=by omega
 clear hn1 hn2;rw[yA]at hb1 hb2;obtain⟨mx,hmx1,hmx2,hmx3⟩:∃m,n1<=m/\n2<=m/\m<=4*1099511627776:=⟨max n1 n2,by omega,by omega,by omega⟩;go_enter Tryz.func98,Tryz.ntmps98;go_wp2;go_loopw [5,6,7] (fun v c i wr=>∃(k d:Nat) (zs:List Nat),k<=mx+1/\i= .int .i64 k/\c= .int .u64 d/\d<=1/\k+d<=mx+1/\zs.length<=mx+1/\zDG wr w.heap.size v zs/\Below w.heap.size w wr∧
   Hid (zs.length=k/\nat zs+d*B32^k=nat (xs.take k)+nat (ys.take k))) (fun _ _ i _=>mx+1-(intOf i).toNat)
 case atStart=>exact⟨0,0,[],by omega,rfl,rfl,by omega,by omega,by simp,zDG.empty w _ (xgf _),(Below.refl _ _).alloc (xgf _) _,⟨rfl,by simp⟩⟩
 case round=>
  obtain⟨k,d,zs,hk,rfl,rfl,hd,hkd,hzl,hown,hbel,HH⟩:=hrel;have hzk:zs.length<=k:=Nat.le_of_eq HH.out.1;by_cases h1:k<n1
  ·obtain⟨b,off,x,rfl,hbw,hx32,HX,hck⟩:=hx1.limb (k:=k) oM
   have hck':=(hbel.cell (p:=⟨b,off+k,none⟩) hbw).trans hck;clear hck;by_cases h2:k<n2
   ·obtain⟨b2,off2,y,rfl,hbw2,hy32,HY,hcy⟩:=hx2.limb (k:=k) oM
    have hcy':=(hbel.cell (p:=⟨b2,off2+k,none⟩) hbw2).trans hcy;clear hcy;go_wp2_with (at_builtin;refine zH8 rfl _ _ rfl w.heap.size u5 zs rfl (hown.alloc _) _ 1 _ [(d+x+y)%4294967296] rfl (zG.one _ ((d+x+y)%4294967296) (Nat.mod_lt _ dE) _ (by first|rfl|omega|simp)) rfl oM (by have:=hbel.size;simp;omega) ?_;intro v' w' hown' hgr';have hbel':Below w.heap.size w w':=(hbel.alloc hbel.size _).grown hgr' (by have:=hbel.size;simp;omega) (fun g hg=>hown.base_le g hg))
    go_roundw
    case rel=>exact⟨k+1,(d+x+y)/4294967296,zs++ [(d+x+y)%4294967296],by omega,by go_num,by go_num,by omega,by omega,by simp;omega,hown',hbel',⟨by simp[HH.out.1],zDA HH.out.1 HH.out.2 HX.out HY.out⟩⟩
    case measure=>simp[intOf];omega
   ·have HY:Hid (ys.getD k 0=0):=zBr oM
    have hs0:d+x+0=d+x:=rfl;go_wp2_with (at_builtin;refine zH8 rfl _ _ rfl w.heap.size u5 zs rfl (hown.alloc _) _ 1 _ [(d+x+0)%4294967296] rfl (zG.one _ ((d+x+0)%4294967296) (Nat.mod_lt _ dE) _ (by first|rfl|omega|simp)) rfl oM (by have:=hbel.size;simp;omega) ?_;intro v' w' hown' hgr';have hbel':Below w.heap.size w w':=(hbel.alloc hbel.size _).grown hgr' (by have:=hbel.size;simp;omega) (fun g hg=>hown.base_le g hg))
    go_roundw
    case rel=>exact⟨k+1,(d+x+0)/4294967296,zs++ [(d+x+0)%4294967296],by omega,by go_num,by go_num,by omega,by omega,by simp;omega,hown',hbel',⟨by simp[HH.out.1],zDA HH.out.1 HH.out.2 HX.out HY.out⟩⟩
    case measure=>simp[intOf];omega
  ·have HX:Hid (xs.getD k 0=0):=zBr oM
   by_cases h2:k<n2
   ·obtain⟨b2,off2,y,rfl,hbw2,hy32,HY,hcy⟩:=hx2.limb (k:=k) oM
    have hcy':=(hbel.cell (p:=⟨b2,off2+k,none⟩) hbw2).trans hcy;clear hcy;go_wp2_with (at_builtin;refine zH8 rfl _ _ rfl w.heap.size u5 zs rfl (hown.alloc _) _ 1 _ [(d+0+y)%4294967296] rfl (zG.one _ ((d+0+y)%4294967296) (Nat.mod_lt _ dE) _ (by first|rfl|omega|simp)) rfl oM (by have:=hbel.size;simp;omega) ?_;intro v' w' hown' hgr';have hbel':Below w.heap.size w w':=(hbel.alloc hbel.size _).grown hgr' (by have:=hbel.size;simp;omega) (fun g hg=>hown.base_le g hg))
    go_roundw
    case rel=>exact⟨k+1,(d+0+y)/4294967296,zs++ [(d+0+y)%4294967296],by omega,by go_num,by go_num,by omega,by omega,by simp;omega,hown',hbel',⟨by simp[HH.out.1],zDA HH.out.1 HH.out.2 HX.out HY.out⟩⟩
    case measure=>simp[intOf];omega
   ·have HY:Hid (ys.getD k 0=0):=zBr oM
    by_cases h3:0<d
    ·
     go_wp2_with (at_builtin;refine zH8 rfl _ _ rfl w.heap.size u5 zs rfl (hown.alloc _) _ 1 _ [(d+0+0)%4294967296] rfl (zG.one _ ((d+0+0)%4294967296) (Nat.mod_lt _ dE) _ (by first|rfl|omega|simp)) rfl oM (by have:=hbel.size;simp;omega) ?_;intro v' w' hown' hgr';have hbel':Below w.heap.size w w':=(hbel.alloc hbel.size _).grown hgr' (by have:=hbel.size;simp;omega) (fun g hg=>hown.base_le g hg))
     go_roundw
     case rel=>exact⟨k+1,(d+0+0)/4294967296,zs++ [(d+0+0)%4294967296],by omega,by go_num,by go_num,by omega,by omega,by simp;omega,hown',hbel',⟨by simp[HH.out.1],zDA HH.out.1 HH.out.2 HX.out HY.out⟩⟩
     case measure=>simp[intOf];omega
    ·obtain rfl:0=d:=by omega
     go_wp2;go_ret;obtain⟨ao',cap',hv,q1,q2,q3⟩:=hown.at_;have h4:=HH.out.2;rw[Nat.zero_mul,Nat.add_zero,zH xs oM,zH ys oM]at h4;exact⟨ao',_,cap',zs,by rw[hv];rfl,rfl,q1,q2,q3,h4,hbel,by rw[yA];omega⟩
theorem zCF{xs ys zs:List Nat}{k d x y v e:Nat}(hl:zs.length=k)(h:nat zs+nat (ys.take k)=nat (xs.take k)+d*B32^k)(hx:xs.getD k 0=x)(hy:ys.getD k 0=y)(hv:v+y+d=x+e*4294967296):
  nat (zs++ [v])+nat (ys.take (k+1))=nat (xs.take (k+1))+e*B32^(k+1):=by
 have h1:=zDV (xs:=xs) (ys:=ys) (zs:=zs++ [0]) (k:=k) (d:=d) (x:=x) (y:=y) (v:=v) (e:=e) (by rw[List.take_append_of_le_length oM,zH zs oM];exact h) (by simp;omega) hx hy hv;have h2:(zs++ [0]).set k v=zs++ [v]:=by
  rw[List.set_append_right _ _ oM,hl,Nat.sub_self];rfl
 rw[h2,zH _ (by simp;omega)]at h1;exact h1
theorem zEm(ao1 ao2:Option Addr)(n1 cap1 n2 cap2:Nat)(xs ys:List Nat)(w:World)(hn1:xs.length=n1)(hn2:ys.length=n2)
  (hb1:n1<=4*LIM) (hx1:zG w ao1 xs) (hx2:zG w ao2 ys) (hle:n2<=n1) (hval:nat ys<=nat xs):
  Calls Tryz.prog 100 #[.slice ao1 n1 cap1,.slice ao2 n2 cap2] w (zGM w (nat xs-nat ys)):=by
 have HN1:=Lib.hid hn1;have HN2:=Lib.hid hn2;have HV:=Lib.hid hval;have hlen1:xs.length<=n1:=by omega
 have hlen1':n1<=xs.length:=by omega
 have hlen2:ys.length<=n2:=by omega
 have hlen2':n2<=ys.length:=by omega
 clear hn1 hn2 hval;rw[yA]at hb1;go_enter Tryz.func100,Tryz.ntmps100;go_wp2;go_loopw [5,6,7] (fun v c i wr=>∃(k d:Nat) (zs:List Nat),k<=n1/\i= .int .i64 k/\c= .int .i64 d/\d<=1/\zDG wr w.heap.size v zs/\Below w.heap.size w wr∧
   Hid (zs.length=k/\nat zs+nat (ys.take k)=nat (xs.take k)+d*B32^k)) (fun _ _ i _=>n1-(intOf i).toNat)
 case atStart=>exact⟨0,0,[],by omega,rfl,rfl,by omega,zDG.empty w _ (xgf _),(Below.refl _ _).alloc (xgf _) _,⟨rfl,by simp⟩⟩
 case round=>
  obtain⟨k,d,zs,hk,rfl,rfl,hd,hown,hbel,HH⟩:=hrel;have hzk:zs.length<=k:=Nat.le_of_eq HH.out.1;by_cases h1:k<n1
  ·obtain⟨b,off,x,rfl,hbw,hx32,HX,hck⟩:=hx1.limb (k:=k) oM
   have hck':=(hbel.cell (p:=⟨b,off+k,none⟩) hbw).trans hck;clear hck;by_cases h2:k<n2
   ·obtain⟨b2,off2,y,rfl,hbw2,hy32,HY,hcy⟩:=hx2.limb (k:=k) oM
    have hcy':=(hbel.cell (p:=⟨b2,off2+k,none⟩) hbw2).trans hcy;clear hcy;by_cases hs:y+d<=x
    ·
     go_wp2_with (at_builtin;refine zH8 rfl _ _ rfl w.heap.size u5 zs rfl (hown.alloc _) _ 1 _ [(x-d-y)] rfl (zG.one _ ((x-d-y)) oM _ (by first|rfl|omega|(rw[IntKind.wrap_u32];omega))) rfl oM (by have:=hbel.size;simp;omega) ?_;intro v' w' hown' hgr';have hbel':Below w.heap.size w w':=(hbel.alloc hbel.size _).grown hgr' (by have:=hbel.size;simp;omega) (fun g hg=>hown.base_le g hg))
     go_roundw
     case rel=>exact⟨k+1,0,zs++ [(x-d-y)],by omega,by go_num,rfl,by omega,hown',hbel',⟨by simp[HH.out.1],zCF HH.out.1 HH.out.2 HX.out HY.out oM⟩⟩
     case measure=>simp[intOf];omega
    ·
     go_wp2_with (at_builtin;refine zH8 rfl _ _ rfl w.heap.size u5 zs rfl (hown.alloc _) _ 1 _ [(x+4294967296-d-y)] rfl (zG.one _ ((x+4294967296-d-y)) oM _ (by first|rfl|omega|(rw[IntKind.wrap_u32];omega))) rfl oM (by have:=hbel.size;simp;omega) ?_;intro v' w' hown' hgr';have hbel':Below w.heap.size w w':=(hbel.alloc hbel.size _).grown hgr' (by have:=hbel.size;simp;omega) (fun g hg=>hown.base_le g hg))
     go_roundw
     case rel=>exact⟨k+1,1,zs++ [(x+4294967296-d-y)],by omega,by go_num,rfl,by omega,hown',hbel',⟨by simp[HH.out.1],zCF HH.out.1 HH.out.2 HX.out HY.out oM⟩⟩
     case measure=>simp[intOf];omega
   ·have HY:Hid (ys.getD k 0=0):=zBr oM
    by_cases hs:d<=x
    ·
     go_wp2_with (at_builtin;refine zH8 rfl _ _ rfl w.heap.size u5 zs rfl (hown.alloc _) _ 1 _ [(x-d)] rfl (zG.one _ ((x-d)) oM _ (by first|rfl|omega|(rw[IntKind.wrap_u32];omega))) rfl oM (by have:=hbel.size;simp;omega) ?_;intro v' w' hown' hgr';have hbel':Below w.heap.size w w':=(hbel.alloc hbel.size _).grown hgr' (by have:=hbel.size;simp;omega) (fun g hg=>hown.base_le g hg))
     go_roundw
     case rel=>exact⟨k+1,0,zs++ [(x-d)],by omega,by go_num,rfl,by omega,hown',hbel',⟨by simp[HH.out.1],zCF HH.out.1 HH.out.2 HX.out HY.out oM⟩⟩
     case measure=>simp[intOf];omega
    ·
     go_wp2_with (at_builtin;refine zH8 rfl _ _ rfl w.heap.size u5 zs rfl (hown.alloc _) _ 1 _ [(x+4294967296-d)] rfl (zG.one _ ((x+4294967296-d)) oM _ (by first|rfl|omega|(rw[IntKind.wrap_u32];omega))) rfl oM (by have:=hbel.size;simp;omega) ?_;intro v' w' hown' hgr';have hbel':Below w.heap.size w w':=(hbel.alloc hbel.size _).grown hgr' (by have:=hbel.size;simp;omega) (fun g hg=>hown.base_le g hg))
     go_roundw
     case rel=>exact⟨k+1,1,zs++ [(x+4294967296-d)],by omega,by go_num,rfl,by omega,hown',hbel',⟨by simp[HH.out.1],zCF HH.out.1 HH.out.2 HX.out HY.out oM⟩⟩
     case measure=>simp[intOf];omega
  ·obtain rfl:n1=k:=by omega
   go_wp2;go_ret;obtain⟨ao',cap',hv,q1,q2,q3⟩:=hown.at_;have h4:=HH.out.2;rw[zH xs oM,zH ys oM]at h4;have h2:=jW hown.1;rw[HH.out.1]at h2;have h3:=HV.out;refine⟨ao',_,cap',zs,by rw[hv];rfl,rfl,q1,q2,q3,?_,hbel,by rw[yA];omega⟩;generalize B32^n1=p at h4 h2;have h5:d=0∨d=1:=by omega
   rcases h5 with rfl|rfl<;>omega
theorem zBR(v1 v2:Value)(z1 z2:Int)(w:World)(h1:zR w v1 z1)(h2:zR w v2 z2)(s1:Sm z1)(s2:Sm z2):
  Calls Tryz.prog 50 #[v1,v2] w (zAI w (z1+z2)):=by
 obtain⟨neg1,ao1,n1,cap1,xs,rfl,hn1,hl1,hc1,hx1,hN1,hz1,hp1,hq1⟩:=h1.len s1;obtain⟨neg2,ao2,n2,cap2,ys,rfl,hn2,hl2,hc2,hx2,hN2,hz2,hp2,hq2⟩:=h2.len s2;have HN1:=Lib.hid hn1;have HN2:=Lib.hid hn2;have HZ1:=Lib.hid hz1;have HZ2:=Lib.hid hz2;clear hn1 hn2 hz1 hz2 s1 s2 h1 h2 hp1 hp2;have hq1':n1<=4*LIM:=by omega
 have hq2':n2<=4*LIM:=by omega
 clear hq1 hq2;by_cases hs:neg1=neg2
 ·subst hs
  go_enter Tryz.func50,Tryz.ntmps50;go_upto_region 1 with(fail)
  refine zC ?_;intro W0 hW0;obtain⟨hB0,bx1,bx2,br,hs0⟩:=zAS hW0;obtain⟨c1,c2,c3,c4⟩:=bx1.two;obtain⟨d1,d2,d3,d4⟩:=bx2.two;go_wp2_with fail
  have lx1:=lx (nx hB0 (dr W0));go_region_held3 (fun w'=>w'.cell? ⟨w.heap.size,1,none⟩=some (.slice ao1 n1 cap1)/\w'.cell? ⟨w.heap.size+1,1,none⟩=some (.slice ao2 n2 cap2)/\w'.cell? ⟨w.heap.size,0,none⟩=some (.bool neg1))
   ((((try go_split_ands);(repeat' apply And.intro))<;>first|exact yF (by assumption)|exact qC (by assumption) hb1|exact qC (by assumption) hb2|exact jV (jV (by assumption) oM) oM))
   (first
    |(go_at_call 98;refine(zJO ao1 ao2 n1 cap1 n2 cap2 xs ys _ HN1.out HN2.out hq1' hq2' (hx1.ext lx1) (hx2.ext lx1)).mono ?_;rintro e w1 ⟨ao,len,cap,zs,rfl,hz1,hz2,hz3,hz4,hz5,hb1,hz6⟩;have br1:=br.drew.below hb1)
    |(go_at_call 97;refine(yN ao len cap zs neg1 _ hz1 hz2 hz3 hz6 hz4).mono ?_;rintro e w2 ⟨v,rfl,hv,hb2⟩;have br2:=br1.below hb2;obtain⟨e1,e2,e3,e4⟩:=br2.two;obtain⟨vn,va,vl,vc,vx,rfl,hv2⟩:=hv))
  go_wp2_with fail
  refine zU rfl rfl rfl (br2.put2 _ _) ?_ (zP (zP (nx (nx (nx hB0 (dr W0)) hb1) hb2) oM 0 _) oM 1 _);refine zR.ext ?_ (br2.lext2 dE _ _);rw[hz5]at hv2;rw[HZ1.out,HZ2.out,<-zLK];exact⟨vn,va,vl,vc,vx,rfl,hv2⟩
 ·have hs':(neg1==neg2)=false:=by simpa using hs
  have Hs:=Lib.hid hs;clear hs;have hless:=fun W h1 h2=>zD5 ao1 ao2 n1 cap1 n2 cap2 xs ys W HN1.out HN2.out hl1 hl2 hc1 hc2 h1 h2 hN1 hN2
  by_cases hlt:nat xs<nat ys
  ·rw[decide_eq_true hlt]at hless
   go_enter Tryz.func50,Tryz.ntmps50;go_upto_region 1 with(fail)
   refine zC ?_;intro W0 hW0;obtain⟨hB0,bx1,bx2,br,hs0⟩:=zAS hW0;obtain⟨c1,c2,c3,c4⟩:=bx1.two;obtain⟨d1,d2,d3,d4⟩:=bx2.two;go_wp2_with (go_at_call 99;refine(hless _ (hx1.ext (lx hB0)) (hx2.ext (lx hB0))).mono ?_;rintro e w' ⟨rfl,nd,rfl⟩)
   have lx1:=lx (nx (nx hB0 (drN W0 nd)) (dr (W0.drewN nd)));go_region_held3 (fun w'=>w'.cell? ⟨w.heap.size,1,none⟩=some (.slice ao1 n1 cap1)/\w'.cell? ⟨w.heap.size+1,1,none⟩=some (.slice ao2 n2 cap2)/\w'.cell? ⟨(w.heap.size+1),0,none⟩=some (.bool neg2))
    ((((try go_split_ands);(repeat' apply And.intro))<;>first|exact yF (by assumption)|exact qC (by assumption) hb1|exact qC (by assumption) hb2|exact jV (jV (by assumption) oM) oM))
    (first
     |(go_at_call 100;refine(zEm ao2 ao1 n2 cap2 n1 cap1 ys xs _ HN2.out HN1.out hq2' (hx2.ext lx1) (hx1.ext lx1) (by rw[<-HN1.out,<-HN2.out];exact zAF hx2.1 hN1 oM) oM).mono ?_;rintro e w1 ⟨ao,len,cap,zs,rfl,hz1,hz2,hz3,hz4,hz5,hb1,hz6⟩;have br1:=(br.drewN nd).drew.below hb1)
     |(go_at_call 97;refine(yN ao len cap zs neg2 _ hz1 hz2 hz3 hz6 hz4).mono ?_;rintro e w2 ⟨v,rfl,hv,hb2⟩;have br2:=br1.below hb2;obtain⟨e1,e2,e3,e4⟩:=br2.two;obtain⟨vn,va,vl,vc,vx,rfl,hv2⟩:=hv))
   go_wp2_with fail
   refine zU rfl rfl rfl (br2.put2 _ _) ?_ (zP (zP (nx (nx (nx (nx hB0 (drN W0 nd)) (dr (W0.drewN nd))) hb1) hb2) oM 0 _) oM 1 _);refine zR.ext ?_ (br2.lext2 dE _ _);rw[hz5]at hv2;rw[HZ1.out,HZ2.out,<-zIi Hs.out _ _ oM];exact⟨vn,va,vl,vc,vx,rfl,hv2⟩
  ·rw[decide_eq_false hlt]at hless
   go_enter Tryz.func50,Tryz.ntmps50;go_upto_region 1 with(fail)
   refine zC ?_;intro W0 hW0;obtain⟨hB0,bx1,bx2,br,hs0⟩:=zAS hW0;obtain⟨c1,c2,c3,c4⟩:=bx1.two;obtain⟨d1,d2,d3,d4⟩:=bx2.two;go_wp2_with (go_at_call 99;refine(hless _ (hx1.ext (lx hB0)) (hx2.ext (lx hB0))).mono ?_;rintro e w' ⟨rfl,nd,rfl⟩)
   have lx1:=lx (nx (nx hB0 (drN W0 nd)) (dr (W0.drewN nd)));go_region_held3 (fun w'=>w'.cell? ⟨w.heap.size,1,none⟩=some (.slice ao1 n1 cap1)/\w'.cell? ⟨w.heap.size+1,1,none⟩=some (.slice ao2 n2 cap2)/\w'.cell? ⟨w.heap.size,0,none⟩=some (.bool neg1))
    ((((try go_split_ands);(repeat' apply And.intro))<;>first|exact yF (by assumption)|exact qC (by assumption) hb1|exact qC (by assumption) hb2|exact jV (jV (by assumption) oM) oM))
    (first
     |(go_at_call 100;refine(zEm ao1 ao2 n1 cap1 n2 cap2 xs ys _ HN1.out HN2.out hq1' (hx1.ext lx1) (hx2.ext lx1) (by rw[<-HN1.out,<-HN2.out];exact zAF hx1.1 hN2 oM) oM).mono ?_;rintro e w1 ⟨ao,len,cap,zs,rfl,hz1,hz2,hz3,hz4,hz5,hb1,hz6⟩;have br1:=(br.drewN nd).drew.below hb1)
     |(go_at_call 97;refine(yN ao len cap zs neg1 _ hz1 hz2 hz3 hz6 hz4).mono ?_;rintro e w2 ⟨v,rfl,hv,hb2⟩;have br2:=br1.below hb2;obtain⟨e1,e2,e3,e4⟩:=br2.two;obtain⟨vn,va,vl,vc,vx,rfl,hv2⟩:=hv))
   go_wp2_with fail
   refine zU rfl rfl rfl (br2.put2 _ _) ?_ (zP (zP (nx (nx (nx (nx hB0 (drN W0 nd)) (dr (W0.drewN nd))) hb1) hb2) oM 0 _) oM 1 _);refine zR.ext ?_ (br2.lext2 dE _ _);rw[hz5]at hv2;rw[HZ1.out,HZ2.out,<-zIh Hs.out _ _ oM];exact⟨vn,va,vl,vc,vx,rfl,hv2⟩
theorem Sm.neg{z:Int}(h:Sm z):Sm (-z):=by unfold Sm at h ⊢;rwa[Int.natAbs_neg]
theorem zB0(v1 v2:Value)(z1 z2:Int)(w:World)(h1:zR w v1 z1)(h2:zR w v2 z2)(s1:Sm z1)(s2:Sm z2):
  Calls Tryz.prog 96 #[v1,v2] w (zAI w (z1-z2)):=by
 have H1:=Lib.hid h1;have H2:=Lib.hid h2;obtain⟨neg1,ao1,n1,cap1,xs,rfl,-⟩:=h1;obtain⟨neg2,ao2,n2,cap2,ys,rfl,-⟩:=h2;have hneg:=fun W h=>jY (.agg #[.bool neg2,.slice ao2 n2 cap2]) z2 W h s2
 have hadd:=fun v W h1 h2=>zBR (.agg #[.bool neg1,.slice ao1 n1 cap1]) v z1 (-z2) W h1 h2 s1 s2.neg
 clear s1 s2;go_enter Tryz.func96,Tryz.ntmps96;go_upto_region 1 with(fail)
 refine zC ?_;intro W0 hW0;obtain⟨hB0,bx1,bx2,br,hs0⟩:=zAS hW0;obtain⟨c1,c2,c3,c4⟩:=bx1.two;obtain⟨d1,d2,d3,d4⟩:=bx2.two;have lx1:=lx (nx hB0 (dr W0));go_region_held3 (fun w'=>w'.cell? ⟨w.heap.size,0,none⟩=some (.bool neg1)/\w'.cell? ⟨w.heap.size,1,none⟩=some (.slice ao1 n1 cap1)/\w'.cell? ⟨w.heap.size+1,0,none⟩=some (.bool neg2)/\w'.cell? ⟨w.heap.size+1,1,none⟩=some (.slice ao2 n2 cap2))
  ((((try go_split_ands);(repeat' apply And.intro))<;>first|exact yF (by assumption)|exact qC (by assumption) hb1|exact qC (by assumption) hb2|exact jV (jV (by assumption) oM) oM))
  (first
   |(go_at_call 89;refine(hneg _ (H2.out.weak.ext lx1)).mono ?_;rintro e w1 ⟨vneg,rfl,hvn,hb1⟩;have br1:=br.drew.below hb1;have h1':=H1.out.ext (lx (nx (nx hB0 (dr W0)) hb1)))
   |(go_at_call 50;refine(hadd vneg _ h1' hvn).mono ?_;rintro e w2 ⟨v,rfl,hv,hb2⟩;have br2:=br1.below hb2;obtain⟨e1,e2,e3,e4⟩:=br2.two;obtain⟨vn,va,vl,vc,vx,rfl,hv2⟩:=hv))
 go_wp2_with fail
 refine zU rfl rfl rfl (br2.put2 _ _) ?_ (zP (zP (nx (nx (nx hB0 (dr W0)) hb1) hb2) oM 0 _) oM 1 _);refine zR.ext ?_ (br2.lext2 dE _ _);rw[Int.sub_eq_add_neg];exact⟨vn,va,vl,vc,vx,rfl,hv2⟩
theorem zK4(v1 v2:Value)(z1 z2:Int)(w:World)(h1:zR w v1 z1)(h2:zR w v2 z2)(s1:Sm z1)(s2:Sm z2):
  Calls Tryz.prog 77 #[v1,v2] w fun e w'=>e= .returned (.int .i64 (qO z1 z2))/\Below w.heap.size w w':=by
 have H1:=Lib.hid h1;have H2:=Lib.hid h2;obtain⟨neg1,ao1,n1,cap1,xs,rfl,-⟩:=h1;obtain⟨neg2,ao2,n2,cap2,ys,rfl,-⟩:=h2;have hsub:=fun W h1 h2=>zB0 (.agg #[.bool neg1,.slice ao1 n1 cap1]) (.agg #[.bool neg2,.slice ao2 n2 cap2]) z1 z2 W h1 h2 s1 s2
 have E:Hid (qO (z1-z2) 0=qO z1 z2):=by
  rcases Int.lt_trichotomy z1 z2 with h|h|h
  ·show _=_;rw[yE h,yE oM]
  ·show _=_;rw[jC h,jC oM]
  ·show _=_;rw[yV h,yV oM]
 clear s1 s2;go_enter Tryz.func77,Tryz.ntmps77;go_upto_region 1 with(fail)
 refine zC ?_;intro W0 hW0;obtain⟨hB0,bx1,bx2,hs0⟩:=qK hW0;obtain⟨c1,c2,c3,c4⟩:=bx1.two;obtain⟨d1,d2,d3,d4⟩:=bx2.two;go_wp2_with fail
 refine(hsub _ (H1.out.ext (lx hB0)) (H2.out.ext (lx hB0))).mono ?_;rintro e w1 ⟨v,rfl,hv,hb1⟩;go_wp2_with fail
 refine(yH v _ _ hv).mono ?_;rintro e w2 ⟨rfl,hb2⟩;go_wp2_with fail
 go_ret;exact⟨by rw[<-E.out];rfl,nx (nx hB0 hb1) hb2⟩
theorem zO5{a b:Bool}{m n:Nat}(h:sgn a m=sgn b n):m=n/\(m≠0->a=b):=by
 have h1:=congrArg Int.natAbs h;rw[qD,qD]at h1;subst h1;refine⟨rfl,fun h0=>?_⟩;cases a<;>cases b<;>simp at h ⊢<;>omega
theorem zJP(v1 v2:Value)(z1 z2:Int)(w:World)(h1:zR w v1 z1)(h2:zR w v2 z2):
  Calls Tryz.prog 58 #[v1,v2] w fun e w'=>e= .returned (.bool (decide (z1=z2)))/\Below w.heap.size w w':=by
 obtain⟨neg1,ao1,n1,cap1,xs,rfl,hn1,hl1,hc1,hx1,hN1,hz1,hp1⟩:=h1;obtain⟨neg2,ao2,n2,cap2,ys,rfl,hn2,hl2,hc2,hx2,hN2,hz2,hp2⟩:=h2;have hz:Hid (z1=z2↔(neg1=neg2/\¬ nat xs<nat ys/\¬ nat ys<nat xs)):=by
  show _↔_;rw[hz1,hz2];constructor
  ·intro h
   obtain⟨h3,h4⟩:=zO5 h;refine⟨?_,by omega,by omega⟩;by_cases h0:nat xs=0
   ·have e1:=(zCj hN1).1 h0
    have e2:=(zCj hN2).1 oM;subst e1;subst e2;rw[hp1 hn1.symm,hp2 hn2.symm]
   ·exact h4 h0
  ·rintro⟨h3,h4,h5⟩
   rw[h3,show nat xs=nat ys by omega]
 have hl12:=fun W h1 h2=>zD5 ao1 ao2 n1 cap1 n2 cap2 xs ys W hn1 hn2 hl1 hl2 hc1 hc2 h1 h2 hN1 hN2
 have hl21:=fun W h1 h2=>zD5 ao2 ao1 n2 cap2 n1 cap1 ys xs W hn2 hn1 hl2 hl1 hc2 hc1 h1 h2 hN2 hN1
 clear hn1 hn2 hz1 hz2 hp1 hp2;by_cases hs:neg1=neg2
 ·subst hs
  by_cases h12:nat xs<nat ys
  ·rw[decide_eq_true h12]at hl12
   have E:Hid (decide (z1=z2)=false):=by show _=_;rw[decide_eq_false];rw[hz.out];omega
   clear hz;go_enter Tryz.func58,Tryz.ntmps58;go_upto_region 1 with(fail)
   refine zC ?_;intro W0 hW0;obtain⟨hB0,bx1,bx2,hs0⟩:=qK hW0;obtain⟨c1,c2,c3,c4⟩:=bx1.two;obtain⟨d1,d2,d3,d4⟩:=bx2.two;go_wp2_with (go_at_call 99;refine(hl12 _ (hx1.ext (lx hB0)) (hx2.ext (lx hB0))).mono ?_;rintro e w' ⟨rfl,nd,rfl⟩)
   go_ret;exact⟨by rw[E.out];rfl,nx hB0 (drN _ _)⟩
  ·rw[decide_eq_false h12]at hl12
   by_cases h21:nat ys<nat xs
   ·rw[decide_eq_true h21]at hl21
    have E:Hid (decide (z1=z2)=false):=by show _=_;rw[decide_eq_false];rw[hz.out];omega
    clear hz;go_enter Tryz.func58,Tryz.ntmps58;go_upto_region 1 with(fail)
    refine zC ?_;intro W0 hW0;obtain⟨hB0,bx1,bx2,hs0⟩:=qK hW0;obtain⟨c1,c2,c3,c4⟩:=bx1.two;obtain⟨d1,d2,d3,d4⟩:=bx2.two;go_wp2_with fail
    refine(hl12 _ (hx1.ext (lx hB0)) (hx2.ext (lx hB0))).mono ?_;rintro e w' ⟨rfl,nd,rfl⟩;go_wp2_with fail
    refine(hl21 _ (hx2.ext (lx (nx hB0 (drN _ _)))) (hx1.ext (lx (nx hB0 (drN _ _))))).mono ?_;rintro e w' ⟨rfl,nd2,rfl⟩;go_wp2_with fail
    go_ret;exact⟨by rw[E.out];rfl,nx hB0 (drN _ _)⟩
   ·rw[decide_eq_false h21]at hl21
    have E:Hid (decide (z1=z2)=true):=by show _=_;rw[decide_eq_true];rw[hz.out];exact⟨rfl,h12,h21⟩
    clear hz;go_enter Tryz.func58,Tryz.ntmps58;go_upto_region 1 with(fail)
    refine zC ?_;intro W0 hW0;obtain⟨hB0,bx1,bx2,hs0⟩:=qK hW0;obtain⟨c1,c2,c3,c4⟩:=bx1.two;obtain⟨d1,d2,d3,d4⟩:=bx2.two;go_wp2_with fail
    refine(hl12 _ (hx1.ext (lx hB0)) (hx2.ext (lx hB0))).mono ?_;rintro e w' ⟨rfl,nd,rfl⟩;go_wp2_with fail
    refine(hl21 _ (hx2.ext (lx (nx hB0 (drN _ _)))) (hx1.ext (lx (nx hB0 (drN _ _))))).mono ?_;rintro e w' ⟨rfl,nd2,rfl⟩;go_wp2_with fail
    go_ret;exact⟨by rw[E.out];rfl,nx hB0 (drN _ _)⟩
 ·have hs':(neg1==neg2)=false:=by simpa using hs
  have E:Hid (decide (z1=z2)=false):=by show _=_;rw[decide_eq_false];rw[hz.out];intro h;exact hs h.1
  clear hz hs;go_enter Tryz.func58,Tryz.ntmps58;go_wp2_with fail
  go_ret;exact⟨by rw[E.out];rfl,((Below.refl _ _).alloc (xgf _) _).alloc sI _⟩
theorem zCT(m:Nat):nat (List.replicate m 0)=0:=by
 induction m with
 |zero=>rfl
 |succ m ih=>rw[List.replicate_succ,yK,ih];rfl
theorem zEO{zs:List Nat}{k:Nat}(hk:k<=zs.length)(h:nat zs<B32^k):nat (zs.drop k)=0:=by
 have h1:=jX zs k hk;rcases Nat.eq_zero_or_pos (nat (zs.drop k))with h0|h0
 ·exact h0
 ·have:=Nat.le_mul_of_pos_right (B32^k) h0;omega
theorem zES{zs:List Nat}{k:Nat}(hk:k<zs.length)(h:nat zs<B32^k):zs.getD k 0=0:=by
 have h1:=zEO (Nat.le_of_lt hk) h;have h2:=jN zs k hk;omega
theorem zN4{xs zs zs0 ys:List Nat}{i k:Nat}{x:Nat}(h0:nat zs0=nat (xs.take i)*nat ys)(hx:xs.getD i 0=x)(hd:zs.drop (i+k)=zs0.drop (i+k))(hl:i+k<=zs.length)(hl0:i+k<=zs0.length)
  (h:nat (zs.take (i+k))+0*B32^(i+k)=nat (zs0.take (i+k))+x*B32^i*nat (ys.take k)) (hk:ys.length<=k):nat zs=nat (xs.take (i+1))*nat ys:=by
 have h1:=jX zs (i+k) hl;have h2:=jX zs0 (i+k) hl0;rw[zH ys hk,Nat.zero_mul,Nat.add_zero]at h;rw[h1,h,hd,zO,hx,Nat.add_mul,<-h0,h2];omega
theorem zKh{xs ys:List Nat}{i n2:Nat}(hx:qN xs)(hy:qN ys)(h2:ys.length<=n2):nat (xs.take i)*nat ys<B32^(i+n2):=by
 have h1:=jW (hx.take i);have h3:=jW hy;have h4:B32^(xs.take i).length<=B32^i:=Nat.pow_le_pow_right yT (by simp;omega);have h5:B32^ys.length<=B32^n2:=Nat.pow_le_pow_right yT h2;rw[Nat.pow_add];exact Nat.mul_lt_mul_of_lt_of_le oM oM (Nat.pow_pos yT)
theorem zAQ(v1 v2:Value)(z1 z2:Int)(w:World)(h1:zR w v1 z1)(h2:zR w v2 z2)(s1:Sm z1)(s2:Sm z2):Calls Tryz.prog 55 #[v1,v2] w (zAI w (z1*z2)):=by
 obtain⟨neg1,ao1,n1,cap1,xs,rfl,hn1,hl1,hc1,hx1,hN1,hz1,hp1,hq1⟩:=h1.len s1;obtain⟨neg2,ao2,n2,cap2,ys,rfl,hn2,hl2,hc2,hx2,hN2,hz2,hp2,hq2⟩:=h2.len s2;have HN1:=Lib.hid hn1;have HN2:=Lib.hid hn2;have HZ1:=Lib.hid hz1;have HZ2:=Lib.hid hz2;have hlen1:xs.length<=n1:=by omega
 have hlen1':n1<=xs.length:=by omega
 have hlen2:ys.length<=n2:=by omega
 have hlen2':n2<=ys.length:=by omega
 clear hn1 hn2 hz1 hz2 s1 s2 h1 h2 hp1 hp2;rw[yA]at hq1 hq2;have hmk:=fun W=>mkU ((n1:Int)+n2+1) (n1+n2+1) oM oM W
 go_enter Tryz.func55,Tryz.ntmps55;go_upto_region 1 with(fail)
 refine zC ?_;intro W0 hW0;obtain⟨hB0,bx1,bx2,br,hs0⟩:=zAS hW0;obtain⟨c1,c2,c3,c4⟩:=bx1.two;obtain⟨d1,d2,d3,d4⟩:=bx2.two;go_upto_block 0 with(fail)
 clear hmk;refine zC ?_;intro W1 hW1;obtain⟨gz,hgz⟩:∃g,W0.heap.size=g:=⟨_,rfl⟩;have hblk1:jJ W1 gz (List.replicate (n1+n2+1) 0):=by rw[hW1.out,<-hgz];exact jJ.made _ _
 have hb1:Below W0.heap.size W0 W1:=by rw[hW1.out];exact(Below.refl _ _).alloc (xgf _) _
 have hgz':W0.heap.size<=gz:=by omega
 have hx1':=hx1.ext (lx hB0);have hx2':=hx2.ext (lx hB0);rw[hgz];clear c1 c2 c3 c4 d1 d2 d3 d4 hW1 hW0 hgz;go_wp2;go_loopw [6] (fun iv wr=>∃(i:Nat) (zs:List Nat),i<=n1/\iv= .int .i64 i/\jJ wr gz zs/\Below W0.heap.size W0 wr/\n1+n2+1<=zs.length∧
   Hid (zs.length=n1+n2+1/\qN zs/\nat zs=nat (xs.take i)*nat ys)) (fun iv _=>n1-(intOf iv).toNat)
 case atStart=>exact⟨0,_,by omega,rfl,hblk1,hb1,by simp,⟨by simp,fun x hx=>by rw[List.eq_of_mem_replicate hx];exact yT,by rw[zCT,List.take_zero,nat_nil,Nat.zero_mul]⟩⟩
 case round=>
  obtain⟨i,zs0,hi,rfl,hblk0,hbel0,hlz0,HH0⟩:=hrel;obtain⟨wo,rfl⟩:∃wo:World,wo=wr:=⟨_,rfl⟩;obtain⟨c1,c2,c3,c4⟩:=(bx1.below hbel0).two;obtain⟨d1,d2,d3,d4⟩:=(bx2.below hbel0).two;by_cases hin:i<n1
  ·obtain⟨b,off,x,rfl,hbw,hx32,HX,hck⟩:=hx1'.limb (k:=i) oM
   go_wp2;go_loopw [7,8] (fun cv kv wr=>∃(k c:Nat) (zs:List Nat),k<=n2+1/\kv= .int .i64 k/\cv= .int .u64 c/\c<4294967296/\(k=n2+1->c=0)/\jJ wr gz zs/\Below W0.heap.size W0 wr/\n1+n2+1<=zs.length∧
     Hid (zs.length=n1+n2+1/\qN zs/\zs.drop (i+k)=zs0.drop (i+k)/\nat (zs.take (i+k))+c*B32^(i+k)=nat (zs0.take (i+k))+x*B32^i*nat (ys.take k))) (fun _ kv _=>n2+1-(intOf kv).toNat)
   case atStart=>exact⟨0,0,zs0,by omega,rfl,rfl,by omega,by omega,hblk0,hbel0,hlz0,⟨HH0.out.1,HH0.out.2.1,rfl,by simp⟩⟩
   case round=>
    obtain⟨k,c,zs,hk,rfl,rfl,hc,hkc,hblk,hbel,hlz,HH⟩:=hrel;obtain⟨wo2,rfl⟩:∃wo2:World,wo2=wr:=⟨_,rfl⟩;clear c1 c2 c3 c4 d1 d2 d3 d4;obtain⟨c1,c2,c3,c4⟩:=(bx1.below hbel).two;obtain⟨d1,d2,d3,d4⟩:=(bx2.below hbel).two;have hck':=(hbel.cell (p:=⟨b,off+i,none⟩) hbw).trans hck;have hfr:=hblk.frozen (i+k);by_cases hexit:n2<=k/\c=0
    ·obtain⟨hk2,rfl⟩:=hexit
     have hnl:¬ k<n2:=by omega
     go_wp2;go_roundw
     case rel=>exact⟨i+1,zs,by omega,by go_num,hblk,hbel,hlz,⟨HH.out.1,HH.out.2.1,zN4 HH0.out.2.2 HX.out HH.out.2.2.1 (by have:=HH.out.1;omega) (by have:=HH0.out.1;omega) HH.out.2.2.2 oM⟩⟩
     case measure=>simp[intOf];omega
    ·obtain⟨z,HZ⟩:∃z,zs.getD (i+k) 0=z:=⟨_,rfl⟩
     have hz32:z<4294967296:=by rw[<-HZ];exact HH.out.2.1.get _
     have hcz:=hblk.cell (k:=i+k) oM;rw[HZ]at hcz;have HZ:=Lib.hid HZ;by_cases hkn:k<n2
     ·obtain⟨b2,off2,y,rfl,hbw2,hy32,HY,hcy⟩:=hx2'.limb (k:=k) oM
      have hcy':=(hbel.cell (p:=⟨b2,off2+k,none⟩) hbw2).trans hcy;clear hcy;have hm1:=zC4 hx32 hy32;obtain⟨hm2,hm3⟩:=zC5 hx32 hy32;go_wp2;have hlt:c+(x*y+z)<18446744073709551616:=by generalize x*y=m at*;omega
      go_quiet (fail);have ec:(((c+(x*y+z))/4294967296:Nat):Int)=((c:Int)+(z:Int)+(x:Int)*(y:Int))/4294967296:=by
       simp only[Int.natCast_ediv,Int.natCast_add,Int.natCast_mul];congr 1;omega
      have em:(((c+(x*y+z))%4294967296:Nat):Int)=((c:Int)+(z:Int)+(x:Int)*(y:Int))%4294967296:=by
       simp only[Int.natCast_emod,Int.natCast_add,Int.natCast_mul];congr 1;omega
      have hcl:(c+(x*y+z))/4294967296<4294967296:=by generalize x*y=m at*;omega
      go_wp2;go_roundw
      case rel=>
       refine⟨k+1,(c+(x*y+z))/4294967296,zs.set (i+k) ((c+(x*y+z))%4294967296),by omega,by go_num,by rw[ec],hcl,by omega,jJ.set' (w:=wo2.drewN _) hblk _ _ _ (by rw[<-em]),(nx hbel (drN _ _)).setCell hgz' _,by simpa using hlz,
        ⟨by simpa using HH.out.1,HH.out.2.1.set _ _ (Nat.mod_lt _ oM),?_,zDd HH.out.2.2.2 oM HY.out HZ.out ((zA9 HH.out.2.2.1 (xgf _)).symm.trans HZ.out)⟩⟩
       rw[show i+(k+1)=i+k+1 from rfl,zAK];exact zBq HH.out.2.2.1
      case measure=>simp[intOf];omega
     ·have hcp:0<c:=by omega
      obtain rfl:n2=k:=by omega
      go_wp2;have hz0:z=0:=by
       have h0:=HH0.out.2.2;have h1:nat zs0<B32^(i+n2):=by
        rw[h0];exact zKh hx1.1 hx2.1 hlen2
       have h2:=zES (k:=i+n2) oM h1;rw[<-HZ.out];refine Eq.trans ?_ h2;exact zA9 HH.out.2.2.1 (xgf _)
      have hd0:(c+z)/4294967296=0:=by omega
      have ec:(((c+z)/4294967296:Nat):Int)=((c:Int)+(z:Int))/4294967296:=by simp
      have em:(((c+z)%4294967296:Nat):Int)=((c:Int)+(z:Int))%4294967296:=by simp
      go_roundw
      case rel=>
       have hts:=zDd HH.out.2.2.2 oM (zBr hlen2) HZ.out ((zA9 HH.out.2.2.1 (xgf _)).symm.trans HZ.out);rw[Nat.mul_zero,Nat.zero_add]at hts;refine⟨n2+1,(c+z)/4294967296,zs.set (i+n2) ((c+z)%4294967296),by omega,by go_num,by rw[ec],by omega,fun _=>hd0,hblk.set' _ _ _ (by rw[<-em]),hbel.setCell hgz' _,by simpa using hlz,
        ⟨by simpa using HH.out.1,HH.out.2.1.set _ _ (Nat.mod_lt _ oM),?_,hts⟩⟩
       rw[show i+(n2+1)=i+n2+1 from rfl,zAK];exact zBq HH.out.2.2.1
      case measure=>simp[intOf]
  ·obtain rfl:n1=i:=by omega
   go_wp2_with fail
   refine(yN _ _ _ zs0 (neg1 !=neg2) _ HH0.out.1 (xgf _) oM (by rw[yA];omega) (hblk0.at_ HH0.out.2.1)).mono ?_;rintro e w2 ⟨v,rfl,hv,hb2⟩;have br2:=(br.below hbel0).below hb2;obtain⟨e1,e2,e3,e4⟩:=br2.two;obtain⟨vn,va,vl,vc,vx,rfl,hv2⟩:=hv;go_wp2_with fail
   refine zU rfl rfl rfl (br2.put2 _ _) ?_ (zP (zP (nx (nx hB0 hbel0) hb2) oM 0 _) oM 1 _);refine zR.ext ?_ (br2.lext2 dE _ _);rw[HH0.out.2.2,zH xs hlen1]at hv2;rw[HZ1.out,HZ2.out,<-zLL];exact⟨vn,va,vl,vc,vx,rfl,hv2⟩
end Go.Proofs.YtgnmdddaiefooaaGreat
