/- The functions of package integer on limbs: what each call does. The functions of package integer on limbs, second part. The functions of package integer on limbs, third part. The functions of package integer on limbs, fourth part: times, word, limbs. The functions of package integer: word, limbs, value, Sign, Clone. -/
import Derived.Deep.QuietTactic
import Derived.BigQuiet
import Derived.Laws.ResultCell
import Derived.Test.YtgnmdddaiefooaaGreatR01
set_option linter.unusedVariables false
set_option linter.unusedSimpArgs false
set_option linter.unusedSectionVars false
set_option maxHeartbeats 16000000
set_option maxRecDepth 100000
namespace Go.Proofs.YtgnmdddaiefooaaGreat
open Go.RowKit
theorem jO(ao:Option Addr)(n cap:Nat)(xs:List Nat)(w:World)(hn:xs.length=n)(hl:n<=cap)(hcap:cap<=9223372036854775807)(hx:zG w ao xs):
  Calls Tryz.prog 111 #[.slice ao n cap] w fun e w'=>
   e= .returned (.slice ao (qW xs n) (qW xs n))/\w=w':=by
 have HN:=Lib.hid hn;have hle:=zAy xs n;have hlen:xs.length<=n:=by omega
 have hlen':n<=xs.length:=by omega
 clear hn;go_enter Tryz.func111,Tryz.ntmps111;go_wp2;go_step3;go_wp2;go_step3;go_wp2;go_loop [3] (fun v=>∃k:Nat,k<=n/\v= .int .i64 k/\Hid (qW xs k=qW xs n)) (fun v=>(intOf v).toNat)
 case atStart=>exact⟨n,xgf _,rfl,rfl⟩
 case round=>
  obtain⟨k,hk,rfl,ht⟩:=hrel;cases k with
  |zero=>
   have e:qW xs n=0:=ht.out.symm;go_wp2;go_ret;exact⟨by simp[e],rfl⟩
  | succ k=>
   obtain⟨b,off,x,rfl,_,hx32,HX,hck⟩:=hx.limb (k:=k) oM;by_cases hz:x=0
   ·have ht':Hid (qW xs k=qW xs n):=by
     have:=ht.out;rw[show qW xs (k+1)=if xs.getD k 0=0 then qW xs k else k+1 from rfl,if_pos (HX.out.trans hz)]at this;exact this
    subst hz;clear ht;go_wp2;go_round
    case rel=>exact⟨k,by omega,by go_num,ht'⟩
    case measure=>simp[intOf]
   ·have ht':Hid (qW xs n=k+1):=by
     have:=ht.out;rw[show qW xs (k+1)=if xs.getD k 0=0 then qW xs k else k+1 from rfl,if_neg (by rw[HX.out];exact hz)]at this;exact this.symm
    have hzz:((x:Int)==0)=false:=by simpa using hz
    clear hz ht;go_wp2;go_ret;exact⟨by simp[ht'.out],rfl⟩
theorem zIc(ao1 ao2:Option Addr)(n1 cap1 n2 cap2:Nat)(xs ys:List Nat)(w:World)(hn1:xs.length=n1)(hn2:ys.length=n2)(hl1:n1<=cap1)(hl2:n2<=cap2)
  (hc1:cap1<=9223372036854775807) (hc2:cap2<=9223372036854775807) (hb1:n1<=4*LIM) (hb2:n2<=4*LIM) (hx1:zG w ao1 xs) (hx2:zG w ao2 ys):
  Calls Tryz.prog 131 #[.slice ao1 n1 cap1,.slice ao2 n2 cap2] w (zD0 w (nat xs+nat ys)):=by
 have HN1:=Lib.hid hn1;have HN2:=Lib.hid hn2;have hlen1:xs.length<=n1:=by omega
 have hlen1':n1<=xs.length:=by omega
 have hlen2:ys.length<=n2:=by omega
 have hlen2':n2<=ys.length:=by omega
 clear hn1 hn2;rw[yA]at hb1 hb2;by_cases hlt:n1<n2
 case pos=>
  have hle:n1<=n2:=by omega
  have hmk:=fun W=>mkU ((n2:Int)+1) (n2+1) oM oM W
  go_enter Tryz.func131,Tryz.ntmps131;go_wp2;clear hmk;go_loopw [6,21] (fun c i wr=>∃(k d:Nat) (zs:List Nat),k<=n2/\i= .int .i64 k/\c= .int .u64 d/\d<=1/\jJ wr w.heap.size zs/\Below w.heap.size w wr/\n2<zs.length∧
    Hid (zs.length=n2+1/\qN zs/\nat (zs.take k)+d*B32^k=nat (ys.take k)+nat (xs.take k))) (fun _ i _=>n2-(intOf i).toNat)
  case atStart=>exact⟨0,0,List.replicate (n2+1) 0,by omega,rfl,rfl,by omega,jJ.made _ _,(Below.refl _ _).alloc (xgf _) _,by simp,⟨by simp,fun x hx=>by rw[List.eq_of_mem_replicate hx];exact yT,by simp⟩⟩
  case round=>
   obtain⟨k,d,zs,hk,rfl,rfl,hd,hblk,hbel,hlz,HH⟩:=hrel;have hfr:=hblk.frozen k;by_cases hkn:k<n2
   ·obtain⟨b,off,x,rfl,hbw,hx32,HX,hck⟩:=hx2.limb (k:=k) oM
    have hck':=(hbel.cell (p:=⟨b,off+k,none⟩) hbw).trans hck;have hcz:=hblk.cell (k:=k) oM;clear hck;by_cases hk2:k<n1
    ·obtain⟨b2,off2,y,rfl,hbw2,hy32,HY,hcy⟩:=hx1.limb (k:=k) oM
     have hcy':=(hbel.cell (p:=⟨b2,off2+k,none⟩) hbw2).trans hcy;clear hcy;go_wp2;go_roundw
     case rel=>exact⟨k+1,(d+x+y)/4294967296,zs.set k ((d+x+y)%4294967296),by omega,by go_num,by go_num,by omega,hblk.set' _ _ _ oM,hbel.setCell (xgf _) _,by simpa using hlz,
       ⟨by simpa using HH.out.1,HH.out.2.1.set _ _ (Nat.mod_lt _ oM),zBy HH.out.2.2 oM HX.out HY.out⟩⟩
     case measure=>simp[intOf];omega
    ·have HY:xs.getD k 0=0:=by rw[xgb,List.getElem?_eq_none oM];rfl
     have HY':=Lib.hid HY;clear HY;go_wp2;go_roundw
     case rel=>exact⟨k+1,(d+x)/4294967296,zs.set k ((d+x)%4294967296),by omega,by go_num,by go_num,by omega,hblk.set' _ _ _ oM,hbel.setCell (xgf _) _,by simpa using hlz,
       ⟨by simpa using HH.out.1,HH.out.2.1.set _ _ (Nat.mod_lt _ oM),zBy HH.out.2.2 oM HX.out HY'.out⟩⟩
     case measure=>simp[intOf];omega
   ·obtain rfl:n2=k:=by omega
    have hcz:=hblk.cell (k:=n2) oM;go_wp2;go_ret;refine⟨_,_,_,zs.set n2 d,rfl,by simpa using HH.out.1,by omega,by omega,(hblk.set' _ _ d oM).at_ (HH.out.2.1.set _ _ (by unfold B32;omega)),?_,hbel.setCell (xgf _) _⟩;have h1:=HH.out.2.2;have h2:=yO zs n2 d hlz;rw[zH _ (by simp[HH.out.1]),h1,zH ys oM,zH xs oM]at h2;omega
 case neg=>
  have hle:n2<=n1:=by omega
  have hmk:=fun W=>mkU ((n1:Int)+1) (n1+1) oM oM W
  go_enter Tryz.func131,Tryz.ntmps131;go_wp2;clear hmk;go_loopw [6,21] (fun c i wr=>∃(k d:Nat) (zs:List Nat),k<=n1/\i= .int .i64 k/\c= .int .u64 d/\d<=1/\jJ wr w.heap.size zs/\Below w.heap.size w wr/\n1<zs.length∧
    Hid (zs.length=n1+1/\qN zs/\nat (zs.take k)+d*B32^k=nat (xs.take k)+nat (ys.take k))) (fun _ i _=>n1-(intOf i).toNat)
  case atStart=>exact⟨0,0,List.replicate (n1+1) 0,by omega,rfl,rfl,by omega,jJ.made _ _,(Below.refl _ _).alloc (xgf _) _,by simp,⟨by simp,fun x hx=>by rw[List.eq_of_mem_replicate hx];exact yT,by simp⟩⟩
  case round=>
   obtain⟨k,d,zs,hk,rfl,rfl,hd,hblk,hbel,hlz,HH⟩:=hrel;have hfr:=hblk.frozen k;by_cases hkn:k<n1
   ·obtain⟨b,off,x,rfl,hbw,hx32,HX,hck⟩:=hx1.limb (k:=k) oM
    have hck':=(hbel.cell (p:=⟨b,off+k,none⟩) hbw).trans hck;have hcz:=hblk.cell (k:=k) oM;clear hck;by_cases hk2:k<n2
    ·obtain⟨b2,off2,y,rfl,hbw2,hy32,HY,hcy⟩:=hx2.limb (k:=k) oM
     have hcy':=(hbel.cell (p:=⟨b2,off2+k,none⟩) hbw2).trans hcy;clear hcy;go_wp2;go_roundw
     case rel=>exact⟨k+1,(d+x+y)/4294967296,zs.set k ((d+x+y)%4294967296),by omega,by go_num,by go_num,by omega,hblk.set' _ _ _ oM,hbel.setCell (xgf _) _,by simpa using hlz,
       ⟨by simpa using HH.out.1,HH.out.2.1.set _ _ (Nat.mod_lt _ oM),zBy HH.out.2.2 oM HX.out HY.out⟩⟩
     case measure=>simp[intOf];omega
    ·have HY:ys.getD k 0=0:=by rw[xgb,List.getElem?_eq_none oM];rfl
     have HY':=Lib.hid HY;clear HY;go_wp2;go_roundw
     case rel=>exact⟨k+1,(d+x)/4294967296,zs.set k ((d+x)%4294967296),by omega,by go_num,by go_num,by omega,hblk.set' _ _ _ oM,hbel.setCell (xgf _) _,by simpa using hlz,
       ⟨by simpa using HH.out.1,HH.out.2.1.set _ _ (Nat.mod_lt _ oM),zBy HH.out.2.2 oM HX.out HY'.out⟩⟩
     case measure=>simp[intOf];omega
   ·obtain rfl:n1=k:=by omega
    have hcz:=hblk.cell (k:=n1) oM;go_wp2;go_ret;refine⟨_,_,_,zs.set n1 d,rfl,by simpa using HH.out.1,by omega,by omega,(hblk.set' _ _ d oM).at_ (HH.out.2.1.set _ _ (by unfold B32;omega)),?_,hbel.setCell (xgf _) _⟩;have h1:=HH.out.2.2;have h2:=yO zs n1 d hlz;rw[zH _ (by simp[HH.out.1]),h1,zH xs oM,zH ys oM]at h2;omega
theorem zB6(a b:Int)(w:World):
  Calls Tryz.prog 109 #[.int .i64 a,.int .i64 b] w fun e w'=>e= .returned (.int .i64 (qO a b))/\w=w':=by
 by_cases h1:a<b
 ·have h1':¬ b<a:=by omega
  have e:qO a b=-1:=by unfold qO;rw[if_pos h1]
  have E:=Lib.hid e;clear e;go_enter Tryz.func109,Tryz.ntmps109;go_wp2_with (go_in)
  go_ret;exact⟨by rw[E.out];rfl,rfl⟩
 ·by_cases h2:b<a
  ·have e:qO a b=1:=by unfold qO;rw[if_neg h1,if_pos h2]
   have E:=Lib.hid e;clear e;go_enter Tryz.func109,Tryz.ntmps109;go_wp2_with (go_in)
   go_ret;exact⟨by rw[E.out];rfl,rfl⟩
  ·have e:qO a b=0:=by unfold qO;rw[if_neg h1,if_neg h2]
   have E:=Lib.hid e;clear e;go_enter Tryz.func109,Tryz.ntmps109;go_wp2_with (go_in)
   go_ret;exact⟨by rw[E.out];rfl,rfl⟩
theorem zIu(a b:Int)(w:World):
  Calls Tryz.prog 138 #[.int .u32 a,.int .u32 b] w fun e w'=>e= .returned (.int .i64 (qO a b))/\w=w':=by
 by_cases h1:a<b
 ·have h1':¬ b<a:=by omega
  have e:qO a b=-1:=by unfold qO;rw[if_pos h1]
  have E:=Lib.hid e;clear e;go_enter Tryz.func138,Tryz.ntmps138;go_wp2_with (go_in)
  go_ret;exact⟨by rw[E.out];rfl,rfl⟩
 ·by_cases h2:b<a
  ·have e:qO a b=1:=by unfold qO;rw[if_neg h1,if_pos h2]
   have E:=Lib.hid e;clear e;go_enter Tryz.func138,Tryz.ntmps138;go_wp2_with (go_in)
   go_ret;exact⟨by rw[E.out];rfl,rfl⟩
  ·have e:qO a b=0:=by unfold qO;rw[if_neg h1,if_neg h2]
   have E:=Lib.hid e;clear e;go_enter Tryz.func138,Tryz.ntmps138;go_wp2_with (go_in)
   go_ret;exact⟨by rw[E.out];rfl,rfl⟩
theorem zEK(a b c:Int)(w:World)(h:qO a b=c):
  Calls Tryz.prog 138 #[.int .u32 a,.int .u32 b] w fun e w'=>e= .returned (.int .i64 c)/\w'=w:=
 (zIu a b w).mono fun _ _ ⟨he,hw⟩=>⟨by rw[he,h],hw.symm⟩
theorem yE{a b:Int}(h:a<b):qO a b=-1:=by unfold qO;rw[if_pos h]
theorem yV{a b:Int}(h:b<a):qO a b=1:=by unfold qO;rw[if_neg oM,if_pos h]
theorem jC{a b:Int}(h:a=b):qO a b=0:=by unfold qO;rw[if_neg oM,if_neg oM]
theorem zAC(ao1 ao2:Option Addr)(n1 cap1 n2 cap2:Nat)(xs ys:List Nat)(w:World)(hn1:xs.length=n1)(hn2:ys.length=n2)(hl1:n1<=cap1)(hl2:n2<=cap2)
  (hc1:cap1<=9223372036854775807) (hc2:cap2<=9223372036854775807) (hx1:zG w ao1 xs) (hx2:zG w ao2 ys) (hN1:qP xs) (hN2:qP ys):
  Calls Tryz.prog 110 #[.slice ao1 n1 cap1,.slice ao2 n2 cap2] w fun e w'=>e= .returned (.int .i64 (qO (nat xs) (nat ys)))/\∃q,w'=w.drewN q:=by
 have HN1:=Lib.hid hn1;have HN2:=Lib.hid hn2;by_cases hne:n1=n2
 ·subst hne
  have ec:((qO (n1:Int) (n1:Int)) !=0)=false:=by unfold qO;simp
  have hlen1:xs.length<=n1:=by omega
  have hlen1':n1<=xs.length:=by omega
  have hlen2:ys.length<=n1:=by omega
  have hlen2':n1<=ys.length:=by omega
  clear hn1 hn2;go_enter Tryz.func110,Tryz.ntmps110;go_wp2_with (go_at_call 109;refine(zB6 _ _ _).mono ?_;rintro e w' ⟨rfl,rfl⟩)
  clear ec;go_loopw [6] (fun i wr=>∃k q:Nat,k<=n1/\i= .int .i64 ((k:Int)-1)/\Hid (xs.drop k=ys.drop k)/\Hid (wr=w.drewN q)) (fun i _=>(intOf i+1).toNat)
  case atStart=>exact⟨n1,0,xgf _,rfl,by show _=_;rw[List.drop_eq_nil_of_le oM,List.drop_eq_nil_of_le oM],rfl⟩
  case round=>
   obtain⟨k,q,hk,rfl,HD,HW⟩:=hrel;cases k with
   | zero=>
    have e0:qO (nat xs:Int) (nat ys:Int)=0:=by
     have:xs=ys:=by simpa using HD.out
     subst this;unfold qO;simp
    have E:=Lib.hid e0;clear e0;go_wp2;go_ret;exact⟨by rw[E.out];rfl,_,HW.out⟩
   | succ k=>
    obtain⟨b,off,x,rfl,hbw,hx32,HX,hck⟩:=hx1.limb (k:=k) oM;obtain⟨b2,off2,y,rfl,hbw2,hy32,HY,hcy⟩:=hx2.limb (k:=k) oM;have hck':wr.cell? ⟨b,off+k,none⟩=some (.int .u32 (x:Nat)):=by rw[HW.out];exact hck
    have hcy':wr.cell? ⟨b2,off2+k,none⟩=some (.int .u32 (y:Nat)):=by rw[HW.out];exact hcy
    have ek:IntKind.i64.wrap ((k:Int)+1-1)=k:=by rw[IntWalk.i64_in _ oM];omega
    clear hck hcy;rcases Nat.lt_trichotomy x y with hxy|hxy|hxy
    ·have E:Hid (qO (nat xs) (nat ys)=-1):=yE (by have:=zID hx1.1 oM oM HD.out HX.out HY.out hxy;omega)
     have hcall:=fun W=>zEK x y (-1) W (yE oM)
     go_wp2;go_quiet ((go_at_call 138;exact Calls.quiet_of_same (hcall _)));go_wp2;go_ret;exact⟨by rw[E.out];rfl,_,by rw[HW.out,World.drewN_drewN]⟩
    ·subst hxy
     have HD':Hid (xs.drop k=ys.drop k):=by
      show _=_;rw[List.drop_eq_getElem_cons (l:=xs) (i:=k) oM,List.drop_eq_getElem_cons (l:=ys) (i:=k) oM,HD.out];have h1:=HX.out;have h2:=HY.out;rw[xgb,xga oM]at h1 h2;simp at h1 h2;rw[h1,h2]
     have hcall:=fun W=>zEK x x 0 W (jC rfl)
     clear HD HX HY;go_wp2;go_quiet ((go_at_call 138;exact Calls.quiet_of_same (hcall _)));go_wp2;go_roundw
     case rel=>exact⟨k,_,by omega,by go_num,HD',by show _=_;rw[HW.out,World.drewN_drewN]⟩
     case measure=>simp[intOf]
    ·have E:Hid (qO (nat xs) (nat ys)=1):=yV (by have:=zID hx2.1 oM oM HD.out.symm HY.out HX.out hxy;omega)
     have hcall:=fun W=>zEK x y 1 W (yV oM)
     go_wp2;go_quiet ((go_at_call 138;exact Calls.quiet_of_same (hcall _)));go_wp2;go_ret;exact⟨by rw[E.out];rfl,_,by rw[HW.out,World.drewN_drewN]⟩
 ·rcases Nat.lt_or_gt_of_ne hne with h|h
  ·have e1:qO (n1:Int) (n2:Int)=-1:=yE oM
   have E:Hid (qO (nat xs) (nat ys)=-1):=yE (by have:=zFi hx1.1 hN2 oM;omega);have hcall:=fun W=>(zB6 n1 n2 W)
   rw[e1]at hcall;clear e1;go_enter Tryz.func110,Tryz.ntmps110;go_wp2_with (go_at_call 109;refine(hcall _).mono ?_;rintro e w' ⟨rfl,rfl⟩)
   go_ret;exact⟨by rw[E.out];rfl,0,rfl⟩
  ·have e1:qO (n1:Int) (n2:Int)=1:=yV oM
   have E:Hid (qO (nat xs) (nat ys)=1):=yV (by have:=zFi hx2.1 hN1 oM;omega);have hcall:=fun W=>(zB6 n1 n2 W)
   rw[e1]at hcall;clear e1;go_enter Tryz.func110,Tryz.ntmps110;go_wp2_with (go_at_call 109;refine(hcall _).mono ?_;rintro e w' ⟨rfl,rfl⟩)
   go_ret;exact⟨by rw[E.out];rfl,0,rfl⟩
theorem zDV{xs ys zs:List Nat}{k d x y v e:Nat}(h:nat (zs.take k)+nat (ys.take k)=nat (xs.take k)+d*B32^k)(hk:k<zs.length)
  (hx:xs.getD k 0=x) (hy:ys.getD k 0=y) (hv:v+y+d=x+e*4294967296):
  nat ((zs.set k v).take (k+1))+nat (ys.take (k+1))=nat (xs.take (k+1))+e*B32^(k+1):=by
 rw[yO _ _ _ hk,zO,zO,hx,hy,Nat.pow_succ,yL];rw[yL]at h;generalize 4294967296^k=p at*;have e1:(v+y+d)*p=(x+e*4294967296)*p:=by rw[hv]
 rw[Nat.add_mul,Nat.add_mul,Nat.add_mul,Nat.mul_assoc,Nat.mul_comm 4294967296 p]at e1;omega
theorem zJa(x y d:Nat)(hx:x<4294967296)(hy:y<4294967296)(hd:d<=1):
  ∃v e:Nat,IntKind.u32.wrap (IntKind.u64.wrap (IntKind.u64.wrap ((x:Int)-d)-y))=v/\IntKind.u64.wrap (IntKind.u64.wrap ((x:Int)-d)-y)/9223372036854775808=e/\v<4294967296/\e<=1/\v+y+d=x+e*4294967296:=by
 simp only[IntKind.wrap_u64,IntKind.wrap_u32];by_cases h:y+d<=x
 ·exact⟨x-d-y,0,by omega,by omega,by omega,by omega,by omega⟩
 ·exact⟨x+4294967296-d-y,1,by omega,by omega,by omega,by omega,by omega⟩
theorem zH0(x d:Nat)(hx:x<4294967296)(hd:d<=1):
  ∃v e:Nat,IntKind.u32.wrap (IntKind.u64.wrap ((x:Int)-d))=v/\IntKind.u64.wrap ((x:Int)-d)/9223372036854775808=e/\v<4294967296/\e<=1/\v+0+d=x+e*4294967296:=by
 simp only[IntKind.wrap_u64,IntKind.wrap_u32];by_cases h:d<=x
 ·exact⟨x-d,0,by omega,by omega,by omega,by omega,by omega⟩
 ·exact⟨x+4294967296-d,1,by omega,by omega,by omega,by omega,by omega⟩
theorem zEe(ao1 ao2:Option Addr)(n1 cap1 n2 cap2:Nat)(xs ys:List Nat)(w:World)(hn1:xs.length=n1)(hn2:ys.length=n2)(hl1:n1<=cap1)(hl2:n2<=cap2)
  (hc1:cap1<=9223372036854775807) (hc2:cap2<=9223372036854775807) (hb1:n1<=4*LIM) (hx1:zG w ao1 xs) (hx2:zG w ao2 ys) (hle:n2<=n1) (hval:nat ys<=nat xs):
  Calls Tryz.prog 132 #[.slice ao1 n1 cap1,.slice ao2 n2 cap2] w (zD0 w (nat xs-nat ys)):=by
 have HN1:=Lib.hid hn1;have HN2:=Lib.hid hn2;have HV:=Lib.hid hval;have hlen1:xs.length<=n1:=by omega
 have hlen1':n1<=xs.length:=by omega
 have hlen2:ys.length<=n2:=by omega
 have hlen2':n2<=ys.length:=by omega
 clear hn1 hn2 hval;rw[yA]at hb1;have hmk:=fun W=>mkU (n1:Int) n1 oM oM W
 go_enter Tryz.func132,Tryz.ntmps132;go_wp2;clear hmk;go_loopw [6,14] (fun c i wr=>∃(k d:Nat) (zs:List Nat),k<=n1/\i= .int .i64 k/\c= .int .u64 d/\d<=1/\jJ wr w.heap.size zs/\Below w.heap.size w wr/\n1<=zs.length∧
   Hid (zs.length=n1/\qN zs/\nat (zs.take k)+nat (ys.take k)=nat (xs.take k)+d*B32^k)) (fun _ i _=>n1-(intOf i).toNat)
 case atStart=>exact⟨0,0,List.replicate n1 0,by omega,rfl,rfl,by omega,jJ.made _ _,(Below.refl _ _).alloc (xgf _) _,by simp,⟨by simp,fun x hx=>by rw[List.eq_of_mem_replicate hx];exact yT,by simp⟩⟩
 case round=>
  obtain⟨k,d,zs,hk,rfl,rfl,hd,hblk,hbel,hlz,HH⟩:=hrel;have hfr:=hblk.frozen k;by_cases hkn:k<n1
  ·obtain⟨b,off,x,rfl,hbw,hx32,HX,hck⟩:=hx1.limb (k:=k) oM
   have hck':=(hbel.cell (p:=⟨b,off+k,none⟩) hbw).trans hck;have hcz:=hblk.cell (k:=k) oM;clear hck;by_cases hk2:k<n2
   ·obtain⟨b2,off2,y,rfl,hbw2,hy32,HY,hcy⟩:=hx2.limb (k:=k) oM
    have hcy':=(hbel.cell (p:=⟨b2,off2+k,none⟩) hbw2).trans hcy;clear hcy;go_wp2;go_roundw;obtain⟨v,e,e1,e2,e3,e4,e5⟩:=zJa x y d hx32 hy32 hd
    case rel=>exact⟨k+1,e,zs.set k v,by omega,by go_num,by rw[e2],by omega,hblk.set' _ _ v (by first|exact e1|omega),hbel.setCell (xgf _) _,by simpa using hlz,
      ⟨by simpa using HH.out.1,HH.out.2.1.set _ _ e3,zDV HH.out.2.2 oM HX.out HY.out e5⟩⟩
    case measure=>simp[intOf];omega
   ·have HY:ys.getD k 0=0:=by rw[xgb,List.getElem?_eq_none oM];rfl
    have HY':=Lib.hid HY;clear HY;go_wp2;go_roundw;obtain⟨v,e,e1,e2,e3,e4,e5⟩:=zH0 x d hx32 hd
    case rel=>exact⟨k+1,e,zs.set k v,by omega,by go_num,by rw[e2],by omega,hblk.set' _ _ v (by first|exact e1|omega),hbel.setCell (xgf _) _,by simpa using hlz,
      ⟨by simpa using HH.out.1,HH.out.2.1.set _ _ e3,zDV HH.out.2.2 oM HX.out HY'.out e5⟩⟩
    case measure=>simp[intOf];omega
  ·obtain rfl:n1=k:=by omega
   go_wp2;go_ret;have h1:=HH.out.2.2;rw[zH xs hlen1,zH ys oM,zH zs (by rw[HH.out.1];omega)]at h1;have h2:=jW HH.out.2.1;rw[HH.out.1]at h2;have h3:=HV.out;refine⟨_,_,_,zs,rfl,HH.out.1,by omega,by omega,hblk.at_ HH.out.2.1,?_,hbel⟩;generalize B32^n1=p at h1 h2;have h4:d=0∨d=1:=by omega
   rcases h4 with rfl|rfl<;>omega
theorem zDd{ys zs zs0:List Nat}{i k c x y z:Nat}(h:nat (zs.take (i+k))+c*B32^(i+k)=nat (zs0.take (i+k))+x*B32^i*nat (ys.take k))(hk:i+k<zs.length)
    (hy:ys.getD k 0=y) (hz:zs.getD (i+k) 0=z) (hz0:zs0.getD (i+k) 0=z):
    nat ((zs.set (i+k) ((c+(x*y+z))%4294967296)).take (i+(k+1)))+(c+(x*y+z))/4294967296*B32^(i+(k+1))=nat (zs0.take (i+(k+1)))+x*B32^i*nat (ys.take (k+1)):=by
  rw[show i+(k+1)=i+k+1 from rfl,yO _ _ _ hk,zO zs0,zO ys,hy,hz0,Nat.mul_add,Nat.pow_succ,yL];rw[yL]at h;have e1:x*4294967296^i*(y*4294967296^k)=x*y*4294967296^(i+k):=by rw[Nat.pow_add];simp only[Nat.mul_assoc,Nat.mul_comm,Nat.mul_left_comm]
  rw[e1];generalize 4294967296^(i+k)=p at*;generalize x*4294967296^i*nat (ys.take k)=t at*;generalize x*y=m at*;have e:=Nat.div_add_mod (c+(m+z)) 4294967296;generalize (c+(m+z))/4294967296=q at*;generalize (c+(m+z))%4294967296=r at*;have e2:r*p+q*(p*4294967296)=(c+(m+z))*p:=by rw[<-e,Nat.add_mul,Nat.mul_comm 4294967296 q,Nat.mul_assoc,Nat.mul_comm 4294967296 p,Nat.add_comm]
  rw[Nat.add_mul,Nat.add_mul]at e2;omega
theorem zC4{x y:Nat}(hx:x<4294967296)(hy:y<4294967296):x*y<=18446744065119617025:=by
  have h1:x*y<=4294967295*4294967295:=Nat.mul_le_mul oM oM;omega
theorem zC5{x y:Nat}(hx:x<4294967296)(hy:y<4294967296):(x:Int)*(y:Int)<=18446744065119617025/\0<=(x:Int)*(y:Int):=by
  have h:=zC4 hx hy;rw[<-Int.natCast_mul];generalize x*y=m at*;omega
theorem zA9{xs ys:List Nat}{k:Nat}(h:xs.drop k=ys.drop k){j:Nat}(hj:k<=j):xs.getD j 0=ys.getD j 0:=by
  have:=congrArg (fun l=>l.getD (j-k) 0) h;simp only[xgb,List.getElem?_drop]at this;rw[show k+(j-k)=j by omega]at this;simpa[xgb]using this
theorem zAK(zs:List Nat)(k v:Nat):(zs.set k v).drop (k+1)=zs.drop (k+1):=by
  rw[List.drop_set_of_lt oM]
theorem zBq{xs ys:List Nat}{k:Nat}(h:xs.drop k=ys.drop k):xs.drop (k+1)=ys.drop (k+1):=by
  have:=congrArg List.tail h;simpa using this
theorem zLY (ao1 ao2:Option Addr)(n1 cap1 n2 cap2:Nat)(xs ys:List Nat)(w:World)(hn1:xs.length=n1)(hn2:ys.length=n2)
    (hb1:n1<=4*LIM) (hb2:n2<=4*LIM) (hx1:zG w ao1 xs) (hx2:zG w ao2 ys):
    Calls Tryz.prog 155 #[.slice ao1 n1 cap1,.slice ao2 n2 cap2] w (zD0 w (nat xs*nat ys)):=by
  have HN1:=Lib.hid hn1;have HN2:=Lib.hid hn2;have hlen1:xs.length<=n1:=by omega
  have hlen1':n1<=xs.length:=by omega
  have hlen2:ys.length<=n2:=by omega
  have hlen2':n2<=ys.length:=by omega
  clear hn1 hn2;rw[yA]at hb1 hb2;have hmk:=fun W=>mkU ((n1:Int)+n2) (n1+n2) oM oM W
  go_enter Tryz.func155,Tryz.ntmps155;go_wp2;clear hmk;go_loopw [19] (fun i wr=>∃(k:Nat) (zs:List Nat),k<=n1/\i= .int .i64 k/\jJ wr w.heap.size zs/\Below w.heap.size w wr/\n1+n2<=zs.length∧
      Hid (zs.length=n1+n2/\qN zs/\nat (zs.take (k+n2))=nat (xs.take k)*nat ys)) (fun i _=>n1-(intOf i).toNat)
  case atStart=>exact⟨0,List.replicate (n1+n2) 0,by omega,rfl,jJ.made _ _,(Below.refl _ _).alloc (xgf _) _,by simp,⟨by simp,fun x hx=>by rw[List.eq_of_mem_replicate hx];exact yT,by
    have:∀m,nat (List.replicate m 0)=0:=fun m=>by induction m with
      |zero=>rfl
      |succ m ih=>rw[List.replicate_succ,yK,ih];rfl
    rw[List.take_replicate,this];simp⟩⟩
  case round=>
    obtain⟨k,zs0,hk,rfl,hblk0,hbel0,hlz0,HH0⟩:=hrel;obtain⟨wo,rfl⟩:∃wo:World,wo=wr:=⟨_,rfl⟩;by_cases hkn:k<n1
    · obtain ⟨b,off,x,rfl,hbw,hx32,HX,hck⟩:=hx1.limb (k:=k) oM
      have hck':=(hbel0.cell (p:=⟨b,off+k,none⟩) hbw).trans hck;clear hck;go_wp2;go_loopw [8,26] (fun cv i wr=>∃(j c:Nat) (zs:List Nat),j<=n2/\i= .int .i64 j/\cv= .int .u64 c/\c<4294967296/\jJ wr w.heap.size zs/\Below w.heap.size w wr/\n1+n2<=zs.length∧
          Hid (zs.length=n1+n2/\qN zs/\zs.drop (k+j)=zs0.drop (k+j)/\nat (zs.take (k+j))+c*B32^(k+j)=nat (zs0.take (k+j))+x*B32^k*nat (ys.take j))) (fun _ i _=>n2-(intOf i).toNat)
      case atStart=>exact⟨0,0,zs0,by omega,rfl,rfl,by omega,hblk0,hbel0,hlz0,⟨HH0.out.1,HH0.out.2.1,rfl,by simp⟩⟩
      case round=>
        obtain⟨j,c,zs,hj,rfl,rfl,hc,hblk,hbel,hlz,HH⟩:=hrel;have hfr:=hblk.frozen (k+j);by_cases hjn:j<n2
        · obtain⟨b2,off2,y,rfl,hbw2,hy32,HY,hcy⟩:=hx2.limb (k:=j) oM
          have hcy':=(hbel.cell (p:=⟨b2,off2+j,none⟩) hbw2).trans hcy;clear hcy;obtain⟨z,HZ⟩:∃z,zs.getD (k+j) 0=z:=⟨_,rfl⟩;have hz32:z<4294967296:=by rw[<-HZ];exact HH.out.2.1.get _
          have hcz:=hblk.cell (k:=k+j) oM;rw[HZ]at hcz;have HZ':=Lib.hid HZ;clear HZ;have hm1:=zC4 hx32 hy32;obtain⟨hm2,hm3⟩:=zC5 hx32 hy32;go_wp2;go_roundw
          case rel=>
            have ec:(((c+(x*y+z))/4294967296:Nat):Int)=((c:Int)+((x:Int)*(y:Int)+(z:Int)))/4294967296:=by simp
            have hlt:c+(x*y+z)<18446744073709551616:=by generalize x*y=m at*;omega
            refine⟨j+1,(c+(x*y+z))/4294967296,zs.set (k+j) ((c+(x*y+z))%4294967296),by omega,by go_num,by rw[ec],by generalize x*y=m at*;omega,hblk.set' _ _ _ sI,hbel.setCell (xgf _) _,by simpa using hlz,
              ⟨by simpa using HH.out.1,HH.out.2.1.set _ _ (Nat.mod_lt _ oM),?_,zDd HH.out.2.2.2 oM HY.out HZ'.out ((zA9 HH.out.2.2.1 (xgf _)).symm.trans HZ'.out)⟩⟩
            rw[show k+(j+1)=k+j+1 from rfl,zAK];exact zBq HH.out.2.2.1
          case measure=>simp[intOf];omega
        · obtain rfl:n2=j:=by omega
          have hcz:=hblk.cell (k:=k+n2) oM;go_wp2;go_roundw
          case rel=>
            refine⟨k+1,zs.set (k+n2) c,by omega,by go_num,hblk.set' _ _ _ rfl,hbel.setCell (xgf _) _,by simpa using hlz,⟨by simpa using HH.out.1,HH.out.2.1.set _ _ hc,?_⟩⟩;have h1:=HH.out.2.2.2;have h2:=HH0.out.2.2;rw[h2,zH ys oM]at h1;rw[show k+1+n2=k+n2+1 by omega,yO _ _ _ oM,h1,zO xs,HX.out,Nat.add_mul]
          case measure=>simp[intOf];omega
    · obtain rfl:n1=k:=by omega
      go_wp2;go_ret;have h1:=HH0.out.2.2;rw[zH xs hlen1,zH zs0 (by rw[HH0.out.1];omega)]at h1;exact⟨_,_,_,zs0,rfl,HH0.out.1,by omega,by omega,hblk0.at_ HH0.out.2.1,h1,hbel0⟩
theorem yP(neg:Bool)(ao:Option Addr)(n cap:Nat)(xs:List Nat)(w:World)(hn:xs.length=n)(hl:n<=cap)(hcap:cap<=9223372036854775807)(hx:zG w ao xs):
  Calls Tryz.prog 107 #[.bool neg,.slice ao n cap] w (zAI w (sgn neg (nat xs))):=by
 have HN:=Lib.hid hn;have htl:=zAy xs n;obtain⟨t,HT⟩:∃t,qW xs n=t:=⟨_,rfl⟩;rw[HT]at htl;have hcall:=fun W hw=>jO ao n cap xs W hn hl hcap hw
 rw[HT]at hcall;have HT':=Lib.hid HT;clear HT hn;have hnorm:qP (xs.take t):=by
  have h1:=zBH xs;unfold zAz at h1;rw[HN.out,HT'.out]at h1;exact h1
 have hval:Hid (nat (xs.take t)=nat xs):=by
  have h1:=zAY xs;unfold zAz at h1;rw[HN.out,HT'.out]at h1;exact h1
 by_cases h0:t=0
 ·subst h0
  go_enter Tryz.func107,Tryz.ntmps107;go_wp2_with (go_at_call 111;refine(hcall _ ?_).mono ?_;exact hx.ext (yI.below ((Below.refl _ _).alloc (xgf _) _) (xgf _));rintro e w' ⟨rfl,rfl⟩)
  refine bodyPost_ret (v:=.agg #[.bool false,.slice none 0 0]) (by simp[results,Tryz.results107,go_sem]) rfl ?_;refine⟨_,rfl,⟨false,none,0,0,[],rfl,rfl,by omega,by omega,zG.nil _ _,qP.nil,?_,by simp⟩,(Below.refl _ _).alloc (xgf _) _⟩;have:=hval.out;simp at this;rw[<-this];simp[zEB]
 ·have ht0:((t:Int)==0)=false:=by simpa using h0
  go_enter Tryz.func107,Tryz.ntmps107;go_wp2_with (go_at_call 111;refine(hcall _ ?_).mono ?_;exact hx.ext (yI.below ((Below.refl _ _).alloc (xgf _) _) (xgf _));rintro e w' ⟨rfl,rfl⟩)
  refine bodyPost_ret (v:=.agg #[.bool neg,.slice ao t t]) (by simp[results,Tryz.results107,go_sem]) rfl ?_;have hB:Below w.heap.size w (w.alloc (.cells #[.bool neg,.slice ao t t] 51)):=(Below.refl _ _).alloc (xgf _) _;exact⟨_,rfl,⟨neg,ao,t,t,xs.take t,rfl,by rw[List.length_take,HN.out];omega,by omega,by omega,(hx.take t).ext (yI.below hB (xgf _)),hnorm,by rw[hval.out],by omega⟩,hB⟩
theorem zG.two(w:World)(a b:Nat)(ha:a<4294967296)(hb:b<4294967296)(m k:Int)(hm:m=a)(hk:k=b):
  zG (w.alloc (.cells #[.int .u32 m,.int .u32 k] tU)) (some ⟨w.heap.size,0,none⟩) [a,b]:=by
 subst hm;subst hk;exact(jJ.made w [a,b]).at_ (fun x hx=>by simp at hx;unfold B32;omega)
theorem zG.one(w:World)(a:Nat)(ha:a<4294967296)(m:Int)(hm:m=a):
  zG (w.alloc (.cells #[.int .u32 m] tU)) (some ⟨w.heap.size,0,none⟩) [a]:=by
 subst hm;exact(jJ.made w [a]).at_ (fun x hx=>by simp at hx;unfold B32;omega)
theorem zC3(u:Nat)(w:World)(hu:u<18446744073709551616):
  Calls Tryz.prog 108 #[.int .u64 (u:Nat)] w (zD0 w u):=by
 go_enter Tryz.func108,Tryz.ntmps108;go_wp2;go_ret;exact⟨_,_,_,[u%4294967296,u/4294967296],rfl,rfl,by omega,by omega,zG.two w _ _ oM oM _ _ (by simp[IntKind.wrap_u32]) (by simp[IntKind.wrap_u32]),by simp[yK,yL];omega,(Below.refl _ _).alloc (xgf _) _⟩
theorem jE(v:Value)(z:Int)(w:World)(h:zDw w v z):
  Calls Tryz.prog 103 #[v] w fun e w'=>e= .returned (.int .i64 (qO z 0))/\Below w.heap.size w w':=by
 obtain⟨neg,ao,n,cap,xs,rfl,hn,hl,hcap,hx,hN,hz⟩:=h;have hcall:=fun W hw=>jO ao n cap xs W hn hl hcap hw
 rw[<-hn,qV hN,hn]at hcall;by_cases h0:n=0
 ·have E:Hid (qO z 0=0):=by
   have:xs= []:=List.eq_nil_of_length_eq_zero oM;subst this;exact jC (by rw[hz];simp[zEB])
  clear hz hn;subst h0;go_enter Tryz.func103,Tryz.ntmps103;go_wp2_with (go_at_call 111;refine(hcall _ ?_).mono ?_;exact hx.ext (yI.below ((Below.refl _ _).alloc (xgf _) _) (xgf _));rintro e w' ⟨rfl,rfl⟩)
  go_ret;exact⟨by rw[E.out];rfl,(Below.refl _ _).alloc (xgf _) _⟩
 ·have hp:0<nat xs:=zHe hN (by rintro rfl;simp at hn;omega)
  have h0':((n:Int)==0)=false:=by simpa using h0
  cases neg with
  |true=>
   have E:Hid (qO z 0=-1):=yE (by rw[hz];simp;omega);clear hz hn;go_enter Tryz.func103,Tryz.ntmps103;go_wp2_with (go_at_call 111;refine(hcall _ ?_).mono ?_;exact hx.ext (yI.below ((Below.refl _ _).alloc (xgf _) _) (xgf _));rintro e w' ⟨rfl,rfl⟩)
   go_ret;exact⟨by rw[E.out];rfl,(Below.refl _ _).alloc (xgf _) _⟩
  |false=>
   have E:Hid (qO z 0=1):=yV (by rw[hz];simp;omega);clear hz hn;go_enter Tryz.func103,Tryz.ntmps103;go_wp2_with (go_at_call 111;refine(hcall _ ?_).mono ?_;exact hx.ext (yI.below ((Below.refl _ _).alloc (xgf _) _) (xgf _));rintro e w' ⟨rfl,rfl⟩)
   go_ret;exact⟨by rw[E.out];rfl,(Below.refl _ _).alloc (xgf _) _⟩
end Go.Proofs.YtgnmdddaiefooaaGreat
