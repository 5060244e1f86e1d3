/- One digit of a long division, in place. Division of limbs. -/
import Derived.Test.YtgnmdddaiefooaaGreatR04
set_option linter.unusedVariables false
set_option linter.unusedSimpArgs false
set_option linter.unusedSectionVars false
set_option maxHeartbeats 16000000
set_option maxRecDepth 100000
namespace Go.Proofs.YtgnmdddaiefooaaGreat
open Go.RowKit
theorem zGu(w:World)(g:Nat):w.grownBy w (some g):=⟨rfl,rfl,rfl,xgf _,fun _ _ _=>rfl⟩
theorem zC7{a w:World}{g:Nat}(h:a.grownBy w (some g))(i:Nat)(u:Value):a.grownBy (w.setCell ⟨g,i,none⟩ u) (some g):=
 ⟨h.os,h.tape,h.output,by simpa[World.setCell]using h.size,fun k hk hne=>(Below.heap_setCell w ⟨g,i,none⟩ u k (fun e=>hne (by rw[e]))).trans (h.block k hk hne)⟩
theorem zJH{a w:World}{g:Nat}(h:a.grownBy w (some g))(n:Nat):a.grownBy (w.drewN n) (some g):=⟨h.os,h.tape,h.output,h.size,h.block⟩
theorem zGt{a w:World}{g b o:Nat}{v:Value}(h:a.grownBy w (some g))(hne:b≠g)(hc:a.cell? ⟨b,o,none⟩=some v):w.cell? ⟨b,o,none⟩=some v:=
 (World.cell?_of_block (w:=a) (h.block b (World.block_lt_of_cell? a _ hc) (fun e=>hne (by injection e)))).trans hc
theorem zFT{a b c:World}{g:Nat}(h:a.grownBy b (some g))(k:b.grownBy c (some g)):a.grownBy c (some g):=
 ⟨k.os.trans h.os,k.tape.trans h.tape,k.output.trans h.output,Nat.le_trans h.size k.size,fun i hi hne=>(k.block i (Nat.lt_of_lt_of_le hi h.size) hne).trans (h.block i hi hne)⟩
theorem zKd{rr rs:List Nat}{k v:Nat}(h:rr.length=k)(hk:k<rs.length):(rr++rs.drop k).set k v=(rr++ [v])++rs.drop (k+1):=by
 rw[List.set_append_right _ _ oM,h,Nat.sub_self,List.drop_eq_getElem_cons hk,xgi];simp
theorem zNz{rr rs:List Nat}{k:Nat}(h:rr.length=k)(hk:k<rs.length):(rr++rs.drop k).getD k 0=rs.getD k 0:=by
 simp only[xgb];rw[List.getElem?_append_right oM,h,Nat.sub_self,List.getElem?_drop,Nat.add_zero]
theorem zMf{a c lv P V U Q nms:Nat}(h1:a+c*P=nms+V)(h2:nms+P*lv+(Q+1)*V=U+P*4294967296)(ha:a<P)(hV:V<P)(hU:U<(Q+1)*V)(hQ:Q*V<=U)(hlv:lv<4294967296)(hc:c<=1):
  lv+c=4294967296/\U=Q*V+a:=by
 rw[Nat.add_mul,Nat.one_mul]at h2 hU;rcases(show c=0∨c=1 by omega)with rfl|rfl
 ·exfalso
  have h3:P*lv+P<=P*4294967296:=by rw[<-Nat.mul_succ];exact Nat.mul_le_mul_left P hlv
  omega
 ·rcases Nat.lt_or_ge lv 4294967295 with h4|h4
  ·exfalso
   have h3:P*lv+P+P<=P*4294967296:=by
    have:=Nat.mul_le_mul_left P (show lv+2<=4294967296 by omega);rw[Nat.mul_add]at this;omega
   omega
  ·obtain rfl:lv=4294967295:=by omega
   exact⟨rfl,by omega⟩
def zLr(w:World)(g off n:Nat)(ua vs:List Nat)(e:Ending)(w':World):Prop:=
 ∃(q:Nat) (rs:List Nat),e= .returned (.int .u32 (q:Nat))/\q<4294967296/\rs.length=n+1/\qN rs/\nat (seg ua off (n+1))=q*nat vs+nat rs/\nat rs<nat vs/\jJ w' g (put ua off rs)/\w.grownBy w' (some g)
theorem zEt(x y d:Nat)(hx:x<4294967296)(hy:y<4294967296)(hd:d<=1):
  ∃v e:Nat,IntKind.u32.wrap (IntKind.u64.wrap (IntKind.u64.wrap ((x:Int)-y)-d))=v/\IntKind.u64.wrap (IntKind.u64.wrap ((x:Int)-y)-d)/9223372036854775808=e/\v<4294967296/\e<=1/\v+y+d=x+e*4294967296:=by
 simp only[IntKind.wrap_u64,IntKind.wrap_u32];by_cases h:y+d<=x
 ·exact⟨x-y-d,0,by omega,by omega,by omega,by omega,by omega⟩
 ·exact⟨x+4294967296-y-d,1,by omega,by omega,by omega,by omega,by omega⟩
theorem zNQ(m:Nat)(h:m<18446744073709551616):bits BinOp.and IntKind.u64 (m:Int) 4294967295=((m%4294967296:Nat):Int):=by
 have h1:=u64_and_nat m 4294967295 h oM;have h2:m &&& 4294967295=m%4294967296:=Nat.and_two_pow_sub_one_eq_mod m 32;rw[h2]at h1;exact h1
theorem zOC{q Q U V R:Nat}(h1:R+q*V=U)(h2:U<(Q+1)*V)(h3:Q<=q):R<V:=by
 have:Q*V<=q*V:=Nat.mul_le_mul_right V h3;rw[Nat.add_mul,Nat.one_mul]at h2;omega
theorem zP1{q Q U V R P:Nat}(h1:R+q*V=U+P)(hR:R<P)(h2:U<(Q+1)*V)(h3:Q*V<=U)(h4:q<=Q+1∨q*V<U+V):q=Q+1:=by
 have a:Q<q:=by
  rcases Nat.lt_or_ge Q q with h|h
  ·exact h
  ·have:=Nat.mul_le_mul_right V h;omega
 rcases h4 with h4|h4
 ·omega
 ·rcases Nat.lt_or_ge (Q+1) q with h|h
  ·have:=Nat.mul_le_mul_right V h
   rw[Nat.add_mul (Q+1) 1,Nat.one_mul]at this;omega
  ·omega
theorem zKA(g off cap b2 off2 n cap2:Nat)(ua vs:List Nat)(w:World)(hU:jJ w g ua)(hul:qN ua)(hv:zG w (some ⟨b2,off2,none⟩) vs)(hsep:b2≠g)(hn:vs.length=n)(hn2:2<=n)
  (hlen:off+n<ua.length) (hb:n<=4*LIM) (hhigh:2147483648<=vs.getD (n-1) 0) (hQ:nat (seg ua off (n+1))<nat vs*4294967296):
  Calls Tryz.prog 154 #[.slice (some ⟨g,off,none⟩) (n+1) cap,.slice (some ⟨b2,off2,none⟩) n cap2] w (zLr w g off n ua vs):=by
 have HN:=Lib.hid hn;have HQ:=Lib.hid hQ;have hlv:n<=vs.length:=by omega
 have hcv:∀k,k<n->w.cell? ⟨b2,off2+k,none⟩=some (.int .u32 (vs.getD k 0:Nat)):=fun k hk=>by
  obtain⟨b,o,e1,_,e2⟩:=hv.cell (k:=k) oM;injection e1 with e1;injection e1 with e1 e3;subst e1;subst e3
  exact e2
 obtain⟨hi,HHI⟩:∃x,vs.getD (n-1) 0=x:=⟨_,rfl⟩;obtain⟨v2,HV2⟩:∃x,vs.getD (n-2) 0=x:=⟨_,rfl⟩;obtain⟨x0,HX0⟩:∃x,ua.getD (off+n) 0=x:=⟨_,rfl⟩;obtain⟨x1,HX1⟩:∃x,ua.getD (off+(n-1)) 0=x:=⟨_,rfl⟩;obtain⟨x2,HX2⟩:∃x,ua.getD (off+(n-2)) 0=x:=⟨_,rfl⟩;have f1:=hcv (n-1) oM;have f2:=hcv (n-2) oM;have f3:=hU.cell (k:=off+n) oM;have f4:=hU.cell (k:=off+(n-1)) oM;have f5:=hU.cell (k:=off+(n-2)) oM;have hhi:hi<4294967296:=by rw[<-HHI];exact hv.1.get _
 have hv2:v2<4294967296:=by rw[<-HV2];exact hv.1.get _
 have hx0:x0<4294967296:=by rw[<-HX0];exact hul.get _
 have hx1:x1<4294967296:=by rw[<-HX1];exact hul.get _
 have hx2:x2<4294967296:=by rw[<-HX2];exact hul.get _
 rw[HHI]at f1 hhigh;rw[HV2]at f2;rw[HX0]at f3;rw[HX1]at f4;rw[HX2]at f5;have GHI:=Lib.hid HHI;have GV2:=Lib.hid HV2;have GX0:=Lib.hid HX0;have GX1:=Lib.hid HX1;have GX2:=Lib.hid HX2;have HCV:=Lib.hid hcv;clear HHI HV2 HX0 HX1 HX2 hn hcv hQ;rw[yA]at hb;obtain⟨top,htop⟩:∃t,x0*4294967296+x1=t:=⟨_,rfl⟩;have eo:=zIX x0 x1 hx0 hx1;rw[htop]at eo;have ht64:top<18446744073709551616:=by omega
 obtain⟨U,hUU⟩:∃U,nat (seg ua off (n+1))=U:=⟨_,rfl⟩;obtain⟨V,hVV⟩:∃V,nat vs=V:=⟨_,rfl⟩;obtain⟨Q,hQQ⟩:∃Q,U/V=Q:=⟨_,rfl⟩;have hV0:0<V:=by
  rcases Nat.eq_zero_or_pos V with h|h
  ·have:=HQ.out;rw[hUU,hVV,h]at this;omega
  ·exact h
 have K:∃p Ul Vl,U=(top*4294967296+x2)*p+Ul/\V=(hi*4294967296+v2)*p+Vl/\0<p/\Ul<p/\Vl<p/\Q*V<=U/\Q<4294967296/\U<V*4294967296/\U<(Q+1)*V:=by
  obtain⟨m,rfl⟩:∃m,n=m+2:=⟨n-2,by omega⟩;obtain⟨Vl,h1,h2⟩:=zMH hv.1 HN.out;obtain⟨Ul,h3,h4⟩:=zMI (hul.seg off (m+2+1)) (zFX oM);have hg:∀k,k<m+3->(seg ua off (m+2+1)).getD k 0=ua.getD (off+k) 0:=fun k hk=>by
   unfold seg;simp only[xgb,List.getElem?_take,List.getElem?_drop];rw[if_pos oM]
  have a1:=GHI.out;have a2:=GV2.out;have a3:=GX0.out;have a4:=GX1.out;have a5:=GX2.out;rw[show m+2-1=m+1 by omega]at a1 a4;rw[show m+2-2=m by omega]at a2 a5;rw[hVV,a1,a2,yL]at h2;rw[hUU,hg (m+2) oM,hg (m+1) oM,hg m oM,a3,a4,a5,yL,htop]at h4;refine⟨B32^m,Ul,Vl,h4,h2,Nat.pow_pos yT,h3,h1,?_,?_,?_,?_⟩
  ·rw[<-hQQ];exact Nat.div_mul_le_self U V
  ·rw[<-hQQ,Nat.div_lt_iff_lt_mul hV0,Nat.mul_comm];have:=HQ.out;rwa[hUU,hVV]at this
  ·have:=HQ.out;rwa[hUU,hVV]at this
  ·rw[<-hQQ,Nat.add_mul,Nat.one_mul,Nat.mul_comm];exact Nat.lt_mul_div_succ U hV0
 obtain⟨p,Ul,Vl,k1,k2,k3,k4,k5,k6,k7,k8,k9⟩:=K;have kdec:=fun q r a b c=>zOm (q:=q) (r:=r) k1 k2 k3 k4 k5 hx2 hv2 hhigh hhi k6 k7 k8 a b c
 have kout:=fun q r a b=>zNr (q:=q) (r:=r) k1 k2 k3 k4 k5 hx2 hv2 hhigh hhi k6 k7 k8 a b
 have kle:=fun q r a b c=>zPc (q:=q) (r:=r) k1 k2 k3 k4 k5 hx2 hv2 hhigh hhi k6 k7 k8 a b c
 have kini:Hid (Q<=top/hi):=zNq k1 k2 k3 k4 k5 hx2 hv2 hhigh hhi k6 k7 k8;have kfst:top/hi<=4294967297:=zL8 k1 k2 k3 k4 k5 hx2 hv2 hhigh hhi k6 k7 k8;have KDEC:=Lib.hid kdec;have KOUT:=Lib.hid kout;have KLE:=Lib.hid kle;have K67:Hid (Q*V<=U/\Q<4294967296/\U<(Q+1)*V/\nat (seg ua off (n+1))=U/\nat vs=V):=⟨k6,k7,k9,hUU,hVV⟩;clear kdec kout kle k1 k2 k3 k4 k5 k6 k7 k8 k9 hUU hVV hQQ htop HQ;have i1:IntKind.i64.wrap ((n:Int)-1)=(n:Int)-1:=IntWalk.i64_in _ oM;have i2:((n:Int)-1).toNat=n-1:=by omega
 have i3:(0:Int)<=(n:Int)-1:=by omega
 go_enter Tryz.func154,Tryz.ntmps154;go_wp2;go_quiet (fail);go_wp2;go_quiet (fail);go_upto_block 0 with(fail)
 clear i1 i2 i3 eo;go_cut [8] (fun qv wr=>∃q k:Nat,qv= .int .u64 q/\q<4294967296/\Hid (wr=w.drewN k)/\Hid (Q<=q/\(q<=Q+1∨q*V<U+V)))
 case first=>
  go_wp2;go_loopw [8,9] (fun qv rv wr=>∃q r k:Nat,qv= .int .u64 q/\rv= .int .u64 r/\q<=4294967297/\r<4294967296/\Hid (wr=w.drewN k)/\Hid (Q<=q/\q*hi+r=top)) (fun qv _ _=>(intOf qv).toNat)
  case atStart=>
   refine⟨top/hi,top%hi,_,?_,?_,kfst,?_,by show _=_;rw[World.drewN_drewN],kini.out,?_⟩
   ·congr 1
    rw[show(top:Int)/(hi:Int)=((top/hi:Nat):Int) by simp,IntKind.wrap_u64];generalize top/hi=t at kfst;omega
   ·simp
   ·exact Nat.lt_trans (Nat.mod_lt _ oM) hhi
   ·rw[Nat.mul_comm];exact Nat.div_add_mod _ _
  case round=>
   obtain⟨q,r,k,rfl,rfl,hq,hr,HW,HH⟩:=hrel;have g2:wr.cell? ⟨b2,off2+(n-2),none⟩=some (.int .u32 (v2:Nat)):=by rw[HW.out];exact f2
   have g5:wr.cell? ⟨g,off+(n-2),none⟩=some (.int .u32 (x2:Nat)):=by rw[HW.out];exact f5
   have i1:IntKind.i64.wrap ((n:Int)-2)=(n:Int)-2:=IntWalk.i64_in _ oM;have i2:((n:Int)-2).toNat=n-2:=by omega
   have i3:(0:Int)<=(n:Int)-2:=by omega
   by_cases hbig:4294967295<q
   ·have hd:decide ((4294967295:Int)<(q:Int))=true:=by simp;omega
    have hdec:Hid (Q<=q-1):=KDEC.out q r HH.out.2 HH.out.1 (.inl hbig);have hqr:Hid ((q-1)*hi+(r+hi)=top):=by
     have h1:=HH.out.2;show _=_;rw[Nat.sub_mul,Nat.one_mul];have:hi<=q*hi:=Nat.le_mul_of_pos_left hi oM;omega
    by_cases hov:4294967295<r+hi
    ·have hout:Hid (q-1<4294967296/\(q-1)*v2<=(r+hi)*4294967296+x2):=KOUT.out (q-1) (r+hi) hqr.out hov
     have hle:Hid (q-1<=Q+1∨(q-1)*V<U+V):=KLE.out (q-1) (r+hi) hqr.out hout.out.1 hout.out.2;have hd3:(4294967295:Int)<(r:Int)+(hi:Int):=by omega
     go_wp2;go_quiet (fail);go_wp2;go_meet
     case rel=>exact⟨q-1,_,by go_num,hout.out.1,by show _=_;rw[HW.out,World.drewN_drewN],hdec.out,hle.out⟩
    ·have hd3:(r:Int)+(hi:Int)<=4294967295:=by omega
     go_wp2;go_quiet (fail);go_wp2;go_roundw
     case rel=>exact⟨q-1,r+hi,_,by go_num,by go_num,by omega,by omega,by show _=_;rw[HW.out,World.drewN_drewN],hdec.out,hqr.out⟩
     case measure=>simp[intOf];omega
   ·have hd:decide ((4294967295:Int)<(q:Int))=false:=by simp;omega
    obtain⟨hm2,hm3⟩:=zC5 (x:=q) oM hv2;have hm1:=zC4 (x:=q) oM hv2;have eo2:=zIX r x2 hr hx2;obtain⟨t,ht⟩:∃t,r*4294967296+x2=t:=⟨_,rfl⟩;rw[ht]at eo2;have HT:=Lib.hid ht;clear ht;by_cases htest:t<q*v2
    ·have hd2:decide ((t:Int)<(q:Int)*(v2:Int))=true:=by simp;rw[<-Int.natCast_mul];omega
     have hdec:Hid (Q<=q-1):=KDEC.out q r HH.out.2 HH.out.1 (.inr (by rw[HT.out];exact htest));have hq0:0<q:=by
      rcases Nat.eq_zero_or_pos q with h|h
      ·rw[h]at htest;simp at htest
      ·exact h
     clear htest;have hqr:Hid ((q-1)*hi+(r+hi)=top):=by
      have h1:=HH.out.2;show _=_;rw[Nat.sub_mul,Nat.one_mul];have:hi<=q*hi:=Nat.le_mul_of_pos_left hi oM;omega
     by_cases hov:4294967295<r+hi
     ·have hout:Hid (q-1<4294967296/\(q-1)*v2<=(r+hi)*4294967296+x2):=KOUT.out (q-1) (r+hi) hqr.out hov
      have hle:Hid (q-1<=Q+1∨(q-1)*V<U+V):=KLE.out (q-1) (r+hi) hqr.out hout.out.1 hout.out.2;have hd3:(4294967295:Int)<(r:Int)+(hi:Int):=by omega
      go_wp2;go_quiet (fail);go_wp2;go_meet
      case rel=>exact⟨q-1,_,by go_num,hout.out.1,by show _=_;rw[HW.out,World.drewN_drewN],hdec.out,hle.out⟩
     ·have hd3:(r:Int)+(hi:Int)<=4294967295:=by omega
      go_wp2;go_quiet (fail);go_wp2;go_roundw
      case rel=>exact⟨q-1,r+hi,_,by go_num,by go_num,by omega,by omega,by show _=_;rw[HW.out,World.drewN_drewN],hdec.out,hqr.out⟩
      case measure=>simp[intOf];omega
    ·have hd2:decide ((t:Int)<(q:Int)*(v2:Int))=false:=by simp;rw[<-Int.natCast_mul];omega
     have hle:Hid (q<=Q+1∨q*V<U+V):=KLE.out q r HH.out.2 oM (by rw[HT.out];omega);clear htest;go_wp2;go_quiet (fail);go_wp2;go_meet
     case rel=>exact⟨q,_,rfl,by omega,by show _=_;rw[HW.out,World.drewN_drewN],HH.out.1,hle.out⟩
 case rest=>
  obtain⟨q,k,rfl,hqB,HW,HQ⟩:=hcut;have g0:Hid (∀k,k<n->wc.cell? ⟨b2,off2+k,none⟩=some (.int .u32 (vs.getD k 0:Nat))):=by rw[HW.out];exact HCV.out
  have hU1:jJ wc g ua:=by rw[HW.out];exact hU
  have HG1:w.grownBy wc (some g):=by rw[HW.out];exact zJH (zGu w g) k
  clear HCV HW hU f1 f2 f3 f4 f5 KDEC KOUT KLE kini;obtain⟨w2,rfl⟩:∃w2:World,w2=wc:=⟨_,rfl⟩;go_wp2;go_loopw [10,11,76] (fun bv cv i wr=>∃(k b c:Nat) (ms:List Nat),k<=n/\i= .int .i64 k/\bv= .int .u64 b/\cv= .int .u64 c/\b<=1/\c<4294967296/\jJ wr g (put ua off ms)/\w2.grownBy wr (some g)∧
    Hid (ms.length=k/\qN ms/\nat ms+q*nat (vs.take k)=nat (seg ua off k)+(b+c)*B32^k)) (fun _ _ i _=>n-(intOf i).toNat)
  case atStart=>exact⟨0,0,0,[],by omega,rfl,rfl,rfl,by omega,by omega,by rw[zOB];exact hU1,zGu _ _,⟨rfl,qN.nil,by simp[seg]⟩⟩
  case round=>
   obtain⟨k,b,c,ms,hk,rfl,rfl,rfl,hb1,hc1,hblk,hgr,HH⟩:=hrel;obtain⟨ml,hml⟩:∃l,ms.length=l:=⟨_,rfl⟩;by_cases hkn:k<n
   ·have hcz:=hblk.cell (k:=off+k) (by rw[zBQ (by rw[HH.out.1];omega)];omega)
    rw[zId (by rw[HH.out.1];omega) (by rw[HH.out.1];exact xgf _)]at hcz;have hfr:=hblk.frozen (off+k);obtain⟨x,HX⟩:∃x,ua.getD (off+k) 0=x:=⟨_,rfl⟩;have hx32:x<4294967296:=by rw[<-HX];exact hul.get _
    rw[HX]at hcz;have HX':=Lib.hid HX;clear HX;have hcy:=zGt hgr hsep (g0.out k hkn);obtain⟨y,HY⟩:∃y,vs.getD k 0=y:=⟨_,rfl⟩;have hy32:y<4294967296:=by rw[<-HY];exact hv.1.get _
    rw[HY]at hcy;have HY':=Lib.hid HY;clear HY hml;obtain⟨hm2,hm3⟩:=zC5 hqB hy32;have hm1:=zC4 hqB hy32;obtain⟨lo,hlo⟩:∃l,(c+q*y)%4294967296=l:=⟨_,rfl⟩;obtain⟨cn,hcn⟩:∃l,(c+q*y)/4294967296=l:=⟨_,rfl⟩;have ea:=zNQ (c+q*y) (by generalize q*y=m at*;omega);rw[hlo,Int.natCast_add,Int.natCast_mul]at ea;have hlo32:lo<4294967296:=by rw[<-hlo];exact Nat.mod_lt _ oM
    have hsum:Hid (c+q*y=cn*4294967296+lo):=by
     have:=Nat.div_add_mod (c+q*y) 4294967296;rw[hlo,hcn]at this;show _=_;omega
    have hcn32:cn<4294967296:=by rw[<-hcn];generalize q*y=m at*;omega
    have EC:Hid (((c:Int)+(q:Int)*(y:Int))/4294967296=(cn:Int)):=by
     show _=_;rw[<-hcn,<-Int.natCast_mul,<-Int.natCast_add,Int.natCast_ediv];rfl
    clear hlo hcn;go_wp2;go_roundw;obtain⟨v,e,e1,e2,e3,e4,e5⟩:=zEt x lo b hx32 hlo32 hb1
    case rel=>
     have hp:=zK0 (us:=ua) (ms:=ms) (off:=off) (v:=v) (by rw[HH.out.1];omega);rw[HH.out.1]at hp;refine⟨k+1,e,cn,ms++ [v],by omega,by go_num,by rw[e2],by rw[EC.out],e4,hcn32,by rw[<-hp];exact hblk.set' _ _ v (by first|exact e1|omega),zC7 hgr _ _,⟨by simp[HH.out.1],HH.out.2.1.append (fun z hz=>by simp at hz;subst hz;exact e3),?_⟩⟩;have hst:=zKf (us:=ua) (ms:=ms) (vs:=vs) (off:=off) (q:=q) (b:=b) (c:=c) (x:=x) (e:=y) (v:=v) (b':=e) (c':=cn) (by rw[HH.out.1];exact HH.out.2.2) (by rw[HH.out.1];omega) (by rw[HH.out.1];exact HX'.out) (by rw[HH.out.1];exact HY'.out) (by rw[hsum.out];omega);rw[HH.out.1]at hst;exact hst
    case measure=>simp[intOf];omega
   ·obtain rfl:n=k:=by omega
    have hpl:(put ua off ms).length=ua.length:=zBQ (by rw[HH.out.1];omega);have hcz:=hblk.cell (k:=off+n) (by rw[hpl];omega);rw[zId (by rw[HH.out.1];omega) (by rw[HH.out.1];exact xgf _),GX0.out]at hcz;have hfr:=hblk.frozen (off+n);obtain⟨lv,le,e1,e2,e3,e4,e5⟩:=zEt x0 c b hx0 hc1 hb1;have hp:=zK0 (us:=ua) (ms:=ms) (off:=off) (v:=lv) (by rw[HH.out.1];omega);rw[HH.out.1]at hp;have hfin:Hid (nat (ms++ [lv])+q*V=U+le*B32^(n+1)):=by
     obtain⟨h1,h2,h3⟩:=HH.out;obtain⟨j1,j2,j3,j4,j5⟩:=K67.out;rw[zH vs (Nat.le_of_eq HN.out),j5]at h3;rw[<-j4,zDo oM,GX0.out];show _=_;rw[zAk,h1,Nat.pow_succ,yL];rw[yL]at h3;have h4:(lv+c+b)*4294967296^n=(x0+le*4294967296)*4294967296^n:=by rw[e5]
     generalize 4294967296^n=P at*;have h5:le*(P*4294967296)=le*4294967296*P:=by rw[Nat.mul_assoc,Nat.mul_comm P]
     rw[h5,Nat.mul_comm P lv];simp only[Nat.add_mul]at*;omega
    have hrl:qN (ms++ [lv]):=HH.out.2.1.append (fun z hz=>by simp at hz;subst hz;exact e3);have hrlen:(ms++ [lv]).length=n+1:=by simp[HH.out.1]
    have HP:=Lib.hid hp;have ewq:IntKind.u32.wrap (q:Int)=q:=zDf q hqB;rcases(show le=0∨le=1 by omega)with h01|h01
    ·subst h01
     have hdone:Hid (nat (seg ua off (n+1))=q*nat vs+nat (ms++ [lv])/\nat (ms++ [lv])<nat vs):=by
      obtain⟨j1,j2,j3,j4,j5⟩:=K67.out;have h1:=hfin.out;rw[Nat.zero_mul,Nat.add_zero]at h1;rw[j4,j5];exact⟨by omega,zOC h1 j3 HQ.out.1⟩
     have e2':IntKind.u64.wrap (IntKind.u64.wrap ((x0:Int)-c)-b)/9223372036854775808=0:=e2;clear e2 hp hfin;go_wp2;go_ret;exact⟨q,ms++ [lv],by first|rfl|(rw[ewq];rfl),hqB,hrlen,hrl,hdone.out.1,hdone.out.2,by rw[<-HP.out];exact hblk.set' _ _ lv (by first|exact e1|omega|(simp only[IntKind.wrap_u32,IntKind.wrap_u64];omega)),zFT HG1 (zC7 hgr _ _)⟩
    ·subst h01
     have e2':IntKind.u64.wrap (IntKind.u64.wrap ((x0:Int)-c)-b)/9223372036854775808=1:=e2;have hqQ:Hid (q=Q+1):=by
      obtain⟨j1,j2,j3,j4,j5⟩:=K67.out;have h2:=jW hrl;rw[hrlen]at h2;have h1:=hfin.out;rw[Nat.one_mul]at h1;exact zP1 h1 h2 j3 j1 HQ.out.2
     have hq1:1<=q:=by rw[hqQ.out];omega
     clear e2 hp;go_wp2;refine zC ?_;intro W3 hW3;have hb3:jJ W3 g (put ua off (ms++ [lv])):=by
      rw[hW3.out,<-HP.out];exact hblk.set' _ _ lv (by first|exact e1|omega|(simp only[IntKind.wrap_u32,IntKind.wrap_u64];omega))
     have hg3:w2.grownBy W3 (some g):=by rw[hW3.out];exact zC7 hgr _ _
     clear e1 e2' hcz hfr hW3;go_loopw [11,128] (fun cv i wr=>∃(k c:Nat) (rr:List Nat),k<=n/\i= .int .i64 k/\cv= .int .u64 c/\c<=1/\jJ wr g (put ua off (rr++(ms++ [lv]).drop k))/\w2.grownBy wr (some g)∧
       Hid (rr.length=k/\qN rr/\nat rr+c*B32^k=nat ((ms++ [lv]).take k)+nat (vs.take k))) (fun _ i _=>n-(intOf i).toNat)
     case atStart=>exact⟨0,0,[],by omega,rfl,rfl,by omega,by simpa using hb3,hg3,⟨rfl,qN.nil,by simp⟩⟩
     case round=>
      obtain⟨k,c2,rr,hk,rfl,rfl,hc2,hblk4,hgr4,HH4⟩:=hrel;have hal:(rr++(ms++ [lv]).drop k).length=n+1:=by rw[List.length_append,List.length_drop,hrlen,HH4.out.1];omega
      have hpl4:(put ua off (rr++(ms++ [lv]).drop k)).length=ua.length:=zBQ (by rw[hal];omega);have hcz:=hblk4.cell (k:=off+k) (by rw[hpl4];omega);rw[zHk (by rw[hal];omega) (by rw[hal];omega),zNz HH4.out.1 (by rw[hrlen];omega)]at hcz;have hfr:=hblk4.frozen (off+k);have hps:=fun v=>zJJ (us:=ua) (ms:=rr++(ms++ [lv]).drop k) (off:=off) (k:=k) (v:=v) (by rw[hal];omega) (by rw[hal];omega)
      have HPS:=Lib.hid hps;clear hps;obtain⟨x,HX⟩:∃x,(ms++ [lv]).getD k 0=x:=⟨_,rfl⟩;have hx32:x<4294967296:=by rw[<-HX];exact hrl.get _
      rw[HX]at hcz;have HX':=Lib.hid HX;clear HX hal hpl4;by_cases hkn:k<n
      ·have hcy:=zGt hgr4 hsep (g0.out k hkn)
       obtain⟨y,HY⟩:∃y,vs.getD k 0=y:=⟨_,rfl⟩;have hy32:y<4294967296:=by rw[<-HY];exact hv.1.get _
       rw[HY]at hcy;have HY':=Lib.hid HY;clear HY;go_wp2;go_roundw
       case rel=>
        refine⟨k+1,(c2+(x+y))/4294967296,rr++ [(c2+(x+y))%4294967296],by omega,by go_num,by go_num,by omega,?_,zC7 hgr4 _ _,⟨by simp[HH4.out.1],HH4.out.2.1.append (fun z hz=>by simp at hz;subst hz;exact Nat.mod_lt _ dE),?_⟩⟩
        ·rw[<-zKd HH4.out.1 (by rw[hrlen];omega),<-HPS.out]
         exact hblk4.set' _ _ _ sI
        ·have hst:=zGN (ms:=ms++ [lv]) (vs:=vs) (rr:=rr) (c:=c2) (x:=x) (e:=y) (by rw[HH4.out.1];exact HH4.out.2.2) (by rw[HH4.out.1];exact HX'.out) (by rw[HH4.out.1];exact HY'.out)
         rw[HH4.out.1]at hst;exact hst
       case measure=>simp[intOf];omega
      ·obtain rfl:n=k:=by omega
       have hxl:Hid (x=lv):=by
        show _=_;rw[<-HX'.out,xgb,List.getElem?_append_right (by rw[HH.out.1];exact xgf _),HH.out.1];simp
       obtain⟨hsum,hU2⟩:x+c2=4294967296/\U=Q*V+nat rr:=by
        obtain⟨j1,j2,j3,j4,j5⟩:=K67.out;have h1:=HH4.out.2.2;rw[List.take_append_of_le_length (by rw[HH.out.1];exact xgf _),zH ms (by rw[HH.out.1];exact xgf _),zH vs (Nat.le_of_eq HN.out),j5]at h1;have h2:=hfin.out;rw[zAk,HH.out.1,Nat.one_mul,hqQ.out,Nat.pow_succ,yL]at h2;have h3:=jW HH4.out.2.1;rw[HH4.out.1]at h3;have h4:=jW hv.1;rw[HN.out,j5]at h4;rw[hxl.out];rw[yL]at h1 h3 h4;exact zMf h1 h2 h3 h4 j3 j1 e3 hc2
       have HS:=Lib.hid hU2;have ew0:IntKind.u32.wrap ((x:Int)+(c2:Int))=0:=by rw[IntKind.wrap_u32];omega
       clear hU2;go_wp2;go_ret;refine⟨q-1,rr++ [0],?_,by omega,by simp[HH4.out.1],HH4.out.2.1.append (fun z hz=>by simp at hz;subst hz;exact yT),?_,?_,?_,zFT HG1 (zC7 hgr4 _ _)⟩
       ·show Ending.returned (.int .u32 ((q:Int)-1))=Ending.returned (.int .u32 ((q-1:Nat):Int))
        congr 2;omega
       ·obtain⟨j1,j2,j3,j4,j5⟩:=K67.out
        rw[j4,j5,zAk,Nat.mul_zero,Nat.add_zero,HS.out,hqQ.out,Nat.add_sub_cancel]
       ·obtain⟨j1,j2,j3,j4,j5⟩:=K67.out
        rw[zAk,Nat.mul_zero,Nat.add_zero,j5];have:=HS.out;rw[Nat.add_mul,Nat.one_mul]at j3;omega
       ·have hm:=zKd (rr:=rr) (rs:=ms++ [lv]) (k:=n) (v:=0) HH4.out.1 (by rw[hrlen];omega)
        rw[List.drop_eq_nil_of_le (show(ms++ [lv]).length<=n+1 by rw[hrlen];exact xgf _),List.append_nil]at hm;rw[<-hm,<-HPS.out];exact hblk4.set' _ _ 0 (by first|rfl|exact ew0|omega)
/-! ### plain -/
theorem jX(xs:List Nat)(k:Nat)(h:k<=xs.length):nat xs=nat (xs.take k)+B32^k*nat (xs.drop k):=by
 have:=zBP (xs.take k) (xs.drop k);rw[List.take_append_drop,List.length_take,Nat.min_eq_left h]at this;exact this
theorem zMQ{us ms:List Nat}{off:Nat}(h:off<=us.length):(put us off ms).drop off=ms++us.drop (off+ms.length):=by
 unfold put;rw[List.append_assoc,List.drop_append,List.drop_eq_nil_of_le (by simp;omega)];simp[Nat.min_eq_left h]
theorem zMR{us ms:List Nat}{off:Nat}(h:off<=us.length):(put us off ms).take off=us.take off:=by
 unfold put;rw[List.append_assoc,List.take_append_of_le_length (by simp;omega),List.take_take,Nat.min_self]
theorem zKB(a V p B t q r:Nat):a*V*(p*B)+(t+p*(q*V+r))=(q+B*a)*V*p+(t+p*r):=by
 simp only[Nat.add_mul,Nat.mul_add];have e1:a*V*(p*B)=B*a*V*p:=by simp only[Nat.mul_assoc,Nat.mul_comm,Nat.mul_left_comm]
 have e2:p*(q*V)=q*V*p:=Nat.mul_comm _ _;omega
structure zEG(X V:Nat)(n k:Nat)(ul qs:List Nat):Prop where
 lim:qN ul
 qlim:qN qs
 eq:X=nat (qs.drop k)*V*B32^k+nat ul
 lt:nat (ul.drop k)<V
theorem zEG.zero{X V n k:Nat}{ul qs:List Nat}(h:zEG X V n k ul qs)(hV:V<B32^n)(hl:k+n<=ul.length):nat (ul.drop (k+n))=0:=by
 have h1:=jX (ul.drop k) n (by simp;omega);rw[List.drop_drop]at h1;have h2:=h.lt;rcases Nat.eq_zero_or_pos (nat (ul.drop (k+n)))with h0|h0
 ·exact h0
 ·have:=Nat.le_mul_of_pos_right (B32^n) h0;omega
theorem zEG.seg_eq{X V n j:Nat}{ul qs:List Nat}(h:zEG X V n (j+1) ul qs)(hV:V<B32^n)(hl:j+1+n<=ul.length):nat (seg ul j (n+1))=nat (ul.drop j):=by
 have h1:=jX (ul.drop j) (n+1) (by simp;omega);rw[List.drop_drop,show j+(n+1)=j+1+n by omega,h.zero hV hl]at h1;unfold seg;omega
theorem zEG.small{X V n j:Nat}{ul qs:List Nat}(h:zEG X V n (j+1) ul qs)(hl:j<ul.length):nat (ul.drop j)<V*4294967296:=by
 have h1:=jN ul j hl;have h2:=h.lim.get j;have h3:=h.lt;rw[yL]at h1 h2;rw[h1];clear h1 h;generalize nat (List.drop (j+1) ul)=d at*;generalize ul.getD j 0=x at*;omega
theorem zEG.step{X V n j q:Nat}{ul qs rs:List Nat}(h:zEG X V n (j+1) ul qs)(hV:V<B32^n)(hl:j+1+n<=ul.length)(hq:j<qs.length)(hqB:q<4294967296)
  (hrl:rs.length=n+1) (hrs:qN rs) (heq:nat (seg ul j (n+1))=q*V+nat rs) (hlt:nat rs<V):zEG X V n j (put ul j rs) (qs.set j q):=by
 have hz:=h.zero hV hl;have hd:nat ((put ul j rs).drop j)=nat rs:=by
  rw[zMQ oM,zBP,hrl,show j+(n+1)=j+1+n by omega,hz,Nat.mul_zero,Nat.add_zero]
 refine⟨zKz h.lim hrs,h.qlim.set _ _ hqB,?_,by rw[hd];exact hlt⟩;have h1:=jX ul j oM;have h2:=jX (put ul j rs) j (by rw[zBQ oM];omega);rw[hd,zMR oM]at h2;rw[<-h.seg_eq hV hl,heq]at h1;have h3:=jN (qs.set j q) j (by simpa using hq);rw[zAK,xgb,List.getElem?_set_self hq]at h3;simp only[Option.getD_some]at h3;rw[h3,h2,h.eq,h1,Nat.pow_succ];exact zKB _ _ _ _ _ _ _
theorem zG8{a b s:Nat}(hs:s<32)(ha:a<4294967296)(hb:b<4294967296):
  ((a*4294967296+b)/2^s%4294967296)*2^s+b%2^s=b+a%2^s*4294967296:=by
 obtain⟨t,ht⟩:∃t,2^s*t=4294967296:=⟨2^(32-s),by rw[<-Nat.pow_add,show s+(32-s)=32 by omega]⟩;have hp:0<2^s:=Nat.pow_pos oM;generalize 2^s=p at*;have hb1:=Nat.div_add_mod b p;have ha1:=Nat.div_add_mod a p;have hbp:=Nat.mod_lt b hp;have hap:=Nat.mod_lt a hp;generalize b/p=bq at*;generalize b%p=br at*;generalize a/p=aq at*;generalize a%p=ar at*;have e1:(a*4294967296+b)/p=a*t+bq:=by
  rw[<-ht,<-hb1,<-Nat.mul_assoc,Nat.mul_comm a p,Nat.mul_assoc,<-Nat.add_assoc,<-Nat.mul_add];rw[Nat.mul_add_div hp,Nat.div_eq_of_lt hbp,Nat.add_zero]
 have hbq:bq<t:=by
  rcases Nat.lt_or_ge bq t with h|h
  ·exact h
  ·have:=Nat.mul_le_mul_left p h;omega
 have e2:a*t+bq=ar*t+bq+4294967296*aq:=by
  rw[<-ht,<-ha1,Nat.add_mul,Nat.mul_assoc p t,Nat.mul_assoc,Nat.mul_comm t aq];omega
 have h4:ar*t+bq<4294967296:=by
  have h5:(ar+1)*t<=p*t:=Nat.mul_le_mul_right t hap;rw[Nat.add_mul,Nat.one_mul,ht]at h5;omega
 rw[e1,e2,Nat.add_mul_mod_self_left,Nat.mod_eq_of_lt h4,Nat.add_mul,Nat.mul_assoc,Nat.mul_comm t p,ht,Nat.mul_comm bq p];omega
theorem zG9{ul rs:List Nat}{k s v a b:Nat}(hs:s<32)(ha:a<4294967296)(hb:b<4294967296)(hua:ul.getD (k+1) 0=a)(hub:ul.getD k 0=b)(hk:k<rs.length)
  (hv:v=(a*4294967296+b)/2^s%4294967296) (h:nat (rs.take k)*2^s=nat (ul.take k)+(ul.getD k 0%2^s)*B32^k):
  nat ((rs.set k v).take (k+1))*2^s=nat (ul.take (k+1))+(ul.getD (k+1) 0%2^s)*B32^(k+1):=by
 have hl:=zG8 hs ha hb;rw[<-hv]at hl;rw[yO _ _ _ hk,zO,Nat.add_mul,h,hua,hub,Nat.pow_succ,yL];generalize 2^s=p at*;generalize 4294967296^k=P;have e:=congrArg (· *P) hl;simp only[Nat.add_mul]at e;have e1:v*P*p=v*p*P:=by rw[Nat.mul_assoc,Nat.mul_comm P,<-Nat.mul_assoc]
 have e2:a%p*(P*4294967296)=a%p*4294967296*P:=by rw[Nat.mul_assoc,Nat.mul_comm P]
 omega
theorem zMg{vs:List Nat}{m t:Nat}(hl:qN vs)(hlen:vs.length=m+1)(h:t*B32^m<=nat vs):t<=vs.getD m 0:=by
 have h1:=zO vs m;rw[zH vs oM]at h1;have h2:=jW (hl.take m);rw[List.length_take,Nat.min_eq_left oM]at h2;rcases Nat.lt_or_ge (vs.getD m 0) t with h3|h3
 ·exfalso
  have h4:=Nat.mul_le_mul_right (B32^m) h3;rw[Nat.succ_mul]at h4;omega
 ·exact h3
theorem zN6{ys:List Nat}{m d:Nat}(hlen:ys.length=m+1)(hd:ys.getD m 0=d):d*B32^m<=nat ys:=by
 have h1:=zO ys m;rw[zH ys oM,hd]at h1;omega
theorem zNZ{us:List Nat}{k T:Nat}(hk:k<=us.length)(h:nat us<B32^k*T):nat (us.drop k)<T:=by
 have h1:=jX us k hk;have h2:B32^k*nat (us.drop k)<B32^k*T:=by omega
 exact Nat.lt_of_mul_lt_mul_left h2
theorem zNx{ul:List Nat}{s:Nat}(hs:s<32)(hl:0<ul.length):nat ul%2^s=ul.getD 0 0%2^s:=by
 obtain⟨t,ht⟩:∃t,2^s*t=4294967296:=⟨2^(32-s),by rw[<-Nat.pow_add,show s+(32-s)=32 by omega]⟩;have h1:=jN ul 0 hl;rw[xgk,yL,<-ht,Nat.mul_assoc]at h1;rw[h1,Nat.add_mul_mod_self_left]
end Go.Proofs.YtgnmdddaiefooaaGreat
