/- One digit of a long division, in place. Division of limbs. Division of limbs: the call. Division of limbs: the long case, and all cases. -/
import Derived.Test.YtnbmaipobhppcaaGreatD02
set_option linter.unusedVariables false
set_option linter.unusedSimpArgs false
set_option linter.unusedSectionVars false
set_option maxHeartbeats 16000000
set_option maxRecDepth 100000
namespace Go.Proofs.YtnbmaipobhppcaaGreat
open Go.RowKit
theorem zGq(w:World)(g:Nat):w.grownBy w (some g):=⟨rfl,rfl,rfl,xgf _,fun _ _ _=>rfl⟩
theorem zC9{a w:World}{g:Nat}(h:a.grownBy w (some g))(i:Nat)(u:Value):a.grownBy (w.setCell ⟨g,i,none⟩ u) (some g):=
 ⟨h.os,h.tape,h.output,by simpa[World.setCell]using h.size,fun k hk hne=>(Below.heap_setCell w ⟨g,i,none⟩ u k (fun e=>hne (by rw[e]))).trans (h.block k hk hne)⟩
theorem zJQ{a w:World}{g:Nat}(h:a.grownBy w (some g))(n:Nat):a.grownBy (w.drewN n) (some g):=⟨h.os,h.tape,h.output,h.size,h.block⟩
theorem zGp{a w:World}{g b o:Nat}{v:Value}(h:a.grownBy w (some g))(hne:b≠g)(hc:a.cell? ⟨b,o,none⟩=some v):w.cell? ⟨b,o,none⟩=some v:=
 (World.cell?_of_block (w:=a) (h.block b (World.block_lt_of_cell? a _ hc) (fun e=>hne (by injection e)))).trans hc
theorem zFW{a b c:World}{g:Nat}(h:a.grownBy b (some g))(k:b.grownBy c (some g)):a.grownBy c (some g):=
 ⟨k.os.trans h.os,k.tape.trans h.tape,k.output.trans h.output,Nat.le_trans h.size k.size,fun i hi hne=>(k.block i (Nat.lt_of_lt_of_le hi h.size) hne).trans (h.block i hi hne)⟩
theorem zKn{rr rs:List Nat}{k v:Nat}(h:rr.length=k)(hk:k<rs.length):(rr++rs.drop k).set k v=(rr++ [v])++rs.drop (k+1):=by
 rw[List.set_append_right _ _ oM,h,Nat.sub_self,List.drop_eq_getElem_cons hk,xgi];simp
theorem zOJ{rr rs:List Nat}{k:Nat}(h:rr.length=k)(hk:k<rs.length):(rr++rs.drop k).getD k 0=rs.getD k 0:=by
 simp only[xgb];rw[List.getElem?_append_right oM,h,Nat.sub_self,List.getElem?_drop,Nat.add_zero]
theorem zND{a c lv P V U Q nms:Nat}(h1:a+c*P=nms+V)(h2:nms+P*lv+(Q+1)*V=U+P*4294967296)(ha:a<P)(hV:V<P)(hU:U<(Q+1)*V)(hQ:Q*V<=U)(hlv:lv<4294967296)(hc:c<=1):
  lv+c=4294967296/\U=Q*V+a:=by
 rw[Nat.add_mul,Nat.one_mul]at h2 hU;rcases(show c=0∨c=1 by omega)with rfl|rfl
 ·exfalso
  have h3:P*lv+P<=P*4294967296:=by rw[<-Nat.mul_succ];exact Nat.mul_le_mul_left P hlv
  omega
 ·rcases Nat.lt_or_ge lv 4294967295 with h4|h4
  ·exfalso
   have h3:P*lv+P+P<=P*4294967296:=by
    have:=Nat.mul_le_mul_left P (show lv+2<=4294967296 by omega);rw[Nat.mul_add]at this;omega
   omega
  ·obtain rfl:lv=4294967295:=by omega
   exact⟨rfl,by omega⟩
def zLz(w:World)(g off n:Nat)(ua vs:List Nat)(e:Ending)(w':World):Prop:=
 ∃(q:Nat) (rs:List Nat),e= .returned (.int .u32 (q:Nat))/\q<4294967296/\rs.length=n+1/\qR rs/\nat (seg ua off (n+1))=q*nat vs+nat rs/\nat rs<nat vs/\jO w' g (put ua off rs)/\w.grownBy w' (some g)
theorem zEl(x y d:Nat)(hx:x<4294967296)(hy:y<4294967296)(hd:d<=1):
  ∃v e:Nat,IntKind.u32.wrap (IntKind.u64.wrap (IntKind.u64.wrap ((x:Int)-y)-d))=v/\IntKind.u64.wrap (IntKind.u64.wrap ((x:Int)-y)-d)/9223372036854775808=e/\v<4294967296/\e<=1/\v+y+d=x+e*4294967296:=by
 simp only[IntKind.wrap_u64,IntKind.wrap_u32];by_cases h:y+d<=x
 ·exact⟨x-y-d,0,by omega,by omega,by omega,by omega,by omega⟩
 ·exact⟨x+4294967296-y-d,1,by omega,by omega,by omega,by omega,by omega⟩
theorem zNn(m:Nat)(h:m<18446744073709551616):bits BinOp.and IntKind.u64 (m:Int) 4294967295=((m%4294967296:Nat):Int):=by
 have h1:=u64_and_nat m 4294967295 h oM;have h2:m &&& 4294967295=m%4294967296:=Nat.and_two_pow_sub_one_eq_mod m 32;rw[h2]at h1;exact h1
theorem zOc{q Q U V R:Nat}(h1:R+q*V=U)(h2:U<(Q+1)*V)(h3:Q<=q):R<V:=by
 have:Q*V<=q*V:=Nat.mul_le_mul_right V h3;rw[Nat.add_mul,Nat.one_mul]at h2;omega
theorem zP8{q Q U V R P:Nat}(h1:R+q*V=U+P)(hR:R<P)(h2:U<(Q+1)*V)(h3:Q*V<=U)(h4:q<=Q+1∨q*V<U+V):q=Q+1:=by
 have a:Q<q:=by
  rcases Nat.lt_or_ge Q q with h|h
  ·exact h
  ·have:=Nat.mul_le_mul_right V h;omega
 rcases h4 with h4|h4
 ·omega
 ·rcases Nat.lt_or_ge (Q+1) q with h|h
  ·have:=Nat.mul_le_mul_right V h
   rw[Nat.add_mul (Q+1) 1,Nat.one_mul]at this;omega
  ·omega
theorem zKI(g off cap b2 off2 n cap2:Nat)(ua vs:List Nat)(w:World)(hU:jO w g ua)(hul:qR ua)(hv:zG w (some ⟨b2,off2,none⟩) vs)(hsep:b2≠g)(hn:vs.length=n)(hn2:2<=n)
  (hlen:off+n<ua.length) (hb:n<=4*LIM) (hhigh:2147483648<=vs.getD (n-1) 0) (hQ:nat (seg ua off (n+1))<nat vs*4294967296):
  Calls Tryz.prog 267 #[.slice (some ⟨g,off,none⟩) (n+1) cap,.slice (some ⟨b2,off2,none⟩) n cap2] w (zLz w g off n ua vs):=by
 have HN:=Lib.hid hn;have HQ:=Lib.hid hQ;have hlv:n<=vs.length:=by omega
 have hcv:∀k,k<n->w.cell? ⟨b2,off2+k,none⟩=some (.int .u32 (vs.getD k 0:Nat)):=fun k hk=>by
  obtain⟨b,o,e1,_,e2⟩:=hv.cell (k:=k) oM;injection e1 with e1;injection e1 with e1 e3;subst e1;subst e3
  exact e2
 obtain⟨hi,HHI⟩:∃x,vs.getD (n-1) 0=x:=⟨_,rfl⟩;obtain⟨v2,HV2⟩:∃x,vs.getD (n-2) 0=x:=⟨_,rfl⟩;obtain⟨x0,HX0⟩:∃x,ua.getD (off+n) 0=x:=⟨_,rfl⟩;obtain⟨x1,HX1⟩:∃x,ua.getD (off+(n-1)) 0=x:=⟨_,rfl⟩;obtain⟨x2,HX2⟩:∃x,ua.getD (off+(n-2)) 0=x:=⟨_,rfl⟩;have f1:=hcv (n-1) oM;have f2:=hcv (n-2) oM;have f3:=hU.cell (k:=off+n) oM;have f4:=hU.cell (k:=off+(n-1)) oM;have f5:=hU.cell (k:=off+(n-2)) oM;have hhi:hi<4294967296:=by rw[<-HHI];exact hv.1.get _
 have hv2:v2<4294967296:=by rw[<-HV2];exact hv.1.get _
 have hx0:x0<4294967296:=by rw[<-HX0];exact hul.get _
 have hx1:x1<4294967296:=by rw[<-HX1];exact hul.get _
 have hx2:x2<4294967296:=by rw[<-HX2];exact hul.get _
 rw[HHI]at f1 hhigh;rw[HV2]at f2;rw[HX0]at f3;rw[HX1]at f4;rw[HX2]at f5;have GHI:=Lib.hid HHI;have GV2:=Lib.hid HV2;have GX0:=Lib.hid HX0;have GX1:=Lib.hid HX1;have GX2:=Lib.hid HX2;have HCV:=Lib.hid hcv;clear HHI HV2 HX0 HX1 HX2 hn hcv hQ;rw[qV]at hb;obtain⟨top,htop⟩:∃t,x0*4294967296+x1=t:=⟨_,rfl⟩;have eo:=zId x0 x1 hx0 hx1;rw[htop]at eo;have ht64:top<18446744073709551616:=by omega
 obtain⟨U,hUU⟩:∃U,nat (seg ua off (n+1))=U:=⟨_,rfl⟩;obtain⟨V,hVV⟩:∃V,nat vs=V:=⟨_,rfl⟩;obtain⟨Q,hQQ⟩:∃Q,U/V=Q:=⟨_,rfl⟩;have hV0:0<V:=by
  rcases Nat.eq_zero_or_pos V with h|h
  ·have:=HQ.out;rw[hUU,hVV,h]at this;omega
  ·exact h
 have K:∃p Ul Vl,U=(top*4294967296+x2)*p+Ul/\V=(hi*4294967296+v2)*p+Vl/\0<p/\Ul<p/\Vl<p/\Q*V<=U/\Q<4294967296/\U<V*4294967296/\U<(Q+1)*V:=by
  obtain⟨m,rfl⟩:∃m,n=m+2:=⟨n-2,by omega⟩;obtain⟨Vl,h1,h2⟩:=zMk hv.1 HN.out;obtain⟨Ul,h3,h4⟩:=zMl (hul.seg off (m+2+1)) (zFZ oM);have hg:∀k,k<m+3->(seg ua off (m+2+1)).getD k 0=ua.getD (off+k) 0:=fun k hk=>by
   unfold seg;simp only[xgb,List.getElem?_take,List.getElem?_drop];rw[if_pos oM]
  have a1:=GHI.out;have a2:=GV2.out;have a3:=GX0.out;have a4:=GX1.out;have a5:=GX2.out;rw[show m+2-1=m+1 by omega]at a1 a4;rw[show m+2-2=m by omega]at a2 a5;rw[hVV,a1,a2,yS]at h2;rw[hUU,hg (m+2) oM,hg (m+1) oM,hg m oM,a3,a4,a5,yS,htop]at h4;refine⟨B32^m,Ul,Vl,h4,h2,Nat.pow_pos jA,h3,h1,?_,?_,?_,?_⟩
  ·rw[<-hQQ];exact Nat.div_mul_le_self U V
  ·rw[<-hQQ,Nat.div_lt_iff_lt_mul hV0,Nat.mul_comm];have:=HQ.out;rwa[hUU,hVV]at this
  ·have:=HQ.out;rwa[hUU,hVV]at this
  ·rw[<-hQQ,Nat.add_mul,Nat.one_mul,Nat.mul_comm];exact Nat.lt_mul_div_succ U hV0
 obtain⟨p,Ul,Vl,k1,k2,k3,k4,k5,k6,k7,k8,k9⟩:=K;have kdec:=fun q r a b c=>zPK (q:=q) (r:=r) k1 k2 k3 k4 k5 hx2 hv2 hhigh hhi k6 k7 k8 a b c
 have kout:=fun q r a b=>zOC (q:=q) (r:=r) k1 k2 k3 k4 k5 hx2 hv2 hhigh hhi k6 k7 k8 a b
 have kle:=fun q r a b c=>zP3 (q:=q) (r:=r) k1 k2 k3 k4 k5 hx2 hv2 hhigh hhi k6 k7 k8 a b c
 have kini:Hid (Q<=top/hi):=zOB k1 k2 k3 k4 k5 hx2 hv2 hhigh hhi k6 k7 k8;have kfst:top/hi<=4294967297:=zMY k1 k2 k3 k4 k5 hx2 hv2 hhigh hhi k6 k7 k8;have KDEC:=Lib.hid kdec;have KOUT:=Lib.hid kout;have KLE:=Lib.hid kle;have K67:Hid (Q*V<=U/\Q<4294967296/\U<(Q+1)*V/\nat (seg ua off (n+1))=U/\nat vs=V):=⟨k6,k7,k9,hUU,hVV⟩;clear kdec kout kle k1 k2 k3 k4 k5 k6 k7 k8 k9 hUU hVV hQQ htop HQ;have i1:IntKind.i64.wrap ((n:Int)-1)=(n:Int)-1:=IntWalk.i64_in _ oM;have i2:((n:Int)-1).toNat=n-1:=by omega
 have i3:(0:Int)<=(n:Int)-1:=by omega
 go_enter Tryz.func267,Tryz.ntmps267;go_wp2;go_quiet (fail);go_wp2;go_quiet (fail);go_upto_block 0 with(fail)
 clear i1 i2 i3 eo;go_cut [8] (fun qv wr=>∃q k:Nat,qv= .int .u64 q/\q<4294967296/\Hid (wr=w.drewN k)/\Hid (Q<=q/\(q<=Q+1∨q*V<U+V)))
 case first=>
  go_wp2;go_loopw [8,9] (fun qv rv wr=>∃q r k:Nat,qv= .int .u64 q/\rv= .int .u64 r/\q<=4294967297/\r<4294967296/\Hid (wr=w.drewN k)/\Hid (Q<=q/\q*hi+r=top)) (fun qv _ _=>(intOf qv).toNat)
  case atStart=>
   refine⟨top/hi,top%hi,_,?_,?_,kfst,?_,by show _=_;rw[World.drewN_drewN],kini.out,?_⟩
   ·congr 1
    rw[show(top:Int)/(hi:Int)=((top/hi:Nat):Int) by simp,IntKind.wrap_u64];generalize top/hi=t at kfst;omega
   ·simp
   ·exact Nat.lt_trans (Nat.mod_lt _ oM) hhi
   ·rw[Nat.mul_comm];exact Nat.div_add_mod _ _
  case round=>
   obtain⟨q,r,k,rfl,rfl,hq,hr,HW,HH⟩:=hrel;have g2:wr.cell? ⟨b2,off2+(n-2),none⟩=some (.int .u32 (v2:Nat)):=by rw[HW.out];exact f2
   have g5:wr.cell? ⟨g,off+(n-2),none⟩=some (.int .u32 (x2:Nat)):=by rw[HW.out];exact f5
   have i1:IntKind.i64.wrap ((n:Int)-2)=(n:Int)-2:=IntWalk.i64_in _ oM;have i2:((n:Int)-2).toNat=n-2:=by omega
   have i3:(0:Int)<=(n:Int)-2:=by omega
   by_cases hbig:4294967295<q
   ·have hd:decide ((4294967295:Int)<(q:Int))=true:=by simp;omega
    have hdec:Hid (Q<=q-1):=KDEC.out q r HH.out.2 HH.out.1 (.inl hbig);have hqr:Hid ((q-1)*hi+(r+hi)=top):=by
     have h1:=HH.out.2;show _=_;rw[Nat.sub_mul,Nat.one_mul];have:hi<=q*hi:=Nat.le_mul_of_pos_left hi oM;omega
    by_cases hov:4294967295<r+hi
    ·have hout:Hid (q-1<4294967296/\(q-1)*v2<=(r+hi)*4294967296+x2):=KOUT.out (q-1) (r+hi) hqr.out hov
     have hle:Hid (q-1<=Q+1∨(q-1)*V<U+V):=KLE.out (q-1) (r+hi) hqr.out hout.out.1 hout.out.2;have hd3:(4294967295:Int)<(r:Int)+(hi:Int):=by omega
     go_wp2;go_quiet (fail);go_wp2;go_meet
     case rel=>exact⟨q-1,_,by go_num,hout.out.1,by show _=_;rw[HW.out,World.drewN_drewN],hdec.out,hle.out⟩
    ·have hd3:(r:Int)+(hi:Int)<=4294967295:=by omega
     go_wp2;go_quiet (fail);go_wp2;go_roundw
     case rel=>exact⟨q-1,r+hi,_,by go_num,by go_num,by omega,by omega,by show _=_;rw[HW.out,World.drewN_drewN],hdec.out,hqr.out⟩
     case measure=>simp[intOf];omega
   ·have hd:decide ((4294967295:Int)<(q:Int))=false:=by simp;omega
    obtain⟨hm2,hm3⟩:=zC6 (x:=q) oM hv2;have hm1:=zC5 (x:=q) oM hv2;have eo2:=zId r x2 hr hx2;obtain⟨t,ht⟩:∃t,r*4294967296+x2=t:=⟨_,rfl⟩;rw[ht]at eo2;have HT:=Lib.hid ht;clear ht;by_cases htest:t<q*v2
    ·have hd2:decide ((t:Int)<(q:Int)*(v2:Int))=true:=by simp;rw[<-Int.natCast_mul];omega
     have hdec:Hid (Q<=q-1):=KDEC.out q r HH.out.2 HH.out.1 (.inr (by rw[HT.out];exact htest));have hq0:0<q:=by
      rcases Nat.eq_zero_or_pos q with h|h
      ·rw[h]at htest;simp at htest
      ·exact h
     clear htest;have hqr:Hid ((q-1)*hi+(r+hi)=top):=by
      have h1:=HH.out.2;show _=_;rw[Nat.sub_mul,Nat.one_mul];have:hi<=q*hi:=Nat.le_mul_of_pos_left hi oM;omega
     by_cases hov:4294967295<r+hi
     ·have hout:Hid (q-1<4294967296/\(q-1)*v2<=(r+hi)*4294967296+x2):=KOUT.out (q-1) (r+hi) hqr.out hov
      have hle:Hid (q-1<=Q+1∨(q-1)*V<U+V):=KLE.out (q-1) (r+hi) hqr.out hout.out.1 hout.out.2;have hd3:(4294967295:Int)<(r:Int)+(hi:Int):=by omega
      go_wp2;go_quiet (fail);go_wp2;go_meet
      case rel=>exact⟨q-1,_,by go_num,hout.out.1,by show _=_;rw[HW.out,World.drewN_drewN],hdec.out,hle.out⟩
     ·have hd3:(r:Int)+(hi:Int)<=4294967295:=by omega
      go_wp2;go_quiet (fail);go_wp2;go_roundw
      case rel=>exact⟨q-1,r+hi,_,by go_num,by go_num,by omega,by omega,by show _=_;rw[HW.out,World.drewN_drewN],hdec.out,hqr.out⟩
      case measure=>simp[intOf];omega
    ·have hd2:decide ((t:Int)<(q:Int)*(v2:Int))=false:=by simp;rw[<-Int.natCast_mul];omega
     have hle:Hid (q<=Q+1∨q*V<U+V):=KLE.out q r HH.out.2 oM (by rw[HT.out];omega);clear htest;go_wp2;go_quiet (fail);go_wp2;go_meet
     case rel=>exact⟨q,_,rfl,by omega,by show _=_;rw[HW.out,World.drewN_drewN],HH.out.1,hle.out⟩
 case rest=>
  obtain⟨q,k,rfl,hqB,HW,HQ⟩:=hcut;have g0:Hid (∀k,k<n->wc.cell? ⟨b2,off2+k,none⟩=some (.int .u32 (vs.getD k 0:Nat))):=by rw[HW.out];exact HCV.out
  have hU1:jO wc g ua:=by rw[HW.out];exact hU
  have HG1:w.grownBy wc (some g):=by rw[HW.out];exact zJQ (zGq w g) k
  clear HCV HW hU f1 f2 f3 f4 f5 KDEC KOUT KLE kini;obtain⟨w2,rfl⟩:∃w2:World,w2=wc:=⟨_,rfl⟩;go_wp2;go_loopw [10,11,76] (fun bv cv i wr=>∃(k b c:Nat) (ms:List Nat),k<=n/\i= .int .i64 k/\bv= .int .u64 b/\cv= .int .u64 c/\b<=1/\c<4294967296/\jO wr g (put ua off ms)/\w2.grownBy wr (some g)∧
    Hid (ms.length=k/\qR ms/\nat ms+q*nat (vs.take k)=nat (seg ua off k)+(b+c)*B32^k)) (fun _ _ i _=>n-(intOf i).toNat)
  case atStart=>exact⟨0,0,0,[],by omega,rfl,rfl,rfl,by omega,by omega,by rw[zOb];exact hU1,zGq _ _,⟨rfl,qR.nil,by simp[seg]⟩⟩
  case round=>
   obtain⟨k,b,c,ms,hk,rfl,rfl,rfl,hb1,hc1,hblk,hgr,HH⟩:=hrel;obtain⟨ml,hml⟩:∃l,ms.length=l:=⟨_,rfl⟩;by_cases hkn:k<n
   ·have hcz:=hblk.cell (k:=off+k) (by rw[zBY (by rw[HH.out.1];omega)];omega)
    rw[zIk (by rw[HH.out.1];omega) (by rw[HH.out.1];exact xgf _)]at hcz;have hfr:=hblk.frozen (off+k);obtain⟨x,HX⟩:∃x,ua.getD (off+k) 0=x:=⟨_,rfl⟩;have hx32:x<4294967296:=by rw[<-HX];exact hul.get _
    rw[HX]at hcz;have HX':=Lib.hid HX;clear HX;have hcy:=zGp hgr hsep (g0.out k hkn);obtain⟨y,HY⟩:∃y,vs.getD k 0=y:=⟨_,rfl⟩;have hy32:y<4294967296:=by rw[<-HY];exact hv.1.get _
    rw[HY]at hcy;have HY':=Lib.hid HY;clear HY hml;obtain⟨hm2,hm3⟩:=zC6 hqB hy32;have hm1:=zC5 hqB hy32;obtain⟨lo,hlo⟩:∃l,(c+q*y)%4294967296=l:=⟨_,rfl⟩;obtain⟨cn,hcn⟩:∃l,(c+q*y)/4294967296=l:=⟨_,rfl⟩;have ea:=zNn (c+q*y) (by generalize q*y=m at*;omega);rw[hlo,Int.natCast_add,Int.natCast_mul]at ea;have hlo32:lo<4294967296:=by rw[<-hlo];exact Nat.mod_lt _ oM
    have hsum:Hid (c+q*y=cn*4294967296+lo):=by
     have:=Nat.div_add_mod (c+q*y) 4294967296;rw[hlo,hcn]at this;show _=_;omega
    have hcn32:cn<4294967296:=by rw[<-hcn];generalize q*y=m at*;omega
    have EC:Hid (((c:Int)+(q:Int)*(y:Int))/4294967296=(cn:Int)):=by
     show _=_;rw[<-hcn,<-Int.natCast_mul,<-Int.natCast_add,Int.natCast_ediv];rfl
    clear hlo hcn;go_wp2;go_roundw;obtain⟨v,e,e1,e2,e3,e4,e5⟩:=zEl x lo b hx32 hlo32 hb1
    case rel=>
     have hp:=zK7 (us:=ua) (ms:=ms) (off:=off) (v:=v) (by rw[HH.out.1];omega);rw[HH.out.1]at hp;refine⟨k+1,e,cn,ms++ [v],by omega,by go_num,by rw[e2],by rw[EC.out],e4,hcn32,by rw[<-hp];exact hblk.set' _ _ v (by first|exact e1|omega),zC9 hgr _ _,⟨by simp[HH.out.1],HH.out.2.1.append (fun z hz=>by simp at hz;subst hz;exact e3),?_⟩⟩;have hst:=zKo (us:=ua) (ms:=ms) (vs:=vs) (off:=off) (q:=q) (b:=b) (c:=c) (x:=x) (e:=y) (v:=v) (b':=e) (c':=cn) (by rw[HH.out.1];exact HH.out.2.2) (by rw[HH.out.1];omega) (by rw[HH.out.1];exact HX'.out) (by rw[HH.out.1];exact HY'.out) (by rw[hsum.out];omega);rw[HH.out.1]at hst;exact hst
    case measure=>simp[intOf];omega
   ·obtain rfl:n=k:=by omega
    have hpl:(put ua off ms).length=ua.length:=zBY (by rw[HH.out.1];omega);have hcz:=hblk.cell (k:=off+n) (by rw[hpl];omega);rw[zIk (by rw[HH.out.1];omega) (by rw[HH.out.1];exact xgf _),GX0.out]at hcz;have hfr:=hblk.frozen (off+n);obtain⟨lv,le,e1,e2,e3,e4,e5⟩:=zEl x0 c b hx0 hc1 hb1;have hp:=zK7 (us:=ua) (ms:=ms) (off:=off) (v:=lv) (by rw[HH.out.1];omega);rw[HH.out.1]at hp;have hfin:Hid (nat (ms++ [lv])+q*V=U+le*B32^(n+1)):=by
     obtain⟨h1,h2,h3⟩:=HH.out;obtain⟨j1,j2,j3,j4,j5⟩:=K67.out;rw[zJ vs (Nat.le_of_eq HN.out),j5]at h3;rw[<-j4,zDt oM,GX0.out];show _=_;rw[zAu,h1,Nat.pow_succ,yS];rw[yS]at h3;have h4:(lv+c+b)*4294967296^n=(x0+le*4294967296)*4294967296^n:=by rw[e5]
     generalize 4294967296^n=P at*;have h5:le*(P*4294967296)=le*4294967296*P:=by rw[Nat.mul_assoc,Nat.mul_comm P]
     rw[h5,Nat.mul_comm P lv];simp only[Nat.add_mul]at*;omega
    have hrl:qR (ms++ [lv]):=HH.out.2.1.append (fun z hz=>by simp at hz;subst hz;exact e3);have hrlen:(ms++ [lv]).length=n+1:=by simp[HH.out.1]
    have HP:=Lib.hid hp;have ewq:IntKind.u32.wrap (q:Int)=q:=zDi q hqB;rcases(show le=0∨le=1 by omega)with h01|h01
    ·subst h01
     have hdone:Hid (nat (seg ua off (n+1))=q*nat vs+nat (ms++ [lv])/\nat (ms++ [lv])<nat vs):=by
      obtain⟨j1,j2,j3,j4,j5⟩:=K67.out;have h1:=hfin.out;rw[Nat.zero_mul,Nat.add_zero]at h1;rw[j4,j5];exact⟨by omega,zOc h1 j3 HQ.out.1⟩
     have e2':IntKind.u64.wrap (IntKind.u64.wrap ((x0:Int)-c)-b)/9223372036854775808=0:=e2;clear e2 hp hfin;go_wp2;go_ret;exact⟨q,ms++ [lv],by first|rfl|(rw[ewq];rfl),hqB,hrlen,hrl,hdone.out.1,hdone.out.2,by rw[<-HP.out];exact hblk.set' _ _ lv (by first|exact e1|omega|(simp only[IntKind.wrap_u32,IntKind.wrap_u64];omega)),zFW HG1 (zC9 hgr _ _)⟩
    ·subst h01
     have e2':IntKind.u64.wrap (IntKind.u64.wrap ((x0:Int)-c)-b)/9223372036854775808=1:=e2;have hqQ:Hid (q=Q+1):=by
      obtain⟨j1,j2,j3,j4,j5⟩:=K67.out;have h2:=jX hrl;rw[hrlen]at h2;have h1:=hfin.out;rw[Nat.one_mul]at h1;exact zP8 h1 h2 j3 j1 HQ.out.2
     have hq1:1<=q:=by rw[hqQ.out];omega
     clear e2 hp;go_wp2;refine zB ?_;intro W3 hW3;have hb3:jO W3 g (put ua off (ms++ [lv])):=by
      rw[hW3.out,<-HP.out];exact hblk.set' _ _ lv (by first|exact e1|omega|(simp only[IntKind.wrap_u32,IntKind.wrap_u64];omega))
     have hg3:w2.grownBy W3 (some g):=by rw[hW3.out];exact zC9 hgr _ _
     clear e1 e2' hcz hfr hW3;go_loopw [11,128] (fun cv i wr=>∃(k c:Nat) (rr:List Nat),k<=n/\i= .int .i64 k/\cv= .int .u64 c/\c<=1/\jO wr g (put ua off (rr++(ms++ [lv]).drop k))/\w2.grownBy wr (some g)∧
       Hid (rr.length=k/\qR rr/\nat rr+c*B32^k=nat ((ms++ [lv]).take k)+nat (vs.take k))) (fun _ i _=>n-(intOf i).toNat)
     case atStart=>exact⟨0,0,[],by omega,rfl,rfl,by omega,by simpa using hb3,hg3,⟨rfl,qR.nil,by simp⟩⟩
     case round=>
      obtain⟨k,c2,rr,hk,rfl,rfl,hc2,hblk4,hgr4,HH4⟩:=hrel;have hal:(rr++(ms++ [lv]).drop k).length=n+1:=by rw[List.length_append,List.length_drop,hrlen,HH4.out.1];omega
      have hpl4:(put ua off (rr++(ms++ [lv]).drop k)).length=ua.length:=zBY (by rw[hal];omega);have hcz:=hblk4.cell (k:=off+k) (by rw[hpl4];omega);rw[zHu (by rw[hal];omega) (by rw[hal];omega),zOJ HH4.out.1 (by rw[hrlen];omega)]at hcz;have hfr:=hblk4.frozen (off+k);have hps:=fun v=>zJR (us:=ua) (ms:=rr++(ms++ [lv]).drop k) (off:=off) (k:=k) (v:=v) (by rw[hal];omega) (by rw[hal];omega)
      have HPS:=Lib.hid hps;clear hps;obtain⟨x,HX⟩:∃x,(ms++ [lv]).getD k 0=x:=⟨_,rfl⟩;have hx32:x<4294967296:=by rw[<-HX];exact hrl.get _
      rw[HX]at hcz;have HX':=Lib.hid HX;clear HX hal hpl4;by_cases hkn:k<n
      ·have hcy:=zGp hgr4 hsep (g0.out k hkn)
       obtain⟨y,HY⟩:∃y,vs.getD k 0=y:=⟨_,rfl⟩;have hy32:y<4294967296:=by rw[<-HY];exact hv.1.get _
       rw[HY]at hcy;have HY':=Lib.hid HY;clear HY;go_wp2;go_roundw
       case rel=>
        refine⟨k+1,(c2+(x+y))/4294967296,rr++ [(c2+(x+y))%4294967296],by omega,by go_num,by go_num,by omega,?_,zC9 hgr4 _ _,⟨by simp[HH4.out.1],HH4.out.2.1.append (fun z hz=>by simp at hz;subst hz;exact Nat.mod_lt _ dE),?_⟩⟩
        ·rw[<-zKn HH4.out.1 (by rw[hrlen];omega),<-HPS.out]
         exact hblk4.set' _ _ _ sI
        ·have hst:=zGO (ms:=ms++ [lv]) (vs:=vs) (rr:=rr) (c:=c2) (x:=x) (e:=y) (by rw[HH4.out.1];exact HH4.out.2.2) (by rw[HH4.out.1];exact HX'.out) (by rw[HH4.out.1];exact HY'.out)
         rw[HH4.out.1]at hst;exact hst
       case measure=>simp[intOf];omega
      ·obtain rfl:n=k:=by omega
       have hxl:Hid (x=lv):=by
        show _=_;rw[<-HX'.out,xgb,List.getElem?_append_right (by rw[HH.out.1];exact xgf _),HH.out.1];simp
       obtain⟨hsum,hU2⟩:x+c2=4294967296/\U=Q*V+nat rr:=by
        obtain⟨j1,j2,j3,j4,j5⟩:=K67.out;have h1:=HH4.out.2.2;rw[List.take_append_of_le_length (by rw[HH.out.1];exact xgf _),zJ ms (by rw[HH.out.1];exact xgf _),zJ vs (Nat.le_of_eq HN.out),j5]at h1;have h2:=hfin.out;rw[zAu,HH.out.1,Nat.one_mul,hqQ.out,Nat.pow_succ,yS]at h2;have h3:=jX HH4.out.2.1;rw[HH4.out.1]at h3;have h4:=jX hv.1;rw[HN.out,j5]at h4;rw[hxl.out];rw[yS]at h1 h3 h4;exact zND h1 h2 h3 h4 j3 j1 e3 hc2
       have HS:=Lib.hid hU2;have ew0:IntKind.u32.wrap ((x:Int)+(c2:Int))=0:=by rw[IntKind.wrap_u32];omega
       clear hU2;go_wp2;go_ret;refine⟨q-1,rr++ [0],?_,by omega,by simp[HH4.out.1],HH4.out.2.1.append (fun z hz=>by simp at hz;subst hz;exact jA),?_,?_,?_,zFW HG1 (zC9 hgr4 _ _)⟩
       ·show Ending.returned (.int .u32 ((q:Int)-1))=Ending.returned (.int .u32 ((q-1:Nat):Int))
        congr 2;omega
       ·obtain⟨j1,j2,j3,j4,j5⟩:=K67.out
        rw[j4,j5,zAu,Nat.mul_zero,Nat.add_zero,HS.out,hqQ.out,Nat.add_sub_cancel]
       ·obtain⟨j1,j2,j3,j4,j5⟩:=K67.out
        rw[zAu,Nat.mul_zero,Nat.add_zero,j5];have:=HS.out;rw[Nat.add_mul,Nat.one_mul]at j3;omega
       ·have hm:=zKn (rr:=rr) (rs:=ms++ [lv]) (k:=n) (v:=0) HH4.out.1 (by rw[hrlen];omega)
        rw[List.drop_eq_nil_of_le (show(ms++ [lv]).length<=n+1 by rw[hrlen];exact xgf _),List.append_nil]at hm;rw[<-hm,<-HPS.out];exact hblk4.set' _ _ 0 (by first|rfl|exact ew0|omega)
/-! ### plain -/
theorem zAD(xs:List Nat)(k:Nat)(h:k<=xs.length):nat xs=nat (xs.take k)+B32^k*nat (xs.drop k):=by
 have:=zBW (xs.take k) (xs.drop k);rw[List.take_append_drop,List.length_take,Nat.min_eq_left h]at this;exact this
theorem zMt{us ms:List Nat}{off:Nat}(h:off<=us.length):(put us off ms).drop off=ms++us.drop (off+ms.length):=by
 unfold put;rw[List.append_assoc,List.drop_append,List.drop_eq_nil_of_le (by simp;omega)];simp[Nat.min_eq_left h]
theorem zMu{us ms:List Nat}{off:Nat}(h:off<=us.length):(put us off ms).take off=us.take off:=by
 unfold put;rw[List.append_assoc,List.take_append_of_le_length (by simp;omega),List.take_take,Nat.min_self]
theorem zKJ(a V p B t q r:Nat):a*V*(p*B)+(t+p*(q*V+r))=(q+B*a)*V*p+(t+p*r):=by
 simp only[Nat.add_mul,Nat.mul_add];have e1:a*V*(p*B)=B*a*V*p:=by simp only[Nat.mul_assoc,Nat.mul_comm,Nat.mul_left_comm]
 have e2:p*(q*V)=q*V*p:=Nat.mul_comm _ _;omega
structure zEG(X V:Nat)(n k:Nat)(ul qs:List Nat):Prop where
 lim:qR ul
 qlim:qR qs
 eq:X=nat (qs.drop k)*V*B32^k+nat ul
 lt:nat (ul.drop k)<V
theorem zEG.zero{X V n k:Nat}{ul qs:List Nat}(h:zEG X V n k ul qs)(hV:V<B32^n)(hl:k+n<=ul.length):nat (ul.drop (k+n))=0:=by
 have h1:=zAD (ul.drop k) n (by simp;omega);rw[List.drop_drop]at h1;have h2:=h.lt;rcases Nat.eq_zero_or_pos (nat (ul.drop (k+n)))with h0|h0
 ·exact h0
 ·have:=Nat.le_mul_of_pos_right (B32^n) h0;omega
theorem zEG.seg_eq{X V n j:Nat}{ul qs:List Nat}(h:zEG X V n (j+1) ul qs)(hV:V<B32^n)(hl:j+1+n<=ul.length):nat (seg ul j (n+1))=nat (ul.drop j):=by
 have h1:=zAD (ul.drop j) (n+1) (by simp;omega);rw[List.drop_drop,show j+(n+1)=j+1+n by omega,h.zero hV hl]at h1;unfold seg;omega
theorem zEG.small{X V n j:Nat}{ul qs:List Nat}(h:zEG X V n (j+1) ul qs)(hl:j<ul.length):nat (ul.drop j)<V*4294967296:=by
 have h1:=jP ul j hl;have h2:=h.lim.get j;have h3:=h.lt;rw[yS]at h1 h2;rw[h1];clear h1 h;generalize nat (List.drop (j+1) ul)=d at*;generalize ul.getD j 0=x at*;omega
theorem zEG.step{X V n j q:Nat}{ul qs rs:List Nat}(h:zEG X V n (j+1) ul qs)(hV:V<B32^n)(hl:j+1+n<=ul.length)(hq:j<qs.length)(hqB:q<4294967296)
  (hrl:rs.length=n+1) (hrs:qR rs) (heq:nat (seg ul j (n+1))=q*V+nat rs) (hlt:nat rs<V):zEG X V n j (put ul j rs) (qs.set j q):=by
 have hz:=h.zero hV hl;have hd:nat ((put ul j rs).drop j)=nat rs:=by
  rw[zMt oM,zBW,hrl,show j+(n+1)=j+1+n by omega,hz,Nat.mul_zero,Nat.add_zero]
 refine⟨zK6 h.lim hrs,h.qlim.set _ _ hqB,?_,by rw[hd];exact hlt⟩;have h1:=zAD ul j oM;have h2:=zAD (put ul j rs) j (by rw[zBY oM];omega);rw[hd,zMu oM]at h2;rw[<-h.seg_eq hV hl,heq]at h1;have h3:=jP (qs.set j q) j (by simpa using hq);rw[zAT,xgb,List.getElem?_set_self hq]at h3;simp only[Option.getD_some]at h3;rw[h3,h2,h.eq,h1,Nat.pow_succ];exact zKJ _ _ _ _ _ _ _
theorem zHG{a b s:Nat}(hs:s<32)(ha:a<4294967296)(hb:b<4294967296):
  ((a*4294967296+b)/2^s%4294967296)*2^s+b%2^s=b+a%2^s*4294967296:=by
 obtain⟨t,ht⟩:∃t,2^s*t=4294967296:=⟨2^(32-s),by rw[<-Nat.pow_add,show s+(32-s)=32 by omega]⟩;have hp:0<2^s:=Nat.pow_pos oM;generalize 2^s=p at*;have hb1:=Nat.div_add_mod b p;have ha1:=Nat.div_add_mod a p;have hbp:=Nat.mod_lt b hp;have hap:=Nat.mod_lt a hp;generalize b/p=bq at*;generalize b%p=br at*;generalize a/p=aq at*;generalize a%p=ar at*;have e1:(a*4294967296+b)/p=a*t+bq:=by
  rw[<-ht,<-hb1,<-Nat.mul_assoc,Nat.mul_comm a p,Nat.mul_assoc,<-Nat.add_assoc,<-Nat.mul_add];rw[Nat.mul_add_div hp,Nat.div_eq_of_lt hbp,Nat.add_zero]
 have hbq:bq<t:=by
  rcases Nat.lt_or_ge bq t with h|h
  ·exact h
  ·have:=Nat.mul_le_mul_left p h;omega
 have e2:a*t+bq=ar*t+bq+4294967296*aq:=by
  rw[<-ht,<-ha1,Nat.add_mul,Nat.mul_assoc p t,Nat.mul_assoc,Nat.mul_comm t aq];omega
 have h4:ar*t+bq<4294967296:=by
  have h5:(ar+1)*t<=p*t:=Nat.mul_le_mul_right t hap;rw[Nat.add_mul,Nat.one_mul,ht]at h5;omega
 rw[e1,e2,Nat.add_mul_mod_self_left,Nat.mod_eq_of_lt h4,Nat.add_mul,Nat.mul_assoc,Nat.mul_comm t p,ht,Nat.mul_comm bq p];omega
theorem zHH{ul rs:List Nat}{k s v a b:Nat}(hs:s<32)(ha:a<4294967296)(hb:b<4294967296)(hua:ul.getD (k+1) 0=a)(hub:ul.getD k 0=b)(hk:k<rs.length)
  (hv:v=(a*4294967296+b)/2^s%4294967296) (h:nat (rs.take k)*2^s=nat (ul.take k)+(ul.getD k 0%2^s)*B32^k):
  nat ((rs.set k v).take (k+1))*2^s=nat (ul.take (k+1))+(ul.getD (k+1) 0%2^s)*B32^(k+1):=by
 have hl:=zHG hs ha hb;rw[<-hv]at hl;rw[yX _ _ _ hk,zQ,Nat.add_mul,h,hua,hub,Nat.pow_succ,yS];generalize 2^s=p at*;generalize 4294967296^k=P;have e:=congrArg (· *P) hl;simp only[Nat.add_mul]at e;have e1:v*P*p=v*p*P:=by rw[Nat.mul_assoc,Nat.mul_comm P,<-Nat.mul_assoc]
 have e2:a%p*(P*4294967296)=a%p*4294967296*P:=by rw[Nat.mul_assoc,Nat.mul_comm P]
 omega
theorem zNE{vs:List Nat}{m t:Nat}(hl:qR vs)(hlen:vs.length=m+1)(h:t*B32^m<=nat vs):t<=vs.getD m 0:=by
 have h1:=zQ vs m;rw[zJ vs oM]at h1;have h2:=jX (hl.take m);rw[List.length_take,Nat.min_eq_left oM]at h2;rcases Nat.lt_or_ge (vs.getD m 0) t with h3|h3
 ·exfalso
  have h4:=Nat.mul_le_mul_right (B32^m) h3;rw[Nat.succ_mul]at h4;omega
 ·exact h3
theorem zOR{ys:List Nat}{m d:Nat}(hlen:ys.length=m+1)(hd:ys.getD m 0=d):d*B32^m<=nat ys:=by
 have h1:=zQ ys m;rw[zJ ys oM,hd]at h1;omega
theorem zNv{us:List Nat}{k T:Nat}(hk:k<=us.length)(h:nat us<B32^k*T):nat (us.drop k)<T:=by
 have h1:=zAD us k hk;have h2:B32^k*nat (us.drop k)<B32^k*T:=by omega
 exact Nat.lt_of_mul_lt_mul_left h2
theorem zOI{ul:List Nat}{s:Nat}(hs:s<32)(hl:0<ul.length):nat ul%2^s=ul.getD 0 0%2^s:=by
 obtain⟨t,ht⟩:∃t,2^s*t=4294967296:=⟨2^(32-s),by rw[<-Nat.pow_add,show s+(32-s)=32 by omega]⟩;have h1:=jP ul 0 hl;rw[xgk,yS,<-ht,Nat.mul_assoc]at h1;rw[h1,Nat.add_mul_mod_self_left]
theorem zEF(ao:Option Addr)(n cap:Nat)(xs:List Nat)(w:World)(hn:xs.length=n)(hn2:n<=2)(hx:zG w ao xs):
  Calls Tryz.prog 263 #[.slice ao n cap] w fun e w'=>e= .returned (.int .u64 (nat xs:Nat))/\w=w':=by
 match n,xs,hn with
 |0,[],_=>
  go_enter Tryz.func263,Tryz.ntmps263;go_wp2;refine wp_loop_rounds 1 ?_;rw[rounds_succ];go_wp2;go_ret;exact⟨rfl,rfl⟩
 |1,[a],_=>
  obtain⟨b,off,x,rfl,hbw,hx32,HX,hck⟩:=hx.limb (k:=0) sI;have hxa:x=a:=HX.out.symm;subst hxa;rw[Nat.add_zero]at hck;have e1:bits BinOp.or IntKind.u64 0 (x:Int)=(x:Int):=by have:=u64_or_nat 0 x oM oM;simpa using this
  have E:Hid (nat [x]=x):=by show _=_;simp[yM]
  go_enter Tryz.func263,Tryz.ntmps263;go_wp2;refine wp_loop_rounds 2 ?_;rw[rounds_succ];go_wp2;rw[rounds_succ];go_wp2;go_ret;exact⟨by rw[E.out];rfl,rfl⟩
 | 2,[a,b],_=>
  obtain⟨bb,off,hbo,hbw,hcs⟩:=hx.cells sI;subst hbo;have c0:=hcs 0 sI;have c1:=hcs 1 sI;have ha:a<4294967296:=hx.1 a sI;have hb:b<4294967296:=hx.1 b sI;have e1:bits BinOp.or IntKind.u64 0 (a:Int)=(a:Int):=by have:=u64_or_nat 0 a oM oM;simpa using this
  have e2:bits BinOp.or IntKind.u64 (a:Int) ((b:Int)*4294967296)=((a+b*4294967296:Nat):Int):=by
   have:=u64_or_nat a (b*4294967296) oM oM;rw[Nat.or_comm,zIc b a ha,Nat.add_comm]at this;rw[<-this];simp
  have E:Hid (nat [a,b]=a+b*4294967296):=by show _=_;simp[yM,yS];omega
  clear hcs;simp at c0 c1;go_enter Tryz.func263,Tryz.ntmps263;go_wp2;refine wp_loop_rounds 3 ?_;rw[rounds_succ];go_wp2;rw[rounds_succ];go_wp2;rw[rounds_succ];go_wp2;go_ret;exact⟨by rw[E.out];rfl,rfl⟩
def zEK(w:World)(a b:Nat)(e:Ending)(w':World):Prop:=
 ∃qo ql qc qs ro rl rc rs,e= .returned (.tuple #[.slice qo ql qc,.slice ro rl rc])/\qs.length=ql/\ql<=qc/\qc<=9223372036854775807/\zG w' qo qs∧
  rs.length=rl/\rl<=rc/\rc<=9223372036854775807/\zG w' ro rs/\a=nat qs*b+nat rs/\nat rs<b/\Below w.heap.size w w'
section
variable (ao1 ao2:Option Addr) (n1 cap1 n2 cap2:Nat) (xs ys:List Nat) (w:World) (hn1:xs.length=n1) (hn2:ys.length=n2) (hl1:n1<=cap1) (hl2:n2<=cap2)
  (hc1:cap1<=9223372036854775807) (hc2:cap2<=9223372036854775807) (hb1:n1<=2*LIM) (hb2:n2<=2*LIM) (hx1:zG w ao1 xs) (hx2:zG w ao2 ys) (hN1:qM xs) (hN2:qM ys) (hy:0<nat ys)
include hn1 hn2 hl1 hl2 hc1 hc2 hb1 hb2 hx1 hx2 hN1 hN2 hy
theorem zHZ(hlt:nat xs<nat ys):Calls Tryz.prog 228 #[.slice ao1 n1 cap1,.slice ao2 n2 cap2] w (zEK w (nat xs) (nat ys)):=by
 have hcmp:=fun W h1 h2=>zAI ao1 ao2 n1 cap1 n2 cap2 xs ys W hn1 hn2 hl1 hl2 hc1 hc2 h1 h2 hN1 hN2
 rw[yY oM]at hcmp;have HN1:=Lib.hid hn1;clear hn1 hn2;go_enter Tryz.func228,Tryz.ntmps228;go_wp2_with (go_at_call 226;refine(hcmp _ hx1 hx2).mono ?_;rintro e w' ⟨rfl,nd,rfl⟩)
 refine(zBS ao1 n1 cap1 xs _ HN1.out oM (hx1.ext (lx (drN _ _)))).mono ?_;rintro e w2 ⟨ro,rl,rc,rfl,h1,h2,h3,h4,hb⟩;go_wp2_with fail
 go_ret2;exact⟨_,_,_,[],_,_,_,xs,rfl,rfl,by omega,by omega,zG.nil _ _,h1,h2,h3,h4,by simp,hlt,nx (drN _ _) hb⟩
theorem zI9(hge:nat ys<=nat xs)(h2:n1<=2):Calls Tryz.prog 228 #[.slice ao1 n1 cap1,.slice ao2 n2 cap2] w (zEK w (nat xs) (nat ys)):=by
 have hn12:n2<=n1:=by rw[<-hn1,<-hn2];exact jU hx1.1 hN2 hge
 have hcmp:=fun W h1 h2=>zAI ao1 ao2 n1 cap1 n2 cap2 xs ys W hn1 hn2 hl1 hl2 hc1 hc2 h1 h2 hN1 hN2
 obtain⟨cc,hcc,hcc0⟩:∃cc:Int,qJ (nat xs) (nat ys)=cc/\0<=cc:=⟨_,rfl,zBi oM⟩;rw[hcc]at hcmp;clear hcc;have hw1:=fun W h=>zEF ao1 n1 cap1 xs W hn1 h2 h
 have hw2:=fun W h=>zEF ao2 n2 cap2 ys W hn2 oM h
 have hu:nat xs<18446744073709551616:=by
  have h3:=jX hx1.1;have h4:=zAY (show xs.length<=2 by omega);rw[yS]at h4;have h5:(4294967296:Nat)^2=18446744073709551616:=by decide
  rw[h5]at h4;rw[yS]at h3;omega
 have hv:nat ys<18446744073709551616:=by omega
 obtain⟨a,ha⟩:∃a,nat xs=a:=⟨_,rfl⟩;obtain⟨b,hb⟩:∃b,nat ys=b:=⟨_,rfl⟩;rw[ha]at hw1 hu hge ⊢
 rw[hb]at hw2 hv hge hy ⊢
 clear hn1 hn2 ha hb;have hql:=zB1 (a/b);have hrl:=zB1 (a%b);have hqb:a/b<18446744073709551616:=Nat.lt_of_le_of_lt (Nat.div_le_self _ _) hu;have hrb:a%b<b:=Nat.mod_lt _ hy;have eq1:(a:Int)/(b:Int)=((a/b:Nat):Int):=by simp
 have eq2:(a:Int)%(b:Int)=((a%b:Nat):Int):=by simp
 have eq3:IntKind.u64.wrap ((a:Int)/(b:Int))=((a/b:Nat):Int):=by rw[eq1,IntKind.wrap_u64];generalize a/b=t at*;omega
 have EQM:Hid (a=a/b*b+a%b):=by show _=_;rw[Nat.mul_comm];exact(Nat.div_add_mod a b).symm
 obtain⟨q,hq⟩:∃q,a/b=q:=⟨_,rfl⟩;obtain⟨r,hr⟩:∃r,a%b=r:=⟨_,rfl⟩;rw[hq]at hql hqb eq1 eq3 EQM;rw[hr]at hrl hrb eq2 EQM;clear hq hr;have eq4:(a:Int).tdiv (b:Int)=(q:Int):=by rw[Int.tdiv_eq_ediv_of_nonneg oM];exact eq1
 have eq5:(a:Int).tmod (b:Int)=(r:Int):=by rw[Int.tmod_eq_emod_of_nonneg oM];exact eq2
 have eq6:IntKind.u64.wrap (q:Int)=(q:Int):=by rw[IntKind.wrap_u64];omega
 have eq7:IntKind.u64.wrap (r:Int)=(r:Int):=by rw[IntKind.wrap_u64];omega
 have hbn:¬ b=0:=by omega
 have hb0:((b:Int)==0)=false:=by simp;omega
 go_enter Tryz.func228,Tryz.ntmps228;go_wp2_with (first
  |(go_at_call 226;refine(hcmp _ hx1 hx2).mono ?_;rintro e w' ⟨rfl,nd,rfl⟩)
  |(go_at_call_of 263 ao1;refine(hw1 _ (hx1.ext (lx (drN _ _)))).mono ?_;rintro e w' ⟨rfl,rfl⟩)
  |(go_at_call_of 263 ao2;refine(hw2 _ (hx2.ext (lx (drN _ _)))).mono ?_;rintro e w' ⟨rfl,rfl⟩))
 go_region_held3 (fun _=>True) (exact trivial)
  (first
   |(go_at_call_of 200 q;refine(hql _ hqb).mono ?_;rintro e w1 ⟨qo,ql,qc,qs,rfl,p1,p2,p3,p4,p5,p6⟩)
   |(go_at_call_of 200 r;refine(hrl _ oM).mono ?_;rintro e w2 ⟨ro,rl,rc,rs,rfl,s1,s2,s3,s4,s5,s6⟩))
 go_wp2_with fail
 go_ret2;exact⟨qo,ql,qc,qs,ro,rl,rc,rs,rfl,p1,p2,p3,p4.ext (lx s6),s1,s2,s3,s4,by rw[p5,s5];exact EQM.out,by rw[s5];exact hrb,nx (nx (nx (drN _ _) (dr _)) p6) s6⟩
theorem zGf(hge:nat ys<=nat xs)(h2:2<n1)(h1:n2=1):Calls Tryz.prog 228 #[.slice ao1 n1 cap1,.slice ao2 n2 cap2] w (zEK w (nat xs) (nat ys)):=by
 have hcmp:=fun W h1 h2=>zAI ao1 ao2 n1 cap1 n2 cap2 xs ys W hn1 hn2 hl1 hl2 hc1 hc2 h1 h2 hN1 hN2
 obtain⟨cc,hcc,hcc0⟩:∃cc:Int,qJ (nat xs) (nat ys)=cc/\0<=cc:=⟨_,rfl,zBi oM⟩;rw[hcc]at hcmp;clear hcc;subst h1;obtain⟨b,off,d,rfl,hbw,hd32,HD,hck⟩:=hx2.limb (k:=0) oM;rw[Nat.add_zero]at hck;have hyd:nat ys=d:=by
  match ys,hn2,HD.out with
  | [y],_,h=>simp at h;simp[yM,h]
 have hsh:=fun W h=>zLT ao1 n1 cap1 xs d W hn1 oM h oM hd32
 rw[hyd]at hge hy ⊢
 have HN1:=Lib.hid hn1;clear hn1 hn2 hyd;go_enter Tryz.func228,Tryz.ntmps228;go_wp2_with (first
  |(go_at_call 226;refine(hcmp _ hx1 hx2).mono ?_;rintro e w' ⟨rfl,nd,rfl⟩)
  |(go_at_call 264;refine(hsh _ (hx1.ext (lx (drN _ _)))).mono ?_;rintro e w1 ⟨g,qs,r,rfl,p1,p2,p3,p4,p5,p6⟩))
 go_ret2;have hB:Below w.heap.size w w1:=nx (drN _ _) p6;have hB2:Below w1.heap.size w1 (w1.alloc (.cells #[.int .u32 (r:Nat)] tU)):=(Below.refl _ _).alloc (xgf _) _;exact⟨_,_,_,qs,_,_,_,[r],rfl,p3,xgf _,by omega,(p1.at_ p2).ext (lx hB2),rfl,xgf _,by omega,zG.one w1 r oM _ rfl,by simp[yM];exact p5,by simp[yM];exact p4,nx hB hB2⟩
end
theorem zHa(ao1 ao2:Option Addr)(n1 cap1 n2 cap2:Nat)(xs ys:List Nat)(w:World)(hn1:xs.length=n1)(hn2:ys.length=n2)(hl1:n1<=cap1)(hl2:n2<=cap2)
  (hc1:cap1<=9223372036854775807) (hc2:cap2<=9223372036854775807) (hb1:n1<=2*LIM) (hx1:zG w ao1 xs) (hx2:zG w ao2 ys) (hN1:qM xs) (hN2:qM ys)
  (hge:nat ys<=nat xs) (h2:2<n1) (h1:2<=n2):Calls Tryz.prog 228 #[.slice ao1 n1 cap1,.slice ao2 n2 cap2] w (zEK w (nat xs) (nat ys)):=by
 have hn12:n2<=n1:=by rw[<-hn1,<-hn2];exact jU hx1.1 hN2 hge
 have hcmp:=fun W h1 h2=>zAI ao1 ao2 n1 cap1 n2 cap2 xs ys W hn1 hn2 hl1 hl2 hc1 hc2 h1 h2 hN1 hN2
 obtain⟨cc,hcc,hcc0⟩:∃cc:Int,qJ (nat xs) (nat ys)=cc/\0<=cc:=⟨_,rfl,zBi oM⟩;rw[hcc]at hcmp;clear hcc;obtain⟨b,off,d,rfl,hbw,hd32,HD,hck⟩:=hx2.limb (k:=n2-1) oM;have hd0:0<d:=by
  have:=hN2 (n2-1) oM;rw[HD.out]at this;omega
 obtain⟨s,hs32,hs1,hs2,hlead⟩:=zMb d w hd0 hd32;have hsh1:=fun W h=>zG7 ao1 n1 cap1 xs s W hn1 oM h hs32
 have hsh2:=fun W h=>zG7 (some ⟨b,off,none⟩) n2 cap2 ys s W hn2 oM h hs32
 have hVB:nat ys*2^s<B32^n2:=by
  obtain⟨m,rfl⟩:∃m,n2=m+1:=⟨n2-1,by omega⟩;have e1:=zQ ys m;rw[zJ ys oM]at e1;have e2:=jX (hx2.1.take m);rw[List.length_take,Nat.min_eq_left oM]at e2;rw[show m+1-1=m by omega]at HD;rw[HD.out]at e1;have e3:nat ys<(d+1)*B32^m:=by rw[e1,Nat.add_mul,Nat.one_mul];omega
  have e4:nat ys*2^s<(d+1)*B32^m*2^s:=(Nat.mul_lt_mul_right (Nat.pow_pos oM)).2 e3;have e5:(d+1)*B32^m*2^s=(d+1)*2^s*B32^m:=by rw[Nat.mul_assoc,Nat.mul_comm (B32^m),<-Nat.mul_assoc]
  have e6:(d+1)*2^s<=B32:=by
   obtain⟨t,ht⟩:∃t,2^s*t=4294967296:=⟨2^(32-s),by rw[<-Nat.pow_add,show s+(32-s)=32 by omega]⟩;rw[<-ht,Nat.mul_comm d]at hs2;have:=Nat.lt_of_mul_lt_mul_left hs2;rw[yS,<-ht,Nat.mul_comm];exact Nat.mul_le_mul_left _ this
  have e7:=Nat.mul_le_mul_right (B32^m) e6;rw[e5]at e4;rw[Nat.pow_succ,Nat.mul_comm (B32^m)];exact Nat.lt_of_lt_of_le e4 e7
 have hXB:nat xs*2^s<B32^n1*2^s:=(Nat.mul_lt_mul_right (Nat.pow_pos oM)).2 (by have:=jX hx1.1;rwa[hn1]at this);have HVB:=Lib.hid hVB;have HXB:=Lib.hid hXB;have HN1:=Lib.hid hn1;have HN2:=Lib.hid hn2;have HGE:=Lib.hid hge;have HS1:=Lib.hid hs1;have HS2:=Lib.hid hs2;clear hn1 hn2 hVB hXB hs1 hs2 hge;have f1:(n2:Int)<=(n2:Int)+1:=by omega
 have f2:(0:Int)<=(n2:Int):=by omega
 rw[qV]at hb1;go_enter Tryz.func228,Tryz.ntmps228;go_wp2_with (first
  |(go_at_call 226;refine(hcmp _ hx1 hx2).mono ?_;rintro e w' ⟨rfl,nd,rfl⟩)
  |(go_at_call 265;refine(hlead _).mono ?_;rintro e w' ⟨rfl,rfl⟩))
 refine zB ?_;intro W1 hW1;have hB1:Below w.heap.size w W1:=by rw[hW1.out];exact drN _ _
 have lx1:=lx (nx hB1 (dr W1));go_region_held3 (fun _=>True) (exact trivial)
  (first
   |(go_at_call_of 266 ao1;refine(hsh1 _ (hx1.ext lx1)).mono ?_;rintro e w1 ⟨gu,us,rfl,p2,p3,p4,p5,p7,p6⟩)
   |(go_at_call_of 266 off;refine(hsh2 _ ((hx2.ext lx1).ext (lx p6))).mono ?_;rintro e w2 ⟨gv,vz,rfl,s2,s3,s1,s4,s5,s6⟩))
 have hmk:=fun W=>mkU ((n1:Int)-n2+1) (n1-n2+1) oM oM W
 go_upto_block 1 with(fail)
 clear hmk;refine zB ?_;intro W3 hW3;have hvt:nat (vz.take n2)=nat ys*2^s:=by
  have e1:=zAD vz n2 (by rw[s4];omega);rcases Nat.eq_zero_or_pos (nat (vz.drop n2))with h0|h0
  ·rw[h0,Nat.mul_zero,Nat.add_zero,s5]at e1;exact e1.symm
  ·exfalso
   have h1:=Nat.le_mul_of_pos_right (B32^n2) h0;have h2:=HVB.out;rw[<-s5]at h2;omega
 have hgu:W1.heap.size<=gu:=p2;have hguv:gu<w1.heap.size:=p3.lt;have hgv:w1.heap.size<=gv:=s2;have hgvq:gv<w2.heap.size:=s3.lt;have hB2:Below w.heap.size w w2:=nx (nx (nx hB1 (dr W1)) p6) s6;have hB3:Below w.heap.size w W3:=by rw[hW3.out];exact hB2.alloc hB2.size _
 have hU3:jO W3 gu us:=by rw[hW3.out];exact(p3.ext (lx s6)).alloc _
 have hV3:jO W3 gv vz:=by rw[hW3.out];exact s3.alloc _
 have hQ3:jO W3 w2.heap.size (List.replicate (n1-n2+1) 0):=by rw[hW3.out];exact jO.made _ _
 have hwu:w.heap.size<=gu:=by have:=hB1.size;omega
 have hst0:zEG (nat xs*2^s) (nat ys*2^s) n2 (n1-n2+1) us (List.replicate (n1-n2+1) 0):=by
  refine⟨p4,fun x hx=>by rw[List.eq_of_mem_replicate hx];exact jA,?_,?_⟩
  ·rw[List.drop_eq_nil_of_le sI,p7,nat_nil,Nat.zero_mul,Nat.zero_mul,Nat.zero_add]
  ·refine zNv oM ?_
   rw[p7];refine Nat.lt_of_lt_of_le HXB.out ?_;have h1:=zC8 hN2 (n:=n2-1) (by rw[HN2.out];omega);have h2:B32^n1=B32^(n1-n2+1)*B32^(n2-1):=by rw[<-Nat.pow_add];congr 1;omega
   rw[h2,Nat.mul_assoc];exact Nat.mul_le_mul_left _ (Nat.mul_le_mul_right _ h1)
 have hvl:(vz.take n2).length=n2:=by rw[List.length_take,s4];omega
 have hhigh:2147483648<=(vz.take n2).getD (n2-1) 0:=by
  refine zNE (s1.take n2) (by rw[hvl];omega) ?_;rw[hvt];have h1:=zOR (ys:=ys) (m:=n2-1) (by rw[HN2.out];omega) HD.out;have h2:=Nat.mul_le_mul_right (2^s) h1;refine Nat.le_trans ?_ h2;rw[Nat.mul_assoc,Nat.mul_comm (B32^(n2-1)),<-Nat.mul_assoc];exact Nat.mul_le_mul_right _ HS1.out
 have hdig:=fun W j cap ul hU hul hv hlen hQ=>zKI gu j cap gv 0 n2 n2 ul (vz.take n2) W hU hul hv oM hvl h1 hlen (by rw[qV];omega) hhigh hQ
 have HDIG:=Lib.hid hdig;have HVT:=Lib.hid hvt;have HST0:=Lib.hid hst0;have HVL:=Lib.hid hvl;clear hdig hvt hst0 hvl hhigh hW3 hsh1 hsh2 hcmp hlead s5 p7;obtain⟨W4,rfl⟩:∃W:World,W=W3:=⟨_,rfl⟩;obtain⟨gq,hgq⟩:∃g,w2.heap.size=g:=⟨_,rfl⟩;rw[hgq]at hgvq hQ3 ⊢
 have hgq':gq<=w2.heap.size:=by omega
 clear hgq;go_wp2;go_loopw [15] (fun iv wr=>∃(k:Nat) (ul qs:List Nat),k<=n1-n2+1/\iv= .int .i64 ((k:Int)-1)/\jO wr gu ul/\jO wr gq qs/\jO wr gv vz/\Below w.heap.size w wr/\ul.length=n1+1/\qs.length=n1-n2+1∧
   Hid (zEG (nat xs*2^s) (nat ys*2^s) n2 k ul qs)) (fun iv _=>(intOf iv+1).toNat)
 case atStart=>exact⟨n1-n2+1,us,_,xgf _,by go_num,hU3,hQ3,hV3,hB3,p5,by simp,HST0.out⟩
 case round=>
  obtain⟨k,ul,qs,hk,rfl,hU,hQ,hV,hB,hul,hql,HDS⟩:=hrel;have HUL:=Lib.hid hul;have HQL:=Lib.hid hql;have hul':n1+1<=ul.length:=by omega
  have hql':n1-n2+1<=qs.length:=by omega
  clear hul hql;cases k with
  | zero=>
   have hmk2:=fun W=>mkU (n2:Int) n2 rfl oM W
   go_upto_block 3 with(fail)
   clear hmk2;refine zB ?_;intro W5 hW5;obtain⟨gr,hgr⟩:∃g,wr.heap.size=g:=⟨_,rfl⟩;have hU5:jO W5 gu ul:=by rw[hW5.out];exact hU.alloc _
   have hQ5:jO W5 gq qs:=by rw[hW5.out];exact hQ.alloc _
   have hR5:jO W5 gr (List.replicate n2 0):=by rw[hW5.out,<-hgr];exact jO.made _ _
   have hB5:Below w.heap.size w W5:=by rw[hW5.out];exact hB.alloc hB.size _
   have hgru:gu<gr:=by rw[<-hgr];exact hU.lt
   have hgrq:gq<gr:=by rw[<-hgr];exact hQ.lt
   rw[hgr];have hmod:Hid (ul.getD 0 0%2^s=0):=by
    show _=_;rw[<-zOI hs32 oM];have h1:=HDS.out.eq;rw[xgk,Nat.pow_zero,Nat.mul_one,<-Nat.mul_assoc]at h1;have h2:(nat xs*2^s)%2^s=0:=Nat.mul_mod_left _ _;rw[h1,Nat.mul_comm (nat qs*nat ys),Nat.mul_add_mod]at h2;exact h2
   have hlt0:Hid (nat ul<nat ys*2^s):=by have:=HDS.out.lt;rwa[xgk]at this
   have hzero:Hid (ul.getD n2 0=0/\nat (ul.take n2)=nat ul):=by
    have h0:=HDS.out.zero HVB.out oM;rw[Nat.zero_add]at h0;have h1:=zAD ul n2 oM;have h2:=jP ul n2 oM;rw[h0]at h1 h2;exact⟨by omega,by rw[h1,Nat.mul_zero,Nat.add_zero]⟩
   clear hW5 hgr;obtain⟨W6,rfl⟩:∃W:World,W=W5:=⟨_,rfl⟩;go_wp2;go_loopw [103] (fun iv wr=>∃(k:Nat) (rs:List Nat),k<=n2/\iv= .int .i64 k/\jO wr gu ul/\jO wr gq qs/\jO wr gr rs/\Below w.heap.size w wr/\n2<=rs.length∧
     Hid (rs.length=n2/\qR rs/\nat (rs.take k)*2^s=nat (ul.take k)+(ul.getD k 0%2^s)*B32^k)) (fun iv _=>n2-(intOf iv).toNat)
   case atStart=>exact⟨0,_,by omega,rfl,hU5,hQ5,hR5,hB5,by simp,⟨by simp,fun x hx=>by rw[List.eq_of_mem_replicate hx];exact jA,by rw[hmod.out,List.take_zero,List.take_zero,nat_nil,Nat.zero_mul,Nat.zero_mul]⟩⟩
   case round=>
    obtain⟨k,rs,hk,rfl,hU7,hQ7,hR7,hB7,hrl,HH⟩:=hrel;by_cases hkn:k<n2
    ·obtain⟨xa,hxa⟩:∃a,ul.getD (k+1) 0=a:=⟨_,rfl⟩
     obtain⟨xb,hxb⟩:∃a,ul.getD k 0=a:=⟨_,rfl⟩;have ha32:xa<4294967296:=by rw[<-hxa];exact HDS.out.lim.get _
     have hb32:xb<4294967296:=by rw[<-hxb];exact HDS.out.lim.get _
     have c1:=hU7.cell (k:=k+1) oM;have c2:=hU7.cell (k:=k) oM;have c3:=hR7.cell (k:=k) oM;have c4:=hR7.frozen k;rw[hxa]at c1;rw[hxb]at c2;have HXA:=Lib.hid hxa;have HXB:=Lib.hid hxb;obtain⟨m,hm⟩:∃m,xa*4294967296+xb=m:=⟨_,rfl⟩;have eo:=zId xa xb ha32 hb32;rw[hm]at eo;have HM:=Lib.hid hm;clear hm;have ew1:IntKind.u64.wrap (xa:Int)=(xa:Int):=by rw[IntKind.wrap_u64];omega
     have ew2:IntKind.u64.wrap (xb:Int)=(xb:Int):=by rw[IntKind.wrap_u64];omega
     have ew3:IntKind.u64.wrap ((xa:Int)*4294967296)=(xa:Int)*4294967296:=by rw[IntKind.wrap_u64];omega
     have i1:IntKind.i64.wrap ((k:Int)+1)=(k:Int)+1:=IntWalk.i64_in _ oM;have i2:((k:Int)+1).toNat=k+1:=by omega
     have i3:(0:Int)<=(k:Int)+1:=by omega
     have i4:(0:Int)<=(k:Int):=by omega
     have i5:(k:Int)<(n2:Int):=by omega
     have i6:(k:Int)+1<(n1:Int)+1:=by omega
     have i7:(k:Int)<(n1:Int)+1:=by omega
     clear hxa hxb;go_wp2;go_region_held3 (fun w'=>w'.cell? ⟨gu,k+1,none⟩=some (.int .u32 (xa:Nat))/\w'.cell? ⟨gu,k,none⟩=some (.int .u32 (xb:Nat)))
      ((((try go_split_ands);(repeat' apply And.intro))<;>first|exact yH (by assumption)|exact zAB (by assumption) oM)) (fail)
     go_wp2;go_roundw
     case rel=>
      have hv:((m/2^s%4294967296:Nat):Int)=IntKind.u32.wrap ((m:Int)/2^s):=by rw[IntKind.wrap_u32];simp
      have hst:=zHH (ul:=ul) (rs:=rs) (k:=k) (s:=s) (v:=m/2^s%4294967296) hs32 ha32 hb32 HXA.out HXB.out oM (by rw[HM.out]) HH.out.2.2
      (repeat apply Exists.intro)
      exact⟨⟨k+1,rs.set k (m/2^s%4294967296),by omega,by go_num,(Below.heap_setCell _ _ _ _ (by simp;omega)).trans hU7,(Below.heap_setCell _ _ _ _ (by simp;omega)).trans hQ7,hR7.set' _ _ _ (by first|exact hv.symm|(rw[hv];done)|(rw[hv];simp)),(hB7.setCell (p:=⟨gr,k,none⟩) (by show _<=gr;omega) _).drew,by simpa using hrl,
       ⟨by simpa using HH.out.1,HH.out.2.1.set _ _ (Nat.mod_lt _ dE),hst⟩⟩,rfl⟩
     case measure=>simp[intOf];omega
    ·obtain rfl:n2=k:=by omega
     go_wp2;go_ret2;have h1:=HH.out.2.2;rw[hzero.out.1,Nat.zero_mod,Nat.zero_mul,Nat.add_zero,hzero.out.2,zJ rs (by rw[HH.out.1];exact xgf _)]at h1;have h2:=HDS.out.eq;rw[xgk,Nat.pow_zero,Nat.mul_one,<-h1,<-Nat.mul_assoc,<-Nat.add_mul]at h2;have h3:=hlt0.out;rw[<-h1]at h3;have hp:0<2^s:=Nat.pow_pos oM;exact⟨_,_,_,qs,_,_,_,rs,rfl,HQL.out,xgf _,by omega,hQ7.at_ HDS.out.qlim,HH.out.1,xgf _,by omega,hR7.at_ HH.out.2.1,Nat.eq_of_mul_eq_mul_right hp h2,Nat.lt_of_mul_lt_mul_right h3,hB7⟩
  | succ k=>
   have hfr:=hQ.frozen k;have hcz:=hQ.cell (k:=k) oM;go_wp2_with fail
   rw[show k+n2+1-k=n2+1 by omega];refine(HDIG.out _ _ _ ul hU HDS.out.lim ((hV.at_ s1).take n2) oM ?_).mono ?_
   ·rw[HDS.out.seg_eq HVB.out oM,HVT.out]
    exact HDS.out.small oM
   rintro e w4 ⟨q,rs,rfl,t1,t2,t3,t4,t5,t6,t7⟩;have hQ4:jO w4 gq qs:=(t7.block gq hQ.lt (by simp;omega)).trans hQ;have hV4:jO w4 gv vz:=(t7.block gv hV.lt (by simp;omega)).trans hV;have hfr4:=hQ4.frozen k;have hcz4:=hQ4.cell (k:=k) oM;have hB4:Below w.heap.size w w4:=hB.grown t7 hB.size (fun k hk=>by injection hk with hk;omega);rw[HVT.out]at t4 t5;have hds:=HDS.out.step HVB.out oM oM t1 t2 t3 t4 t5;have HDS':=Lib.hid hds;clear hcz hfr t4 t5 hds;go_wp2;go_roundw
   case rel=>
    refine⟨k,put ul k rs,qs.set k q,by omega,by go_num,?_,?_,?_,?_,?_,?_,HDS'.out⟩
    ·exact(Below.heap_setCell _ _ _ _ (by simp;omega)).trans t6
    ·exact hQ4.set' _ _ _ rfl
    ·exact(Below.heap_setCell _ _ _ _ (by simp;omega)).trans hV4
    ·exact hB4.setCell (by simp;omega) _
    ·rw[zBY (by rw[t2];omega)];exact HUL.out
    ·simp[HQL.out]
   case measure=>simp[intOf]
theorem zDR(ao1 ao2:Option Addr)(n1 cap1 n2 cap2:Nat)(xs ys:List Nat)(w:World)(hn1:xs.length=n1)(hn2:ys.length=n2)(hl1:n1<=cap1)(hl2:n2<=cap2)
  (hc1:cap1<=9223372036854775807) (hc2:cap2<=9223372036854775807) (hb1:n1<=2*LIM) (hb2:n2<=2*LIM) (hx1:zG w ao1 xs) (hx2:zG w ao2 ys) (hN1:qM xs) (hN2:qM ys) (hy:0<nat ys):
  Calls Tryz.prog 228 #[.slice ao1 n1 cap1,.slice ao2 n2 cap2] w (zEK w (nat xs) (nat ys)):=by
 rcases Nat.lt_or_ge (nat xs) (nat ys)with h|h
 ·exact zHZ ao1 ao2 n1 cap1 n2 cap2 xs ys w hn1 hn2 hl1 hl2 hc1 hc2 hb1 hb2 hx1 hx2 hN1 hN2 hy h
 ·by_cases h2:n1<=2
  ·exact zI9 ao1 ao2 n1 cap1 n2 cap2 xs ys w hn1 hn2 hl1 hl2 hc1 hc2 hb1 hb2 hx1 hx2 hN1 hN2 hy h h2
  ·by_cases h1:n2=1
   ·exact zGf ao1 ao2 n1 cap1 n2 cap2 xs ys w hn1 hn2 hl1 hl2 hc1 hc2 hb1 hb2 hx1 hx2 hN1 hN2 hy h oM h1
   ·have h0:n2≠0:=by
     rintro rfl;have:ys= []:=List.eq_nil_of_length_eq_zero hn2;subst this;simp at hy
    exact zHa ao1 ao2 n1 cap1 n2 cap2 xs ys w hn1 hn2 hl1 hl2 hc1 hc2 hb1 hx1 hx2 hN1 hN2 h oM oM
end Go.Proofs.YtnbmaipobhppcaaGreat
