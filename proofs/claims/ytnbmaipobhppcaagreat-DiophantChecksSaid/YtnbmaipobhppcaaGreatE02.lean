/- One digit of a long division, in place. Division of limbs. Division of limbs: the call. Division of limbs: the long case, and all cases. integer.DivMod. The reference's integers, first part: Made, Of, Sign, Valid, Neg, Abs. The reference's integers, second part: Sign, Valid, Neg, Abs, less, Same. The reference's integers, third part: plus, minus. The reference's integers, fourth part: minus, Add, Sub, Cmp. The reference's integers, fifth part: Sub, Cmp, Same. The reference's integers, sixth part: Mul. -/
import Derived.Test.YtnbmaipobhppcaaGreatE01
set_option linter.unusedVariables false
set_option linter.unusedSimpArgs false
set_option linter.unusedSectionVars false
set_option maxHeartbeats 16000000
set_option maxRecDepth 100000
namespace Go.Proofs.YtnbmaipobhppcaaGreat
open Go.RowKit
theorem zG3(w:World)(g:Nat):w.grownBy w (some g):=⟨rfl,rfl,rfl,xgf _,fun _ _ _=>rfl⟩
theorem zC9{a w:World}{g:Nat}(h:a.grownBy w (some g))(i:Nat)(u:Value):a.grownBy (w.setCell ⟨g,i,none⟩ u) (some g):=
 ⟨h.os,h.tape,h.output,by simpa[World.setCell]using h.size,fun k hk hne=>(Below.heap_setCell w ⟨g,i,none⟩ u k (fun e=>hne (by rw[e]))).trans (h.block k hk hne)⟩
theorem zJk{a w:World}{g:Nat}(h:a.grownBy w (some g))(n:Nat):a.grownBy (w.drewN n) (some g):=⟨h.os,h.tape,h.output,h.size,h.block⟩
theorem zG2{a w:World}{g b o:Nat}{v:Value}(h:a.grownBy w (some g))(hne:b≠g)(hc:a.cell? ⟨b,o,none⟩=some v):w.cell? ⟨b,o,none⟩=some v:=
 (World.cell?_of_block (w:=a) (h.block b (World.block_lt_of_cell? a _ hc) (fun e=>hne (by injection e)))).trans hc
theorem zFd{a b c:World}{g:Nat}(h:a.grownBy b (some g))(k:b.grownBy c (some g)):a.grownBy c (some g):=
 ⟨k.os.trans h.os,k.tape.trans h.tape,k.output.trans h.output,Nat.le_trans h.size k.size,fun i hi hne=>(k.block i (Nat.lt_of_lt_of_le hi h.size) hne).trans (h.block i hi hne)⟩
theorem zK5{rr rs:List Nat}{k v:Nat}(h:rr.length=k)(hk:k<rs.length):(rr++rs.drop k).set k v=(rr++ [v])++rs.drop (k+1):=by
 rw[List.set_append_right _ _ oM,h,Nat.sub_self,List.drop_eq_getElem_cons hk,xgi];simp
theorem zOc{rr rs:List Nat}{k:Nat}(h:rr.length=k)(hk:k<rs.length):(rr++rs.drop k).getD k 0=rs.getD k 0:=by
 simp only[xgb];rw[List.getElem?_append_right oM,h,Nat.sub_self,List.getElem?_drop,Nat.add_zero]
theorem zNV{a c lv P V U Q nms:Nat}(h1:a+c*P=nms+V)(h2:nms+P*lv+(Q+1)*V=U+P*4294967296)(ha:a<P)(hV:V<P)(hU:U<(Q+1)*V)(hQ:Q*V<=U)(hlv:lv<4294967296)(hc:c<=1):
  lv+c=4294967296/\U=Q*V+a:=by
 rw[Nat.add_mul,Nat.one_mul]at h2 hU;rcases(show c=0∨c=1 by omega)with rfl|rfl
 ·exfalso
  have h3:P*lv+P<=P*4294967296:=by rw[<-Nat.mul_succ];exact Nat.mul_le_mul_left P hlv
  omega
 ·rcases Nat.lt_or_ge lv 4294967295 with h4|h4
  ·exfalso
   have h3:P*lv+P+P<=P*4294967296:=by
    have:=Nat.mul_le_mul_left P (show lv+2<=4294967296 by omega);rw[Nat.mul_add]at this;omega
   omega
  ·obtain rfl:lv=4294967295:=by omega
   exact⟨rfl,by omega⟩
def zMF(w:World)(g off n:Nat)(ua vs:List Nat)(e:Ending)(w':World):Prop:=
 ∃(q:Nat) (rs:List Nat),e= .returned (.int .u32 (q:Nat))/\q<4294967296/\rs.length=n+1/\qT rs/\nat (seg ua off (n+1))=q*nat vs+nat rs/\nat rs<nat vs/\jQ w' g (put ua off rs)/\w.grownBy w' (some g)
theorem zEs(x y d:Nat)(hx:x<4294967296)(hy:y<4294967296)(hd:d<=1):
  ∃v e:Nat,IntKind.u32.wrap (IntKind.u64.wrap (IntKind.u64.wrap ((x:Int)-y)-d))=v/\IntKind.u64.wrap (IntKind.u64.wrap ((x:Int)-y)-d)/9223372036854775808=e/\v<4294967296/\e<=1/\v+y+d=x+e*4294967296:=by
 simp only[IntKind.wrap_u64,IntKind.wrap_u32];by_cases h:y+d<=x
 ·exact⟨x-y-d,0,by omega,by omega,by omega,by omega,by omega⟩
 ·exact⟨x+4294967296-y-d,1,by omega,by omega,by omega,by omega,by omega⟩
theorem zN6(m:Nat)(h:m<18446744073709551616):bits BinOp.and IntKind.u64 (m:Int) 4294967295=((m%4294967296:Nat):Int):=by
 have h1:=u64_and_nat m 4294967295 h oM;have h2:m &&& 4294967295=m%4294967296:=Nat.and_two_pow_sub_one_eq_mod m 32;rw[h2]at h1;exact h1
theorem zOw{q Q U V R:Nat}(h1:R+q*V=U)(h2:U<(Q+1)*V)(h3:Q<=q):R<V:=by
 have:Q*V<=q*V:=Nat.mul_le_mul_right V h3;rw[Nat.add_mul,Nat.one_mul]at h2;omega
theorem zQR{q Q U V R P:Nat}(h1:R+q*V=U+P)(hR:R<P)(h2:U<(Q+1)*V)(h3:Q*V<=U)(h4:q<=Q+1∨q*V<U+V):q=Q+1:=by
 have a:Q<q:=by
  rcases Nat.lt_or_ge Q q with h|h
  ·exact h
  ·have:=Nat.mul_le_mul_right V h;omega
 rcases h4 with h4|h4
 ·omega
 ·rcases Nat.lt_or_ge (Q+1) q with h|h
  ·have:=Nat.mul_le_mul_right V h
   rw[Nat.add_mul (Q+1) 1,Nat.one_mul]at this;omega
  ·omega
theorem zKa(g off cap b2 off2 n cap2:Nat)(ua vs:List Nat)(w:World)(hU:jQ w g ua)(hul:qT ua)(hv:zG w (some ⟨b2,off2,none⟩) vs)(hsep:b2≠g)(hn:vs.length=n)(hn2:2<=n)
  (hlen:off+n<ua.length) (hb:n<=4*LIM) (hhigh:2147483648<=vs.getD (n-1) 0) (hQ:nat (seg ua off (n+1))<nat vs*4294967296):
  Calls Tryz.prog 267 #[.slice (some ⟨g,off,none⟩) (n+1) cap,.slice (some ⟨b2,off2,none⟩) n cap2] w (zMF w g off n ua vs):=by
 have HN:=Lib.hid hn;have HQ:=Lib.hid hQ;have hlv:n<=vs.length:=by omega
 have hcv:∀k,k<n->w.cell? ⟨b2,off2+k,none⟩=some (.int .u32 (vs.getD k 0:Nat)):=fun k hk=>by
  obtain⟨b,o,e1,_,e2⟩:=hv.cell (k:=k) oM;injection e1 with e1;injection e1 with e1 e3;subst e1;subst e3
  exact e2
 obtain⟨hi,HHI⟩:∃x,vs.getD (n-1) 0=x:=⟨_,rfl⟩;obtain⟨v2,HV2⟩:∃x,vs.getD (n-2) 0=x:=⟨_,rfl⟩;obtain⟨x0,HX0⟩:∃x,ua.getD (off+n) 0=x:=⟨_,rfl⟩;obtain⟨x1,HX1⟩:∃x,ua.getD (off+(n-1)) 0=x:=⟨_,rfl⟩;obtain⟨x2,HX2⟩:∃x,ua.getD (off+(n-2)) 0=x:=⟨_,rfl⟩;have f1:=hcv (n-1) oM;have f2:=hcv (n-2) oM;have f3:=hU.cell (k:=off+n) oM;have f4:=hU.cell (k:=off+(n-1)) oM;have f5:=hU.cell (k:=off+(n-2)) oM;have hhi:hi<4294967296:=by rw[<-HHI];exact hv.1.get _
 have hv2:v2<4294967296:=by rw[<-HV2];exact hv.1.get _
 have hx0:x0<4294967296:=by rw[<-HX0];exact hul.get _
 have hx1:x1<4294967296:=by rw[<-HX1];exact hul.get _
 have hx2:x2<4294967296:=by rw[<-HX2];exact hul.get _
 rw[HHI]at f1 hhigh;rw[HV2]at f2;rw[HX0]at f3;rw[HX1]at f4;rw[HX2]at f5;have GHI:=Lib.hid HHI;have GV2:=Lib.hid HV2;have GX0:=Lib.hid HX0;have GX1:=Lib.hid HX1;have GX2:=Lib.hid HX2;have HCV:=Lib.hid hcv;clear HHI HV2 HX0 HX1 HX2 hn hcv hQ;rw[qW]at hb;obtain⟨top,htop⟩:∃t,x0*4294967296+x1=t:=⟨_,rfl⟩;have eo:=zIw x0 x1 hx0 hx1;rw[htop]at eo;have ht64:top<18446744073709551616:=by omega
 obtain⟨U,hUU⟩:∃U,nat (seg ua off (n+1))=U:=⟨_,rfl⟩;obtain⟨V,hVV⟩:∃V,nat vs=V:=⟨_,rfl⟩;obtain⟨Q,hQQ⟩:∃Q,U/V=Q:=⟨_,rfl⟩;have hV0:0<V:=by
  rcases Nat.eq_zero_or_pos V with h|h
  ·have:=HQ.out;rw[hUU,hVV,h]at this;omega
  ·exact h
 have K:∃p Ul Vl,U=(top*4294967296+x2)*p+Ul/\V=(hi*4294967296+v2)*p+Vl/\0<p/\Ul<p/\Vl<p/\Q*V<=U/\Q<4294967296/\U<V*4294967296/\U<(Q+1)*V:=by
  obtain⟨m,rfl⟩:∃m,n=m+2:=⟨n-2,by omega⟩;obtain⟨Vl,h1,h2⟩:=zM2 hv.1 HN.out;obtain⟨Ul,h3,h4⟩:=zM3 (hul.seg off (m+2+1)) (zFh oM);have hg:∀k,k<m+3->(seg ua off (m+2+1)).getD k 0=ua.getD (off+k) 0:=fun k hk=>by
   unfold seg;simp only[xgb,List.getElem?_take,List.getElem?_drop];rw[if_pos oM]
  have a1:=GHI.out;have a2:=GV2.out;have a3:=GX0.out;have a4:=GX1.out;have a5:=GX2.out;rw[show m+2-1=m+1 by omega]at a1 a4;rw[show m+2-2=m by omega]at a2 a5;rw[hVV,a1,a2,yQ]at h2;rw[hUU,hg (m+2) oM,hg (m+1) oM,hg m oM,a3,a4,a5,yQ,htop]at h4;refine⟨B32^m,Ul,Vl,h4,h2,Nat.pow_pos yZ,h3,h1,?_,?_,?_,?_⟩
  ·rw[<-hQQ];exact Nat.div_mul_le_self U V
  ·rw[<-hQQ,Nat.div_lt_iff_lt_mul hV0,Nat.mul_comm];have:=HQ.out;rwa[hUU,hVV]at this
  ·have:=HQ.out;rwa[hUU,hVV]at this
  ·rw[<-hQQ,Nat.add_mul,Nat.one_mul,Nat.mul_comm];exact Nat.lt_mul_div_succ U hV0
 obtain⟨p,Ul,Vl,k1,k2,k3,k4,k5,k6,k7,k8,k9⟩:=K;have kdec:=fun q r a b c=>zPe (q:=q) (r:=r) k1 k2 k3 k4 k5 hx2 hv2 hhigh hhi k6 k7 k8 a b c
 have kout:=fun q r a b=>zOV (q:=q) (r:=r) k1 k2 k3 k4 k5 hx2 hv2 hhigh hhi k6 k7 k8 a b
 have kle:=fun q r a b c=>zQM (q:=q) (r:=r) k1 k2 k3 k4 k5 hx2 hv2 hhigh hhi k6 k7 k8 a b c
 have kini:Hid (Q<=top/hi):=zOU k1 k2 k3 k4 k5 hx2 hv2 hhigh hhi k6 k7 k8;have kfst:top/hi<=4294967297:=zMq k1 k2 k3 k4 k5 hx2 hv2 hhigh hhi k6 k7 k8;have KDEC:=Lib.hid kdec;have KOUT:=Lib.hid kout;have KLE:=Lib.hid kle;have K67:Hid (Q*V<=U/\Q<4294967296/\U<(Q+1)*V/\nat (seg ua off (n+1))=U/\nat vs=V):=⟨k6,k7,k9,hUU,hVV⟩;clear kdec kout kle k1 k2 k3 k4 k5 k6 k7 k8 k9 hUU hVV hQQ htop HQ;have i1:IntKind.i64.wrap ((n:Int)-1)=(n:Int)-1:=IntWalk.i64_in _ oM;have i2:((n:Int)-1).toNat=n-1:=by omega
 have i3:(0:Int)<=(n:Int)-1:=by omega
 go_enter Tryz.func267,Tryz.ntmps267;go_wp2;go_quiet (fail);go_wp2;go_quiet (fail);go_upto_block 0 with(fail)
 clear i1 i2 i3 eo;go_cut [8] (fun qv wr=>∃q k:Nat,qv= .int .u64 q/\q<4294967296/\Hid (wr=w.drewN k)/\Hid (Q<=q/\(q<=Q+1∨q*V<U+V)))
 case first=>
  go_wp2;go_loopw [8,9] (fun qv rv wr=>∃q r k:Nat,qv= .int .u64 q/\rv= .int .u64 r/\q<=4294967297/\r<4294967296/\Hid (wr=w.drewN k)/\Hid (Q<=q/\q*hi+r=top)) (fun qv _ _=>(intOf qv).toNat)
  case atStart=>
   refine⟨top/hi,top%hi,_,?_,?_,kfst,?_,by show _=_;rw[World.drewN_drewN],kini.out,?_⟩
   ·congr 1
    rw[show(top:Int)/(hi:Int)=((top/hi:Nat):Int) by simp,IntKind.wrap_u64];generalize top/hi=t at kfst;omega
   ·simp
   ·exact Nat.lt_trans (Nat.mod_lt _ oM) hhi
   ·rw[Nat.mul_comm];exact Nat.div_add_mod _ _
  case round=>
   obtain⟨q,r,k,rfl,rfl,hq,hr,HW,HH⟩:=hrel;have g2:wr.cell? ⟨b2,off2+(n-2),none⟩=some (.int .u32 (v2:Nat)):=by rw[HW.out];exact f2
   have g5:wr.cell? ⟨g,off+(n-2),none⟩=some (.int .u32 (x2:Nat)):=by rw[HW.out];exact f5
   have i1:IntKind.i64.wrap ((n:Int)-2)=(n:Int)-2:=IntWalk.i64_in _ oM;have i2:((n:Int)-2).toNat=n-2:=by omega
   have i3:(0:Int)<=(n:Int)-2:=by omega
   by_cases hbig:4294967295<q
   ·have hd:decide ((4294967295:Int)<(q:Int))=true:=by simp;omega
    have hdec:Hid (Q<=q-1):=KDEC.out q r HH.out.2 HH.out.1 (.inl hbig);have hqr:Hid ((q-1)*hi+(r+hi)=top):=by
     have h1:=HH.out.2;show _=_;rw[Nat.sub_mul,Nat.one_mul];have:hi<=q*hi:=Nat.le_mul_of_pos_left hi oM;omega
    by_cases hov:4294967295<r+hi
    ·have hout:Hid (q-1<4294967296/\(q-1)*v2<=(r+hi)*4294967296+x2):=KOUT.out (q-1) (r+hi) hqr.out hov
     have hle:Hid (q-1<=Q+1∨(q-1)*V<U+V):=KLE.out (q-1) (r+hi) hqr.out hout.out.1 hout.out.2;have hd3:(4294967295:Int)<(r:Int)+(hi:Int):=by omega
     go_wp2;go_quiet (fail);go_wp2;go_meet
     case rel=>exact⟨q-1,_,by go_num,hout.out.1,by show _=_;rw[HW.out,World.drewN_drewN],hdec.out,hle.out⟩
    ·have hd3:(r:Int)+(hi:Int)<=4294967295:=by omega
     go_wp2;go_quiet (fail);go_wp2;go_roundw
     case rel=>exact⟨q-1,r+hi,_,by go_num,by go_num,by omega,by omega,by show _=_;rw[HW.out,World.drewN_drewN],hdec.out,hqr.out⟩
     case measure=>simp[intOf];omega
   ·have hd:decide ((4294967295:Int)<(q:Int))=false:=by simp;omega
    obtain⟨hm2,hm3⟩:=zC5 (x:=q) oM hv2;have hm1:=zC4 (x:=q) oM hv2;have eo2:=zIw r x2 hr hx2;obtain⟨t,ht⟩:∃t,r*4294967296+x2=t:=⟨_,rfl⟩;rw[ht]at eo2;have HT:=Lib.hid ht;clear ht;by_cases htest:t<q*v2
    ·have hd2:decide ((t:Int)<(q:Int)*(v2:Int))=true:=by simp;rw[<-Int.natCast_mul];omega
     have hdec:Hid (Q<=q-1):=KDEC.out q r HH.out.2 HH.out.1 (.inr (by rw[HT.out];exact htest));have hq0:0<q:=by
      rcases Nat.eq_zero_or_pos q with h|h
      ·rw[h]at htest;simp at htest
      ·exact h
     clear htest;have hqr:Hid ((q-1)*hi+(r+hi)=top):=by
      have h1:=HH.out.2;show _=_;rw[Nat.sub_mul,Nat.one_mul];have:hi<=q*hi:=Nat.le_mul_of_pos_left hi oM;omega
     by_cases hov:4294967295<r+hi
     ·have hout:Hid (q-1<4294967296/\(q-1)*v2<=(r+hi)*4294967296+x2):=KOUT.out (q-1) (r+hi) hqr.out hov
      have hle:Hid (q-1<=Q+1∨(q-1)*V<U+V):=KLE.out (q-1) (r+hi) hqr.out hout.out.1 hout.out.2;have hd3:(4294967295:Int)<(r:Int)+(hi:Int):=by omega
      go_wp2;go_quiet (fail);go_wp2;go_meet
      case rel=>exact⟨q-1,_,by go_num,hout.out.1,by show _=_;rw[HW.out,World.drewN_drewN],hdec.out,hle.out⟩
     ·have hd3:(r:Int)+(hi:Int)<=4294967295:=by omega
      go_wp2;go_quiet (fail);go_wp2;go_roundw
      case rel=>exact⟨q-1,r+hi,_,by go_num,by go_num,by omega,by omega,by show _=_;rw[HW.out,World.drewN_drewN],hdec.out,hqr.out⟩
      case measure=>simp[intOf];omega
    ·have hd2:decide ((t:Int)<(q:Int)*(v2:Int))=false:=by simp;rw[<-Int.natCast_mul];omega
     have hle:Hid (q<=Q+1∨q*V<U+V):=KLE.out q r HH.out.2 oM (by rw[HT.out];omega);clear htest;go_wp2;go_quiet (fail);go_wp2;go_meet
     case rel=>exact⟨q,_,rfl,by omega,by show _=_;rw[HW.out,World.drewN_drewN],HH.out.1,hle.out⟩
 case rest=>
  obtain⟨q,k,rfl,hqB,HW,HQ⟩:=hcut;have g0:Hid (∀k,k<n->wc.cell? ⟨b2,off2+k,none⟩=some (.int .u32 (vs.getD k 0:Nat))):=by rw[HW.out];exact HCV.out
  have hU1:jQ wc g ua:=by rw[HW.out];exact hU
  have HG1:w.grownBy wc (some g):=by rw[HW.out];exact zJk (zG3 w g) k
  clear HCV HW hU f1 f2 f3 f4 f5 KDEC KOUT KLE kini;obtain⟨w2,rfl⟩:∃w2:World,w2=wc:=⟨_,rfl⟩;go_wp2;go_loopw [10,11,76] (fun bv cv i wr=>∃(k b c:Nat) (ms:List Nat),k<=n/\i= .int .i64 k/\bv= .int .u64 b/\cv= .int .u64 c/\b<=1/\c<4294967296/\jQ wr g (put ua off ms)/\w2.grownBy wr (some g)∧
    Hid (ms.length=k/\qT ms/\nat ms+q*nat (vs.take k)=nat (seg ua off k)+(b+c)*B32^k)) (fun _ _ i _=>n-(intOf i).toNat)
  case atStart=>exact⟨0,0,0,[],by omega,rfl,rfl,rfl,by omega,by omega,by rw[zOv];exact hU1,zG3 _ _,⟨rfl,qT.nil,by simp[seg]⟩⟩
  case round=>
   obtain⟨k,b,c,ms,hk,rfl,rfl,rfl,hb1,hc1,hblk,hgr,HH⟩:=hrel;obtain⟨ml,hml⟩:∃l,ms.length=l:=⟨_,rfl⟩;by_cases hkn:k<n
   ·have hcz:=hblk.cell (k:=off+k) (by rw[zBa (by rw[HH.out.1];omega)];omega)
    rw[zI4 (by rw[HH.out.1];omega) (by rw[HH.out.1];exact xgf _)]at hcz;have hfr:=hblk.frozen (off+k);obtain⟨x,HX⟩:∃x,ua.getD (off+k) 0=x:=⟨_,rfl⟩;have hx32:x<4294967296:=by rw[<-HX];exact hul.get _
    rw[HX]at hcz;have HX':=Lib.hid HX;clear HX;have hcy:=zG2 hgr hsep (g0.out k hkn);obtain⟨y,HY⟩:∃y,vs.getD k 0=y:=⟨_,rfl⟩;have hy32:y<4294967296:=by rw[<-HY];exact hv.1.get _
    rw[HY]at hcy;have HY':=Lib.hid HY;clear HY hml;obtain⟨hm2,hm3⟩:=zC5 hqB hy32;have hm1:=zC4 hqB hy32;obtain⟨lo,hlo⟩:∃l,(c+q*y)%4294967296=l:=⟨_,rfl⟩;obtain⟨cn,hcn⟩:∃l,(c+q*y)/4294967296=l:=⟨_,rfl⟩;have ea:=zN6 (c+q*y) (by generalize q*y=m at*;omega);rw[hlo,Int.natCast_add,Int.natCast_mul]at ea;have hlo32:lo<4294967296:=by rw[<-hlo];exact Nat.mod_lt _ oM
    have hsum:Hid (c+q*y=cn*4294967296+lo):=by
     have:=Nat.div_add_mod (c+q*y) 4294967296;rw[hlo,hcn]at this;show _=_;omega
    have hcn32:cn<4294967296:=by rw[<-hcn];generalize q*y=m at*;omega
    have EC:Hid (((c:Int)+(q:Int)*(y:Int))/4294967296=(cn:Int)):=by
     show _=_;rw[<-hcn,<-Int.natCast_mul,<-Int.natCast_add,Int.natCast_ediv];rfl
    clear hlo hcn;go_wp2;go_roundw;obtain⟨v,e,e1,e2,e3,e4,e5⟩:=zEs x lo b hx32 hlo32 hb1
    case rel=>
     have hp:=zLP (us:=ua) (ms:=ms) (off:=off) (v:=v) (by rw[HH.out.1];omega);rw[HH.out.1]at hp;refine⟨k+1,e,cn,ms++ [v],by omega,by go_num,by rw[e2],by rw[EC.out],e4,hcn32,by rw[<-hp];exact hblk.set' _ _ v (by first|exact e1|omega),zC9 hgr _ _,⟨by simp[HH.out.1],HH.out.2.1.append (fun z hz=>by simp at hz;subst hz;exact e3),?_⟩⟩;have hst:=zK6 (us:=ua) (ms:=ms) (vs:=vs) (off:=off) (q:=q) (b:=b) (c:=c) (x:=x) (e:=y) (v:=v) (b':=e) (c':=cn) (by rw[HH.out.1];exact HH.out.2.2) (by rw[HH.out.1];omega) (by rw[HH.out.1];exact HX'.out) (by rw[HH.out.1];exact HY'.out) (by rw[hsum.out];omega);rw[HH.out.1]at hst;exact hst
    case measure=>simp[intOf];omega
   ·obtain rfl:n=k:=by omega
    have hpl:(put ua off ms).length=ua.length:=zBa (by rw[HH.out.1];omega);have hcz:=hblk.cell (k:=off+n) (by rw[hpl];omega);rw[zI4 (by rw[HH.out.1];omega) (by rw[HH.out.1];exact xgf _),GX0.out]at hcz;have hfr:=hblk.frozen (off+n);obtain⟨lv,le,e1,e2,e3,e4,e5⟩:=zEs x0 c b hx0 hc1 hb1;have hp:=zLP (us:=ua) (ms:=ms) (off:=off) (v:=lv) (by rw[HH.out.1];omega);rw[HH.out.1]at hp;have hfin:Hid (nat (ms++ [lv])+q*V=U+le*B32^(n+1)):=by
     obtain⟨h1,h2,h3⟩:=HH.out;obtain⟨j1,j2,j3,j4,j5⟩:=K67.out;rw[zJ vs (Nat.le_of_eq HN.out),j5]at h3;rw[<-j4,zDz oM,GX0.out];show _=_;rw[zAw,h1,Nat.pow_succ,yQ];rw[yQ]at h3;have h4:(lv+c+b)*4294967296^n=(x0+le*4294967296)*4294967296^n:=by rw[e5]
     generalize 4294967296^n=P at*;have h5:le*(P*4294967296)=le*4294967296*P:=by rw[Nat.mul_assoc,Nat.mul_comm P]
     rw[h5,Nat.mul_comm P lv];simp only[Nat.add_mul]at*;omega
    have hrl:qT (ms++ [lv]):=HH.out.2.1.append (fun z hz=>by simp at hz;subst hz;exact e3);have hrlen:(ms++ [lv]).length=n+1:=by simp[HH.out.1]
    have HP:=Lib.hid hp;have ewq:IntKind.u32.wrap (q:Int)=q:=zDo q hqB;rcases(show le=0∨le=1 by omega)with h01|h01
    ·subst h01
     have hdone:Hid (nat (seg ua off (n+1))=q*nat vs+nat (ms++ [lv])/\nat (ms++ [lv])<nat vs):=by
      obtain⟨j1,j2,j3,j4,j5⟩:=K67.out;have h1:=hfin.out;rw[Nat.zero_mul,Nat.add_zero]at h1;rw[j4,j5];exact⟨by omega,zOw h1 j3 HQ.out.1⟩
     have e2':IntKind.u64.wrap (IntKind.u64.wrap ((x0:Int)-c)-b)/9223372036854775808=0:=e2;clear e2 hp hfin;go_wp2;go_ret;exact⟨q,ms++ [lv],by first|rfl|(rw[ewq];rfl),hqB,hrlen,hrl,hdone.out.1,hdone.out.2,by rw[<-HP.out];exact hblk.set' _ _ lv (by first|exact e1|omega|(simp only[IntKind.wrap_u32,IntKind.wrap_u64];omega)),zFd HG1 (zC9 hgr _ _)⟩
    ·subst h01
     have e2':IntKind.u64.wrap (IntKind.u64.wrap ((x0:Int)-c)-b)/9223372036854775808=1:=e2;have hqQ:Hid (q=Q+1):=by
      obtain⟨j1,j2,j3,j4,j5⟩:=K67.out;have h2:=jZ hrl;rw[hrlen]at h2;have h1:=hfin.out;rw[Nat.one_mul]at h1;exact zQR h1 h2 j3 j1 HQ.out.2
     have hq1:1<=q:=by rw[hqQ.out];omega
     clear e2 hp;go_wp2;refine zB ?_;intro W3 hW3;have hb3:jQ W3 g (put ua off (ms++ [lv])):=by
      rw[hW3.out,<-HP.out];exact hblk.set' _ _ lv (by first|exact e1|omega|(simp only[IntKind.wrap_u32,IntKind.wrap_u64];omega))
     have hg3:w2.grownBy W3 (some g):=by rw[hW3.out];exact zC9 hgr _ _
     clear e1 e2' hcz hfr hW3;go_loopw [11,128] (fun cv i wr=>∃(k c:Nat) (rr:List Nat),k<=n/\i= .int .i64 k/\cv= .int .u64 c/\c<=1/\jQ wr g (put ua off (rr++(ms++ [lv]).drop k))/\w2.grownBy wr (some g)∧
       Hid (rr.length=k/\qT rr/\nat rr+c*B32^k=nat ((ms++ [lv]).take k)+nat (vs.take k))) (fun _ i _=>n-(intOf i).toNat)
     case atStart=>exact⟨0,0,[],by omega,rfl,rfl,by omega,by simpa using hb3,hg3,⟨rfl,qT.nil,by simp⟩⟩
     case round=>
      obtain⟨k,c2,rr,hk,rfl,rfl,hc2,hblk4,hgr4,HH4⟩:=hrel;have hal:(rr++(ms++ [lv]).drop k).length=n+1:=by rw[List.length_append,List.length_drop,hrlen,HH4.out.1];omega
      have hpl4:(put ua off (rr++(ms++ [lv]).drop k)).length=ua.length:=zBa (by rw[hal];omega);have hcz:=hblk4.cell (k:=off+k) (by rw[hpl4];omega);rw[zIB (by rw[hal];omega) (by rw[hal];omega),zOc HH4.out.1 (by rw[hrlen];omega)]at hcz;have hfr:=hblk4.frozen (off+k);have hps:=fun v=>zJl (us:=ua) (ms:=rr++(ms++ [lv]).drop k) (off:=off) (k:=k) (v:=v) (by rw[hal];omega) (by rw[hal];omega)
      have HPS:=Lib.hid hps;clear hps;obtain⟨x,HX⟩:∃x,(ms++ [lv]).getD k 0=x:=⟨_,rfl⟩;have hx32:x<4294967296:=by rw[<-HX];exact hrl.get _
      rw[HX]at hcz;have HX':=Lib.hid HX;clear HX hal hpl4;by_cases hkn:k<n
      ·have hcy:=zG2 hgr4 hsep (g0.out k hkn)
       obtain⟨y,HY⟩:∃y,vs.getD k 0=y:=⟨_,rfl⟩;have hy32:y<4294967296:=by rw[<-HY];exact hv.1.get _
       rw[HY]at hcy;have HY':=Lib.hid HY;clear HY;go_wp2;go_roundw
       case rel=>
        refine⟨k+1,(c2+(x+y))/4294967296,rr++ [(c2+(x+y))%4294967296],by omega,by go_num,by go_num,by omega,?_,zC9 hgr4 _ _,⟨by simp[HH4.out.1],HH4.out.2.1.append (fun z hz=>by simp at hz;subst hz;exact Nat.mod_lt _ dE),?_⟩⟩
        ·rw[<-zK5 HH4.out.1 (by rw[hrlen];omega),<-HPS.out]
         exact hblk4.set' _ _ _ sI
        ·have hst:=zGa (ms:=ms++ [lv]) (vs:=vs) (rr:=rr) (c:=c2) (x:=x) (e:=y) (by rw[HH4.out.1];exact HH4.out.2.2) (by rw[HH4.out.1];exact HX'.out) (by rw[HH4.out.1];exact HY'.out)
         rw[HH4.out.1]at hst;exact hst
       case measure=>simp[intOf];omega
      ·obtain rfl:n=k:=by omega
       have hxl:Hid (x=lv):=by
        show _=_;rw[<-HX'.out,xgb,List.getElem?_append_right (by rw[HH.out.1];exact xgf _),HH.out.1];simp
       obtain⟨hsum,hU2⟩:x+c2=4294967296/\U=Q*V+nat rr:=by
        obtain⟨j1,j2,j3,j4,j5⟩:=K67.out;have h1:=HH4.out.2.2;rw[List.take_append_of_le_length (by rw[HH.out.1];exact xgf _),zJ ms (by rw[HH.out.1];exact xgf _),zJ vs (Nat.le_of_eq HN.out),j5]at h1;have h2:=hfin.out;rw[zAw,HH.out.1,Nat.one_mul,hqQ.out,Nat.pow_succ,yQ]at h2;have h3:=jZ HH4.out.2.1;rw[HH4.out.1]at h3;have h4:=jZ hv.1;rw[HN.out,j5]at h4;rw[hxl.out];rw[yQ]at h1 h3 h4;exact zNV h1 h2 h3 h4 j3 j1 e3 hc2
       have HS:=Lib.hid hU2;have ew0:IntKind.u32.wrap ((x:Int)+(c2:Int))=0:=by rw[IntKind.wrap_u32];omega
       clear hU2;go_wp2;go_ret;refine⟨q-1,rr++ [0],?_,by omega,by simp[HH4.out.1],HH4.out.2.1.append (fun z hz=>by simp at hz;subst hz;exact yZ),?_,?_,?_,zFd HG1 (zC9 hgr4 _ _)⟩
       ·show Ending.returned (.int .u32 ((q:Int)-1))=Ending.returned (.int .u32 ((q-1:Nat):Int))
        congr 2;omega
       ·obtain⟨j1,j2,j3,j4,j5⟩:=K67.out
        rw[j4,j5,zAw,Nat.mul_zero,Nat.add_zero,HS.out,hqQ.out,Nat.add_sub_cancel]
       ·obtain⟨j1,j2,j3,j4,j5⟩:=K67.out
        rw[zAw,Nat.mul_zero,Nat.add_zero,j5];have:=HS.out;rw[Nat.add_mul,Nat.one_mul]at j3;omega
       ·have hm:=zK5 (rr:=rr) (rs:=ms++ [lv]) (k:=n) (v:=0) HH4.out.1 (by rw[hrlen];omega)
        rw[List.drop_eq_nil_of_le (show(ms++ [lv]).length<=n+1 by rw[hrlen];exact xgf _),List.append_nil]at hm;rw[<-hm,<-HPS.out];exact hblk4.set' _ _ 0 (by first|rfl|exact ew0|omega)
/-! ### plain -/
theorem zAF(xs:List Nat)(k:Nat)(h:k<=xs.length):nat xs=nat (xs.take k)+B32^k*nat (xs.drop k):=by
 have:=zBY (xs.take k) (xs.drop k);rw[List.take_append_drop,List.length_take,Nat.min_eq_left h]at this;exact this
theorem zNB{us ms:List Nat}{off:Nat}(h:off<=us.length):(put us off ms).drop off=ms++us.drop (off+ms.length):=by
 unfold put;rw[List.append_assoc,List.drop_append,List.drop_eq_nil_of_le (by simp;omega)];simp[Nat.min_eq_left h]
theorem zNC{us ms:List Nat}{off:Nat}(h:off<=us.length):(put us off ms).take off=us.take off:=by
 unfold put;rw[List.append_assoc,List.take_append_of_le_length (by simp;omega),List.take_take,Nat.min_self]
theorem zKb(a V p B t q r:Nat):a*V*(p*B)+(t+p*(q*V+r))=(q+B*a)*V*p+(t+p*r):=by
 simp only[Nat.add_mul,Nat.mul_add];have e1:a*V*(p*B)=B*a*V*p:=by simp only[Nat.mul_assoc,Nat.mul_comm,Nat.mul_left_comm]
 have e2:p*(q*V)=q*V*p:=Nat.mul_comm _ _;omega
structure zEL(X V:Nat)(n k:Nat)(ul qs:List Nat):Prop where
 lim:qT ul
 qlim:qT qs
 eq:X=nat (qs.drop k)*V*B32^k+nat ul
 lt:nat (ul.drop k)<V
theorem zEL.zero{X V n k:Nat}{ul qs:List Nat}(h:zEL X V n k ul qs)(hV:V<B32^n)(hl:k+n<=ul.length):nat (ul.drop (k+n))=0:=by
 have h1:=zAF (ul.drop k) n (by simp;omega);rw[List.drop_drop]at h1;have h2:=h.lt;rcases Nat.eq_zero_or_pos (nat (ul.drop (k+n)))with h0|h0
 ·exact h0
 ·have:=Nat.le_mul_of_pos_right (B32^n) h0;omega
theorem zEL.seg_eq{X V n j:Nat}{ul qs:List Nat}(h:zEL X V n (j+1) ul qs)(hV:V<B32^n)(hl:j+1+n<=ul.length):nat (seg ul j (n+1))=nat (ul.drop j):=by
 have h1:=zAF (ul.drop j) (n+1) (by simp;omega);rw[List.drop_drop,show j+(n+1)=j+1+n by omega,h.zero hV hl]at h1;unfold seg;omega
theorem zEL.small{X V n j:Nat}{ul qs:List Nat}(h:zEL X V n (j+1) ul qs)(hl:j<ul.length):nat (ul.drop j)<V*4294967296:=by
 have h1:=jR ul j hl;have h2:=h.lim.get j;have h3:=h.lt;rw[yQ]at h1 h2;rw[h1];clear h1 h;generalize nat (List.drop (j+1) ul)=d at*;generalize ul.getD j 0=x at*;omega
theorem zEL.step{X V n j q:Nat}{ul qs rs:List Nat}(h:zEL X V n (j+1) ul qs)(hV:V<B32^n)(hl:j+1+n<=ul.length)(hq:j<qs.length)(hqB:q<4294967296)
  (hrl:rs.length=n+1) (hrs:qT rs) (heq:nat (seg ul j (n+1))=q*V+nat rs) (hlt:nat rs<V):zEL X V n j (put ul j rs) (qs.set j q):=by
 have hz:=h.zero hV hl;have hd:nat ((put ul j rs).drop j)=nat rs:=by
  rw[zNB oM,zBY,hrl,show j+(n+1)=j+1+n by omega,hz,Nat.mul_zero,Nat.add_zero]
 refine⟨zLO h.lim hrs,h.qlim.set _ _ hqB,?_,by rw[hd];exact hlt⟩;have h1:=zAF ul j oM;have h2:=zAF (put ul j rs) j (by rw[zBa oM];omega);rw[hd,zNC oM]at h2;rw[<-h.seg_eq hV hl,heq]at h1;have h3:=jR (qs.set j q) j (by simpa using hq);rw[zAV,xgb,List.getElem?_set_self hq]at h3;simp only[Option.getD_some]at h3;rw[h3,h2,h.eq,h1,Nat.pow_succ];exact zKb _ _ _ _ _ _ _
theorem zHV{a b s:Nat}(hs:s<32)(ha:a<4294967296)(hb:b<4294967296):
  ((a*4294967296+b)/2^s%4294967296)*2^s+b%2^s=b+a%2^s*4294967296:=by
 obtain⟨t,ht⟩:∃t,2^s*t=4294967296:=⟨2^(32-s),by rw[<-Nat.pow_add,show s+(32-s)=32 by omega]⟩;have hp:0<2^s:=Nat.pow_pos oM;generalize 2^s=p at*;have hb1:=Nat.div_add_mod b p;have ha1:=Nat.div_add_mod a p;have hbp:=Nat.mod_lt b hp;have hap:=Nat.mod_lt a hp;generalize b/p=bq at*;generalize b%p=br at*;generalize a/p=aq at*;generalize a%p=ar at*;have e1:(a*4294967296+b)/p=a*t+bq:=by
  rw[<-ht,<-hb1,<-Nat.mul_assoc,Nat.mul_comm a p,Nat.mul_assoc,<-Nat.add_assoc,<-Nat.mul_add];rw[Nat.mul_add_div hp,Nat.div_eq_of_lt hbp,Nat.add_zero]
 have hbq:bq<t:=by
  rcases Nat.lt_or_ge bq t with h|h
  ·exact h
  ·have:=Nat.mul_le_mul_left p h;omega
 have e2:a*t+bq=ar*t+bq+4294967296*aq:=by
  rw[<-ht,<-ha1,Nat.add_mul,Nat.mul_assoc p t,Nat.mul_assoc,Nat.mul_comm t aq];omega
 have h4:ar*t+bq<4294967296:=by
  have h5:(ar+1)*t<=p*t:=Nat.mul_le_mul_right t hap;rw[Nat.add_mul,Nat.one_mul,ht]at h5;omega
 rw[e1,e2,Nat.add_mul_mod_self_left,Nat.mod_eq_of_lt h4,Nat.add_mul,Nat.mul_assoc,Nat.mul_comm t p,ht,Nat.mul_comm bq p];omega
theorem zHW{ul rs:List Nat}{k s v a b:Nat}(hs:s<32)(ha:a<4294967296)(hb:b<4294967296)(hua:ul.getD (k+1) 0=a)(hub:ul.getD k 0=b)(hk:k<rs.length)
  (hv:v=(a*4294967296+b)/2^s%4294967296) (h:nat (rs.take k)*2^s=nat (ul.take k)+(ul.getD k 0%2^s)*B32^k):
  nat ((rs.set k v).take (k+1))*2^s=nat (ul.take (k+1))+(ul.getD (k+1) 0%2^s)*B32^(k+1):=by
 have hl:=zHV hs ha hb;rw[<-hv]at hl;rw[yU _ _ _ hk,zR,Nat.add_mul,h,hua,hub,Nat.pow_succ,yQ];generalize 2^s=p at*;generalize 4294967296^k=P;have e:=congrArg (· *P) hl;simp only[Nat.add_mul]at e;have e1:v*P*p=v*p*P:=by rw[Nat.mul_assoc,Nat.mul_comm P,<-Nat.mul_assoc]
 have e2:a%p*(P*4294967296)=a%p*4294967296*P:=by rw[Nat.mul_assoc,Nat.mul_comm P]
 omega
theorem zNW{vs:List Nat}{m t:Nat}(hl:qT vs)(hlen:vs.length=m+1)(h:t*B32^m<=nat vs):t<=vs.getD m 0:=by
 have h1:=zR vs m;rw[zJ vs oM]at h1;have h2:=jZ (hl.take m);rw[List.length_take,Nat.min_eq_left oM]at h2;rcases Nat.lt_or_ge (vs.getD m 0) t with h3|h3
 ·exfalso
  have h4:=Nat.mul_le_mul_right (B32^m) h3;rw[Nat.succ_mul]at h4;omega
 ·exact h3
theorem zOk{ys:List Nat}{m d:Nat}(hlen:ys.length=m+1)(hd:ys.getD m 0=d):d*B32^m<=nat ys:=by
 have h1:=zR ys m;rw[zJ ys oM,hd]at h1;omega
theorem zOE{us:List Nat}{k T:Nat}(hk:k<=us.length)(h:nat us<B32^k*T):nat (us.drop k)<T:=by
 have h1:=zAF us k hk;have h2:B32^k*nat (us.drop k)<B32^k*T:=by omega
 exact Nat.lt_of_mul_lt_mul_left h2
theorem zOb{ul:List Nat}{s:Nat}(hs:s<32)(hl:0<ul.length):nat ul%2^s=ul.getD 0 0%2^s:=by
 obtain⟨t,ht⟩:∃t,2^s*t=4294967296:=⟨2^(32-s),by rw[<-Nat.pow_add,show s+(32-s)=32 by omega]⟩;have h1:=jR ul 0 hl;rw[xgk,yQ,<-ht,Nat.mul_assoc]at h1;rw[h1,Nat.add_mul_mod_self_left]
theorem zEK(ao:Option Addr)(n cap:Nat)(xs:List Nat)(w:World)(hn:xs.length=n)(hn2:n<=2)(hx:zG w ao xs):
  Calls Tryz.prog 263 #[.slice ao n cap] w fun e w'=>e= .returned (.int .u64 (nat xs:Nat))/\w=w':=by
 match n,xs,hn with
 |0,[],_=>
  go_enter Tryz.func263,Tryz.ntmps263;go_wp2;refine wp_loop_rounds 1 ?_;rw[rounds_succ];go_wp2;go_ret;exact⟨rfl,rfl⟩
 |1,[a],_=>
  obtain⟨b,off,x,rfl,hbw,hx32,HX,hck⟩:=hx.limb (k:=0) sI;have hxa:x=a:=HX.out.symm;subst hxa;rw[Nat.add_zero]at hck;have e1:bits BinOp.or IntKind.u64 0 (x:Int)=(x:Int):=by have:=u64_or_nat 0 x oM oM;simpa using this
  have E:Hid (nat [x]=x):=by show _=_;simp[yN]
  go_enter Tryz.func263,Tryz.ntmps263;go_wp2;refine wp_loop_rounds 2 ?_;rw[rounds_succ];go_wp2;rw[rounds_succ];go_wp2;go_ret;exact⟨by rw[E.out];rfl,rfl⟩
 | 2,[a,b],_=>
  obtain⟨bb,off,hbo,hbw,hcs⟩:=hx.cells sI;subst hbo;have c0:=hcs 0 sI;have c1:=hcs 1 sI;have ha:a<4294967296:=hx.1 a sI;have hb:b<4294967296:=hx.1 b sI;have e1:bits BinOp.or IntKind.u64 0 (a:Int)=(a:Int):=by have:=u64_or_nat 0 a oM oM;simpa using this
  have e2:bits BinOp.or IntKind.u64 (a:Int) ((b:Int)*4294967296)=((a+b*4294967296:Nat):Int):=by
   have:=u64_or_nat a (b*4294967296) oM oM;rw[Nat.or_comm,zIv b a ha,Nat.add_comm]at this;rw[<-this];simp
  have E:Hid (nat [a,b]=a+b*4294967296):=by show _=_;simp[yN,yQ];omega
  clear hcs;simp at c0 c1;go_enter Tryz.func263,Tryz.ntmps263;go_wp2;refine wp_loop_rounds 3 ?_;rw[rounds_succ];go_wp2;rw[rounds_succ];go_wp2;rw[rounds_succ];go_wp2;go_ret;exact⟨by rw[E.out];rfl,rfl⟩
def zEQ(w:World)(a b:Nat)(e:Ending)(w':World):Prop:=
 ∃qo ql qc qs ro rl rc rs,e= .returned (.tuple #[.slice qo ql qc,.slice ro rl rc])/\qs.length=ql/\ql<=qc/\qc<=9223372036854775807/\zG w' qo qs∧
  rs.length=rl/\rl<=rc/\rc<=9223372036854775807/\zG w' ro rs/\a=nat qs*b+nat rs/\nat rs<b/\Below w.heap.size w w'
section
variable (ao1 ao2:Option Addr) (n1 cap1 n2 cap2:Nat) (xs ys:List Nat) (w:World) (hn1:xs.length=n1) (hn2:ys.length=n2) (hl1:n1<=cap1) (hl2:n2<=cap2)
  (hc1:cap1<=9223372036854775807) (hc2:cap2<=9223372036854775807) (hb1:n1<=2*LIM) (hb2:n2<=2*LIM) (hx1:zG w ao1 xs) (hx2:zG w ao2 ys) (hN1:qO xs) (hN2:qO ys) (hy:0<nat ys)
include hn1 hn2 hl1 hl2 hc1 hc2 hb1 hb2 hx1 hx2 hN1 hN2 hy
theorem zHl(hlt:nat xs<nat ys):Calls Tryz.prog 228 #[.slice ao1 n1 cap1,.slice ao2 n2 cap2] w (zEQ w (nat xs) (nat ys)):=by
 have hcmp:=fun W h1 h2=>zAK ao1 ao2 n1 cap1 n2 cap2 xs ys W hn1 hn2 hl1 hl2 hc1 hc2 h1 h2 hN1 hN2
 rw[yV oM]at hcmp;have HN1:=Lib.hid hn1;clear hn1 hn2;go_enter Tryz.func228,Tryz.ntmps228;go_wp2_with (go_at_call 226;refine(hcmp _ hx1 hx2).mono ?_;rintro e w' ⟨rfl,nd,rfl⟩)
 refine(zBW ao1 n1 cap1 xs _ HN1.out oM (hx1.ext (lx (drN _ _)))).mono ?_;rintro e w2 ⟨ro,rl,rc,rfl,h1,h2,h3,h4,hb⟩;go_wp2_with fail
 go_ret2;exact⟨_,_,_,[],_,_,_,xs,rfl,rfl,by omega,by omega,zG.nil _ _,h1,h2,h3,h4,by simp,hlt,nx (drN _ _) hb⟩
theorem zJQ(hge:nat ys<=nat xs)(h2:n1<=2):Calls Tryz.prog 228 #[.slice ao1 n1 cap1,.slice ao2 n2 cap2] w (zEQ w (nat xs) (nat ys)):=by
 have hn12:n2<=n1:=by rw[<-hn1,<-hn2];exact jW hx1.1 hN2 hge
 have hcmp:=fun W h1 h2=>zAK ao1 ao2 n1 cap1 n2 cap2 xs ys W hn1 hn2 hl1 hl2 hc1 hc2 h1 h2 hN1 hN2
 obtain⟨cc,hcc,hcc0⟩:∃cc:Int,qJ (nat xs) (nat ys)=cc/\0<=cc:=⟨_,rfl,zBh oM⟩;rw[hcc]at hcmp;clear hcc;have hw1:=fun W h=>zEK ao1 n1 cap1 xs W hn1 h2 h
 have hw2:=fun W h=>zEK ao2 n2 cap2 ys W hn2 oM h
 have hu:nat xs<18446744073709551616:=by
  have h3:=jZ hx1.1;have h4:=zAZ (show xs.length<=2 by omega);rw[yQ]at h4;have h5:(4294967296:Nat)^2=18446744073709551616:=by decide
  rw[h5]at h4;rw[yQ]at h3;omega
 have hv:nat ys<18446744073709551616:=by omega
 obtain⟨a,ha⟩:∃a,nat xs=a:=⟨_,rfl⟩;obtain⟨b,hb⟩:∃b,nat ys=b:=⟨_,rfl⟩;rw[ha]at hw1 hu hge ⊢
 rw[hb]at hw2 hv hge hy ⊢
 clear hn1 hn2 ha hb;have hql:=zB4 (a/b);have hrl:=zB4 (a%b);have hqb:a/b<18446744073709551616:=Nat.lt_of_le_of_lt (Nat.div_le_self _ _) hu;have hrb:a%b<b:=Nat.mod_lt _ hy;have eq1:(a:Int)/(b:Int)=((a/b:Nat):Int):=by simp
 have eq2:(a:Int)%(b:Int)=((a%b:Nat):Int):=by simp
 have eq3:IntKind.u64.wrap ((a:Int)/(b:Int))=((a/b:Nat):Int):=by rw[eq1,IntKind.wrap_u64];generalize a/b=t at*;omega
 have EQM:Hid (a=a/b*b+a%b):=by show _=_;rw[Nat.mul_comm];exact(Nat.div_add_mod a b).symm
 obtain⟨q,hq⟩:∃q,a/b=q:=⟨_,rfl⟩;obtain⟨r,hr⟩:∃r,a%b=r:=⟨_,rfl⟩;rw[hq]at hql hqb eq1 eq3 EQM;rw[hr]at hrl hrb eq2 EQM;clear hq hr;have eq4:(a:Int).tdiv (b:Int)=(q:Int):=by rw[Int.tdiv_eq_ediv_of_nonneg oM];exact eq1
 have eq5:(a:Int).tmod (b:Int)=(r:Int):=by rw[Int.tmod_eq_emod_of_nonneg oM];exact eq2
 have eq6:IntKind.u64.wrap (q:Int)=(q:Int):=by rw[IntKind.wrap_u64];omega
 have eq7:IntKind.u64.wrap (r:Int)=(r:Int):=by rw[IntKind.wrap_u64];omega
 have hbn:¬ b=0:=by omega
 have hb0:((b:Int)==0)=false:=by simp;omega
 go_enter Tryz.func228,Tryz.ntmps228;go_wp2_with (first
  |(go_at_call 226;refine(hcmp _ hx1 hx2).mono ?_;rintro e w' ⟨rfl,nd,rfl⟩)
  |(go_at_call_of 263 ao1;refine(hw1 _ (hx1.ext (lx (drN _ _)))).mono ?_;rintro e w' ⟨rfl,rfl⟩)
  |(go_at_call_of 263 ao2;refine(hw2 _ (hx2.ext (lx (drN _ _)))).mono ?_;rintro e w' ⟨rfl,rfl⟩))
 go_region_held3 (fun _=>True) (exact trivial)
  (first
   |(go_at_call_of 200 q;refine(hql _ hqb).mono ?_;rintro e w1 ⟨qo,ql,qc,qs,rfl,p1,p2,p3,p4,p5,p6⟩)
   |(go_at_call_of 200 r;refine(hrl _ oM).mono ?_;rintro e w2 ⟨ro,rl,rc,rs,rfl,s1,s2,s3,s4,s5,s6⟩))
 go_wp2_with fail
 go_ret2;exact⟨qo,ql,qc,qs,ro,rl,rc,rs,rfl,p1,p2,p3,p4.ext (lx s6),s1,s2,s3,s4,by rw[p5,s5];exact EQM.out,by rw[s5];exact hrb,nx (nx (nx (drN _ _) (dr _)) p6) s6⟩
theorem zGr(hge:nat ys<=nat xs)(h2:2<n1)(h1:n2=1):Calls Tryz.prog 228 #[.slice ao1 n1 cap1,.slice ao2 n2 cap2] w (zEQ w (nat xs) (nat ys)):=by
 have hcmp:=fun W h1 h2=>zAK ao1 ao2 n1 cap1 n2 cap2 xs ys W hn1 hn2 hl1 hl2 hc1 hc2 h1 h2 hN1 hN2
 obtain⟨cc,hcc,hcc0⟩:∃cc:Int,qJ (nat xs) (nat ys)=cc/\0<=cc:=⟨_,rfl,zBh oM⟩;rw[hcc]at hcmp;clear hcc;subst h1;obtain⟨b,off,d,rfl,hbw,hd32,HD,hck⟩:=hx2.limb (k:=0) oM;rw[Nat.add_zero]at hck;have hyd:nat ys=d:=by
  match ys,hn2,HD.out with
  | [y],_,h=>simp at h;simp[yN,h]
 have hsh:=fun W h=>zLk ao1 n1 cap1 xs d W hn1 oM h oM hd32
 rw[hyd]at hge hy ⊢
 have HN1:=Lib.hid hn1;clear hn1 hn2 hyd;go_enter Tryz.func228,Tryz.ntmps228;go_wp2_with (first
  |(go_at_call 226;refine(hcmp _ hx1 hx2).mono ?_;rintro e w' ⟨rfl,nd,rfl⟩)
  |(go_at_call 264;refine(hsh _ (hx1.ext (lx (drN _ _)))).mono ?_;rintro e w1 ⟨g,qs,r,rfl,p1,p2,p3,p4,p5,p6⟩))
 go_ret2;have hB:Below w.heap.size w w1:=nx (drN _ _) p6;have hB2:Below w1.heap.size w1 (w1.alloc (.cells #[.int .u32 (r:Nat)] tU)):=(Below.refl _ _).alloc (xgf _) _;exact⟨_,_,_,qs,_,_,_,[r],rfl,p3,xgf _,by omega,(p1.at_ p2).ext (lx hB2),rfl,xgf _,by omega,zG.one w1 r oM _ rfl,by simp[yN];exact p5,by simp[yN];exact p4,nx hB hB2⟩
end
theorem zHm(ao1 ao2:Option Addr)(n1 cap1 n2 cap2:Nat)(xs ys:List Nat)(w:World)(hn1:xs.length=n1)(hn2:ys.length=n2)(hl1:n1<=cap1)(hl2:n2<=cap2)
  (hc1:cap1<=9223372036854775807) (hc2:cap2<=9223372036854775807) (hb1:n1<=2*LIM) (hx1:zG w ao1 xs) (hx2:zG w ao2 ys) (hN1:qO xs) (hN2:qO ys)
  (hge:nat ys<=nat xs) (h2:2<n1) (h1:2<=n2):Calls Tryz.prog 228 #[.slice ao1 n1 cap1,.slice ao2 n2 cap2] w (zEQ w (nat xs) (nat ys)):=by
 have hn12:n2<=n1:=by rw[<-hn1,<-hn2];exact jW hx1.1 hN2 hge
 have hcmp:=fun W h1 h2=>zAK ao1 ao2 n1 cap1 n2 cap2 xs ys W hn1 hn2 hl1 hl2 hc1 hc2 h1 h2 hN1 hN2
 obtain⟨cc,hcc,hcc0⟩:∃cc:Int,qJ (nat xs) (nat ys)=cc/\0<=cc:=⟨_,rfl,zBh oM⟩;rw[hcc]at hcmp;clear hcc;obtain⟨b,off,d,rfl,hbw,hd32,HD,hck⟩:=hx2.limb (k:=n2-1) oM;have hd0:0<d:=by
  have:=hN2 (n2-1) oM;rw[HD.out]at this;omega
 obtain⟨s,hs32,hs1,hs2,hlead⟩:=zMt d w hd0 hd32;have hsh1:=fun W h=>zHL ao1 n1 cap1 xs s W hn1 oM h hs32
 have hsh2:=fun W h=>zHL (some ⟨b,off,none⟩) n2 cap2 ys s W hn2 oM h hs32
 have hVB:nat ys*2^s<B32^n2:=by
  obtain⟨m,rfl⟩:∃m,n2=m+1:=⟨n2-1,by omega⟩;have e1:=zR ys m;rw[zJ ys oM]at e1;have e2:=jZ (hx2.1.take m);rw[List.length_take,Nat.min_eq_left oM]at e2;rw[show m+1-1=m by omega]at HD;rw[HD.out]at e1;have e3:nat ys<(d+1)*B32^m:=by rw[e1,Nat.add_mul,Nat.one_mul];omega
  have e4:nat ys*2^s<(d+1)*B32^m*2^s:=(Nat.mul_lt_mul_right (Nat.pow_pos oM)).2 e3;have e5:(d+1)*B32^m*2^s=(d+1)*2^s*B32^m:=by rw[Nat.mul_assoc,Nat.mul_comm (B32^m),<-Nat.mul_assoc]
  have e6:(d+1)*2^s<=B32:=by
   obtain⟨t,ht⟩:∃t,2^s*t=4294967296:=⟨2^(32-s),by rw[<-Nat.pow_add,show s+(32-s)=32 by omega]⟩;rw[<-ht,Nat.mul_comm d]at hs2;have:=Nat.lt_of_mul_lt_mul_left hs2;rw[yQ,<-ht,Nat.mul_comm];exact Nat.mul_le_mul_left _ this
  have e7:=Nat.mul_le_mul_right (B32^m) e6;rw[e5]at e4;rw[Nat.pow_succ,Nat.mul_comm (B32^m)];exact Nat.lt_of_lt_of_le e4 e7
 have hXB:nat xs*2^s<B32^n1*2^s:=(Nat.mul_lt_mul_right (Nat.pow_pos oM)).2 (by have:=jZ hx1.1;rwa[hn1]at this);have HVB:=Lib.hid hVB;have HXB:=Lib.hid hXB;have HN1:=Lib.hid hn1;have HN2:=Lib.hid hn2;have HGE:=Lib.hid hge;have HS1:=Lib.hid hs1;have HS2:=Lib.hid hs2;clear hn1 hn2 hVB hXB hs1 hs2 hge;have f1:(n2:Int)<=(n2:Int)+1:=by omega
 have f2:(0:Int)<=(n2:Int):=by omega
 rw[qW]at hb1;go_enter Tryz.func228,Tryz.ntmps228;go_wp2_with (first
  |(go_at_call 226;refine(hcmp _ hx1 hx2).mono ?_;rintro e w' ⟨rfl,nd,rfl⟩)
  |(go_at_call 265;refine(hlead _).mono ?_;rintro e w' ⟨rfl,rfl⟩))
 refine zB ?_;intro W1 hW1;have hB1:Below w.heap.size w W1:=by rw[hW1.out];exact drN _ _
 have lx1:=lx (nx hB1 (dr W1));go_region_held3 (fun _=>True) (exact trivial)
  (first
   |(go_at_call_of 266 ao1;refine(hsh1 _ (hx1.ext lx1)).mono ?_;rintro e w1 ⟨gu,us,rfl,p2,p3,p4,p5,p7,p6⟩)
   |(go_at_call_of 266 off;refine(hsh2 _ ((hx2.ext lx1).ext (lx p6))).mono ?_;rintro e w2 ⟨gv,vz,rfl,s2,s3,s1,s4,s5,s6⟩))
 have hmk:=fun W=>mkU ((n1:Int)-n2+1) (n1-n2+1) oM oM W
 go_upto_block 1 with(fail)
 clear hmk;refine zB ?_;intro W3 hW3;have hvt:nat (vz.take n2)=nat ys*2^s:=by
  have e1:=zAF vz n2 (by rw[s4];omega);rcases Nat.eq_zero_or_pos (nat (vz.drop n2))with h0|h0
  ·rw[h0,Nat.mul_zero,Nat.add_zero,s5]at e1;exact e1.symm
  ·exfalso
   have h1:=Nat.le_mul_of_pos_right (B32^n2) h0;have h2:=HVB.out;rw[<-s5]at h2;omega
 have hgu:W1.heap.size<=gu:=p2;have hguv:gu<w1.heap.size:=p3.lt;have hgv:w1.heap.size<=gv:=s2;have hgvq:gv<w2.heap.size:=s3.lt;have hB2:Below w.heap.size w w2:=nx (nx (nx hB1 (dr W1)) p6) s6;have hB3:Below w.heap.size w W3:=by rw[hW3.out];exact hB2.alloc hB2.size _
 have hU3:jQ W3 gu us:=by rw[hW3.out];exact(p3.ext (lx s6)).alloc _
 have hV3:jQ W3 gv vz:=by rw[hW3.out];exact s3.alloc _
 have hQ3:jQ W3 w2.heap.size (List.replicate (n1-n2+1) 0):=by rw[hW3.out];exact jQ.made _ _
 have hwu:w.heap.size<=gu:=by have:=hB1.size;omega
 have hst0:zEL (nat xs*2^s) (nat ys*2^s) n2 (n1-n2+1) us (List.replicate (n1-n2+1) 0):=by
  refine⟨p4,fun x hx=>by rw[List.eq_of_mem_replicate hx];exact yZ,?_,?_⟩
  ·rw[List.drop_eq_nil_of_le sI,p7,nat_nil,Nat.zero_mul,Nat.zero_mul,Nat.zero_add]
  ·refine zOE oM ?_
   rw[p7];refine Nat.lt_of_lt_of_le HXB.out ?_;have h1:=zC8 hN2 (n:=n2-1) (by rw[HN2.out];omega);have h2:B32^n1=B32^(n1-n2+1)*B32^(n2-1):=by rw[<-Nat.pow_add];congr 1;omega
   rw[h2,Nat.mul_assoc];exact Nat.mul_le_mul_left _ (Nat.mul_le_mul_right _ h1)
 have hvl:(vz.take n2).length=n2:=by rw[List.length_take,s4];omega
 have hhigh:2147483648<=(vz.take n2).getD (n2-1) 0:=by
  refine zNW (s1.take n2) (by rw[hvl];omega) ?_;rw[hvt];have h1:=zOk (ys:=ys) (m:=n2-1) (by rw[HN2.out];omega) HD.out;have h2:=Nat.mul_le_mul_right (2^s) h1;refine Nat.le_trans ?_ h2;rw[Nat.mul_assoc,Nat.mul_comm (B32^(n2-1)),<-Nat.mul_assoc];exact Nat.mul_le_mul_right _ HS1.out
 have hdig:=fun W j cap ul hU hul hv hlen hQ=>zKa gu j cap gv 0 n2 n2 ul (vz.take n2) W hU hul hv oM hvl h1 hlen (by rw[qW];omega) hhigh hQ
 have HDIG:=Lib.hid hdig;have HVT:=Lib.hid hvt;have HST0:=Lib.hid hst0;have HVL:=Lib.hid hvl;clear hdig hvt hst0 hvl hhigh hW3 hsh1 hsh2 hcmp hlead s5 p7;obtain⟨W4,rfl⟩:∃W:World,W=W3:=⟨_,rfl⟩;obtain⟨gq,hgq⟩:∃g,w2.heap.size=g:=⟨_,rfl⟩;rw[hgq]at hgvq hQ3 ⊢
 have hgq':gq<=w2.heap.size:=by omega
 clear hgq;go_wp2;go_loopw [15] (fun iv wr=>∃(k:Nat) (ul qs:List Nat),k<=n1-n2+1/\iv= .int .i64 ((k:Int)-1)/\jQ wr gu ul/\jQ wr gq qs/\jQ wr gv vz/\Below w.heap.size w wr/\ul.length=n1+1/\qs.length=n1-n2+1∧
   Hid (zEL (nat xs*2^s) (nat ys*2^s) n2 k ul qs)) (fun iv _=>(intOf iv+1).toNat)
 case atStart=>exact⟨n1-n2+1,us,_,xgf _,by go_num,hU3,hQ3,hV3,hB3,p5,by simp,HST0.out⟩
 case round=>
  obtain⟨k,ul,qs,hk,rfl,hU,hQ,hV,hB,hul,hql,HDS⟩:=hrel;have HUL:=Lib.hid hul;have HQL:=Lib.hid hql;have hul':n1+1<=ul.length:=by omega
  have hql':n1-n2+1<=qs.length:=by omega
  clear hul hql;cases k with
  | zero=>
   have hmk2:=fun W=>mkU (n2:Int) n2 rfl oM W
   go_upto_block 3 with(fail)
   clear hmk2;refine zB ?_;intro W5 hW5;obtain⟨gr,hgr⟩:∃g,wr.heap.size=g:=⟨_,rfl⟩;have hU5:jQ W5 gu ul:=by rw[hW5.out];exact hU.alloc _
   have hQ5:jQ W5 gq qs:=by rw[hW5.out];exact hQ.alloc _
   have hR5:jQ W5 gr (List.replicate n2 0):=by rw[hW5.out,<-hgr];exact jQ.made _ _
   have hB5:Below w.heap.size w W5:=by rw[hW5.out];exact hB.alloc hB.size _
   have hgru:gu<gr:=by rw[<-hgr];exact hU.lt
   have hgrq:gq<gr:=by rw[<-hgr];exact hQ.lt
   rw[hgr];have hmod:Hid (ul.getD 0 0%2^s=0):=by
    show _=_;rw[<-zOb hs32 oM];have h1:=HDS.out.eq;rw[xgk,Nat.pow_zero,Nat.mul_one,<-Nat.mul_assoc]at h1;have h2:(nat xs*2^s)%2^s=0:=Nat.mul_mod_left _ _;rw[h1,Nat.mul_comm (nat qs*nat ys),Nat.mul_add_mod]at h2;exact h2
   have hlt0:Hid (nat ul<nat ys*2^s):=by have:=HDS.out.lt;rwa[xgk]at this
   have hzero:Hid (ul.getD n2 0=0/\nat (ul.take n2)=nat ul):=by
    have h0:=HDS.out.zero HVB.out oM;rw[Nat.zero_add]at h0;have h1:=zAF ul n2 oM;have h2:=jR ul n2 oM;rw[h0]at h1 h2;exact⟨by omega,by rw[h1,Nat.mul_zero,Nat.add_zero]⟩
   clear hW5 hgr;obtain⟨W6,rfl⟩:∃W:World,W=W5:=⟨_,rfl⟩;go_wp2;go_loopw [103] (fun iv wr=>∃(k:Nat) (rs:List Nat),k<=n2/\iv= .int .i64 k/\jQ wr gu ul/\jQ wr gq qs/\jQ wr gr rs/\Below w.heap.size w wr/\n2<=rs.length∧
     Hid (rs.length=n2/\qT rs/\nat (rs.take k)*2^s=nat (ul.take k)+(ul.getD k 0%2^s)*B32^k)) (fun iv _=>n2-(intOf iv).toNat)
   case atStart=>exact⟨0,_,by omega,rfl,hU5,hQ5,hR5,hB5,by simp,⟨by simp,fun x hx=>by rw[List.eq_of_mem_replicate hx];exact yZ,by rw[hmod.out,List.take_zero,List.take_zero,nat_nil,Nat.zero_mul,Nat.zero_mul]⟩⟩
   case round=>
    obtain⟨k,rs,hk,rfl,hU7,hQ7,hR7,hB7,hrl,HH⟩:=hrel;by_cases hkn:k<n2
    ·obtain⟨xa,hxa⟩:∃a,ul.getD (k+1) 0=a:=⟨_,rfl⟩
     obtain⟨xb,hxb⟩:∃a,ul.getD k 0=a:=⟨_,rfl⟩;have ha32:xa<4294967296:=by rw[<-hxa];exact HDS.out.lim.get _
     have hb32:xb<4294967296:=by rw[<-hxb];exact HDS.out.lim.get _
     have c1:=hU7.cell (k:=k+1) oM;have c2:=hU7.cell (k:=k) oM;have c3:=hR7.cell (k:=k) oM;have c4:=hR7.frozen k;rw[hxa]at c1;rw[hxb]at c2;have HXA:=Lib.hid hxa;have HXB:=Lib.hid hxb;obtain⟨m,hm⟩:∃m,xa*4294967296+xb=m:=⟨_,rfl⟩;have eo:=zIw xa xb ha32 hb32;rw[hm]at eo;have HM:=Lib.hid hm;clear hm;have ew1:IntKind.u64.wrap (xa:Int)=(xa:Int):=by rw[IntKind.wrap_u64];omega
     have ew2:IntKind.u64.wrap (xb:Int)=(xb:Int):=by rw[IntKind.wrap_u64];omega
     have ew3:IntKind.u64.wrap ((xa:Int)*4294967296)=(xa:Int)*4294967296:=by rw[IntKind.wrap_u64];omega
     have i1:IntKind.i64.wrap ((k:Int)+1)=(k:Int)+1:=IntWalk.i64_in _ oM;have i2:((k:Int)+1).toNat=k+1:=by omega
     have i3:(0:Int)<=(k:Int)+1:=by omega
     have i4:(0:Int)<=(k:Int):=by omega
     have i5:(k:Int)<(n2:Int):=by omega
     have i6:(k:Int)+1<(n1:Int)+1:=by omega
     have i7:(k:Int)<(n1:Int)+1:=by omega
     clear hxa hxb;go_wp2;go_region_held3 (fun w'=>w'.cell? ⟨gu,k+1,none⟩=some (.int .u32 (xa:Nat))/\w'.cell? ⟨gu,k,none⟩=some (.int .u32 (xb:Nat)))
      ((((try go_split_ands);(repeat' apply And.intro))<;>first|exact yJ (by assumption)|exact zAE (by assumption) oM)) (fail)
     go_wp2;go_roundw
     case rel=>
      have hv:((m/2^s%4294967296:Nat):Int)=IntKind.u32.wrap ((m:Int)/2^s):=by rw[IntKind.wrap_u32];simp
      have hst:=zHW (ul:=ul) (rs:=rs) (k:=k) (s:=s) (v:=m/2^s%4294967296) hs32 ha32 hb32 HXA.out HXB.out oM (by rw[HM.out]) HH.out.2.2
      (repeat apply Exists.intro)
      exact⟨⟨k+1,rs.set k (m/2^s%4294967296),by omega,by go_num,(Below.heap_setCell _ _ _ _ (by simp;omega)).trans hU7,(Below.heap_setCell _ _ _ _ (by simp;omega)).trans hQ7,hR7.set' _ _ _ (by first|exact hv.symm|(rw[hv];done)|(rw[hv];simp)),(hB7.setCell (p:=⟨gr,k,none⟩) (by show _<=gr;omega) _).drew,by simpa using hrl,
       ⟨by simpa using HH.out.1,HH.out.2.1.set _ _ (Nat.mod_lt _ dE),hst⟩⟩,rfl⟩
     case measure=>simp[intOf];omega
    ·obtain rfl:n2=k:=by omega
     go_wp2;go_ret2;have h1:=HH.out.2.2;rw[hzero.out.1,Nat.zero_mod,Nat.zero_mul,Nat.add_zero,hzero.out.2,zJ rs (by rw[HH.out.1];exact xgf _)]at h1;have h2:=HDS.out.eq;rw[xgk,Nat.pow_zero,Nat.mul_one,<-h1,<-Nat.mul_assoc,<-Nat.add_mul]at h2;have h3:=hlt0.out;rw[<-h1]at h3;have hp:0<2^s:=Nat.pow_pos oM;exact⟨_,_,_,qs,_,_,_,rs,rfl,HQL.out,xgf _,by omega,hQ7.at_ HDS.out.qlim,HH.out.1,xgf _,by omega,hR7.at_ HH.out.2.1,Nat.eq_of_mul_eq_mul_right hp h2,Nat.lt_of_mul_lt_mul_right h3,hB7⟩
  | succ k=>
   have hfr:=hQ.frozen k;have hcz:=hQ.cell (k:=k) oM;go_wp2_with fail
   rw[show k+n2+1-k=n2+1 by omega];refine(HDIG.out _ _ _ ul hU HDS.out.lim ((hV.at_ s1).take n2) oM ?_).mono ?_
   ·rw[HDS.out.seg_eq HVB.out oM,HVT.out]
    exact HDS.out.small oM
   rintro e w4 ⟨q,rs,rfl,t1,t2,t3,t4,t5,t6,t7⟩;have hQ4:jQ w4 gq qs:=(t7.block gq hQ.lt (by simp;omega)).trans hQ;have hV4:jQ w4 gv vz:=(t7.block gv hV.lt (by simp;omega)).trans hV;have hfr4:=hQ4.frozen k;have hcz4:=hQ4.cell (k:=k) oM;have hB4:Below w.heap.size w w4:=hB.grown t7 hB.size (fun k hk=>by injection hk with hk;omega);rw[HVT.out]at t4 t5;have hds:=HDS.out.step HVB.out oM oM t1 t2 t3 t4 t5;have HDS':=Lib.hid hds;clear hcz hfr t4 t5 hds;go_wp2;go_roundw
   case rel=>
    refine⟨k,put ul k rs,qs.set k q,by omega,by go_num,?_,?_,?_,?_,?_,?_,HDS'.out⟩
    ·exact(Below.heap_setCell _ _ _ _ (by simp;omega)).trans t6
    ·exact hQ4.set' _ _ _ rfl
    ·exact(Below.heap_setCell _ _ _ _ (by simp;omega)).trans hV4
    ·exact hB4.setCell (by simp;omega) _
    ·rw[zBa (by rw[t2];omega)];exact HUL.out
    ·simp[HQL.out]
   case measure=>simp[intOf]
theorem zDT(ao1 ao2:Option Addr)(n1 cap1 n2 cap2:Nat)(xs ys:List Nat)(w:World)(hn1:xs.length=n1)(hn2:ys.length=n2)(hl1:n1<=cap1)(hl2:n2<=cap2)
  (hc1:cap1<=9223372036854775807) (hc2:cap2<=9223372036854775807) (hb1:n1<=2*LIM) (hb2:n2<=2*LIM) (hx1:zG w ao1 xs) (hx2:zG w ao2 ys) (hN1:qO xs) (hN2:qO ys) (hy:0<nat ys):
  Calls Tryz.prog 228 #[.slice ao1 n1 cap1,.slice ao2 n2 cap2] w (zEQ w (nat xs) (nat ys)):=by
 rcases Nat.lt_or_ge (nat xs) (nat ys)with h|h
 ·exact zHl ao1 ao2 n1 cap1 n2 cap2 xs ys w hn1 hn2 hl1 hl2 hc1 hc2 hb1 hb2 hx1 hx2 hN1 hN2 hy h
 ·by_cases h2:n1<=2
  ·exact zJQ ao1 ao2 n1 cap1 n2 cap2 xs ys w hn1 hn2 hl1 hl2 hc1 hc2 hb1 hb2 hx1 hx2 hN1 hN2 hy h h2
  ·by_cases h1:n2=1
   ·exact zGr ao1 ao2 n1 cap1 n2 cap2 xs ys w hn1 hn2 hl1 hl2 hc1 hc2 hb1 hb2 hx1 hx2 hN1 hN2 hy h oM h1
   ·have h0:n2≠0:=by
     rintro rfl;have:ys= []:=List.eq_nil_of_length_eq_zero hn2;subst this;simp at hy
    exact zHm ao1 ao2 n1 cap1 n2 cap2 xs ys w hn1 hn2 hl1 hl2 hc1 hc2 hb1 hx1 hx2 hN1 hN2 h oM oM
def zME(w:World)(z1 z2:Int)(e:Ending)(w':World):Prop:=
 ∃v1 v2,e= .returned (.tuple #[v1,v2,.int .i64 0])/\zH w' v1 (z1/z2)/\zH w' v2 (z1%z2)/\Below w.heap.size w w'
def dmQ(neg:Bool)(a b:Nat):Nat:=if neg=true/\0<a%b then a/b+1 else a/b
def dmR(neg:Bool)(a b:Nat):Nat:=if neg=true/\0<a%b then b-a%b else a%b
theorem zKc(n1 n2:Bool)(a b:Nat)(hb:0<b):sgn n1 a/sgn n2 b=sgn (n1 !=n2) (dmQ n1 a b)/\sgn n1 a%sgn n2 b=(dmR n1 a b:Nat):=by
 have hm:=Nat.mod_lt a hb;have he:=Nat.div_add_mod a b;have key:∀(z:Int) (q r:Int),z=q*b+r->0<=r->r<b->z/(b:Int)=q/\z%(b:Int)=r:=fun z q r h1 h2 h3=>
  (Int.ediv_emod_unique oM).2 ⟨by rw[h1,Int.mul_comm];omega,h2,h3⟩
 have hpos:sgn n1 a/(b:Int)=sgn n1 (dmQ n1 a b)/\sgn n1 a%(b:Int)=(dmR n1 a b:Nat):=by
  cases n1 with
  |false=>
   have e1:dmQ false a b=a/b:=by unfold dmQ;rw[if_neg sI]
   have e2:dmR false a b=a%b:=by unfold dmR;rw[if_neg sI]
   rw[e1,e2];simp
  | true=>
   by_cases h0:0<a%b
   ·have e1:dmQ true a b=a/b+1:=by unfold dmQ;rw[if_pos ⟨rfl,h0⟩]
    have e2:dmR true a b=b-a%b:=by unfold dmR;rw[if_pos ⟨rfl,h0⟩]
    rw[e1,e2];refine key _ _ _ ?_ oM oM;simp only[sgn_true];rw[Int.neg_mul,Int.natCast_add,Int.add_mul,Nat.mul_comm]at*;have:((a/b*b:Nat):Int)+((a%b:Nat):Int)=(a:Int):=by exact_mod_cast he
    rw[Int.natCast_mul]at this;omega
   ·have e1:dmQ true a b=a/b:=by unfold dmQ;rw[if_neg (by simp;omega)]
    have e2:dmR true a b=a%b:=by unfold dmR;rw[if_neg (by simp;omega)]
    rw[e1,e2];refine key _ _ _ ?_ oM oM;simp only[sgn_true];rw[Int.neg_mul,Nat.mul_comm]at*;have:((a/b*b:Nat):Int)+((a%b:Nat):Int)=(a:Int):=by exact_mod_cast he
    rw[Int.natCast_mul]at this;omega
 cases n2 with
 |false=>simp only[sgn_false,Bool.bne_false];exact hpos
 |true=>
  simp only[sgn_true,Int.ediv_neg,Int.emod_neg,Bool.bne_true];rw[hpos.1,hpos.2,zGN];exact⟨rfl,rfl⟩
theorem zEv{xs:List Nat}{n:Nat}(hn:xs.length=n)(hl:qT xs):qS xs n=0↔nat xs=0:=by
 subst hn;have h1:=zAM xs;have h2:=zE8 xs;have h3:=zBT xs;rw[<-h2,<-h1];constructor
 ·intro h;rw[List.eq_nil_of_length_eq_zero h];rfl
 ·intro h;rw[(zCm h3).1 h];rfl
theorem zEQ.mod{w w':World}{a b:Nat}{e:Ending}(h:zEQ w a b e w'):
 ∃qo ql qc qs ro rl rc rs,e= .returned (.tuple #[.slice qo ql qc,.slice ro rl rc])/\qs.length=ql/\ql<=qc/\qc<=9223372036854775807/\zG w' qo qs∧
  rs.length=rl/\rl<=rc/\rc<=9223372036854775807/\zG w' ro rs/\Hid (nat qs=a/b/\nat rs=a%b)/\Below w.heap.size w w':=by
 obtain⟨qo,ql,qc,qs,ro,rl,rc,rs,he,h1,h2,h3,h4,h5,h6,h7,h8,h9,h10,h11⟩:=h;have hb:0<b:=by omega
 have h12:a/b=nat qs:=by rw[h9,Nat.mul_comm,Nat.mul_add_div hb,Nat.div_eq_of_lt h10];rfl
 have h13:a%b=nat rs:=by rw[h9,Nat.mul_comm,Nat.mul_add_mod,Nat.mod_eq_of_lt h10]
 exact⟨qo,ql,qc,qs,ro,rl,rc,rs,he,h1,h2,h3,h4,h5,h6,h7,h8,⟨h12.symm,h13.symm⟩,h11⟩
theorem zAL{W:World}{r:Nat}{v:Array Value}(hb:Blk W r 35 v)(h2:v.size=2):(loadVar 35 ⟨r,0,none⟩).run Tryz.prog W= .ok (.agg v) W:=
 run_loadVar_row W r _ _ v _ _ hb Tryz.underlying35 rfl (by rw[Tryz.sizeI,h2])
theorem jH{fn:Func}{p1 p2 u:Tmp}(h:fn.results=#[.cell p1 35,.cell p2 35,.tmp u])(tmps:Array Value){W:World}{r1 r2:Nat}{v1 v2:Array Value}
  (hp1:tmps.getD p1 undef= .pointer (some ⟨r1,0,none⟩)) (hp2:tmps.getD p2 undef= .pointer (some ⟨r2,0,none⟩)) (hb1:Blk W r1 35 v1) (hb2:Blk W r2 35 v2) (h1:v1.size=2) (h2:v2.size=2):
  (results fn tmps).run Tryz.prog W= .ok (.tuple #[.agg v1,.agg v2,tmps.getD u undef]) W:=by
 have hp1':tmps[p1]?.getD undef= .pointer (some ⟨r1,0,none⟩):=by simpa using hp1
 have hp2':tmps[p2]?.getD undef= .pointer (some ⟨r2,0,none⟩):=by simpa using hp2
 simp[results,h,hp1',hp2',asAddr,zAL hb1 h1,zAL hb2 h2]
theorem zA8{fn:Func}{p1 p2 p3:Tmp}(h:fn.results=#[.cell p1 35,.cell p2 35,.cell p3 35])(tmps:Array Value){W:World}{r1 r2 r3:Nat}{v1 v2 v3:Array Value}
  (hp1:tmps.getD p1 undef= .pointer (some ⟨r1,0,none⟩)) (hp2:tmps.getD p2 undef= .pointer (some ⟨r2,0,none⟩)) (hp3:tmps.getD p3 undef= .pointer (some ⟨r3,0,none⟩))
  (hb1:Blk W r1 35 v1) (hb2:Blk W r2 35 v2) (hb3:Blk W r3 35 v3) (h1:v1.size=2) (h2:v2.size=2) (h3:v3.size=2):
  (results fn tmps).run Tryz.prog W= .ok (.tuple #[.agg v1,.agg v2,.agg v3]) W:=by
 have hp1':tmps[p1]?.getD undef= .pointer (some ⟨r1,0,none⟩):=by simpa using hp1
 have hp2':tmps[p2]?.getD undef= .pointer (some ⟨r2,0,none⟩):=by simpa using hp2
 have hp3':tmps[p3]?.getD undef= .pointer (some ⟨r3,0,none⟩):=by simpa using hp3
 simp[results,h,hp1',hp2',hp3',asAddr,zAL hb1 h1,zAL hb2 h2,zAL hb3 h3]
theorem jV(v1 v2:Value)(z1 z2:Int)(w:World)(h1:zD5 w v1 z1)(h2:zD5 w v2 z2)(s1:Sm z1)(s2:Sm z2)(hz:z2≠0):Calls Tryz.prog 157 #[v1,v2] w (zME w z1 z2):=by
 obtain⟨neg1,ao1,n1,cap1,xs,rfl,hn1,hl1,hc1,hx1,hN1,hz1,hq1⟩:=h1.len s1;obtain⟨neg2,ao2,n2,cap2,ys,rfl,hn2,hl2,hc2,hx2,hN2,hz2,hq2⟩:=h2.len s2;have hcall1:=fun W hw=>jI ao1 n1 cap1 xs W hn1 hl1 hc1 hw
 rw[<-hn1,qR hN1,hn1]at hcall1;have hcall2:=fun W hw=>jI ao2 n2 cap2 ys W hn2 hl2 hc2 hw
 rw[<-hn2,qR hN2,hn2]at hcall2;have HY:Hid (0<nat ys):=by
  show _<_;rcases Nat.eq_zero_or_pos (nat ys)with h|h
  ·exact absurd (by rw[hz2,h,zEG]) hz
  ·exact h
 have hn20:0<n2:=by
  rcases Nat.eq_zero_or_pos n2 with h|h
  ·rw[h]at hn2
   have:=List.eq_nil_of_length_eq_zero hn2;subst this;exact absurd HY.out sI
  ·exact h
 have HSP:Hid (z1/z2=sgn (neg1 !=neg2) (dmQ neg1 (nat xs) (nat ys))/\z1%z2=(dmR neg1 (nat xs) (nat ys):Nat)):=by
  rw[hz1,hz2];exact zKc neg1 neg2 _ _ HY.out
 have HN1:=Lib.hid hn1;have HN2:=Lib.hid hn2;have hn20':((n2:Int)==0)=false:=by simp;omega
 have hq1':n1<=2*LIM:=by omega
 have hq2':n2<=2*LIM:=by omega
 clear hn1 hn2 hz1 hz2 s1 s2 h1 h2 hz;rw[qW]at hq1 hq2;replace hq1:=hq1';replace hq2:=hq2';cases neg1 with
 | false=>
  have hsg:(false !=neg2)=neg2:=by cases neg2<;>rfl
  rw[hsg]at HSP;clear hsg;go_enter Tryz.func157,Tryz.ntmps157;go_upto_region 1 with(fail)
  refine zB ?_;intro W0 hW0;obtain⟨hB0,bx1,bx2,br1,br2,hs0⟩:=zFn hW0;have hx1':=hx1.ext (lx hB0);have hx2':=hx2.ext (lx hB0);obtain⟨c1,c2,c3,c4⟩:=bx1.two;obtain⟨d1,d2,d3,d4⟩:=bx2.two;go_quiet ((first|(go_at_call_of 224 ao1;exact Calls.quiet_of_same ((hcall1 _ (hx1'.ext (lx (drN _ _)))).mono (by rintro e w' ⟨rfl,rfl⟩;exact⟨rfl,rfl⟩)))|(go_at_call_of 224 ao2;exact Calls.quiet_of_same ((hcall2 _ (hx2'.ext (lx (drN _ _)))).mono (by rintro e w' ⟨rfl,rfl⟩;exact⟨rfl,rfl⟩)))));go_upto_region 4 with(fail)
  refine zB ?_;intro W1 hW1;have hB1:Below w.heap.size w W1:=by rw[hW1.out];exact nx hB0 (drN _ _)
  have bx1':=Blk.at_ hW1 bx1;have bx2':=Blk.at_ hW1 bx2;have br1':=Blk.at_ hW1 br1;have br2':=Blk.at_ hW1 br2;clear c1 c2 c3 c4 d1 d2 d3 d4 hW1 bx1 bx2 br1 br2;go_wp2_with fail
  refine(zDT ao1 ao2 n1 n1 n2 n2 xs ys _ HN1.out HN2.out (xgf _) (xgf _) oM oM hq1 hq2 (hx1.ext (lx hB1)) (hx2.ext (lx hB1)) hN1 hN2 HY.out).mono ?_;intro e w2 hret;obtain⟨qo,ql,qc,qs,ro,rl,rc,rs,rfl,p1,p2,p3,p4,p5,p6,p7,p8,HM,hb2⟩:=hret.mod;have bx1:=bx1'.below hb2;have bx2:=bx2'.below hb2;have br1:=br1'.below hb2;have br2:=br2'.below hb2;have hB2:=nx hB1 hb2;obtain⟨c1,c2,c3,c4⟩:=bx1.two;obtain⟨d1,d2,d3,d4⟩:=bx2.two;have htl:=zAp rs rl;obtain⟨t,HT⟩:∃t,qS rs rl=t:=⟨_,rfl⟩;rw[HT]at htl;have htr:=fun W hw=>jI ro rl rc rs W p5 p6 p7 hw
  rw[HT]at htr;have htz:Hid ((t=0↔nat rs=0)/\nat (rs.take t)=nat rs/\(rs.take t).length=t/\qO (rs.take t)):=by
   refine⟨by rw[<-HT];exact zEv p5 p8.1,?_,?_,by rw[<-HT];exact jX rs rl oM⟩
   ·have h1:=zAM rs
    unfold zAu at h1;rw[p5,HT]at h1;exact h1
   ·rw[List.length_take];omega
  clear HT hret bx1' bx2' br1' br2';go_wp2_with fail
  refine(htr _ p8).mono ?_;rintro e w' ⟨rfl,rfl⟩;go_wp2_with fail
  have hQ:nat qs=dmQ false (nat xs) (nat ys):=by rw[HM.out.1];unfold dmQ;rw[if_neg sI]
  have hR:sgn false (nat (rs.take t))=(dmR false (nat xs) (nat ys):Nat):=by rw[htz.out.2.1,HM.out.2];unfold dmR;rw[if_neg sI];rfl
  refine(yH neg2 qo ql qc qs _ p1 p2 p3 p4).mono ?_;rintro e w5 ⟨v1,rfl,hv1,hb5⟩;go_wp2_with fail
  refine(yH false ro t t (rs.take t) _ htz.out.2.2.1 (xgf _) oM ((p8.take t).ext (lx hb5))).mono ?_;rintro e w6 ⟨v2,rfl,hv2,hb6⟩;have br1a:=(br1.below hb5).below hb6;have br2a:=(br2.below hb5).below hb6;obtain⟨e1,e2,e3,e4⟩:=br1a.two;obtain⟨g1,g2,g3,g4⟩:=br2a.two;have hv1':=hv1.ext (lx hb6);rw[hQ]at hv1';rw[hR]at hv2;clear hv1;obtain⟨qn,qa,ql',qc',qx,rfl,hq⟩:=hv1';obtain⟨rn,ra,rl',rc',rx,rfl,hr⟩:=hv2;go_wp2_with fail
  refine bodyPost_ret (jH rfl _ rfl rfl (((br1a.put2 _ _).far oM _ _).far oM _ _) (((br2a.far oM _ _).far oM _ _).put2 _ _) rfl rfl) rfl ?_;have hlx:=(br1a.lext2 dE (.bool qn) (.slice qa ql' qc')).trans (((br2a.far oM 0 (.bool qn)).far oM 1 (.slice qa ql' qc')).lext2 dE (.bool rn) (.slice ra rl' rc'));refine⟨_,_,rfl,?_,?_,zO (zO (zO (zO (nx (nx hB2 hb5) hb6) oM 0 _) oM 1 _) oM 0 _) oM 1 _⟩
  ·rw[HSP.out.1]
   exact zH.ext ⟨qn,qa,ql',qc',qx,rfl,hq⟩ hlx
  ·rw[HSP.out.2]
   exact zH.ext ⟨rn,ra,rl',rc',rx,rfl,hr⟩ hlx
 | true=>
  have hsg:(true !=neg2)=(!neg2):=by cases neg2<;>rfl
  rw[hsg]at HSP;clear hsg;go_enter Tryz.func157,Tryz.ntmps157;go_upto_region 1 with(fail)
  refine zB ?_;intro W0 hW0;obtain⟨hB0,bx1,bx2,br1,br2,hs0⟩:=zFn hW0;have hx1':=hx1.ext (lx hB0);have hx2':=hx2.ext (lx hB0);obtain⟨c1,c2,c3,c4⟩:=bx1.two;obtain⟨d1,d2,d3,d4⟩:=bx2.two;go_quiet ((first|(go_at_call_of 224 ao1;exact Calls.quiet_of_same ((hcall1 _ (hx1'.ext (lx (drN _ _)))).mono (by rintro e w' ⟨rfl,rfl⟩;exact⟨rfl,rfl⟩)))|(go_at_call_of 224 ao2;exact Calls.quiet_of_same ((hcall2 _ (hx2'.ext (lx (drN _ _)))).mono (by rintro e w' ⟨rfl,rfl⟩;exact⟨rfl,rfl⟩)))));go_upto_region 4 with(fail)
  refine zB ?_;intro W1 hW1;have hB1:Below w.heap.size w W1:=by rw[hW1.out];exact nx hB0 (drN _ _)
  have bx1':=Blk.at_ hW1 bx1;have bx2':=Blk.at_ hW1 bx2;have br1':=Blk.at_ hW1 br1;have br2':=Blk.at_ hW1 br2;clear c1 c2 c3 c4 d1 d2 d3 d4 hW1 bx1 bx2 br1 br2;go_wp2_with fail
  refine(zDT ao1 ao2 n1 n1 n2 n2 xs ys _ HN1.out HN2.out (xgf _) (xgf _) oM oM hq1 hq2 (hx1.ext (lx hB1)) (hx2.ext (lx hB1)) hN1 hN2 HY.out).mono ?_;intro e w2 hret;obtain⟨qo,ql,qc,qs,ro,rl,rc,rs,rfl,p1,p2,p3,p4,p5,p6,p7,p8,HM,hb2⟩:=hret.mod;have bx1:=bx1'.below hb2;have bx2:=bx2'.below hb2;have br1:=br1'.below hb2;have br2:=br2'.below hb2;have hB2:=nx hB1 hb2;obtain⟨c1,c2,c3,c4⟩:=bx1.two;obtain⟨d1,d2,d3,d4⟩:=bx2.two;have htl:=zAp rs rl;obtain⟨t,HT⟩:∃t,qS rs rl=t:=⟨_,rfl⟩;rw[HT]at htl;have htr:=fun W hw=>jI ro rl rc rs W p5 p6 p7 hw
  rw[HT]at htr;have htz:Hid ((t=0↔nat rs=0)/\nat (rs.take t)=nat rs/\(rs.take t).length=t/\qO (rs.take t)):=by
   refine⟨by rw[<-HT];exact zEv p5 p8.1,?_,?_,by rw[<-HT];exact jX rs rl oM⟩
   ·have h1:=zAM rs
    unfold zAu at h1;rw[p5,HT]at h1;exact h1
   ·rw[List.length_take];omega
  clear HT hret bx1' bx2' br1' br2';go_wp2_with fail
  refine(htr _ p8).mono ?_;rintro e w' ⟨rfl,rfl⟩;by_cases ht0:t=0
  ·have hz0:Hid (nat rs=0):=htz.out.1.1 ht0
   have hv0:Hid (nat (rs.take t)=nat rs/\(rs.take t).length=t):=⟨htz.out.2.1,htz.out.2.2.1⟩;clear htz;subst ht0;go_wp2_with fail
   have hQ:nat qs=dmQ true (nat xs) (nat ys):=by rw[HM.out.1];unfold dmQ;rw[if_neg (by rw[<-HM.out.2,hz0.out];simp)]
   have hR:sgn false (nat (rs.take 0))=(dmR true (nat xs) (nat ys):Nat):=by rw[hv0.out.1,HM.out.2];unfold dmR;rw[if_neg (by rw[<-HM.out.2,hz0.out];simp)];rfl
   refine(yH (!neg2) qo ql qc qs _ p1 p2 p3 p4).mono ?_;rintro e w5 ⟨v1,rfl,hv1,hb5⟩;go_wp2_with fail
   refine(yH false ro 0 0 (rs.take 0) _ hv0.out.2 (xgf _) oM ((p8.take 0).ext (lx hb5))).mono ?_;rintro e w6 ⟨v2,rfl,hv2,hb6⟩;have br1a:=(br1.below hb5).below hb6;have br2a:=(br2.below hb5).below hb6;obtain⟨e1,e2,e3,e4⟩:=br1a.two;obtain⟨g1,g2,g3,g4⟩:=br2a.two;have hv1':=hv1.ext (lx hb6);rw[hQ]at hv1';rw[hR]at hv2;clear hv1;obtain⟨qn,qa,ql',qc',qx,rfl,hq⟩:=hv1';obtain⟨rn,ra,rl',rc',rx,rfl,hr⟩:=hv2;go_wp2_with fail
   refine bodyPost_ret (jH rfl _ rfl rfl (((br1a.put2 _ _).far oM _ _).far oM _ _) (((br2a.far oM _ _).far oM _ _).put2 _ _) rfl rfl) rfl ?_;have hlx:=(br1a.lext2 dE (.bool qn) (.slice qa ql' qc')).trans (((br2a.far oM 0 (.bool qn)).far oM 1 (.slice qa ql' qc')).lext2 dE (.bool rn) (.slice ra rl' rc'));refine⟨_,_,rfl,?_,?_,zO (zO (zO (zO (nx (nx hB2 hb5) hb6) oM 0 _) oM 1 _) oM 0 _) oM 1 _⟩
   ·rw[HSP.out.1]
    exact zH.ext ⟨qn,qa,ql',qc',qx,rfl,hq⟩ hlx
   ·rw[HSP.out.2]
    exact zH.ext ⟨rn,ra,rl',rc',rx,rfl,hr⟩ hlx
  ·have ht1:(0:Int)<(t:Int):=by omega
   have hrpos:Hid (0<nat rs):=Nat.pos_of_ne_zero (fun h=>ht0 (htz.out.1.2 h));have htq:=fun W hw=>jI qo ql qc qs W p1 p2 p3 hw
   have htql:=zAp qs ql;obtain⟨u,HU⟩:∃u,qS qs ql=u:=⟨_,rfl⟩;rw[HU]at htq htql;have huz:Hid (nat (qs.take u)=nat qs/\(qs.take u).length=u):=by
    refine⟨?_,by rw[List.length_take];omega⟩;have h1:=zAM qs;unfold zAu at h1;rw[p1,HU]at h1;exact h1
   have hub:u<=4*LIM:=by
    have h1:qO (qs.take u):=by rw[<-HU];exact jX qs ql oM
    have h2:=jW hx1.1 h1 (by rw[huz.out.1,HM.out.1];exact Nat.div_le_self _ _);rw[huz.out.2,HN1.out]at h2;omega
   clear HU;go_wp2_with fail
   refine(htq _ p4).mono ?_;rintro e w' ⟨rfl,rfl⟩;go_wp2_with fail
   have hBa:Below w2.heap.size w2 (w2.alloc (.cells #[.int .u32 1] tU)):=(Below.refl _ _).alloc (xgf _) _;refine(zI0 qo (some ⟨w2.heap.size,0,none⟩) u u 1 1 (qs.take u) [1] _ huz.out.2 rfl (xgf _) (xgf _) oM oM hub (by rw[qW];omega) ((p4.take u).ext (lx hBa)) (zG.one w2 1 oM 1 rfl)).mono ?_;rintro e w3 ⟨ko,kl,kc,ks,rfl,k1,k2,k3,k4,k5,hb3⟩;have hB3:=nx (nx hB2 hBa) hb3;go_wp2_with fail
   refine(zEg ao2 ro n2 n2 t t ys (rs.take t) _ HN2.out htz.out.2.2.1 (xgf _) (xgf _) oM oM oM (hx2.ext (lx hB3)) ((p8.take t).ext (lx (nx hBa hb3))) (by have h:=jW hx2.1 htz.out.2.2.2 (by rw[htz.out.2.1,HM.out.2];exact Nat.le_of_lt (Nat.mod_lt _ HY.out));rw[htz.out.2.2.1,HN2.out]at h;exact h) (by rw[htz.out.2.1,HM.out.2];exact Nat.le_of_lt (Nat.mod_lt _ HY.out))).mono ?_;rintro e w4 ⟨lo,ll,lc,ls,rfl,l1,l2,l3,l4,l5,hb4⟩;have hB4:=nx hB3 hb4;replace br1:=((br1.below hBa).below hb3).below hb4;replace br2:=((br2.below hBa).below hb3).below hb4;replace bx1:=((bx1.below hBa).below hb3).below hb4;replace bx2:=((bx2.below hBa).below hb3).below hb4;clear c1 c2 c3 c4 d1 d2 d3 d4;obtain⟨c1,c2,c3,c4⟩:=bx1.two;obtain⟨d1,d2,d3,d4⟩:=bx2.two;go_wp2_with fail
   have hQ:nat ks=dmQ true (nat xs) (nat ys):=by
    rw[k5,huz.out.1,HM.out.1];unfold dmQ;rw[if_pos ⟨rfl,by rw[<-HM.out.2];exact hrpos.out⟩];rfl
   have hR:sgn false (nat ls)=(dmR true (nat xs) (nat ys):Nat):=by
    rw[l5,htz.out.2.1,HM.out.2];unfold dmR;rw[if_pos ⟨rfl,by rw[<-HM.out.2];exact hrpos.out⟩];rfl
   refine(yH (!neg2) ko kl kc ks _ k1 k2 k3 (k4.ext (lx hb4))).mono ?_;rintro e w5 ⟨v1,rfl,hv1,hb5⟩;go_wp2_with fail
   refine(yH false lo ll lc ls _ l1 l2 l3 (l4.ext (lx hb5))).mono ?_;rintro e w6 ⟨v2,rfl,hv2,hb6⟩;have br1a:=(br1.below hb5).below hb6;have br2a:=(br2.below hb5).below hb6;obtain⟨e1,e2,e3,e4⟩:=br1a.two;obtain⟨g1,g2,g3,g4⟩:=br2a.two;have hv1':=hv1.ext (lx hb6);rw[hQ]at hv1';rw[hR]at hv2;clear hv1;obtain⟨qn,qa,ql',qc',qx,rfl,hq⟩:=hv1';obtain⟨rn,ra,rl',rc',rx,rfl,hr⟩:=hv2;go_wp2_with fail
   refine bodyPost_ret (jH rfl _ rfl rfl (((br1a.put2 _ _).far oM _ _).far oM _ _) (((br2a.far oM _ _).far oM _ _).put2 _ _) rfl rfl) rfl ?_;have hlx:=(br1a.lext2 dE (.bool qn) (.slice qa ql' qc')).trans (((br2a.far oM 0 (.bool qn)).far oM 1 (.slice qa ql' qc')).lext2 dE (.bool rn) (.slice ra rl' rc'));refine⟨_,_,rfl,?_,?_,zO (zO (zO (zO (nx (nx hB4 hb5) hb6) oM 0 _) oM 1 _) oM 0 _) oM 1 _⟩
   ·rw[HSP.out.1]
    exact zH.ext ⟨qn,qa,ql',qc',qx,rfl,hq⟩ hlx
   ·rw[HSP.out.2]
    exact zH.ext ⟨rn,ra,rl',rc',rx,rfl,hr⟩ hlx
theorem yM(ao:Option Addr)(n cap:Nat)(xs:List Nat)(neg:Bool)(w:World)(hn:xs.length=n)(hl:n<=cap)(hcap:cap<=9223372036854775807)(hb:n<=8*LIM)(hx:zG w ao xs):
  Calls Tryz.prog 67 #[.slice ao n cap,.bool neg] w (jL w (sgn neg (nat xs))):=by
 have HN:=Lib.hid hn;have hlen:xs.length<=n:=by omega
 have hlen':n<=xs.length:=by omega
 rw[qW]at hb;have hnt:Hid (∀k,qS xs k=qS xs n->qS xs n=k->(qO (xs.take k)/\nat (xs.take k)=nat xs)):=fun k _ h=>by
  have h1:=zAM xs;have h2:=zBT xs;unfold zAu at h1 h2;rw[hn,h]at h1 h2;exact⟨h2,h1⟩
 clear hn;go_enter Tryz.func67,Tryz.ntmps67;go_upto_region 1 with(fail)
 refine zB ?_;intro W0 hW0;obtain⟨hB0,br,hs0⟩:=zK hW0;have hx0:=hx.ext (lx hB0);clear hW0;go_wp2;go_loop [5] (fun v=>∃k:Nat,k<=n/\v= .int .i64 k/\Hid (qS xs k=qS xs n)) (fun v=>(intOf v).toNat)
 case atStart=>exact⟨n,xgf _,rfl,rfl⟩
 case round=>
  obtain⟨k,hk,rfl,ht⟩:=hrel;have hkl:Hid ((xs.take k).length=k):=by show _=_;rw[List.length_take];omega
  cases k with
  | zero=>
   have hfin:Hid (qO (xs.take 0)/\nat (xs.take 0)=nat xs):=hnt.out 0 ht.out ht.out.symm;have E0:Hid (nat xs=0):=hfin.out.2.symm;cases neg with
   |false=>
    go_wp2_with (at_builtin;refine zIa rfl _ _ rfl W0.heap.size (.slice (some ⟨W0.heap.size,0,none⟩) 0 0) [] rfl (zEP.empty W0 _ (xgf _)) _ 0 cap ([]:List Nat) rfl (zG.nil _ _) rfl (by first|(simp;done)|(simp;omega)) sI ?_;intro v' w' hown hgr;have hBw:Below W0.heap.size W0 w':=((Below.refl _ _).alloc (xgf _) _).grown hgr sI (fun g hg=>by simp[Value.ownBlock]at hg;omega);have br2:=br.below hBw;obtain⟨e1,e2,e3,e4⟩:=br2.two;obtain⟨ao',cap',hv,h1,h2,h3⟩:=hown.at_;rw[List.nil_append,show([]:List Nat).length=0 from rfl]at hv h1;subst hv)
    refine zW rfl rfl rfl (br2.put2 _ _) ?_ (zO (zO (nx hB0 hBw) oM 0 _) oM 1 _);refine zH.ext ?_ (br2.lext2 dE _ _);exact⟨false,ao',0,cap',[],rfl,rfl,h1,h2,by simpa using h3,qO.nil,by rw[E0.out];rfl,by simp⟩
   |true=>
    go_wp2_with (at_builtin;refine zIa rfl _ _ rfl W0.heap.size (.slice (some ⟨W0.heap.size,0,none⟩) 0 0) [] rfl (zEP.empty W0 _ (xgf _)) _ 0 cap ([]:List Nat) rfl (zG.nil _ _) rfl (by first|(simp;done)|(simp;omega)) sI ?_;intro v' w' hown hgr;have hBw:Below W0.heap.size W0 w':=((Below.refl _ _).alloc (xgf _) _).grown hgr sI (fun g hg=>by simp[Value.ownBlock]at hg;omega);have br2:=br.below hBw;obtain⟨e1,e2,e3,e4⟩:=br2.two;obtain⟨ao',cap',hv,h1,h2,h3⟩:=hown.at_;rw[List.nil_append,show([]:List Nat).length=0 from rfl]at hv h1;subst hv)
    refine zW rfl rfl rfl (br2.put2 _ _) ?_ (zO (zO (nx hB0 hBw) oM 0 _) oM 1 _);refine zH.ext ?_ (br2.lext2 dE _ _);exact⟨false,ao',0,cap',[],rfl,rfl,h1,h2,by simpa using h3,qO.nil,by rw[E0.out];rfl,by simp⟩
  | succ k=>
   obtain⟨b,off,x,rfl,hbw,hx32,HX,hck⟩:=hx0.limb (k:=k) oM;by_cases hz:x=0
   ·have ht':Hid (qS xs k=qS xs n):=by
     have:=ht.out;rw[show qS xs (k+1)=if xs.getD k 0=0 then qS xs k else k+1 from rfl,if_pos (HX.out.trans hz)]at this;exact this
    subst hz;clear ht;go_wp2;go_round
    case rel=>exact⟨k,by omega,by go_num,ht'⟩
    case measure=>simp[intOf]
   ·have ht':Hid (qS xs n=k+1):=by
     have:=ht.out;rw[show qS xs (k+1)=if xs.getD k 0=0 then qS xs k else k+1 from rfl,if_neg (by rw[HX.out];exact hz)]at this;exact this.symm
    have hfin:Hid (qO (xs.take (k+1))/\nat (xs.take (k+1))=nat xs):=hnt.out (k+1) ht.out ht'.out;have hzz:((x:Int)==0)=false:=by simpa using hz
    clear hz ht;cases neg with
    |false=>
     go_wp2_with (at_builtin;refine zIa rfl _ _ rfl W0.heap.size (.slice (some ⟨W0.heap.size,0,none⟩) 0 0) [] rfl (zEP.empty W0 _ (xgf _)) _ (k+1) cap (xs.take (k+1)) rfl ((hx0.take (k+1)).ext (lx ((Below.refl _ _).alloc (xgf _) _))) hkl.out (by first|(simp;done)|(simp;omega)) sI ?_;intro v' w' hown hgr;have hBw:Below W0.heap.size W0 w':=((Below.refl _ _).alloc (xgf _) _).grown hgr sI (fun g hg=>by simp[Value.ownBlock]at hg;omega);have br2:=br.below hBw;obtain⟨e1,e2,e3,e4⟩:=br2.two;obtain⟨ao',cap',hv,h1,h2,h3⟩:=hown.at_;rw[List.nil_append,show(xs.take (k+1)).length=(k+1) from hkl.out]at hv h1;subst hv)
     refine zW rfl rfl rfl (br2.put2 _ _) ?_ (zO (zO (nx hB0 hBw) oM 0 _) oM 1 _);refine zH.ext ?_ (br2.lext2 dE _ _);exact⟨false,ao',k+1,cap',xs.take (k+1),rfl,hkl.out,h1,h2,by simpa using h3,hfin.out.1,by rw[hfin.out.2];rfl,by simp⟩
    |true=>
     go_wp2_with (at_builtin;refine zIa rfl _ _ rfl W0.heap.size (.slice (some ⟨W0.heap.size,0,none⟩) 0 0) [] rfl (zEP.empty W0 _ (xgf _)) _ (k+1) cap (xs.take (k+1)) rfl ((hx0.take (k+1)).ext (lx ((Below.refl _ _).alloc (xgf _) _))) hkl.out (by first|(simp;done)|(simp;omega)) sI ?_;intro v' w' hown hgr;have hBw:Below W0.heap.size W0 w':=((Below.refl _ _).alloc (xgf _) _).grown hgr sI (fun g hg=>by simp[Value.ownBlock]at hg;omega);have br2:=br.below hBw;obtain⟨e1,e2,e3,e4⟩:=br2.two;obtain⟨ao',cap',hv,h1,h2,h3⟩:=hown.at_;rw[List.nil_append,show(xs.take (k+1)).length=(k+1) from hkl.out]at hv h1;subst hv)
     refine zW rfl rfl rfl (br2.put2 _ _) ?_ (zO (zO (nx hB0 hBw) oM 0 _) oM 1 _);refine zH.ext ?_ (br2.lext2 dE _ _);exact⟨true,ao',k+1,cap',xs.take (k+1),rfl,hkl.out,h1,h2,by simpa using h3,hfin.out.1,by rw[hfin.out.2];rfl,by simp⟩
theorem zAl{P:Program}{f:FuncId}{args:Array Value}{w:World}{R:Ending->World->Prop}(h:∀W0,Hid (W0=w)->Calls P f args W0 R):Calls P f args w R:=h w rfl
theorem zK3{w:World}{g a b:Nat}{m k:Int}(h:Blk w g tU #[.int .u32 m,.int .u32 k])(ha:a<4294967296)(hb:b<4294967296)(hm:m=a)(hk:k=b):zG w (some ⟨g,0,none⟩) [a,b]:=by
 subst hm;subst hk;exact jQ.at_ (xs:=[a,b]) h (fun x hx=>by simp at hx;unfold B32;omega)
theorem zAH(n:Int)(w:World)(h1:-9223372036854775808<=n)(h2:n<=9223372036854775807):
  Calls Tryz.prog 17 #[.int .i64 n] w (jL w n):=by
 obtain⟨m,hm⟩:∃m,n.natAbs=m:=⟨_,rfl⟩;have hm64:m<=9223372036854775808:=by omega
 have hlen:([m%4294967296,m/4294967296]:List Nat).length=2:=rfl;have hnat:nat [m%4294967296,m/4294967296]=m:=by simp[yN,yQ];omega
 have hz:Hid (sgn (decide (n<0)) (nat [m%4294967296,m/4294967296])=n):=by show _=_;rw[hnat];by_cases h:n<0<;>simp[h,sgn]<;>omega
 clear hnat hlen;by_cases hn:n<0
 ·have e:IntKind.u64.wrap (-IntKind.u64.wrap n)=((m:Nat):Int):=by simp only[IntKind.wrap_u64];omega
  have hz':Hid (sgn true (nat [m%4294967296,m/4294967296])=n):=by have:=hz.out;rw[show decide (n<0)=true by simpa using hn]at this;exact this
  clear hm;go_enter Tryz.func17,Tryz.ntmps17;go_wp2_with fail
  refine zAl ?_;intro W1 hW1;obtain⟨hB1,br1,bl1,hs1⟩:=qH hW1;refine(yM _ 2 2 [m%4294967296,m/4294967296] true _ rfl (xgf _) oM (by rw[qW];omega) (zK3 bl1 oM oM (by simp[IntKind.wrap_u32]) (by simp[IntKind.wrap_u32]))).mono ?_;rintro e2 w2 ⟨v,rfl,hv,hb2⟩;have br2:=br1.below hb2;obtain⟨k1,k2,k3,k4⟩:=br2.two;rw[hz'.out]at hv;obtain⟨vn,va,vl,vc,vx,rfl,hv2⟩:=hv;go_wp2_with fail
  refine zW rfl rfl rfl (br2.put2 _ _) ?_ (zO (zO (nx hB1 hb2) oM 0 _) oM 1 _);exact zH.ext ⟨vn,va,vl,vc,vx,rfl,hv2⟩ (br2.lext2 dE _ _)
 ·have e:IntKind.u64.wrap n=((m:Nat):Int):=by simp only[IntKind.wrap_u64];omega
  have hz':Hid (sgn false (nat [m%4294967296,m/4294967296])=n):=by have:=hz.out;rw[show decide (n<0)=false by simpa using hn]at this;exact this
  clear hm;go_enter Tryz.func17,Tryz.ntmps17;go_wp2_with fail
  refine zAl ?_;intro W1 hW1;obtain⟨hB1,br1,bl1,hs1⟩:=qH hW1;refine(yM _ 2 2 [m%4294967296,m/4294967296] false _ rfl (xgf _) oM (by rw[qW];omega) (zK3 bl1 oM oM (by simp[IntKind.wrap_u32]) (by simp[IntKind.wrap_u32]))).mono ?_;rintro e2 w2 ⟨v,rfl,hv,hb2⟩;have br2:=br1.below hb2;obtain⟨k1,k2,k3,k4⟩:=br2.two;rw[hz'.out]at hv;obtain⟨vn,va,vl,vc,vx,rfl,hv2⟩:=hv;go_wp2_with fail
  refine zW rfl rfl rfl (br2.put2 _ _) ?_ (zO (zO (nx hB1 hb2) oM 0 _) oM 1 _);exact zH.ext ⟨vn,va,vl,vc,vx,rfl,hv2⟩ (br2.lext2 dE _ _)
theorem zH.len{w:World}{v:Value}{z:Int}(h:zH w v z)(s:Sm z):
  ∃neg ao n cap xs,v= .agg #[.bool neg,.slice ao n cap]/\xs.length=n/\n<=cap/\cap<=9223372036854775807/\zG w ao xs/\qO xs/\z=sgn neg (nat xs)/\(n=0->neg=false)/\n<=LIM:=by
 obtain⟨neg,ao,n,cap,xs,h1,h2,h3,h4,h5,h6,h7,h8⟩:=h;exact⟨neg,ao,n,cap,xs,h1,h2,h3,h4,h5,h6,h7,h8,by rw[<-h2];exact Sm.len (neg:=neg) (by rw[<-h7];exact s) h6⟩
theorem zA0(v:Value)(z:Int)(w:World)(h:zH w v z):
  Calls Tryz.prog 132 #[v] w fun e w'=>e= .returned (.int .i64 (qJ z 0))/\Below w.heap.size w w':=by
 obtain⟨neg,ao,n,cap,xs,rfl,hn,hl,hcap,hx,hN,hz,_⟩:=h;by_cases h0:n=0
 ·have E:Hid (qJ z 0=0):=by
   have:xs= []:=List.eq_nil_of_length_eq_zero oM;subst this;exact zAA (by rw[hz];simp[zEG])
  clear hz hn;subst h0;go_enter Tryz.func132,Tryz.ntmps132;go_wp2;go_ret;exact⟨by rw[E.out];rfl,(Below.refl _ _).alloc (xgf _) _⟩
 ·have hp:0<nat xs:=zH6 hN (by rintro rfl;simp at hn;omega)
  have h0':((n:Int)==0)=false:=by simpa using h0
  cases neg with
  |true=>
   have E:Hid (qJ z 0=-1):=yV (by rw[hz];simp;omega);clear hz hn;go_enter Tryz.func132,Tryz.ntmps132;go_wp2;go_ret;exact⟨by rw[E.out];rfl,(Below.refl _ _).alloc (xgf _) _⟩
  |false=>
   have E:Hid (qJ z 0=1):=jG (by rw[hz];simp;omega);clear hz hn;go_enter Tryz.func132,Tryz.ntmps132;go_wp2;go_ret;exact⟨by rw[E.out];rfl,(Below.refl _ _).alloc (xgf _) _⟩
theorem zCo(v1:Value)(z:Int)(w:World)(h1:zH w v1 z):Calls Tryz.prog 131 #[v1] w fun e w'=>e= .returned (.bool true)/\Below w.heap.size w w':=by
 obtain⟨neg,ao,n,cap,xs,rfl,hn,hl,hc,hx,hN,hz,hpos⟩:=h1;have HN:=Lib.hid hn;clear hz;cases n with
 |zero=>
  obtain rfl:=hpos rfl;clear hn;go_enter Tryz.func131,Tryz.ntmps131;go_wp2;go_ret;exact⟨rfl,(Below.refl _ _).alloc (xgf _) _⟩
 | succ n=>
  obtain⟨b,off,x,rfl,hbw,hx32,HX,hck⟩:=hx.limb (k:=n) oM;have hx0:((x:Int) !=0)=true:=by
   have:=hN n hn;rw[HX.out]at this;simpa using this
  clear hn hpos;go_enter Tryz.func131,Tryz.ntmps131;go_wp2;go_ret;exact⟨rfl,(Below.refl _ _).alloc (xgf _) _⟩
theorem zBb(v1:Value)(z:Int)(w:World)(h1:zD5 w v1 z)(s1:Sm z):Calls Tryz.prog 242 #[v1] w (jL w (-z)):=by
 obtain⟨neg,ao,n,cap,xs,rfl,hn,hl,hc,hx,hN,hz,hq⟩:=h1.len s1;have HN:=Lib.hid hn;have HZ:=Lib.hid hz;clear hn hz s1 h1;have hq':n<=8*LIM:=by omega
 go_enter Tryz.func242,Tryz.ntmps242;go_upto_region 1 with(fail)
 refine zB ?_;intro W0 hW0;obtain⟨hB0,bx1,br,hs0⟩:=qH hW0;obtain⟨c1,c2,c3,c4⟩:=bx1.two;obtain⟨d1,d2,d3,d4⟩:=br.two;go_wp2_with fail
 refine(yM ao n cap xs (!neg) _ HN.out hl hc hq' (hx.ext (lx hB0))).mono ?_;rintro e w2 ⟨v,rfl,hv,hb2⟩;have br2:=br.below hb2;obtain⟨e1,e2,e3,e4⟩:=br2.two;obtain⟨vn,va,vl,vc,vx,rfl,hv2⟩:=hv;go_wp2_with fail
 refine zW rfl rfl rfl (br2.put2 _ _) ?_ (zO (zO (nx hB0 hb2) oM 0 _) oM 1 _);refine zH.ext ?_ (br2.lext2 dE _ _);rw[HZ.out,<-zGN];exact⟨vn,va,vl,vc,vx,rfl,hv2⟩
theorem zD9(ao1 ao2:Option Addr)(n1 cap1 n2 cap2:Nat)(xs ys:List Nat)(w:World)(hn1:xs.length=n1)(hn2:ys.length=n2)(hl1:n1<=cap1)(hl2:n2<=cap2)
  (hc1:cap1<=9223372036854775807) (hc2:cap2<=9223372036854775807) (hx1:zG w ao1 xs) (hx2:zG w ao2 ys) (hN1:qO xs) (hN2:qO ys):
  Calls Tryz.prog 182 #[.slice ao1 n1 cap1,.slice ao2 n2 cap2] w fun e w'=>e= .returned (.bool (decide (nat xs<nat ys)))/\∃q,w'=w.drewN q:=by
 have HN1:=Lib.hid hn1;have HN2:=Lib.hid hn2;by_cases hne:n1=n2
 ·subst hne
  have hlen1:xs.length<=n1:=by omega
  have hlen1':n1<=xs.length:=by omega
  have hlen2:ys.length<=n1:=by omega
  have hlen2':n1<=ys.length:=by omega
  clear hn1 hn2;go_enter Tryz.func182,Tryz.ntmps182;go_wp2;go_loopw [5] (fun i wr=>∃k q:Nat,k<=n1/\i= .int .i64 ((k:Int)-1)/\Hid (xs.drop k=ys.drop k)/\Hid (wr=w.drewN q)) (fun i _=>(intOf i+1).toNat)
  case atStart=>exact⟨n1,0,xgf _,rfl,by show _=_;rw[List.drop_eq_nil_of_le oM,List.drop_eq_nil_of_le oM],rfl⟩
  case round=>
   obtain⟨k,q,hk,rfl,HD,HW⟩:=hrel;cases k with
   | zero=>
    have E:Hid (decide (nat xs<nat ys)=false):=by
     have:xs=ys:=by simpa using HD.out
     subst this;show _=_;simp
    go_wp2;go_ret;exact⟨by rw[E.out];rfl,_,HW.out⟩
   | succ k=>
    obtain⟨b,off,x,rfl,hbw,hx32,HX,hck⟩:=hx1.limb (k:=k) oM;obtain⟨b2,off2,y,rfl,hbw2,hy32,HY,hcy⟩:=hx2.limb (k:=k) oM;have hck':wr.cell? ⟨b,off+k,none⟩=some (.int .u32 (x:Nat)):=by rw[HW.out];exact hck
    have hcy':wr.cell? ⟨b2,off2+k,none⟩=some (.int .u32 (y:Nat)):=by rw[HW.out];exact hcy
    have ek:IntKind.i64.wrap ((k:Int)+1-1)=k:=by rw[IntWalk.i64_in _ oM];omega
    clear hck hcy;by_cases hxy:x=y
    ·subst hxy
     have HD':Hid (xs.drop k=ys.drop k):=by
      show _=_;rw[List.drop_eq_getElem_cons (l:=xs) (i:=k) oM,List.drop_eq_getElem_cons (l:=ys) (i:=k) oM,HD.out];have h1:=HX.out;have h2:=HY.out;rw[xgb,xga oM]at h1 h2;simp at h1 h2;rw[h1,h2]
     have e0:((x:Int) !=x)=false:=by simp
     clear HD HX HY;go_wp2;go_quiet (fail);go_wp2;go_roundw
     case rel=>exact⟨k,_,by omega,by go_num,HD',by show _=_;rw[HW.out,World.drewN_drewN]⟩
     case measure=>simp[intOf]
    ·have e0:((x:Int) !=y)=true:=by simp;omega
     have E:Hid (decide (nat xs<nat ys)=decide (x<y)):=by
      show _=_;rcases Nat.lt_or_gt_of_ne hxy with h|h
      ·have:=zIe hx1.1 oM oM HD.out HX.out HY.out h
       simp[this,h]
      ·have:=zIe hx2.1 oM oM HD.out.symm HY.out HX.out h
       simp;constructor<;>intro<;>omega
     by_cases hlt:x<y
     ·have e1:decide ((x:Int)<(y:Int))=true:=by simp;omega
      have e2:Hid (decide (nat xs<nat ys)=true):=by show _=_;rw[E.out];simp[hlt]
      go_wp2;go_quiet (fail);go_wp2;go_quiet (fail);go_wp2;go_ret;exact⟨by rw[e2.out];rfl,_,by rw[HW.out];simp only[World.drewN_drewN];rfl⟩
     ·have e1:decide ((x:Int)<(y:Int))=false:=by simp;omega
      have e2:Hid (decide (nat xs<nat ys)=false):=by show _=_;rw[E.out];simp[hlt]
      go_wp2;go_quiet (fail);go_wp2;go_quiet (fail);go_wp2;go_ret;exact⟨by rw[e2.out];rfl,_,by rw[HW.out];simp only[World.drewN_drewN];rfl⟩
 ·have e0:((n1:Int) !=n2)=true:=by simp;omega
  rcases Nat.lt_or_gt_of_ne hne with h|h
  ·have e2:Hid (decide (nat xs<nat ys)=true):=by
    have:=zFt hx1.1 hN2 oM;show _=_;simp[this]
   clear hn1 hn2;go_enter Tryz.func182,Tryz.ntmps182;go_wp2;go_ret;exact⟨by rw[e2.out];first|rfl|(show Ending.returned (.bool (decide (n1<n2)))=_;first|rw[decide_eq_true h]|rw[decide_eq_false oM]),0,rfl⟩
  ·have e2:Hid (decide (nat xs<nat ys)=false):=by
    have:=zFt hx2.1 hN1 oM;show _=_;simp;omega
   clear hn1 hn2;go_enter Tryz.func182,Tryz.ntmps182;go_wp2;go_ret;exact⟨by rw[e2.out];first|rfl|(show Ending.returned (.bool (decide (n1<n2)))=_;first|rw[decide_eq_true h]|rw[decide_eq_false oM]),0,rfl⟩
def zGY(w:World)(n:Nat)(e:Ending)(w':World):Prop:=
 ∃ao len cap xs,e= .returned (.slice ao len cap)/\xs.length=len/\len<=cap/\cap<=9223372036854775807/\zG w' ao xs/\nat xs=n/\Below w.heap.size w w'/\len<=8*LIM
theorem zDB{xs ys zs:List Nat}{k d x y:Nat}(hl:zs.length=k)(h:nat zs+d*B32^k=nat (xs.take k)+nat (ys.take k))(hx:xs.getD k 0=x)(hy:ys.getD k 0=y):
  nat (zs++ [(d+x+y)%4294967296])+(d+x+y)/4294967296*B32^(k+1)=nat (xs.take (k+1))+nat (ys.take (k+1)):=by
 have h1:=zB5 (xs:=xs) (ys:=ys) (zs:=zs++ [0]) (k:=k) (d:=d) (x:=x) (y:=y) (by rw[List.take_append_of_le_length oM,zJ zs oM];exact h) (by simp;omega) hx hy;have h2:(zs++ [0]).set k ((d+x+y)%4294967296)=zs++ [(d+x+y)%4294967296]:=by
  rw[List.set_append_right _ _ oM,hl,Nat.sub_self];rfl
 rw[h2,zJ _ (by simp;omega)]at h1;exact h1
theorem zB3{xs:List Nat}{k:Nat}(h:xs.length<=k):xs.getD k 0=0:=by rw[xgb,List.getElem?_eq_none h];rfl
theorem zEP.base_le{w:World}{base:Nat}{v:Value}{xs:List Nat}(h:zEP w base v xs):∀g,v.ownBlock=some g->base<=g:=fun g hg=>(h.2.lt g hg).1
theorem zJm(ao1 ao2:Option Addr)(n1 cap1 n2 cap2:Nat)(xs ys:List Nat)(w:World)(hn1:xs.length=n1)(hn2:ys.length=n2)
  (hb1:n1<=4*LIM) (hb2:n2<=4*LIM) (hx1:zG w ao1 xs) (hx2:zG w ao2 ys):
  Calls Tryz.prog 181 #[.slice ao1 n1 cap1,.slice ao2 n2 cap2] w (zGY w (nat xs+nat ys)):=by
 have HN1:=Lib.hid hn1;have HN2:=Lib.hid hn2;have hlen1:xs.length<=n1:=by omega
 have hlen1':n1<=xs.length:=by omega
 have hlen2:ys.length<=n2:=by omega
 have hlen2':n2<=ys.length:=by omega
 clear hn1 hn2;rw[qW]at hb1 hb2;obtain⟨mx,hmx1,hmx2,hmx3⟩:∃m,n1<=m/\n2<=m/\m<=4*1099511627776:=⟨max n1 n2,by omega,by omega,by omega⟩;go_enter Tryz.func181,Tryz.ntmps181;go_wp2;go_loopw [5,6,7] (fun v c i wr=>∃(k d:Nat) (zs:List Nat),k<=mx+1/\i= .int .i64 k/\c= .int .u64 d/\d<=1/\k+d<=mx+1/\zs.length<=mx+1/\zEP wr w.heap.size v zs/\Below w.heap.size w wr∧
   Hid (zs.length=k/\nat zs+d*B32^k=nat (xs.take k)+nat (ys.take k))) (fun _ _ i _=>mx+1-(intOf i).toNat)
 case atStart=>exact⟨0,0,[],by omega,rfl,rfl,by omega,by omega,by simp,zEP.empty w _ (xgf _),(Below.refl _ _).alloc (xgf _) _,⟨rfl,by simp⟩⟩
 case round=>
  obtain⟨k,d,zs,hk,rfl,rfl,hd,hkd,hzl,hown,hbel,HH⟩:=hrel;have hzk:zs.length<=k:=Nat.le_of_eq HH.out.1;by_cases h1:k<n1
  ·obtain⟨b,off,x,rfl,hbw,hx32,HX,hck⟩:=hx1.limb (k:=k) oM
   have hck':=(hbel.cell (p:=⟨b,off+k,none⟩) hbw).trans hck;clear hck;by_cases h2:k<n2
   ·obtain⟨b2,off2,y,rfl,hbw2,hy32,HY,hcy⟩:=hx2.limb (k:=k) oM
    have hcy':=(hbel.cell (p:=⟨b2,off2+k,none⟩) hbw2).trans hcy;clear hcy;go_wp2_with (at_builtin;refine zIa rfl _ _ rfl w.heap.size u5 zs rfl (hown.alloc _) _ 1 _ [(d+x+y)%4294967296] rfl (zG.one _ ((d+x+y)%4294967296) (Nat.mod_lt _ dE) _ (by first|rfl|omega|simp)) rfl oM (by have:=hbel.size;simp;omega) ?_;intro v' w' hown' hgr';have hbel':Below w.heap.size w w':=(hbel.alloc hbel.size _).grown hgr' (by have:=hbel.size;simp;omega) (fun g hg=>hown.base_le g hg))
    go_roundw
    case rel=>exact⟨k+1,(d+x+y)/4294967296,zs++ [(d+x+y)%4294967296],by omega,by go_num,by go_num,by omega,by omega,by simp;omega,hown',hbel',⟨by simp[HH.out.1],zDB HH.out.1 HH.out.2 HX.out HY.out⟩⟩
    case measure=>simp[intOf];omega
   ·have HY:Hid (ys.getD k 0=0):=zB3 oM
    have hs0:d+x+0=d+x:=rfl;go_wp2_with (at_builtin;refine zIa rfl _ _ rfl w.heap.size u5 zs rfl (hown.alloc _) _ 1 _ [(d+x+0)%4294967296] rfl (zG.one _ ((d+x+0)%4294967296) (Nat.mod_lt _ dE) _ (by first|rfl|omega|simp)) rfl oM (by have:=hbel.size;simp;omega) ?_;intro v' w' hown' hgr';have hbel':Below w.heap.size w w':=(hbel.alloc hbel.size _).grown hgr' (by have:=hbel.size;simp;omega) (fun g hg=>hown.base_le g hg))
    go_roundw
    case rel=>exact⟨k+1,(d+x+0)/4294967296,zs++ [(d+x+0)%4294967296],by omega,by go_num,by go_num,by omega,by omega,by simp;omega,hown',hbel',⟨by simp[HH.out.1],zDB HH.out.1 HH.out.2 HX.out HY.out⟩⟩
    case measure=>simp[intOf];omega
  ·have HX:Hid (xs.getD k 0=0):=zB3 oM
   by_cases h2:k<n2
   ·obtain⟨b2,off2,y,rfl,hbw2,hy32,HY,hcy⟩:=hx2.limb (k:=k) oM
    have hcy':=(hbel.cell (p:=⟨b2,off2+k,none⟩) hbw2).trans hcy;clear hcy;go_wp2_with (at_builtin;refine zIa rfl _ _ rfl w.heap.size u5 zs rfl (hown.alloc _) _ 1 _ [(d+0+y)%4294967296] rfl (zG.one _ ((d+0+y)%4294967296) (Nat.mod_lt _ dE) _ (by first|rfl|omega|simp)) rfl oM (by have:=hbel.size;simp;omega) ?_;intro v' w' hown' hgr';have hbel':Below w.heap.size w w':=(hbel.alloc hbel.size _).grown hgr' (by have:=hbel.size;simp;omega) (fun g hg=>hown.base_le g hg))
    go_roundw
    case rel=>exact⟨k+1,(d+0+y)/4294967296,zs++ [(d+0+y)%4294967296],by omega,by go_num,by go_num,by omega,by omega,by simp;omega,hown',hbel',⟨by simp[HH.out.1],zDB HH.out.1 HH.out.2 HX.out HY.out⟩⟩
    case measure=>simp[intOf];omega
   ·have HY:Hid (ys.getD k 0=0):=zB3 oM
    by_cases h3:0<d
    ·
     go_wp2_with (at_builtin;refine zIa rfl _ _ rfl w.heap.size u5 zs rfl (hown.alloc _) _ 1 _ [(d+0+0)%4294967296] rfl (zG.one _ ((d+0+0)%4294967296) (Nat.mod_lt _ dE) _ (by first|rfl|omega|simp)) rfl oM (by have:=hbel.size;simp;omega) ?_;intro v' w' hown' hgr';have hbel':Below w.heap.size w w':=(hbel.alloc hbel.size _).grown hgr' (by have:=hbel.size;simp;omega) (fun g hg=>hown.base_le g hg))
     go_roundw
     case rel=>exact⟨k+1,(d+0+0)/4294967296,zs++ [(d+0+0)%4294967296],by omega,by go_num,by go_num,by omega,by omega,by simp;omega,hown',hbel',⟨by simp[HH.out.1],zDB HH.out.1 HH.out.2 HX.out HY.out⟩⟩
     case measure=>simp[intOf];omega
    ·obtain rfl:0=d:=by omega
     go_wp2;go_ret;obtain⟨ao',cap',hv,q1,q2,q3⟩:=hown.at_;have h4:=HH.out.2;rw[Nat.zero_mul,Nat.add_zero,zJ xs oM,zJ ys oM]at h4;exact⟨ao',_,cap',zs,by rw[hv];rfl,rfl,q1,q2,q3,h4,hbel,by rw[qW];omega⟩
theorem zCI{xs ys zs:List Nat}{k d x y v e:Nat}(hl:zs.length=k)(h:nat zs+nat (ys.take k)=nat (xs.take k)+d*B32^k)(hx:xs.getD k 0=x)(hy:ys.getD k 0=y)(hv:v+y+d=x+e*4294967296):
  nat (zs++ [v])+nat (ys.take (k+1))=nat (xs.take (k+1))+e*B32^(k+1):=by
 have h1:=zDa (xs:=xs) (ys:=ys) (zs:=zs++ [0]) (k:=k) (d:=d) (x:=x) (y:=y) (v:=v) (e:=e) (by rw[List.take_append_of_le_length oM,zJ zs oM];exact h) (by simp;omega) hx hy hv;have h2:(zs++ [0]).set k v=zs++ [v]:=by
  rw[List.set_append_right _ _ oM,hl,Nat.sub_self];rfl
 rw[h2,zJ _ (by simp;omega)]at h1;exact h1
theorem zEj(ao1 ao2:Option Addr)(n1 cap1 n2 cap2:Nat)(xs ys:List Nat)(w:World)(hn1:xs.length=n1)(hn2:ys.length=n2)
  (hb1:n1<=4*LIM) (hx1:zG w ao1 xs) (hx2:zG w ao2 ys) (hle:n2<=n1) (hval:nat ys<=nat xs):
  Calls Tryz.prog 183 #[.slice ao1 n1 cap1,.slice ao2 n2 cap2] w (zGY w (nat xs-nat ys)):=by
 have HN1:=Lib.hid hn1;have HN2:=Lib.hid hn2;have HV:=Lib.hid hval;have hlen1:xs.length<=n1:=by omega
 have hlen1':n1<=xs.length:=by omega
 have hlen2:ys.length<=n2:=by omega
 have hlen2':n2<=ys.length:=by omega
 clear hn1 hn2 hval;rw[qW]at hb1;go_enter Tryz.func183,Tryz.ntmps183;go_wp2;go_loopw [5,6,7] (fun v c i wr=>∃(k d:Nat) (zs:List Nat),k<=n1/\i= .int .i64 k/\c= .int .i64 d/\d<=1/\zEP wr w.heap.size v zs/\Below w.heap.size w wr∧
   Hid (zs.length=k/\nat zs+nat (ys.take k)=nat (xs.take k)+d*B32^k)) (fun _ _ i _=>n1-(intOf i).toNat)
 case atStart=>exact⟨0,0,[],by omega,rfl,rfl,by omega,zEP.empty w _ (xgf _),(Below.refl _ _).alloc (xgf _) _,⟨rfl,by simp⟩⟩
 case round=>
  obtain⟨k,d,zs,hk,rfl,rfl,hd,hown,hbel,HH⟩:=hrel;have hzk:zs.length<=k:=Nat.le_of_eq HH.out.1;by_cases h1:k<n1
  ·obtain⟨b,off,x,rfl,hbw,hx32,HX,hck⟩:=hx1.limb (k:=k) oM
   have hck':=(hbel.cell (p:=⟨b,off+k,none⟩) hbw).trans hck;clear hck;by_cases h2:k<n2
   ·obtain⟨b2,off2,y,rfl,hbw2,hy32,HY,hcy⟩:=hx2.limb (k:=k) oM
    have hcy':=(hbel.cell (p:=⟨b2,off2+k,none⟩) hbw2).trans hcy;clear hcy;by_cases hs:y+d<=x
    ·
     go_wp2_with (at_builtin;refine zIa rfl _ _ rfl w.heap.size u5 zs rfl (hown.alloc _) _ 1 _ [(x-d-y)] rfl (zG.one _ ((x-d-y)) oM _ (by first|rfl|omega|(rw[IntKind.wrap_u32];omega))) rfl oM (by have:=hbel.size;simp;omega) ?_;intro v' w' hown' hgr';have hbel':Below w.heap.size w w':=(hbel.alloc hbel.size _).grown hgr' (by have:=hbel.size;simp;omega) (fun g hg=>hown.base_le g hg))
     go_roundw
     case rel=>exact⟨k+1,0,zs++ [(x-d-y)],by omega,by go_num,rfl,by omega,hown',hbel',⟨by simp[HH.out.1],zCI HH.out.1 HH.out.2 HX.out HY.out oM⟩⟩
     case measure=>simp[intOf];omega
    ·
     go_wp2_with (at_builtin;refine zIa rfl _ _ rfl w.heap.size u5 zs rfl (hown.alloc _) _ 1 _ [(x+4294967296-d-y)] rfl (zG.one _ ((x+4294967296-d-y)) oM _ (by first|rfl|omega|(rw[IntKind.wrap_u32];omega))) rfl oM (by have:=hbel.size;simp;omega) ?_;intro v' w' hown' hgr';have hbel':Below w.heap.size w w':=(hbel.alloc hbel.size _).grown hgr' (by have:=hbel.size;simp;omega) (fun g hg=>hown.base_le g hg))
     go_roundw
     case rel=>exact⟨k+1,1,zs++ [(x+4294967296-d-y)],by omega,by go_num,rfl,by omega,hown',hbel',⟨by simp[HH.out.1],zCI HH.out.1 HH.out.2 HX.out HY.out oM⟩⟩
     case measure=>simp[intOf];omega
   ·have HY:Hid (ys.getD k 0=0):=zB3 oM
    by_cases hs:d<=x
    ·
     go_wp2_with (at_builtin;refine zIa rfl _ _ rfl w.heap.size u5 zs rfl (hown.alloc _) _ 1 _ [(x-d)] rfl (zG.one _ ((x-d)) oM _ (by first|rfl|omega|(rw[IntKind.wrap_u32];omega))) rfl oM (by have:=hbel.size;simp;omega) ?_;intro v' w' hown' hgr';have hbel':Below w.heap.size w w':=(hbel.alloc hbel.size _).grown hgr' (by have:=hbel.size;simp;omega) (fun g hg=>hown.base_le g hg))
     go_roundw
     case rel=>exact⟨k+1,0,zs++ [(x-d)],by omega,by go_num,rfl,by omega,hown',hbel',⟨by simp[HH.out.1],zCI HH.out.1 HH.out.2 HX.out HY.out oM⟩⟩
     case measure=>simp[intOf];omega
    ·
     go_wp2_with (at_builtin;refine zIa rfl _ _ rfl w.heap.size u5 zs rfl (hown.alloc _) _ 1 _ [(x+4294967296-d)] rfl (zG.one _ ((x+4294967296-d)) oM _ (by first|rfl|omega|(rw[IntKind.wrap_u32];omega))) rfl oM (by have:=hbel.size;simp;omega) ?_;intro v' w' hown' hgr';have hbel':Below w.heap.size w w':=(hbel.alloc hbel.size _).grown hgr' (by have:=hbel.size;simp;omega) (fun g hg=>hown.base_le g hg))
     go_roundw
     case rel=>exact⟨k+1,1,zs++ [(x+4294967296-d)],by omega,by go_num,rfl,by omega,hown',hbel',⟨by simp[HH.out.1],zCI HH.out.1 HH.out.2 HX.out HY.out oM⟩⟩
     case measure=>simp[intOf];omega
  ·obtain rfl:n1=k:=by omega
   go_wp2;go_ret;obtain⟨ao',cap',hv,q1,q2,q3⟩:=hown.at_;have h4:=HH.out.2;rw[zJ xs oM,zJ ys oM]at h4;have h2:=jZ hown.1;rw[HH.out.1]at h2;have h3:=HV.out;refine⟨ao',_,cap',zs,by rw[hv];rfl,rfl,q1,q2,q3,?_,hbel,by rw[qW];omega⟩;generalize B32^n1=p at h4 h2;have h5:d=0∨d=1:=by omega
   rcases h5 with rfl|rfl<;>omega
theorem zB7(v1 v2:Value)(z1 z2:Int)(w:World)(h1:zH w v1 z1)(h2:zH w v2 z2)(s1:Sm z1)(s2:Sm z2):
  Calls Tryz.prog 87 #[v1,v2] w (jL w (z1+z2)):=by
 obtain⟨neg1,ao1,n1,cap1,xs,rfl,hn1,hl1,hc1,hx1,hN1,hz1,hp1,hq1⟩:=h1.len s1;obtain⟨neg2,ao2,n2,cap2,ys,rfl,hn2,hl2,hc2,hx2,hN2,hz2,hp2,hq2⟩:=h2.len s2;have HN1:=Lib.hid hn1;have HN2:=Lib.hid hn2;have HZ1:=Lib.hid hz1;have HZ2:=Lib.hid hz2;clear hn1 hn2 hz1 hz2 s1 s2 h1 h2 hp1 hp2;have hq1':n1<=4*LIM:=by omega
 have hq2':n2<=4*LIM:=by omega
 clear hq1 hq2;by_cases hs:neg1=neg2
 ·subst hs
  go_enter Tryz.func87,Tryz.ntmps87;go_upto_region 1 with(fail)
  refine zB ?_;intro W0 hW0;obtain⟨hB0,bx1,bx2,br,hs0⟩:=yO hW0;obtain⟨c1,c2,c3,c4⟩:=bx1.two;obtain⟨d1,d2,d3,d4⟩:=bx2.two;go_wp2_with fail
  have lx1:=lx (nx hB0 (dr W0));go_region_held3 (fun w'=>w'.cell? ⟨w.heap.size,1,none⟩=some (.slice ao1 n1 cap1)/\w'.cell? ⟨w.heap.size+1,1,none⟩=some (.slice ao2 n2 cap2)/\w'.cell? ⟨w.heap.size,0,none⟩=some (.bool neg1))
   ((((try go_split_ands);(repeat' apply And.intro))<;>first|exact yJ (by assumption)|exact zI (by assumption) hb1|exact zI (by assumption) hb2|exact zAE (zAE (by assumption) oM) oM))
   (first
    |(go_at_call 181;refine(zJm ao1 ao2 n1 cap1 n2 cap2 xs ys _ HN1.out HN2.out hq1' hq2' (hx1.ext lx1) (hx2.ext lx1)).mono ?_;rintro e w1 ⟨ao,len,cap,zs,rfl,hz1,hz2,hz3,hz4,hz5,hb1,hz6⟩;have br1:=br.drew.below hb1)
    |(go_at_call 67;refine(yM ao len cap zs neg1 _ hz1 hz2 hz3 hz6 hz4).mono ?_;rintro e w2 ⟨v,rfl,hv,hb2⟩;have br2:=br1.below hb2;obtain⟨e1,e2,e3,e4⟩:=br2.two;obtain⟨vn,va,vl,vc,vx,rfl,hv2⟩:=hv))
  go_wp2_with fail
  refine zW rfl rfl rfl (br2.put2 _ _) ?_ (zO (zO (nx (nx (nx hB0 (dr W0)) hb1) hb2) oM 0 _) oM 1 _);refine zH.ext ?_ (br2.lext2 dE _ _);rw[hz5]at hv2;rw[HZ1.out,HZ2.out,<-zLi];exact⟨vn,va,vl,vc,vx,rfl,hv2⟩
 ·have hs':(neg1==neg2)=false:=by simpa using hs
  have Hs:=Lib.hid hs;clear hs;have hless:=fun W h1 h2=>zD9 ao1 ao2 n1 cap1 n2 cap2 xs ys W HN1.out HN2.out hl1 hl2 hc1 hc2 h1 h2 hN1 hN2
  by_cases hlt:nat xs<nat ys
  ·rw[decide_eq_true hlt]at hless
   go_enter Tryz.func87,Tryz.ntmps87;go_upto_region 1 with(fail)
   refine zB ?_;intro W0 hW0;obtain⟨hB0,bx1,bx2,br,hs0⟩:=yO hW0;obtain⟨c1,c2,c3,c4⟩:=bx1.two;obtain⟨d1,d2,d3,d4⟩:=bx2.two;go_wp2_with (go_at_call 182;refine(hless _ (hx1.ext (lx hB0)) (hx2.ext (lx hB0))).mono ?_;rintro e w' ⟨rfl,nd,rfl⟩)
   have lx1:=lx (nx (nx hB0 (drN W0 nd)) (dr (W0.drewN nd)));go_region_held3 (fun w'=>w'.cell? ⟨w.heap.size,1,none⟩=some (.slice ao1 n1 cap1)/\w'.cell? ⟨w.heap.size+1,1,none⟩=some (.slice ao2 n2 cap2)/\w'.cell? ⟨(w.heap.size+1),0,none⟩=some (.bool neg2))
    ((((try go_split_ands);(repeat' apply And.intro))<;>first|exact yJ (by assumption)|exact zI (by assumption) hb1|exact zI (by assumption) hb2|exact zAE (zAE (by assumption) oM) oM))
    (first
     |(go_at_call 183;refine(zEj ao2 ao1 n2 cap2 n1 cap1 ys xs _ HN2.out HN1.out hq2' (hx2.ext lx1) (hx1.ext lx1) (by rw[<-HN1.out,<-HN2.out];exact jW hx2.1 hN1 oM) oM).mono ?_;rintro e w1 ⟨ao,len,cap,zs,rfl,hz1,hz2,hz3,hz4,hz5,hb1,hz6⟩;have br1:=(br.drewN nd).drew.below hb1)
     |(go_at_call 67;refine(yM ao len cap zs neg2 _ hz1 hz2 hz3 hz6 hz4).mono ?_;rintro e w2 ⟨v,rfl,hv,hb2⟩;have br2:=br1.below hb2;obtain⟨e1,e2,e3,e4⟩:=br2.two;obtain⟨vn,va,vl,vc,vx,rfl,hv2⟩:=hv))
   go_wp2_with fail
   refine zW rfl rfl rfl (br2.put2 _ _) ?_ (zO (zO (nx (nx (nx (nx hB0 (drN W0 nd)) (dr (W0.drewN nd))) hb1) hb2) oM 0 _) oM 1 _);refine zH.ext ?_ (br2.lext2 dE _ _);rw[hz5]at hv2;rw[HZ1.out,HZ2.out,<-zJB Hs.out _ _ oM];exact⟨vn,va,vl,vc,vx,rfl,hv2⟩
  ·rw[decide_eq_false hlt]at hless
   go_enter Tryz.func87,Tryz.ntmps87;go_upto_region 1 with(fail)
   refine zB ?_;intro W0 hW0;obtain⟨hB0,bx1,bx2,br,hs0⟩:=yO hW0;obtain⟨c1,c2,c3,c4⟩:=bx1.two;obtain⟨d1,d2,d3,d4⟩:=bx2.two;go_wp2_with (go_at_call 182;refine(hless _ (hx1.ext (lx hB0)) (hx2.ext (lx hB0))).mono ?_;rintro e w' ⟨rfl,nd,rfl⟩)
   have lx1:=lx (nx (nx hB0 (drN W0 nd)) (dr (W0.drewN nd)));go_region_held3 (fun w'=>w'.cell? ⟨w.heap.size,1,none⟩=some (.slice ao1 n1 cap1)/\w'.cell? ⟨w.heap.size+1,1,none⟩=some (.slice ao2 n2 cap2)/\w'.cell? ⟨w.heap.size,0,none⟩=some (.bool neg1))
    ((((try go_split_ands);(repeat' apply And.intro))<;>first|exact yJ (by assumption)|exact zI (by assumption) hb1|exact zI (by assumption) hb2|exact zAE (zAE (by assumption) oM) oM))
    (first
     |(go_at_call 183;refine(zEj ao1 ao2 n1 cap1 n2 cap2 xs ys _ HN1.out HN2.out hq1' (hx1.ext lx1) (hx2.ext lx1) (by rw[<-HN1.out,<-HN2.out];exact jW hx1.1 hN2 oM) oM).mono ?_;rintro e w1 ⟨ao,len,cap,zs,rfl,hz1,hz2,hz3,hz4,hz5,hb1,hz6⟩;have br1:=(br.drewN nd).drew.below hb1)
     |(go_at_call 67;refine(yM ao len cap zs neg1 _ hz1 hz2 hz3 hz6 hz4).mono ?_;rintro e w2 ⟨v,rfl,hv,hb2⟩;have br2:=br1.below hb2;obtain⟨e1,e2,e3,e4⟩:=br2.two;obtain⟨vn,va,vl,vc,vx,rfl,hv2⟩:=hv))
   go_wp2_with fail
   refine zW rfl rfl rfl (br2.put2 _ _) ?_ (zO (zO (nx (nx (nx (nx hB0 (drN W0 nd)) (dr (W0.drewN nd))) hb1) hb2) oM 0 _) oM 1 _);refine zH.ext ?_ (br2.lext2 dE _ _);rw[hz5]at hv2;rw[HZ1.out,HZ2.out,<-zJA Hs.out _ _ oM];exact⟨vn,va,vl,vc,vx,rfl,hv2⟩
theorem Sm.neg{z:Int}(h:Sm z):Sm (-z):=by unfold Sm at h ⊢;rwa[Int.natAbs_neg]
theorem zEl(v1 v2:Value)(z1 z2:Int)(w:World)(h1:zH w v1 z1)(h2:zH w v2 z2)(s1:Sm z1)(s2:Sm z2):
  Calls Tryz.prog 236 #[v1,v2] w (jL w (z1-z2)):=by
 have H1:=Lib.hid h1;have H2:=Lib.hid h2;obtain⟨neg1,ao1,n1,cap1,xs,rfl,-⟩:=h1;obtain⟨neg2,ao2,n2,cap2,ys,rfl,-⟩:=h2;have hneg:=fun W h=>zBb (.agg #[.bool neg2,.slice ao2 n2 cap2]) z2 W h s2
 have hadd:=fun v W h1 h2=>zB7 (.agg #[.bool neg1,.slice ao1 n1 cap1]) v z1 (-z2) W h1 h2 s1 s2.neg
 clear s1 s2;go_enter Tryz.func236,Tryz.ntmps236;go_upto_region 1 with(fail)
 refine zB ?_;intro W0 hW0;obtain⟨hB0,bx1,bx2,br,hs0⟩:=yO hW0;obtain⟨c1,c2,c3,c4⟩:=bx1.two;obtain⟨d1,d2,d3,d4⟩:=bx2.two;have lx1:=lx (nx hB0 (dr W0));go_region_held3 (fun w'=>w'.cell? ⟨w.heap.size,0,none⟩=some (.bool neg1)/\w'.cell? ⟨w.heap.size,1,none⟩=some (.slice ao1 n1 cap1)/\w'.cell? ⟨w.heap.size+1,0,none⟩=some (.bool neg2)/\w'.cell? ⟨w.heap.size+1,1,none⟩=some (.slice ao2 n2 cap2))
  ((((try go_split_ands);(repeat' apply And.intro))<;>first|exact yJ (by assumption)|exact zI (by assumption) hb1|exact zI (by assumption) hb2|exact zAE (zAE (by assumption) oM) oM))
  (first
   |(go_at_call 242;refine(hneg _ (H2.out.weak.ext lx1)).mono ?_;rintro e w1 ⟨vneg,rfl,hvn,hb1⟩;have br1:=br.drew.below hb1;have h1':=H1.out.ext (lx (nx (nx hB0 (dr W0)) hb1)))
   |(go_at_call 87;refine(hadd vneg _ h1' hvn).mono ?_;rintro e w2 ⟨v,rfl,hv,hb2⟩;have br2:=br1.below hb2;obtain⟨e1,e2,e3,e4⟩:=br2.two;obtain⟨vn,va,vl,vc,vx,rfl,hv2⟩:=hv))
 go_wp2_with fail
 refine zW rfl rfl rfl (br2.put2 _ _) ?_ (zO (zO (nx (nx (nx hB0 (dr W0)) hb1) hb2) oM 0 _) oM 1 _);refine zH.ext ?_ (br2.lext2 dE _ _);rw[Int.sub_eq_add_neg];exact⟨vn,va,vl,vc,vx,rfl,hv2⟩
theorem zG8(v1 v2:Value)(z1 z2:Int)(w:World)(h1:zH w v1 z1)(h2:zH w v2 z2)(s1:Sm z1)(s2:Sm z2):
  Calls Tryz.prog 170 #[v1,v2] w fun e w'=>e= .returned (.int .i64 (qJ z1 z2))/\Below w.heap.size w w':=by
 have H1:=Lib.hid h1;have H2:=Lib.hid h2;obtain⟨neg1,ao1,n1,cap1,xs,rfl,-⟩:=h1;obtain⟨neg2,ao2,n2,cap2,ys,rfl,-⟩:=h2;have hsub:=fun W h1 h2=>zEl (.agg #[.bool neg1,.slice ao1 n1 cap1]) (.agg #[.bool neg2,.slice ao2 n2 cap2]) z1 z2 W h1 h2 s1 s2
 have E:Hid (qJ (z1-z2) 0=qJ z1 z2):=by
  rcases Int.lt_trichotomy z1 z2 with h|h|h
  ·show _=_;rw[yV h,yV oM]
  ·show _=_;rw[zAA h,zAA oM]
  ·show _=_;rw[jG h,jG oM]
 clear s1 s2;go_enter Tryz.func170,Tryz.ntmps170;go_upto_region 1 with(fail)
 refine zB ?_;intro W0 hW0;obtain⟨hB0,bx1,bx2,hs0⟩:=qH hW0;obtain⟨c1,c2,c3,c4⟩:=bx1.two;obtain⟨d1,d2,d3,d4⟩:=bx2.two;go_wp2_with fail
 refine(hsub _ (H1.out.ext (lx hB0)) (H2.out.ext (lx hB0))).mono ?_;rintro e w1 ⟨v,rfl,hv,hb1⟩;go_wp2_with fail
 refine(zA0 v _ _ hv).mono ?_;rintro e w2 ⟨rfl,hb2⟩;go_wp2_with fail
 go_ret;exact⟨by rw[<-E.out];rfl,nx (nx hB0 hb1) hb2⟩
theorem zPo{a b:Bool}{m n:Nat}(h:sgn a m=sgn b n):m=n/\(m≠0->a=b):=by
 have h1:=congrArg Int.natAbs h;rw[zZ,zZ]at h1;subst h1;refine⟨rfl,fun h0=>?_⟩;cases a<;>cases b<;>simp at h ⊢<;>omega
theorem zJn(v1 v2:Value)(z1 z2:Int)(w:World)(h1:zH w v1 z1)(h2:zH w v2 z2):
  Calls Tryz.prog 123 #[v1,v2] w fun e w'=>e= .returned (.bool (decide (z1=z2)))/\Below w.heap.size w w':=by
 obtain⟨neg1,ao1,n1,cap1,xs,rfl,hn1,hl1,hc1,hx1,hN1,hz1,hp1⟩:=h1;obtain⟨neg2,ao2,n2,cap2,ys,rfl,hn2,hl2,hc2,hx2,hN2,hz2,hp2⟩:=h2;have hz:Hid (z1=z2↔(neg1=neg2/\¬ nat xs<nat ys/\¬ nat ys<nat xs)):=by
  show _↔_;rw[hz1,hz2];constructor
  ·intro h
   obtain⟨h3,h4⟩:=zPo h;refine⟨?_,by omega,by omega⟩;by_cases h0:nat xs=0
   ·have e1:=(zCm hN1).1 h0
    have e2:=(zCm hN2).1 oM;subst e1;subst e2;rw[hp1 hn1.symm,hp2 hn2.symm]
   ·exact h4 h0
  ·rintro⟨h3,h4,h5⟩
   rw[h3,show nat xs=nat ys by omega]
 have hl12:=fun W h1 h2=>zD9 ao1 ao2 n1 cap1 n2 cap2 xs ys W hn1 hn2 hl1 hl2 hc1 hc2 h1 h2 hN1 hN2
 have hl21:=fun W h1 h2=>zD9 ao2 ao1 n2 cap2 n1 cap1 ys xs W hn2 hn1 hl2 hl1 hc2 hc1 h1 h2 hN2 hN1
 clear hn1 hn2 hz1 hz2 hp1 hp2;by_cases hs:neg1=neg2
 ·subst hs
  by_cases h12:nat xs<nat ys
  ·rw[decide_eq_true h12]at hl12
   have E:Hid (decide (z1=z2)=false):=by show _=_;rw[decide_eq_false];rw[hz.out];omega
   clear hz;go_enter Tryz.func123,Tryz.ntmps123;go_upto_region 1 with(fail)
   refine zB ?_;intro W0 hW0;obtain⟨hB0,bx1,bx2,hs0⟩:=qH hW0;obtain⟨c1,c2,c3,c4⟩:=bx1.two;obtain⟨d1,d2,d3,d4⟩:=bx2.two;go_wp2_with (go_at_call 182;refine(hl12 _ (hx1.ext (lx hB0)) (hx2.ext (lx hB0))).mono ?_;rintro e w' ⟨rfl,nd,rfl⟩)
   go_ret;exact⟨by rw[E.out];rfl,nx hB0 (drN _ _)⟩
  ·rw[decide_eq_false h12]at hl12
   by_cases h21:nat ys<nat xs
   ·rw[decide_eq_true h21]at hl21
    have E:Hid (decide (z1=z2)=false):=by show _=_;rw[decide_eq_false];rw[hz.out];omega
    clear hz;go_enter Tryz.func123,Tryz.ntmps123;go_upto_region 1 with(fail)
    refine zB ?_;intro W0 hW0;obtain⟨hB0,bx1,bx2,hs0⟩:=qH hW0;obtain⟨c1,c2,c3,c4⟩:=bx1.two;obtain⟨d1,d2,d3,d4⟩:=bx2.two;go_wp2_with fail
    refine(hl12 _ (hx1.ext (lx hB0)) (hx2.ext (lx hB0))).mono ?_;rintro e w' ⟨rfl,nd,rfl⟩;go_wp2_with fail
    refine(hl21 _ (hx2.ext (lx (nx hB0 (drN _ _)))) (hx1.ext (lx (nx hB0 (drN _ _))))).mono ?_;rintro e w' ⟨rfl,nd2,rfl⟩;go_wp2_with fail
    go_ret;exact⟨by rw[E.out];rfl,nx hB0 (drN _ _)⟩
   ·rw[decide_eq_false h21]at hl21
    have E:Hid (decide (z1=z2)=true):=by show _=_;rw[decide_eq_true];rw[hz.out];exact⟨rfl,h12,h21⟩
    clear hz;go_enter Tryz.func123,Tryz.ntmps123;go_upto_region 1 with(fail)
    refine zB ?_;intro W0 hW0;obtain⟨hB0,bx1,bx2,hs0⟩:=qH hW0;obtain⟨c1,c2,c3,c4⟩:=bx1.two;obtain⟨d1,d2,d3,d4⟩:=bx2.two;go_wp2_with fail
    refine(hl12 _ (hx1.ext (lx hB0)) (hx2.ext (lx hB0))).mono ?_;rintro e w' ⟨rfl,nd,rfl⟩;go_wp2_with fail
    refine(hl21 _ (hx2.ext (lx (nx hB0 (drN _ _)))) (hx1.ext (lx (nx hB0 (drN _ _))))).mono ?_;rintro e w' ⟨rfl,nd2,rfl⟩;go_wp2_with fail
    go_ret;exact⟨by rw[E.out];rfl,nx hB0 (drN _ _)⟩
 ·have hs':(neg1==neg2)=false:=by simpa using hs
  have E:Hid (decide (z1=z2)=false):=by show _=_;rw[decide_eq_false];rw[hz.out];intro h;exact hs h.1
  clear hz hs;go_enter Tryz.func123,Tryz.ntmps123;go_wp2_with fail
  go_ret;exact⟨by rw[E.out];rfl,((Below.refl _ _).alloc (xgf _) _).alloc sI _⟩
theorem zCX(m:Nat):nat (List.replicate m 0)=0:=by
 induction m with
 |zero=>rfl
 |succ m ih=>rw[List.replicate_succ,yN,ih];rfl
theorem zEa{zs:List Nat}{k:Nat}(hk:k<=zs.length)(h:nat zs<B32^k):nat (zs.drop k)=0:=by
 have h1:=zAF zs k hk;rcases Nat.eq_zero_or_pos (nat (zs.drop k))with h0|h0
 ·exact h0
 ·have:=Nat.le_mul_of_pos_right (B32^k) h0;omega
theorem zEc{zs:List Nat}{k:Nat}(hk:k<zs.length)(h:nat zs<B32^k):zs.getD k 0=0:=by
 have h1:=zEa (Nat.le_of_lt hk) h;have h2:=jR zs k hk;omega
theorem zOi{xs zs zs0 ys:List Nat}{i k:Nat}{x:Nat}(h0:nat zs0=nat (xs.take i)*nat ys)(hx:xs.getD i 0=x)(hd:zs.drop (i+k)=zs0.drop (i+k))(hl:i+k<=zs.length)(hl0:i+k<=zs0.length)
  (h:nat (zs.take (i+k))+0*B32^(i+k)=nat (zs0.take (i+k))+x*B32^i*nat (ys.take k)) (hk:ys.length<=k):nat zs=nat (xs.take (i+1))*nat ys:=by
 have h1:=zAF zs (i+k) hl;have h2:=zAF zs0 (i+k) hl0;rw[zJ ys hk,Nat.zero_mul,Nat.add_zero]at h;rw[h1,h,hd,zR,hx,Nat.add_mul,<-h0,h2];omega
theorem zK7{xs ys:List Nat}{i n2:Nat}(hx:qT xs)(hy:qT ys)(h2:ys.length<=n2):nat (xs.take i)*nat ys<B32^(i+n2):=by
 have h1:=jZ (hx.take i);have h3:=jZ hy;have h4:B32^(xs.take i).length<=B32^i:=Nat.pow_le_pow_right yZ (by simp;omega);have h5:B32^ys.length<=B32^n2:=Nat.pow_le_pow_right yZ h2;rw[Nat.pow_add];exact Nat.mul_lt_mul_of_lt_of_le oM oM (Nat.pow_pos yZ)
theorem zAb(v1 v2:Value)(z1 z2:Int)(w:World)(h1:zH w v1 z1)(h2:zH w v2 z2)(s1:Sm z1)(s2:Sm z2):Calls Tryz.prog 99 #[v1,v2] w (jL w (z1*z2)):=by
 obtain⟨neg1,ao1,n1,cap1,xs,rfl,hn1,hl1,hc1,hx1,hN1,hz1,hp1,hq1⟩:=h1.len s1;obtain⟨neg2,ao2,n2,cap2,ys,rfl,hn2,hl2,hc2,hx2,hN2,hz2,hp2,hq2⟩:=h2.len s2;have HN1:=Lib.hid hn1;have HN2:=Lib.hid hn2;have HZ1:=Lib.hid hz1;have HZ2:=Lib.hid hz2;have hlen1:xs.length<=n1:=by omega
 have hlen1':n1<=xs.length:=by omega
 have hlen2:ys.length<=n2:=by omega
 have hlen2':n2<=ys.length:=by omega
 clear hn1 hn2 hz1 hz2 s1 s2 h1 h2 hp1 hp2;rw[qW]at hq1 hq2;have hmk:=fun W=>mkU ((n1:Int)+n2+1) (n1+n2+1) oM oM W
 go_enter Tryz.func99,Tryz.ntmps99;go_upto_region 1 with(fail)
 refine zB ?_;intro W0 hW0;obtain⟨hB0,bx1,bx2,br,hs0⟩:=yO hW0;obtain⟨c1,c2,c3,c4⟩:=bx1.two;obtain⟨d1,d2,d3,d4⟩:=bx2.two;go_upto_block 0 with(fail)
 clear hmk;refine zB ?_;intro W1 hW1;obtain⟨gz,hgz⟩:∃g,W0.heap.size=g:=⟨_,rfl⟩;have hblk1:jQ W1 gz (List.replicate (n1+n2+1) 0):=by rw[hW1.out,<-hgz];exact jQ.made _ _
 have hb1:Below W0.heap.size W0 W1:=by rw[hW1.out];exact(Below.refl _ _).alloc (xgf _) _
 have hgz':W0.heap.size<=gz:=by omega
 have hx1':=hx1.ext (lx hB0);have hx2':=hx2.ext (lx hB0);rw[hgz];clear c1 c2 c3 c4 d1 d2 d3 d4 hW1 hW0 hgz;go_wp2;go_loopw [6] (fun iv wr=>∃(i:Nat) (zs:List Nat),i<=n1/\iv= .int .i64 i/\jQ wr gz zs/\Below W0.heap.size W0 wr/\n1+n2+1<=zs.length∧
   Hid (zs.length=n1+n2+1/\qT zs/\nat zs=nat (xs.take i)*nat ys)) (fun iv _=>n1-(intOf iv).toNat)
 case atStart=>exact⟨0,_,by omega,rfl,hblk1,hb1,by simp,⟨by simp,fun x hx=>by rw[List.eq_of_mem_replicate hx];exact yZ,by rw[zCX,List.take_zero,nat_nil,Nat.zero_mul]⟩⟩
 case round=>
  obtain⟨i,zs0,hi,rfl,hblk0,hbel0,hlz0,HH0⟩:=hrel;obtain⟨wo,rfl⟩:∃wo:World,wo=wr:=⟨_,rfl⟩;obtain⟨c1,c2,c3,c4⟩:=(bx1.below hbel0).two;obtain⟨d1,d2,d3,d4⟩:=(bx2.below hbel0).two;by_cases hin:i<n1
  ·obtain⟨b,off,x,rfl,hbw,hx32,HX,hck⟩:=hx1'.limb (k:=i) oM
   go_wp2;go_loopw [7,8] (fun cv kv wr=>∃(k c:Nat) (zs:List Nat),k<=n2+1/\kv= .int .i64 k/\cv= .int .u64 c/\c<4294967296/\(k=n2+1->c=0)/\jQ wr gz zs/\Below W0.heap.size W0 wr/\n1+n2+1<=zs.length∧
     Hid (zs.length=n1+n2+1/\qT zs/\zs.drop (i+k)=zs0.drop (i+k)/\nat (zs.take (i+k))+c*B32^(i+k)=nat (zs0.take (i+k))+x*B32^i*nat (ys.take k))) (fun _ kv _=>n2+1-(intOf kv).toNat)
   case atStart=>exact⟨0,0,zs0,by omega,rfl,rfl,by omega,by omega,hblk0,hbel0,hlz0,⟨HH0.out.1,HH0.out.2.1,rfl,by simp⟩⟩
   case round=>
    obtain⟨k,c,zs,hk,rfl,rfl,hc,hkc,hblk,hbel,hlz,HH⟩:=hrel;obtain⟨wo2,rfl⟩:∃wo2:World,wo2=wr:=⟨_,rfl⟩;clear c1 c2 c3 c4 d1 d2 d3 d4;obtain⟨c1,c2,c3,c4⟩:=(bx1.below hbel).two;obtain⟨d1,d2,d3,d4⟩:=(bx2.below hbel).two;have hck':=(hbel.cell (p:=⟨b,off+i,none⟩) hbw).trans hck;have hfr:=hblk.frozen (i+k);by_cases hexit:n2<=k/\c=0
    ·obtain⟨hk2,rfl⟩:=hexit
     have hnl:¬ k<n2:=by omega
     go_wp2;go_roundw
     case rel=>exact⟨i+1,zs,by omega,by go_num,hblk,hbel,hlz,⟨HH.out.1,HH.out.2.1,zOi HH0.out.2.2 HX.out HH.out.2.2.1 (by have:=HH.out.1;omega) (by have:=HH0.out.1;omega) HH.out.2.2.2 oM⟩⟩
     case measure=>simp[intOf];omega
    ·obtain⟨z,HZ⟩:∃z,zs.getD (i+k) 0=z:=⟨_,rfl⟩
     have hz32:z<4294967296:=by rw[<-HZ];exact HH.out.2.1.get _
     have hcz:=hblk.cell (k:=i+k) oM;rw[HZ]at hcz;have HZ:=Lib.hid HZ;by_cases hkn:k<n2
     ·obtain⟨b2,off2,y,rfl,hbw2,hy32,HY,hcy⟩:=hx2'.limb (k:=k) oM
      have hcy':=(hbel.cell (p:=⟨b2,off2+k,none⟩) hbw2).trans hcy;clear hcy;have hm1:=zC4 hx32 hy32;obtain⟨hm2,hm3⟩:=zC5 hx32 hy32;go_wp2;have hlt:c+(x*y+z)<18446744073709551616:=by generalize x*y=m at*;omega
      go_quiet (fail);have ec:(((c+(x*y+z))/4294967296:Nat):Int)=((c:Int)+(z:Int)+(x:Int)*(y:Int))/4294967296:=by
       simp only[Int.natCast_ediv,Int.natCast_add,Int.natCast_mul];congr 1;omega
      have em:(((c+(x*y+z))%4294967296:Nat):Int)=((c:Int)+(z:Int)+(x:Int)*(y:Int))%4294967296:=by
       simp only[Int.natCast_emod,Int.natCast_add,Int.natCast_mul];congr 1;omega
      have hcl:(c+(x*y+z))/4294967296<4294967296:=by generalize x*y=m at*;omega
      go_wp2;go_roundw
      case rel=>
       refine⟨k+1,(c+(x*y+z))/4294967296,zs.set (i+k) ((c+(x*y+z))%4294967296),by omega,by go_num,by rw[ec],hcl,by omega,jQ.set' (w:=wo2.drewN _) hblk _ _ _ (by rw[<-em]),(nx hbel (drN _ _)).setCell hgz' _,by simpa using hlz,
        ⟨by simpa using HH.out.1,HH.out.2.1.set _ _ (Nat.mod_lt _ oM),?_,zDl HH.out.2.2.2 oM HY.out HZ.out ((zBH HH.out.2.2.1 (xgf _)).symm.trans HZ.out)⟩⟩
       rw[show i+(k+1)=i+k+1 from rfl,zAV];exact zB1 HH.out.2.2.1
      case measure=>simp[intOf];omega
     ·have hcp:0<c:=by omega
      obtain rfl:n2=k:=by omega
      go_wp2;have hz0:z=0:=by
       have h0:=HH0.out.2.2;have h1:nat zs0<B32^(i+n2):=by
        rw[h0];exact zK7 hx1.1 hx2.1 hlen2
       have h2:=zEc (k:=i+n2) oM h1;rw[<-HZ.out];refine Eq.trans ?_ h2;exact zBH HH.out.2.2.1 (xgf _)
      have hd0:(c+z)/4294967296=0:=by omega
      have ec:(((c+z)/4294967296:Nat):Int)=((c:Int)+(z:Int))/4294967296:=by simp
      have em:(((c+z)%4294967296:Nat):Int)=((c:Int)+(z:Int))%4294967296:=by simp
      go_roundw
      case rel=>
       have hts:=zDl HH.out.2.2.2 oM (zB3 hlen2) HZ.out ((zBH HH.out.2.2.1 (xgf _)).symm.trans HZ.out);rw[Nat.mul_zero,Nat.zero_add]at hts;refine⟨n2+1,(c+z)/4294967296,zs.set (i+n2) ((c+z)%4294967296),by omega,by go_num,by rw[ec],by omega,fun _=>hd0,hblk.set' _ _ _ (by rw[<-em]),hbel.setCell hgz' _,by simpa using hlz,
        ⟨by simpa using HH.out.1,HH.out.2.1.set _ _ (Nat.mod_lt _ oM),?_,hts⟩⟩
       rw[show i+(n2+1)=i+n2+1 from rfl,zAV];exact zB1 HH.out.2.2.1
      case measure=>simp[intOf]
  ·obtain rfl:n1=i:=by omega
   go_wp2_with fail
   refine(yM _ _ _ zs0 (neg1 !=neg2) _ HH0.out.1 (xgf _) oM (by rw[qW];omega) (hblk0.at_ HH0.out.2.1)).mono ?_;rintro e w2 ⟨v,rfl,hv,hb2⟩;have br2:=(br.below hbel0).below hb2;obtain⟨e1,e2,e3,e4⟩:=br2.two;obtain⟨vn,va,vl,vc,vx,rfl,hv2⟩:=hv;go_wp2_with fail
   refine zW rfl rfl rfl (br2.put2 _ _) ?_ (zO (zO (nx (nx hB0 hbel0) hb2) oM 0 _) oM 1 _);refine zH.ext ?_ (br2.lext2 dE _ _);rw[HH0.out.2.2,zJ xs hlen1]at hv2;rw[HZ1.out,HZ2.out,<-zLj];exact⟨vn,va,vl,vc,vx,rfl,hv2⟩
end Go.Proofs.YtnbmaipobhppcaaGreat
