/- kernel.cut, kernel.rank. torsionref12.Form: what its operations keep, and how the numbers grow. Plain Lean. hermite.Is. -/
import Derived.Test.YtgnmdddaiefooaaGreatR35
import Derived.Test.YtgnmdddaiefooaaGreatR36
import Derived.Test.YtgnmdddaiefooaaGreatR37
set_option linter.unusedVariables false
set_option linter.unusedSimpArgs false
set_option linter.unusedSectionVars false
set_option maxHeartbeats 16000000
set_option maxRecDepth 100000
namespace Go.Proofs.YtgnmdddaiefooaaGreat
open Go.RowKit
theorem qX.cut{w:World}{b n cap:Nat}{M:List (List Int)}(h:qX w (.slice (some ⟨b,0,none⟩) n cap) M){f t:Nat}(hf:f<=t)(ht:t<=n)(a:Option Addr)(ha:f<t->a=some ⟨b,f,none⟩)(c:Nat)(hc:t-f<=c)(hc2:c<=cap):zCZ w (.slice a (t-f) c) ((M.take t).drop f):=by
 obtain⟨ao,n',cap',e,h2,h3,h4,h5⟩:=h;injection e with e1 e2 e3
 subst e2;subst e3;subst e1;refine⟨a,t-f,c,rfl,by rw[List.length_drop,List.length_take];omega,hc,by omega,fun hn=>?_⟩;have hft:f<t:=Nat.lt_of_not_le fun hle=>hn (List.drop_eq_nil_of_le (by rw[List.length_take];omega))
 obtain⟨b',cs,k1,k2,k3⟩:=h5 (by rintro rfl;simp at hn);injection k1 with k1
 injection k1 with k1
 subst k1;refine⟨b,f,cs,ha hft,k2,fun k zs hk=>?_⟩;have hkl:=(xge.1 hk).1;rw[List.length_drop,List.length_take]at hkl;rw[List.getElem?_drop,List.getElem?_take_of_lt oM]at hk;exact k3 _ _ hk
theorem zH4{w w':World}{v:Value}{zs:List Int}(h:zAZ w v zs)(e:∀b,qF w b zs->w'.heap[b]?=w.heap[b]?)(x:yI w w'):zAZ w' v zs:=by
 obtain⟨ao,n,cap,h1,h2,h3,h4,h5⟩:=h;exact⟨ao,n,cap,h1,h2,h3,h4,fun hn=>(h5 hn).elim fun b h=>⟨b,h.1,h.2.old (e b h.2) x⟩⟩
theorem zCZ.offw{w w':World}{v:Value}{M:List (List Int)}{g:Nat}{T:TypeId}{cs:Array Value}(h:zCZ w v M)(hg:Blk w g T cs)(h1:T≠tR)(h2:T≠tI)(ho:∀b,b≠g->w'.heap[b]?=w.heap[b]?)(hx:yI w w'):zCZ w' v M:=by
 obtain⟨ao,n,cap,e1,e2,e3,e4,e5⟩:=h;refine⟨ao,n,cap,e1,e2,e3,e4,fun hn=>?_⟩;obtain⟨b,o,cs',q1,q2,q3⟩:=e5 hn;have hne:∀{c:Nat} {U:TypeId} {ds:Array Value},w.heap[c]?=some (.cells ds U (0,0))->T≠U->c≠g:=by
  intro c U ds hc hT hh;subst hh;have hg':w.heap[c]?=some (.cells cs T (0,0)):=hg;rw[hg']at hc;injection hc with hc
  injection hc with _ ht
  exact hT ht
 refine⟨b,o,cs',q1,(ho b (hne q2 h1)).trans q2,fun k zs hk=>?_⟩;obtain⟨rv,r1,r2⟩:=q3 k zs hk;exact⟨rv,r1,zH4 r2 (fun b' hr=>by obtain⟨c2,s2,-⟩:=hr;exact ho b' (hne s2 h2)) hx⟩
theorem zBm.keep3{w:World}{v:Value}{R C:Int}{M:List (List Int)}{b:Nat}{cs:Array Value}(h:zBm w v R C M)(hb:Blk w b 28 cs)(x y z:Value):zBm (((w.setCell ⟨b,0,none⟩ x).setCell ⟨b,1,none⟩ y).setCell ⟨b,2,none⟩ z) v R C M:=by
 obtain⟨A,rfl,h⟩:=h;exact⟨A,rfl,h.offw hb dE dE (fun k hk=>qZ _ _ k _ _ _ hk) (hb.lext3 dE _ _ _)⟩
theorem zCZ.nil(w:World)(a:Option Addr):zCZ w (.slice a 0 0) []:=⟨a,0,0,rfl,rfl,xgf _,by omega,fun h=>absurd rfl h⟩
theorem zJ8(v:Value)(R C f t:Nat)(M:List (List Int))(w:World)(h:qL w v R C M)(hF:yG R C M)(hf:f<=t)(ht:t<=R)(hR:R<=1000000):
  Calls Tryz.prog 66 #[v,.int .i64 f,.int .i64 t] w fun e w'=>∃v',e= .returned v'/\zBm w' v' ((t-f:Nat):Int) C ((M.take t).drop f)/\Below w.heap.size w w':=by
 obtain⟨A,rfl,h⟩:=h;obtain⟨ao,n,cap,rfl,e2,e3,e4,h5⟩:=id h;obtain rfl:R=n:=by rw[<-e2,hF.1]
 have htc:t<=cap:=by omega
 have hsub:(t:Int)-(f:Int)=((t-f:Nat):Int):=by omega
 have hw:IntKind.i64.wrap ((t-f:Nat):Int)=((t-f:Nat):Int):=IntWalk.i64_in _ oM;rcases Nat.eq_zero_or_pos R with h0|h0
 ·subst h0
  obtain rfl:f=0:=by omega
  obtain rfl:t=0:=by omega
  obtain rfl:M= []:=List.eq_nil_of_length_eq_zero e2;clear hF e2 h5 h hsub;go_enter Tryz.func66,Tryz.ntmps66;go_upto_region 1 with(fail)
  refine zC ?_;intro W0 hW0;obtain⟨hB0,bx,br,hs0⟩:=qK hW0;obtain⟨c1,c2,c3,c4,c5,c6⟩:=bx.three;have lbx:=bx.lt;clear hW0;refine zB 12 rfl (RV W0 _ [VN 0 7 0,VN 1 8 0,E 2 9 (.int .i64 ((0-0:Nat):Int)),VP 3 10 w.heap.size 1,VN 4 11 C,VP 5 12 w.heap.size 2,E 6 13 (.slice ao 0 cap),VN 7 14 0,VN 8 15 0,VN 9 16 0,⟨10,17,fun _ v=>v= .slice ao (0-0) (0-0)⟩,⟨11,18,fun _ v=>v= .agg #[.int .i64 ((0-0:Nat):Int),.int .i64 C,.slice ao (0-0) (0-0)]⟩]) kR RV.start (RV.fin kR ?fin1) ?steps1
  case steps1=>
   refine⟨?_,?_,?_,?_,?_,?_,?_,?_,?_,?_,?_,?_,trivial⟩<;>(intro L T wS hL hd hcl hI K hK;try refine zA rfl ?_)
   ·exact xgs (hI.k 2 rfl kR)
   ·exact xgs (hI.k 1 rfl kR)
   ·exact xgt (hI.e mm0 (hd 0)) (hI.e mm1 (hd 1))
   ·exact xgs (hI.k 3 rfl kR)
   ·have zt3:=hI.e mm3 (hd 3)
    have cc0:=hI.cell c2;exact xgu
   ·exact xgs (hI.k 3 rfl kR)
   ·have zt5:=hI.e mm5 (hd 5)
    have cc0:=hI.cell c3;exact xgu
   ·exact xgs (hI.k 1 rfl kR)
   ·exact xgs (hI.k 2 rfl kR)
   ·exact xgs (hI.k 2 rfl kR)
   ·obtain⟨_,zt6,rfl⟩:=hI.v mm6 (hd 6)
    obtain⟨_,zt7,rfl⟩:=hI.v mm7 (hd 7);obtain⟨_,zt8,rfl⟩:=hI.v mm8 (hd 8);obtain⟨_,zt9,rfl⟩:=hI.v mm9 (hd 9);go_simp;skip;exact hK _ _ (hI.y yD rfl)
   ·obtain⟨_,zt2,rfl⟩:=hI.v mm2 (hd 2)
    obtain⟨_,zt4,rfl⟩:=hI.v mm4 (hd 4);obtain⟨_,zt10,rfl⟩:=hI.v yD (hd 10);go_simp;exact hK _ _ (hI.y zAB rfl)
  intro w2 hbw2 T hT;simp only[Fin,E,EI,VP,VSl,VN,xgg,xgh,xgi,xgj]at hT;subst hT;simp only[xgl,xgk];have br:=br.below hbw2;have hB2:=nx hB0 hbw2;obtain⟨r1,r2,r3,r4,r5,r6⟩:=br.three;clear c1 c2 c3 c4 c5 c6;go_wp2;refine zX (r:=w.heap.size+1) rfl rfl rfl (br.put3 _ _ _) ⟨_,rfl,⟨_,rfl,zCZ.nil _ _⟩,zP (zP (zP hB2 oM 0 _) oM 1 _) oM 2 _⟩
 ·obtain⟨b,rfl⟩:∃b,ao=some ⟨b,0,none⟩:=by
   obtain⟨b,_,e,-⟩:=h5 (by rintro rfl;simp at e2;omega);exact⟨b,e⟩
  clear hF e2 h5;obtain⟨q,hq⟩:∃q:Option Addr,(if t=f then some ⟨b,0,none⟩else some ⟨b,f,none⟩)=q:=⟨_,rfl⟩;have hq2:f<t->q=some ⟨b,f,none⟩:=fun hlt=>by rw[<-hq,if_neg oM]
  have HQ2:=xgv hq2;clear hq2;go_enter Tryz.func66,Tryz.ntmps66;go_upto_region 1 with(fail)
  refine zC ?_;intro W0 hW0;obtain⟨hB0,bx,br,hs0⟩:=qK hW0;obtain⟨c1,c2,c3,c4,c5,c6⟩:=bx.three;have lbx:=bx.lt;clear hW0;refine zB 12 rfl (RV W0 _ [VN 0 7 t,VN 1 8 f,E 2 9 (.int .i64 ((t-f:Nat):Int)),VP 3 10 w.heap.size 1,VN 4 11 C,VP 5 12 w.heap.size 2,VSl 6 13 b R cap,VN 7 14 f,VN 8 15 t,VN 9 16 t,⟨10,17,fun _ v=>v= .slice q (t-f) (t-f)⟩,⟨11,18,fun _ v=>v= .agg #[.int .i64 ((t-f:Nat):Int),.int .i64 C,.slice q (t-f) (t-f)]⟩]) kR RV.start (RV.fin kR ?fin2) ?steps2
  case steps2=>
   refine⟨?_,?_,?_,?_,?_,?_,?_,?_,?_,?_,?_,?_,trivial⟩<;>(intro L T wS hL hd hcl hI K hK;try refine zA rfl ?_)
   ·exact xgs (hI.k 2 rfl kR)
   ·exact xgs (hI.k 1 rfl kR)
   ·exact xgt (hI.e mm0 (hd 0)) (hI.e mm1 (hd 1))
   ·exact xgs (hI.k 3 rfl kR)
   ·have zt3:=hI.e mm3 (hd 3)
    have cc0:=hI.cell c2;exact xgu
   ·exact xgs (hI.k 3 rfl kR)
   ·have zt5:=hI.e mm5 (hd 5)
    have cc0:=hI.cell c3;exact xgu
   ·exact xgs (hI.k 1 rfl kR)
   ·exact xgs (hI.k 2 rfl kR)
   ·exact xgs (hI.k 2 rfl kR)
   ·obtain⟨_,zt6,rfl⟩:=hI.v mm6 (hd 6)
    obtain⟨_,zt7,rfl⟩:=hI.v mm7 (hd 7);obtain⟨_,zt8,rfl⟩:=hI.v mm8 (hd 8);obtain⟨_,zt9,rfl⟩:=hI.v mm9 (hd 9);go_simp;skip;exact hK _ _ (hI.y yD rfl)
   ·obtain⟨_,zt2,rfl⟩:=hI.v mm2 (hd 2)
    obtain⟨_,zt4,rfl⟩:=hI.v mm4 (hd 4);obtain⟨_,zt10,rfl⟩:=hI.v yD (hd 10);go_simp;exact hK _ _ (hI.y zAB rfl)
  intro w2 hbw2 T hT;simp only[Fin,E,EI,VP,VSl,VN,xgg,xgh,xgi,xgj]at hT;subst hT;simp only[xgl,xgk];have br:=br.below hbw2;have hB2:=nx hB0 hbw2;obtain⟨r1,r2,r3,r4,r5,r6⟩:=br.three;clear c1 c2 c3 c4 c5 c6;go_wp2;have hr2:=(h.cut hf ht q HQ2.out (t-f) (xgf _) oM).below hB2;refine zX (r:=w.heap.size+1) rfl rfl rfl (br.put3 _ _ _) ⟨_,rfl,zBm.keep3 ⟨_,rfl,hr2⟩ br _ _ _,zP (zP (zP hB2 oM 0 _) oM 1 _) oM 2 _⟩
theorem zKi(v:Value)(zs:List Int)(w:World)(h:zAZ w v zs):
  Calls Tryz.prog 114 #[v] w fun e w'=>e= .returned (.bool (decide (∀z∈zs,z=0)))/\Below w.heap.size w w':=by
 obtain⟨ao,n,cap,rfl,e2,e3,e4,-⟩:=id h;have HX:=xgw e2;clear e2;obtain⟨ans,hans⟩:∃ans,decide (∀z∈zs,z=0)=ans:=⟨_,rfl⟩;rw[hans];have HA:=xgw hans;clear hans;go_enter Tryz.func114,Tryz.ntmps114;go_wp2;go_loopw [7] (fun iv wr=>∃k:Nat,k<=n/\iv= .int .i64 k/\Below w.heap.size w wr/\Hid (∀z∈zs.take k,z=0)) (fun iv _=>n-(intOf iv).toNat)
 case atStart=>exact⟨0,by omega,rfl,Below.refl _ _,xgw sI⟩
 case round=>
  obtain⟨k,hk,rfl,hb,hz⟩:=hrel;by_cases hlt:k<n
  ·obtain⟨b,z,s,a,l,c,rfl,hbl,hzk,q1,q2,hzv⟩:=(h.below hb).cell (k:=k) (by rw[HX.out];exact hlt)
   have HZ:=xgw hzk;clear hzk;go_upto_region 4 with(fail)
   refine zC ?_;intro W1 hW1;obtain⟨hB1,T4,hs1⟩:=zN hW1;obtain⟨d1,d2,d3,d4⟩:=T4.two;clear q1 q2 hW1;go_wp2_with fail
   refine(jE _ z W1 (hzv.ext (lx hB1)).weak).mono ?_;rintro e w2 ⟨rfl,hb2⟩;have hb':=nx (nx hb hB1) hb2;clear d1 d2 d3 d4;by_cases h0:z=0
   ·have hc:(qO z 0 !=0)=false:=by rw[h0];decide
    obtain⟨q,hq⟩:∃q,qO z 0=q:=⟨_,rfl⟩;rw[hq]at hc ⊢
    clear hq;go_wp2;go_roundw
    case rel=>
     refine⟨k+1,by omega,by simp,hb',xgw ?_⟩;rw[List.take_add_one,HZ.out];intro y hy;rcases List.mem_append.1 hy with h1|h1
     ·exact hz.out y h1
     ·simp at h1
      rw[h1,h0]
    case measure=>simp[intOf];omega
   ·have hc:(qO z 0 !=0)=true:=by
     rw[bne_iff_ne];unfold qO;split<;>(try split)<;>omega
    obtain⟨q,hq⟩:∃q,qO z 0=q:=⟨_,rfl⟩;rw[hq]at hc ⊢
    clear hq;go_wp2;go_ret;refine⟨?_,hb'⟩;rw[<-HA.out,decide_eq_false (fun hh=>h0 (hh z (xgd HZ.out)))];rfl
  ·obtain rfl:k=n:=by omega
   go_wp2;go_ret;refine⟨?_,hb⟩;have:=hz.out;rw[<-HX.out,List.take_length]at this;rw[<-HA.out,decide_eq_true this];rfl
theorem zKU(v:Value)(R C r:Nat)(κ:Nat->Nat)(M:List (List Int))(w:World)(h:qL w v R C M)(hF:yG R C M)(hH:Hnf C R r κ (ent M)):
  Calls Tryz.prog 68 #[v] w fun e w'=>e= .returned (.int .i64 r)/\Below w.heap.size w w':=by
 obtain⟨A,rfl,h⟩:=h;obtain⟨ao,n,cap,rfl,e2,e3,e4,-⟩:=id h;obtain rfl:R=n:=by rw[<-e2,hF.1]
 have HX:=xgw e2;have HF:=xgv hF;have hle:=hH.le;have HZE:qM (∀k,k<R->decide (∀z∈zQ C (ent M k),z=0)=decide (r<=k)):=⟨fun k hk=>by
  refine decide_eq_decide.2 ⟨fun hz=>?_,fun hr z hz=>?_⟩
  ·refine Nat.le_of_not_lt fun hlt=>?_
   have hp:=hH.ech.pos k hlt;have:=hz (ent M k (κ k)) (List.mem_map.2 ⟨κ k,List.mem_range.2 (hH.ech.lt k hlt),rfl⟩);omega
  ·obtain⟨t,ht,rfl⟩:=List.mem_map.1 hz
   exact hH.zero k hr hk t (List.mem_range.1 ht)⟩
 clear e2 hF hH;go_enter Tryz.func68,Tryz.ntmps68;go_upto_region 1 with(fail)
 refine zC ?_;intro W0 hW0;obtain⟨hB0,bx,hs0⟩:=zN hW0;clear hW0;go_wp2;go_loopw [3] (fun iv wr=>∃i:Nat,i<=r/\iv= .int .i64 i/\Below w.heap.size w wr/\Blk wr w.heap.size 28 #[.int .i64 R,.int .i64 C,.slice ao R cap]) (fun iv _=>R-(intOf iv).toNat)
 case atStart=>exact⟨0,by omega,rfl,hB0,bx⟩
 case round=>
  clear bx hB0;obtain⟨i,hi,rfl,hb,bx⟩:=hrel;obtain⟨c1,c2,c3,c4,c5,c6⟩:=bx.three;by_cases hlt:i<R
  ·obtain⟨b,ra,rn,rc,zs,rfl,hbl,hz,p1,hrv⟩:=(h.below hb).row (k:=i) (by rw[HX.out];exact hlt)
   obtain rfl:=HF.out.row_eq hz;go_wp2_with fail
   refine(zKi _ (zQ C (ent M i)) wr hrv).mono ?_;rintro e w7 ⟨rfl,hb7⟩;rw[HZE.out i hlt];have hb8:=nx hb hb7;have bx:=bx.below hb7;clear c1 c2 c3 c4 c5 c6 p1 hz hrv;by_cases hir:i<r
   ·rw[decide_eq_false (by omega:¬ r<=i)]
    go_wp2;go_roundw
    case rel=>exact⟨i+1,by omega,by simp,hb8,bx⟩
    case measure=>simp[intOf];omega
   ·obtain rfl:i=r:=by omega
    rw[decide_eq_true (xgf i)];go_wp2;go_ret;exact⟨rfl,hb8⟩
  ·obtain rfl:i=r:=by omega
   go_wp2;go_ret;exact⟨rfl,hb⟩
def gx(E M:Nat):Nat:=(2*M)^E/2
theorem zGj{E M:Nat}(hE:1<=E):2*gx E M=(2*M)^E:=by
 obtain⟨e,rfl⟩:∃e,E=e+1:=⟨E-1,by omega⟩;have h:(2*M)^(e+1)=2*(M*(2*M)^e):=by rw[Nat.pow_succ,Nat.mul_comm ((2*M)^e),Nat.mul_assoc]
 unfold gx;rw[h,Nat.mul_div_cancel_left _ oM]
theorem zMy(M:Nat):gx 1 M=M:=by
 have:=zGj (E:=1) (M:=M) oM;rw[Nat.pow_one]at this;omega
theorem zAV{a b M:Nat}(hM:1<=M)(h:a<=b):gx a M<=gx b M:=Nat.div_le_div_right (Nat.pow_le_pow_right oM h)
theorem zKN{E M:Nat}(hM:1<=M)(hE:1<=E):M<=gx E M:=by have:=zAV hM hE;rwa[zMy]at this
theorem zL1{a b M:Nat}(ha:1<=a):gx b (gx a M)=gx (a*b) M:=by
 have h:=zGj (M:=M) ha;unfold gx at h ⊢
 rw[h,<-Nat.pow_mul]
theorem zPZ(M:Nat):gx 2 M=2*M*M:=by
 have h:=zGj (E:=2) (M:=M) oM;rw[Nat.pow_two,Nat.mul_assoc 2 M (2*M),Nat.mul_left_comm M 2 M,<-Nat.mul_assoc 2 M M]at h;omega
theorem zNi(m:Nat):gx 5 m=16*(m*m*m*m*m):=by
 have h:=zGj (E:=5) (M:=m) oM;rw[Nat.mul_pow]at h;simp only[Nat.pow_succ,Nat.pow_zero,Nat.one_mul]at h;omega
theorem zEN(a b:Int):(a/b).natAbs<=a.natAbs:=Int.natAbs_ediv_le_natAbs a b
structure zBl(n C:Nat)(x0:Bst)(c r:Nat)(κ:Nat->Nat)(x:Bst):Prop where
 ops:∃l,qJ n l/\x=zA0 l x0
 rn:r<=n
 ech:Ech C r κ x.s
 lt:∀k,k<r->κ k<c
 red:zGL (fun _ _=>True) r κ x.s
 zero:∀a,r<=a->a<n->∀t,t<c->t<C->x.s a t=0
section
variable {n C Ct M0 B:Nat} {x0 x:Bst} {c r:Nat} {κ:Nat->Nat}
theorem zBl.op(h:zBl n C x0 c r κ x){o:Op}(ho:o.ok n)(hl:∀a,a<r->∀t,(∀b,r<=b->b<n->x.s b t=0)∨True->(o.b x).s a t=x.s a t)(hz:∀t,(∀b,r<=b->b<n->x.s b t=0)->∀a,r<=a->a<n->(o.b x).s a t=0):zBl n C x0 c r κ (o.b x):=by
 obtain⟨l,l1,l2⟩:=h.ops;refine⟨zDX l1 l2 (qJ.cons ho qJ.nil) rfl,h.rn,⟨h.ech.lt,fun k hk=>?_,fun k hk t ht=>?_,h.ech.inc⟩,h.lt,fun i j h1 h2 h3=>?_,fun a h1 h2 t h3 h4=>?_⟩
 ·rw[hl k hk _ (.inr trivial)];exact h.ech.pos k hk
 ·rw[hl k hk _ (.inr trivial)];exact h.ech.zero k hk t ht
 ·rw[hl i oM _ (.inr trivial),hl j h2 _ (.inr trivial)];exact h.red i j h1 h2 h3
 ·exact hz t (fun b g1 g2=>h.zero b g1 g2 t h3 h4) a h1 h2
theorem zBl.add(h:zBl n C x0 c r κ x){i j:Nat}(k:Int)(hi:i<n)(hj:j<n)(hij:i≠j)(hri:r<=i)(hrj:r<=j):zBl n C x0 c r κ (x.add i j k):=by
 refine h.op (o:=.add i j k) ⟨hi,hj,hij⟩ (fun a ha t _=>?_) (fun t ht a h1 h2=>?_)
 ·show jL x.s i j k a t=_
  unfold jL;rw[if_neg oM]
 ·show jL x.s i j k a t=_
  unfold jL;split
  ·rw[ht i hri hi,ht j hrj hj];omega
  ·exact ht a h1 h2
theorem zBl.swap(h:zBl n C x0 c r κ x){i j:Nat}(hi:i<n)(hj:j<n)(hri:r<=i)(hrj:r<=j):zBl n C x0 c r κ (x.swap i j):=by
 refine h.op (o:=.swap i j) ⟨hi,hj⟩ (fun a ha t _=>?_) (fun t ht a h1 h2=>?_)
 ·show x.s (swp i j a) t=_
  rw[show swp i j a=a by unfold swp;rw[if_neg oM,if_neg oM]]
 ·show x.s (swp i j a) t=_
  refine ht _ ?_ (zFc hi hj h2);unfold swp;split<;>(try split)<;>omega
theorem zBl.neg(h:zBl n C x0 c r κ x){i:Nat}(hi:i<n)(hri:r<=i):zBl n C x0 c r κ (x.neg i):=by
 refine h.op (o:=.neg i) hi (fun a ha t _=>?_) (fun t ht a h1 h2=>?_)
 ·show jQ x.s i a t=_
  unfold jQ;rw[if_neg oM]
 ·show jQ x.s i a t=_
  unfold jQ;split
  ·rw[ht a h1 h2];rfl
  ·exact ht a h1 h2
theorem zBl.redAdd(h:zBl n C x0 c r κ x){i:Nat}(k:Int)(hi:i<r)(hr:r<n)(hc:c<C):zBl n C x0 c r κ (x.add i r k):=by
 obtain⟨l,l1,l2⟩:=h.ops;have hz:∀t,t<c->x.s r t=0:=fun t ht=>h.zero r (xgf _) hr t ht oM
 have hs:∀a t,t<c->(x.add i r k).s a t=x.s a t:=fun a t ht=>by
  show jL x.s i r k a t=_;unfold jL;split
  ·rename_i e;rw[hz t ht,Int.mul_zero,Int.add_zero,e]
  ·rfl
 refine⟨zDX l1 l2 (qJ.cons (o:=.add i r k) ⟨by omega,hr,by omega⟩ qJ.nil) rfl,h.rn,⟨h.ech.lt,fun k hk=>?_,fun k hk t ht=>?_,h.ech.inc⟩,h.lt,fun i j h1 h2 h3=>?_,fun a h1 h2 t h3 h4=>?_⟩
 ·rw[hs _ _ (h.lt _ hk)];exact h.ech.pos _ hk
 ·rw[hs _ _ (by have:=h.lt _ hk;omega)];exact h.ech.zero _ hk t ht
 ·rw[hs _ _ (h.lt _ h2),hs _ _ (h.lt _ h2)];exact h.red i j h1 h2 h3
 ·rw[hs _ _ h3];exact h.zero a h1 h2 t h3 h4
structure KI(n C Ct b0:Nat)(x0:Bst)(c r:Nat)(κ:Nat->Nat)(i:Nat)(x:Bst):Prop where
 core:zBl n C x0 c r κ x
 col:∀a,r<a->a<i->x.s a c=0
 same:x.s r c=0->leB b0 n C Ct x
def EBd(n C Ct m:Nat)(X Y:Int)(x:Bst):Prop:=
 leB m n C Ct x∨(0<=Y/\X.natAbs<=m/\Y.natAbs<=m/\leB (2*m*m) n C Ct x)∨(0<=X/\0<=Y/\∃a,1<=a/\leB a n C Ct x/\a<=gx 5 m/\a*(2*X.natAbs*Y.natAbs)<=gx 5 m)
theorem zMv{m:Nat}(hm:1<=m):2*m*m*(1+m)<=gx 5 m/\2*m*m*(1+m)*(2*m*m)<=gx 5 m/\m*(1+m)<=2*m*m/\2*m*m<=gx 5 m/\m<=gx 5 m:=by
 rw[zNi];have h1:m*1<=m*m:=Nat.mul_le_mul_left _ hm;have h2:m*m*1<=m*m*m:=Nat.mul_le_mul_left _ hm;have h3:m*m*m*1<=m*m*m*m:=Nat.mul_le_mul_left _ hm;have h4:m*m*m*m*1<=m*m*m*m*m:=Nat.mul_le_mul_left _ hm;have e1:2*m*m*(1+m)=2*(m*m)+2*(m*m*m):=by
  rw[Nat.mul_add,Nat.mul_one,Nat.mul_assoc 2 m m,Nat.mul_assoc 2 (m*m) m]
 have e2:2*m*m*(1+m)*(2*m*m)=4*(m*m*m*m)+4*(m*m*m*m*m):=by
  have a1:m*m*m*m=m*m*(m*m):=Nat.mul_assoc _ _ _;rw[e1,a1,Nat.mul_assoc 2 m m];generalize m*m=s;have a2:2*s*(2*s)=4*(s*s):=by rw[Nat.mul_mul_mul_comm]
  have a3:2*(s*m)*(2*s)=4*(s*s*m):=by rw[Nat.mul_mul_mul_comm,Nat.mul_right_comm s m s]
  rw[Nat.add_mul,a2,a3]
 have e3:m*(1+m)=m+m*m:=by rw[Nat.mul_add,Nat.mul_one]
 have e4:2*m*m=2*(m*m):=Nat.mul_assoc _ _ _;rw[e2,e1,e3,e4];refine⟨by omega,by omega,by omega,by omega,by omega⟩
theorem EBd.le{m:Nat}{X Y:Int}(hm:1<=m)(h:EBd n C Ct m X Y x):leB (gx 5 m) n C Ct x:=by
 obtain⟨-,-,-,h4,h5⟩:=zMv hm;rcases h with h|⟨-,-,-,h⟩|⟨-,-,a,-,h,h2,-⟩
 ·exact h.mono h5
 ·exact h.mono h4
 ·exact h.mono h2
theorem zD3{m i j:Nat}(h:leB m n C Ct x)(hi:i<n)(hj:j<n):leB m n C Ct (x.swap i j):=by
 have:=zGq (o:=.swap i j) h ⟨hi,hj⟩;rwa[show Op.g (.swap i j)=1 from rfl,Nat.mul_one]at this
theorem zNs{m i:Nat}(h:leB m n C Ct x)(hi:i<n):leB m n C Ct (x.neg i):=by
 have:=zGq (o:=.neg i) h hi;rwa[show Op.g (.neg i)=1 from rfl,Nat.mul_one]at this
theorem zLS(x:Bst)(i j t:Nat):(x.swap i j).s i t=x.s j t/\(x.swap i j).s j t=x.s i t/\∀a,a≠i->a≠j->(x.swap i j).s a t=x.s a t:=by
 refine⟨?_,?_,fun a h1 h2=>?_⟩
 ·show x.s (swp i j i) t=_
  unfold swp;rw[if_pos rfl]
 ·show x.s (swp i j j) t=_
  unfold swp;split
  ·rename_i e;rw[e]
  ·rw[if_pos rfl]
 ·show x.s (swp i j a) t=_
  unfold swp;rw[if_neg h1,if_neg h2]
theorem KI.swap0{b0 i m:Nat}(h:KI n C Ct b0 x0 c r κ i x)(hri:r<i)(hi:i<n)(hX:x.s r c=0)(hY:x.s i c≠0)(he:EBd n C Ct m (x.s r c) (x.s i c) x):
  KI n C Ct b0 x0 c r κ i (x.swap r i)/\EBd n C Ct m ((x.swap r i).s r c) ((x.swap r i).s i c) (x.swap r i)/\(x.swap r i).s i c=0:=by
 obtain⟨s1,s2,s3⟩:=zLS x r i c;have hr:r<n:=by omega
 rw[s1,s2];refine⟨⟨h.core.swap hr hi (xgf _) oM,fun a h1 h2=>?_,fun e=>?_⟩,?_,hX⟩
 ·rw[s3 a oM oM];exact h.col a h1 h2
 ·rw[s1]at e;exact absurd e hY
 ·rw[hX]
  rcases he with h|⟨h1,h2,h3,h4⟩|⟨h1,h2,a,h3,h4,h5,h6⟩
  ·exact .inl (zD3 h hr hi)
  ·exact .inr (.inl ⟨by omega,h3,by simp,zD3 h4 hr hi⟩)
  ·exact .inr (.inr ⟨h2,by omega,a,h3,zD3 h4 hr hi,h5,by simp⟩)
theorem zOw{X Y q r:Nat}(h:X=q*Y+r):(1+q)*(2*Y*r)<=2*X*Y∨Y<r:=by
 rcases Nat.lt_or_ge Y r with h1|h1
 ·exact .inr h1
 ·refine .inl ?_
  have h2:q*r<=q*Y:=Nat.mul_le_mul_left _ h1;have h3:(1+q)*r<=X:=by rw[Nat.add_mul,Nat.one_mul];omega
  have h4:(1+q)*(2*Y*r)=2*Y*((1+q)*r):=by rw[Nat.mul_left_comm]
  have h5:2*X*Y=2*Y*X:=by rw[Nat.mul_assoc,Nat.mul_assoc,Nat.mul_comm X]
  rw[h4,h5];exact Nat.mul_le_mul_left _ h3
theorem KI.step{b0 i m:Nat}(h:KI n C Ct b0 x0 c r κ i x)(hri:r<i)(hi:i<n)(hc:c<C)(hm:1<=m)(hX:x.s r c≠0)(hY:x.s i c≠0)(he:EBd n C Ct m (x.s r c) (x.s i c) x)(hB:gx 5 m<B):
  zBx B n C Ct x r i (-(x.s r c/x.s i c))/\KI n C Ct b0 x0 c r κ i ((x.add r i (-(x.s r c/x.s i c))).swap r i)/\EBd n C Ct m (((x.add r i (-(x.s r c/x.s i c))).swap r i).s r c) (((x.add r i (-(x.s r c/x.s i c))).swap r i).s i c) ((x.add r i (-(x.s r c/x.s i c))).swap r i)∧
   (((x.add r i (-(x.s r c/x.s i c))).swap r i).s i c).natAbs<(x.s i c).natAbs:=by
 have hr:r<n:=by omega
 obtain⟨f1,f2,f3,f4,f5⟩:=zMv hm;have hdm:=Int.mul_ediv_add_emod (x.s r c) (x.s i c);have hr0:=Int.emod_nonneg (x.s r c) hY;have hrl:=Int.emod_lt (x.s r c) hY;have hqX:=zEN (x.s r c) (x.s i c);obtain⟨q,hq⟩:∃q,x.s r c/x.s i c=q:=⟨_,rfl⟩;obtain⟨p,hp⟩:∃p,x.s r c%x.s i c=p:=⟨_,rfl⟩;rw[hq]at hqX hdm ⊢
 rw[hp]at hdm hr0 hrl;have hsr:(x.add r i (-q)).s r c=p:=by
  show jL x.s r i (-q) r c=_;unfold jL;rw[if_pos rfl,Int.neg_mul,Int.mul_comm q];omega
 have hsi:∀a,a≠r->(x.add r i (-q)).s a c=x.s a c:=fun a ha=>by
  show jL x.s r i (-q) a c=_;unfold jL;rw[if_neg ha]
 obtain⟨s1,s2,s3⟩:=zLS (x.add r i (-q)) r i c;rw[hsi i oM]at s1;rw[hsr]at s2;have hoa:(Op.add r i (-q)).ok n:=⟨hr,hi,by omega⟩;have hg:∀{a:Nat},leB a n C Ct x->leB (a*(1+q.natAbs)) n C Ct ((x.add r i (-q)).swap r i):=fun h=>by
  have:=zGq h hoa;rw[show(Op.add r i (-q)).g=1+q.natAbs by simp[Op.g]]at this;exact zD3 this hr hi
 have hk:∀{a:Nat},1<=a->leB a n C Ct x->a*(1+q.natAbs)<=gx 5 m->zBx B n C Ct x r i (-q):=fun h1 h2 h3=>zD7 h2 hr hi oM h1 (by rw[Int.natAbs_neg];omega)
 have hKI:KI n C Ct b0 x0 c r κ i ((x.add r i (-q)).swap r i):=⟨(h.core.add _ hr hi oM (xgf _) oM).swap hr hi (xgf _) oM,fun a h1 h2=>by
   rw[s3 a oM oM,hsi a oM];exact h.col a h1 h2,fun e=>by rw[s1]at e;exact absurd e hY⟩
 rw[s1,s2];have hlast:p.natAbs<(x.s i c).natAbs:=by omega
 rcases he with he|⟨e1,e2,e3,e4⟩|⟨e1,e2,a,e3,e4,e5,e6⟩
 ·have bX:=he.1 r hr c hc
  have bY:=he.1 i hi c hc;have hb:m*(1+q.natAbs)<=2*m*m:=Nat.le_trans (Nat.mul_le_mul_left _ oM) f3;exact⟨hk hm he oM,hKI,.inr (.inl ⟨hr0,bY,by omega,(hg he).mono hb⟩),hlast⟩
 ·have hb:2*m*m*(1+q.natAbs)<=2*m*m*(1+m):=Nat.mul_le_mul_left _ oM
  have h1:1<=2*m*m:=Nat.le_trans hm (zET hm);have hy:(x.s i c).natAbs*p.natAbs<=m*m:=Nat.mul_le_mul e3 oM;refine⟨hk h1 e4 oM,hKI,.inr (.inr ⟨e1,hr0,_,Nat.mul_pos h1 oM,hg e4,by omega,?_⟩),hlast⟩;refine Nat.le_trans (Nat.mul_le_mul hb ?_) f2;rw[Nat.mul_assoc,Nat.mul_assoc];exact Nat.mul_le_mul_left _ hy
 ·have hY0:0<x.s i c:=by omega
  have hq0:0<=q:=by rw[<-hq];exact Int.ediv_nonneg e1 e2
  have hXe:(x.s r c).natAbs=q.natAbs*(x.s i c).natAbs+p.natAbs:=by
   have h5:((q.natAbs*(x.s i c).natAbs+p.natAbs:Nat):Int)=x.s r c:=by
    rw[Int.natCast_add,Int.natCast_mul,Int.natAbs_of_nonneg hq0,Int.natAbs_of_nonneg e2,Int.natAbs_of_nonneg hr0,Int.mul_comm];exact hdm
   omega
  have hp1:1+q.natAbs<=2*(x.s r c).natAbs*(x.s i c).natAbs:=by
   have g1:2*(x.s r c).natAbs*1<=2*(x.s r c).natAbs*(x.s i c).natAbs:=Nat.mul_le_mul_left _ oM;omega
  have hp2:(1+q.natAbs)*(2*(x.s i c).natAbs*p.natAbs)<=2*(x.s r c).natAbs*(x.s i c).natAbs:=by
   rcases zOw hXe with g|g
   ·exact g
   ·omega
  have b1:a*(1+q.natAbs)<=gx 5 m:=Nat.le_trans (Nat.mul_le_mul_left _ hp1) e6;refine⟨hk e3 e4 b1,hKI,.inr (.inr ⟨e2,hr0,_,Nat.mul_pos e3 oM,hg e4,b1,?_⟩),hlast⟩;rw[Nat.mul_assoc];exact Nat.le_trans (Nat.mul_le_mul_left _ hp2) e6
def eE(n:Nat):Nat->Nat
 |0=>1
 |r+1=>eE n r*5^(n-(r+1))*2^r
theorem zKD(n:Nat):∀r,1<=eE n r
 |0=>xgf _
 |r+1=>Nat.mul_pos (Nat.mul_pos (zKD n r) (Nat.pow_pos oM)) (Nat.pow_pos oM)
theorem zDO(n:Nat){a b:Nat}(h:a<=b):eE n a<=eE n b:=by
 obtain⟨d,rfl⟩:=Nat.exists_eq_add_of_le h;clear h;induction d with
 |zero=>exact xgf _
 |succ d ih=>
  refine Nat.le_trans ih ?_;show _<=eE n (a+d)*_*_;rw[Nat.mul_assoc];exact Nat.le_mul_of_pos_right _ (Nat.mul_pos (Nat.pow_pos oM) (Nat.pow_pos oM))
def eI(n r i:Nat):Nat:=eE n r*5^(i-(r+1))
theorem zEQ(n r i:Nat):1<=eI n r i:=Nat.mul_pos (zKD n r) (Nat.pow_pos oM)
theorem zLw(n r:Nat):eI n r (r+1)=eE n r:=by unfold eI;rw[Nat.sub_self,Nat.pow_zero,Nat.mul_one]
theorem zHP{n r i:Nat}(h:r<i):eI n r (i+1)=eI n r i*5:=by
 unfold eI;rw[show i+1-(r+1)=(i-(r+1))+1 by omega,Nat.pow_succ,Nat.mul_assoc]
theorem zEP(n r j:Nat)(hr:r<n)(hj:j<=r):eI n r n*2^j<=eE n (r+1):=by
 show _<=eE n r*5^(n-(r+1))*2^r;exact Nat.mul_le_mul_left _ (Nat.pow_le_pow_right oM hj)
theorem zNc{n r i:Nat}(hr:r<n)(hi:i<=n):eI n r i<=eE n (r+1):=by
 refine Nat.le_trans ?_ (zEP n r 0 hr oM);rw[Nat.pow_zero,Nat.mul_one];exact Nat.mul_le_mul_left _ (Nat.pow_le_pow_right oM oM)
def KO(n C Ct M0:Nat)(x0:Bst)(c r:Nat)(κ:Nat->Nat)(x:Bst):Prop:=zBl n C x0 c r κ x/\leB (gx (eE n r) M0) n C Ct x
def KR(n C Ct M0:Nat)(x0:Bst)(c r:Nat)(κ:Nat->Nat)(i:Nat)(x:Bst):Prop:=KI n C Ct (gx (eE n r) M0) x0 c r κ i x/\leB (gx (eI n r i) M0) n C Ct x
def KEu(n C Ct M0:Nat)(x0:Bst)(c r:Nat)(κ:Nat->Nat)(i:Nat)(x:Bst):Prop:=KI n C Ct (gx (eE n r) M0) x0 c r κ i x/\EBd n C Ct (gx (eI n r i) M0) (x.s r c) (x.s i c) x
theorem KO.start(M1:leB M0 n C Ct x0):KO n C Ct M0 x0 0 0 κ x0:=
 ⟨⟨⟨[],qJ.nil,rfl⟩,Nat.zero_le _,⟨fun k hk=>by omega,fun k hk=>by omega,fun k hk=>by omega,fun k l _ hl=>by omega⟩,fun k hk=>by omega,fun i j _ hj=>by omega,fun a _ _ t ht=>by omega⟩,by
  show leB (gx 1 M0) n C Ct x0
  rw[zMy];exact M1⟩
theorem KO.enter(h:KO n C Ct M0 x0 c r κ x):KR n C Ct M0 x0 c r κ (r+1) x:=⟨⟨h.1,fun a h1 h2=>by omega,fun _=>h.2⟩,by rw[zLw];exact h.2⟩
theorem KR.enter{i:Nat}(h:KR n C Ct M0 x0 c r κ i x):KEu n C Ct M0 x0 c r κ i x:=⟨h.1,.inl h.2⟩
theorem KEu.exit{i:Nat}(hM0:1<=M0)(h:KEu n C Ct M0 x0 c r κ i x)(hri:r<i)(hY:x.s i c=0):KR n C Ct M0 x0 c r κ (i+1) x:=by
 refine⟨⟨h.1.core,fun a h1 h2=>?_,h.1.same⟩,?_⟩
 ·by_cases e:a=i
  ·rw[e];exact hY
  ·exact h.1.col a h1 oM
 ·rw[zHP hri,<-zL1 (zEQ _ _ _)]
  exact h.2.le (Nat.le_trans hM0 (zKN hM0 (zEQ _ _ _)))
theorem KR.none(h:KR n C Ct M0 x0 c r κ n x)(hX:x.s r c=0):KO n C Ct M0 x0 (c+1) r κ x:=by
 obtain⟨h1,h2⟩:=h;refine⟨⟨h1.core.ops,h1.core.rn,h1.core.ech,fun k hk=>Nat.lt_succ_of_lt (h1.core.lt k hk),h1.core.red,fun a g1 g2 t g3 g4=>?_⟩,h1.same hX⟩;by_cases e:t=c
 ·subst e
  by_cases e2:a=r
  ·rw[e2];exact hX
  ·exact h1.col a oM g2
 ·exact h1.core.zero a g1 g2 t oM g4
structure KD(n C Ct M0:Nat)(x0:Bst)(c r:Nat)(κ:Nat->Nat)(i:Nat)(x:Bst):Prop where
 core:zBl n C x0 c r κ x
 pos:0<x.s r c
 col:∀a,r<a->a<n->x.s a c=0
 red:∀a,a<i->0<=x.s a c/\x.s a c<x.s r c
 bd:leB (gx (eI n r n*2^i) M0) n C Ct x
theorem KR.pos(h:KR n C Ct M0 x0 c r κ n x)(hX:0<x.s r c):KD n C Ct M0 x0 c r κ 0 x:=
 ⟨h.1.core,hX,fun a h1 h2=>h.1.col a h1 h2,fun a ha=>by omega,by rw[Nat.pow_zero,Nat.mul_one];exact h.2⟩
theorem KR.neg(h:KR n C Ct M0 x0 c r κ n x)(hr:r<n)(hX:x.s r c<0):KD n C Ct M0 x0 c r κ 0 (x.neg r):=by
 have hs:∀a t,(x.neg r).s a t=if a=r then-(x.s a t)else x.s a t:=fun a t=>rfl
 refine⟨h.1.core.neg hr (xgf _),?_,fun a h1 h2=>?_,fun a ha=>by omega,?_⟩
 ·rw[hs,if_pos rfl];omega
 ·rw[hs,if_neg oM];exact h.1.col a h1 h2
 ·rw[Nat.pow_zero,Nat.mul_one];exact zNs h.2 hr
theorem KD.step{i:Nat}(hM0:1<=M0)(h:KD n C Ct M0 x0 c r κ i x)(hi:i<r)(hr:r<n)(hc:c<C)(hB:gx (eE n (r+1)) M0<B):
  zBx B n C Ct x i r (-(x.s i c/x.s r c))/\KD n C Ct M0 x0 c r κ (i+1) (x.add i r (-(x.s i c/x.s r c))):=by
 obtain⟨h1,h2,h3,h4,h5⟩:=h;have hdm:=Int.mul_ediv_add_emod (x.s i c) (x.s r c);have hr0:=Int.emod_nonneg (x.s i c) (b:=x.s r c) oM;have hrl:=Int.emod_lt_of_pos (x.s i c) h2;have hq:=zEN (x.s i c) (x.s r c);obtain⟨q,hq'⟩:∃q,x.s i c/x.s r c=q:=⟨_,rfl⟩;rw[hq']at hdm hq ⊢
 have hep:1<=eI n r n*2^i:=Nat.mul_pos (zEQ _ _ _) (Nat.pow_pos oM);have hm1:1<=gx (eI n r n*2^i) M0:=Nat.le_trans hM0 (zKN hM0 hep);have hqm:q.natAbs<=gx (eI n r n*2^i) M0:=Nat.le_trans hq (h5.1 i oM c hc);have hst:=zD8 hm1 hqm;have hgg:2*gx (eI n r n*2^i) M0*gx (eI n r n*2^i) M0=gx (eI n r n*2^(i+1)) M0:=by
  rw[<-zPZ,zL1 hep,Nat.pow_succ,Nat.mul_assoc]
 have hle:gx (eI n r n*2^(i+1)) M0<=gx (eE n (r+1)) M0:=zAV hM0 (zEP n r (i+1) hr oM);have hs:∀a t,(x.add i r (-q)).s a t=if a=i then x.s i t+-q*x.s r t else x.s a t:=fun a t=>rfl
 have hb:=zGq (o:=.add i r (-q)) h5 ⟨by omega,hr,by omega⟩;rw[show(Op.add i r (-q)).g=1+q.natAbs by simp[Op.g]]at hb;refine⟨zD7 h5 oM hr oM hm1 (by rw[Int.natAbs_neg];omega),⟨h1.redAdd _ hi hr hc,?_,fun a g1 g2=>?_,fun a ha=>?_,hb.mono oM⟩⟩
 ·rw[hs,if_neg oM];exact h2
 ·rw[hs,if_neg oM];exact h3 a g1 g2
 ·rw[hs,hs,if_neg (show ¬ r=i by omega)]
  split
  ·rename_i e
   rw[Int.neg_mul,Int.mul_comm q];constructor<;>omega
  ·exact h4 a oM
theorem KD.exit(hM0:1<=M0)(h:KD n C Ct M0 x0 c r κ r x)(hr:r<n)(hc:c<C):KO n C Ct M0 x0 (c+1) (r+1) (fun k=>if k=r then c else κ k) x:=by
 obtain⟨h1,h2,h3,h4,h5⟩:=h;have e1:∀k,k<r->(if k=r then c else κ k)=κ k:=fun k hk=>if_neg oM
 refine⟨⟨h1.ops,hr,⟨fun k hk=>?_,fun k hk=>?_,fun k hk t ht=>?_,fun k l h hl=>?_⟩,fun k hk=>?_,fun i j g1 g2 _=>?_,fun a g1 g2 t g3 g4=>?_⟩,h5.mono (zAV hM0 (zEP n r r hr (xgf _)))⟩
 ·by_cases e:k=r
  ·rw[if_pos e];exact hc
  ·rw[e1 k oM];exact h1.ech.lt k oM
 ·by_cases e:k=r
  ·rw[if_pos e,e];exact h2
  ·rw[e1 k oM];exact h1.ech.pos k oM
 ·skip
  by_cases e:k=r
  ·rw[if_pos e]at ht;rw[e];exact h1.zero r (xgf _) hr t ht oM
  ·rw[e1 k oM]at ht;exact h1.ech.zero k oM t ht
 ·rw[e1 k oM]
  by_cases e:l=r
  ·rw[if_pos e];exact h1.lt k oM
  ·rw[e1 l oM];exact h1.ech.inc k l h oM
 ·by_cases e:k=r
  ·rw[if_pos e];omega
  ·rw[e1 k oM];have:=h1.lt k oM;omega
 ·by_cases e:j=r
  ·rw[if_pos e,e];exact h4 i oM
  ·rw[e1 j oM];exact h1.red i j g1 oM trivial
 ·by_cases e:t=c
  ·rw[e];exact h3 a oM g2
  ·exact h1.zero a oM g2 t oM g4
theorem KO.form{R C:Nat}{A:Nat->Nat->Int}(h:KO R C R M0 ⟨A,idf,idf⟩ c r κ x)(he:c=C∨r=R):jI R C r κ A x.s x.t (fun a b=>x.i b a):=by
 obtain⟨h1,h2⟩:=h;obtain⟨l,hl,hx⟩:=h1.ops;rw[zFz]at hx;have hs:x.s=zA1 l A:=by rw[hx]
 have ht:x.t=zA1 l idf:=by rw[hx]
 have hi:x.i=zGF l idf:=by rw[hx]
 refine⟨⟨h1.rn,h1.ech,h1.red,fun a g1 g2 t g3=>?_⟩,fun a ha b hb=>?_,fun a ha b hb=>?_,fun a ha b hb=>?_⟩
 ·rcases he with e|e
  ·exact h1.zero a g1 g2 t oM g3
  ·omega
 ·rw[hs,ht];exact zDY hl A a ha b
 ·rw[ht,hi];exact zF0 hl (P:=idf) (Q:=idf) (C:=R) (fun a ha b hb=>zFl R a ha b hb) a ha b hb
 ·rw[hs,hi];exact zC8 hl A a ha b
end

end Go.Proofs.YtgnmdddaiefooaaGreat
