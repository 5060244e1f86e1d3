/- Joined. -/
import Derived.Test.YtkidaebmhlijlaaGreatD03
set_option linter.unusedVariables false
set_option linter.unusedSimpArgs false
set_option linter.unusedSectionVars false
set_option maxHeartbeats 16000000
set_option maxRecDepth 100000
variable{z:Int}{ms qs rs ul us xs ys zs:List Nat}{V X a b d j k m n off s v x y:Nat}{W w:Go.World}
namespace Go.Proofs.YtkidaebmhlijlaaGreat
open Go.RowKit
/-! ### plain -/
theorem zDA(xs:List Nat)(k:Nat)(h:k<=xs.length):nat xs=nat (xs.take k)+B32^k*nat (xs.drop k):=by
 have:=zGc (xs.take k) (xs.drop k);rw[List.take_append_drop,qF,zBN h]at this;exact this
theorem zVQ(h:off<=us.length):(put us off ms).drop off=ms++us.drop (off+ms.length):=by
 unfold put;rw[zAh,List.drop_append,qP (by simp;omega)];simp[Nat.min_eq_left h]
theorem zVR(h:off<=us.length):(put us off ms).take off=us.take off:=by
 unfold put;rw[zAh,zAY (by simp;omega),zDq,Nat.min_self]
theorem zSC(a V p B t q r:Nat):a*V*(p*B)+(t+p*(q*V+r))=(q+B*a)*V*p+(t+p*r):=by
 simp only[Nat.add_mul,Nat.mul_add];have e1:a*V*(p*B)=B*a*V*p:=by simp only[Nat.mul_assoc,Nat.mul_comm,Nat.mul_left_comm]
 have e2:p*(q*V)=q*V*p:=zN _ _;omega
structure zJF(X V:Nat)(n k:Nat)(ul qs:List Nat):Prop where
 lim:zA6 ul
 qlim:zA6 qs
 eq:X=nat (qs.drop k)*V*B32^k+nat ul
 lt:nat (ul.drop k)<V
theorem zJF.zero(h:zJF X V n k ul qs)(hV:V<B32^n)(hl:k+n<=ul.length):nat (ul.drop (k+n))=0:=by
 have h1:=zDA (ul.drop k) n (by simp;omega);rw[List.drop_drop]at h1;have h2:=h.lt;rcases qN (nat (ul.drop (k+n)))with h0|h0
 exact h0;have:=zO (B32^n) h0;omega
theorem zJF.seg_eq(h:zJF X V n (j+1) ul qs)(hV:V<B32^n)(hl:j+1+n<=ul.length):nat (seg ul j (n+1))=nat (ul.drop j):=by
 have h1:=zDA (ul.drop j) (n+1) (by simp;omega);rw[List.drop_drop,show j+(n+1)=j+1+n by omega,h.zero hV hl]at h1;unfold seg;omega
theorem zJF.small(h:zJF X V n (j+1) ul qs)(hl:j<ul.length):nat (ul.drop j)<V*4294967296:=by
 have h1:=zCt ul j hl;have h2:=h.lim.get j;have h3:=h.lt;rw[zCE]at h1 h2;rw[h1];clear h1 h;generalize nat (List.drop (j+1) ul)=d at*;generalize ul.getD j 0=x at*;omega
theorem zJF.step{q:Nat}{rs:List Nat}(h:zJF X V n (j+1) ul qs)(hV:V<B32^n)(hl:j+1+n<=ul.length)(hq:j<qs.length)(hqB:q<4294967296)
  (hrl:rs.length=n+1) (hrs:zA6 rs) (heq:nat (seg ul j (n+1))=q*V+nat rs) (hlt:nat rs<V):zJF X V n j (put ul j rs) (qs.set j q):=by
 have hz:=h.zero hV hl;have hd:nat ((put ul j rs).drop j)=nat rs:=by
  rw[zVQ oM,zGc,hrl,show j+(n+1)=j+1+n by omega,hz,zCJ,zAa]
 refine⟨zTP h.lim hrs,h.qlim.set _ _ hqB,?_,by rw[hd];exact hlt⟩;have h1:=zDA ul j oM;have h2:=zDA (put ul j rs) j (by rw[zFE oM];omega);rw[hd,zVR oM]at h2;rw[<-h.seg_eq hV hl,heq]at h1;have h3:=zCt (qs.set j q) j (by simpa using hq);rw[zDf,xgb,List.getElem?_set_self hq]at h3;simp only[Option.getD_some]at h3;rw[h3,h2,h.eq,h1,qI];exact zSC _ _ _ _ _ _ _
theorem zNQ(hs:s<32)(ha:a<4294967296)(hb:b<4294967296):
  ((a*4294967296+b)/2^s%4294967296)*2^s+b%2^s=b+a%2^s*4294967296:=by
 obtain⟨t,ht⟩:∃t,2^s*t=4294967296:=⟨2^(32-s),by rw[<-yD,show s+(32-s)=32 by omega]⟩;have hp:0<2^s:=qR oM;generalize 2^s=p at*;have hb1:=zAA b p;have ha1:=zAA a p;have hbp:=yH b hp;have hap:=yH a hp;generalize b/p=bq at*;generalize b%p=br at*;generalize a/p=aq at*;generalize a%p=ar at*;have e1:(a*4294967296+b)/p=a*t+bq:=by
  rw[<-ht,<-hb1,<-zC,zN a p,zC,<-zED,<-zAU];rw[Nat.mul_add_div hp,Nat.div_eq_of_lt hbp,zAa]
 have hbq:bq<t:=by
  rcases zG bq t with h|h
  exact h;have:=zH p h;omega
 have e2:a*t+bq=ar*t+bq+4294967296*aq:=by
  rw[<-ht,<-ha1,zZ,zC p t,zC,zN t aq];omega
 have h4:ar*t+bq<4294967296:=by
  have h5:(ar+1)*t<=p*t:=zM t hap;rw[zZ,zAs,ht]at h5;omega
 rw[e1,e2,Nat.add_mul_mod_self_left,Nat.mod_eq_of_lt h4,zZ,zC,zN t p,ht,zN bq p];omega
theorem zNR{v:Nat}(hs:s<32)(ha:a<4294967296)(hb:b<4294967296)(hua:ul.getD (k+1) 0=a)(hub:ul.getD k 0=b)(hk:k<rs.length)
  (hv:v=(a*4294967296+b)/2^s%4294967296) (h:nat (rs.take k)*2^s=nat (ul.take k)+(ul.getD k 0%2^s)*B32^k):
  nat ((rs.set k v).take (k+1))*2^s=nat (ul.take (k+1))+(ul.getD (k+1) 0%2^s)*B32^(k+1):=by
 have hl:=zNQ hs ha hb;rw[<-hv]at hl;rw[zB3 _ _ _ hk,jF,zZ,h,hua,hub,qI,zCE];generalize 2^s=p at*;generalize 4294967296^k=P;have e:=congrArg (· *P) hl;simp only[Nat.add_mul]at e;have e1:v*P*p=v*p*P:=by rw[zC,zN P,<-zC]
 have e2:a%p*(P*4294967296)=a%p*4294967296*P:=by rw[zC,zN P]
 omega
theorem zVq{vs:List Nat}{t:Nat}(hl:zA6 vs)(hlen:vs.length=m+1)(h:t*B32^m<=nat vs):t<=vs.getD m 0:=by
 have h1:=jF vs m;rw[yG vs oM]at h1;have h2:=zEK (hl.take m);rw[qF,zBN oM]at h2;rcases zG (vs.getD m 0) t with h3|h3
 ·exfalso
  have h4:=zM (B32^m) h3;rw[Nat.succ_mul]at h4;omega
 exact h3
theorem zXT(hlen:ys.length=m+1)(hd:ys.getD m 0=d):d*B32^m<=nat ys:=by
 have h1:=jF ys m;rw[yG ys oM,hd]at h1;omega
theorem zWx{T:Nat}(hk:k<=us.length)(h:nat us<B32^k*T):nat (us.drop k)<T:=by
 have h1:=zDA us k hk;have h2:B32^k*nat (us.drop k)<B32^k*T:=oM;exact Nat.lt_of_mul_lt_mul_left h2
theorem zXM(hs:s<32)(hl:0<ul.length):nat ul%2^s=ul.getD 0 0%2^s:=by
 obtain⟨t,ht⟩:∃t,2^s*t=4294967296:=⟨2^(32-s),by rw[<-yD,show s+(32-s)=32 by omega]⟩;have h1:=zCt ul 0 hl;rw[xgk,zCE,<-ht,zC]at h1;rw[h1,Nat.add_mul_mod_self_left]
theorem zPz(ao:Option Addr)(n cap:Nat)(xs:List Nat)(w:World)(hn:xs.length=n)(hn2:n<=2)(hx:yB w ao xs):
  CPq 205 #[.slice ao n cap] w fun e w'=>e= .returned (.int .u64 (nat xs:Nat))/\w=w':=by
 match n,xs,hn with
 |0,[],_=>
  go_enter Tryz.func205,Tryz.ntmps205;go_wp2;refine wp_loop_rounds 1 ?_;rw[rounds_succ];go_wp2;go_ret;exact⟨rfl,rfl⟩
 |1,[a],_=>
  obtain⟨b,off,x,rfl,hbw,hx32,HX,hck⟩:=hx.limb (k:=0) sI;have hxa:x=a:=HX.out.symm;subst hxa;rw[zAa]at hck;have e1:bits BinOp.or IntKind.u64 0 (x:Int)=(x:Int):=by have:=u64_or_nat 0 x oM oM;simpa using this
  have E:Hid (nat [x]=x):=by show _=_;simp[zCV]
  go_enter Tryz.func205,Tryz.ntmps205;go_wp2;refine wp_loop_rounds 2 ?_;rw[rounds_succ];go_wp2;rw[rounds_succ];go_wp2;go_ret;exact⟨by rw[E.out];rfl,rfl⟩
 | 2,[a,b],_=>
  obtain⟨bb,off,hbo,hbw,hcs⟩:=hx.cells sI;subst hbo;have c0:=hcs 0 sI;have c1:=hcs 1 sI;have ha:a<4294967296:=hx.1 a sI;have hb:b<4294967296:=hx.1 b sI;have e1:bits BinOp.or IntKind.u64 0 (a:Int)=(a:Int):=by have:=u64_or_nat 0 a oM oM;simpa using this
  have e2:bits BinOp.or IntKind.u64 (a:Int) ((b:Int)*4294967296)=((a+b*4294967296:Nat):Int):=by
   have:=u64_or_nat a (b*4294967296) oM oM;rw[Nat.or_comm,zPV b a ha,zCp]at this;rw[<-this];simp
  have E:Hid (nat [a,b]=a+b*4294967296):=by show _=_;simp[zCV,zCE];omega
  clear hcs;simp at c0 c1;go_enter Tryz.func205,Tryz.ntmps205;go_wp2;refine wp_loop_rounds 3 ?_;rw[rounds_succ];go_wp2;rw[rounds_succ];go_wp2;rw[rounds_succ];go_wp2;go_ret;exact⟨by rw[E.out];rfl,rfl⟩
def zJK(w:World)(a b:Nat)(e:Ending)(w':World):Prop:=
 ∃qo ql qc qs ro rl rc rs,e= .returned (.tuple #[.slice qo ql qc,.slice ro rl rc])/\qs.length=ql/\ql<=qc/\qc<=9223372036854775807/\yB w' qo qs∧
  rs.length=rl/\rl<=rc/\rc<=9223372036854775807/\yB w' ro rs/\a=nat qs*b+nat rs/\nat rs<b/\BWq w w'
section
variable (ao1 ao2:Option Addr) (n1 cap1 n2 cap2:Nat) (xs ys:List Nat) (w:World) (hn1:xs.length=n1) (hn2:ys.length=n2) (hl1:n1<=cap1) (hl2:n2<=cap2)
  (hc1:cap1<=9223372036854775807) (hc2:cap2<=9223372036854775807) (hb1:n1<=2*LIM) (hb2:n2<=2*LIM) (hx1:yB w ao1 xs) (hx2:yB w ao2 ys) (hN1:zBK xs) (hN2:zBK ys) (hy:0<nat ys)
include hn1 hn2 hl1 hl2 hc1 hc2 hb1 hb2 hx1 hx2 hN1 hN2 hy
theorem zNr(hlt:nat xs<nat ys):CPq 191 #[.slice ao1 n1 cap1,.slice ao2 n2 cap2] w (zJK w (nat xs) (nat ys)):=by
 have hcmp:=fun W h1 h2=>zDL ao1 ao2 n1 cap1 n2 cap2 xs ys W hn1 hn2 hl1 hl2 hc1 hc2 h1 h2 hN1 hN2
 rw[zBc oM]at hcmp;have HN1:=zI hn1;clear hn1 hn2;go_enter Tryz.func191,Tryz.ntmps191;go_wp2_with (go_at_call 124;refine(hcmp _ hx1 hx2).mono ?_;rintro e w' ⟨rfl,nd,rfl⟩)
 refine(zGO ao1 n1 cap1 xs _ HN1.out oM (hx1.ext (lx (drN _ _)))).mono ?_;rintro e w2 ⟨ro,rl,rc,rfl,h1,h2,h3,h4,hb⟩;go_wp2_with fail
 go_ret2;exact⟨_,_,_,[],_,_,_,xs,rfl,rfl,oM,oM,yB.nil _ _,h1,h2,h3,h4,by simp,hlt,nx (drN _ _) hb⟩
theorem zQG(hge:nat ys<=nat xs)(h2:n1<=2):CPq 191 #[.slice ao1 n1 cap1,.slice ao2 n2 cap2] w (zJK w (nat xs) (nat ys)):=by
 have hn12:n2<=n1:=by rw[<-hn1,<-hn2];exact zDS hx1.1 hN2 hge
 have hcmp:=fun W h1 h2=>zDL ao1 ao2 n1 cap1 n2 cap2 xs ys W hn1 hn2 hl1 hl2 hc1 hc2 h1 h2 hN1 hN2
 obtain⟨cc,hcc,hcc0⟩:∃cc:Int,zAt (nat xs) (nat ys)=cc/\0<=cc:=⟨_,rfl,zDs oM⟩;rw[hcc]at hcmp;clear hcc;have hw1:=fun W h=>zPz ao1 n1 cap1 xs W hn1 h2 h
 have hw2:=fun W h=>zPz ao2 n2 cap2 ys W hn2 oM h
 have hu:nat xs<18446744073709551616:=by
  have h3:=zEK hx1.1;have h4:=zGf (show xs.length<=2 by omega);rw[zCE]at h4;have h5:(4294967296:Nat)^2=18446744073709551616:=by decide
  rw[h5]at h4;rw[zCE]at h3;omega
 have hv:nat ys<18446744073709551616:=oM;obtain⟨a,ha⟩:∃a,nat xs=a:=⟨_,rfl⟩;obtain⟨b,hb⟩:∃b,nat ys=b:=⟨_,rfl⟩;rw[ha]at hw1 hu hge ⊢
 rw[hb]at hw2 hv hge hy ⊢
 clear hn1 hn2 ha hb;have hql:=zHi (a/b);have hrl:=zHi (a%b);have hqb:a/b<18446744073709551616:=zK (zDY _ _) hu;have hrb:a%b<b:=yH _ hy;have eq1:(a:Int)/(b:Int)=((a/b:Nat):Int):=by simp
 have eq2:(a:Int)%(b:Int)=((a%b:Nat):Int):=by simp
 have eq3:IntKind.u64.wrap ((a:Int)/(b:Int))=((a/b:Nat):Int):=by rw[eq1,zAm];generalize a/b=t at*;omega
 have EQM:Hid (a=a/b*b+a%b):=by show _=_;rw[zN];exact(zAA a b).symm
 obtain⟨q,hq⟩:∃q,a/b=q:=⟨_,rfl⟩;obtain⟨r,hr⟩:∃r,a%b=r:=⟨_,rfl⟩;rw[hq]at hql hqb eq1 eq3 EQM;rw[hr]at hrl hrb eq2 EQM;clear hq hr;have eq4:(a:Int).tdiv (b:Int)=(q:Int):=by rw[Int.tdiv_eq_ediv_of_nonneg oM];exact eq1
 have eq5:(a:Int).tmod (b:Int)=(r:Int):=by rw[zBh oM];exact eq2
 have eq6:IntKind.u64.wrap (q:Int)=(q:Int):=by rw[zAm];omega
 have eq7:IntKind.u64.wrap (r:Int)=(r:Int):=by rw[zAm];omega
 have hbn:¬ b=0:=oM;have hb0:((b:Int)==0)=false:=by simp;omega
 go_enter Tryz.func191,Tryz.ntmps191;go_wp2_with (first
  |(go_at_call 124;refine(hcmp _ hx1 hx2).mono ?_;rintro e w' ⟨rfl,nd,rfl⟩)
  |(go_at_call_of 205 ao1;refine(hw1 _ (hx1.ext (lx (drN _ _)))).mono ?_;rintro e w' ⟨rfl,rfl⟩)
  |(go_at_call_of 205 ao2;refine(hw2 _ (hx2.ext (lx (drN _ _)))).mono ?_;rintro e w' ⟨rfl,rfl⟩))
 go_region_held3 (fun _=>True) (exact trivial)
  (first
   |(go_at_call_of 113 q;refine(hql _ hqb).mono ?_;rintro e w1 ⟨qo,ql,qc,qs,rfl,p1,p2,p3,p4,p5,p6⟩)
   |(go_at_call_of 113 r;refine(hrl _ oM).mono ?_;rintro e w2 ⟨ro,rl,rc,rs,rfl,s1,s2,s3,s4,s5,s6⟩))
 go_wp2_with fail
 go_ret2;exact⟨qo,ql,qc,qs,ro,rl,rc,rs,rfl,p1,p2,p3,p4.ext (lx s6),s1,s2,s3,s4,by rw[p5,s5];exact EQM.out,by rw[s5];exact hrb,nx (nx (nx (drN _ _) (dr _)) p6) s6⟩
theorem zMb(hge:nat ys<=nat xs)(h2:2<n1)(h1:n2=1):CPq 191 #[.slice ao1 n1 cap1,.slice ao2 n2 cap2] w (zJK w (nat xs) (nat ys)):=by
 have hcmp:=fun W h1 h2=>zDL ao1 ao2 n1 cap1 n2 cap2 xs ys W hn1 hn2 hl1 hl2 hc1 hc2 h1 h2 hN1 hN2
 obtain⟨cc,hcc,hcc0⟩:∃cc:Int,zAt (nat xs) (nat ys)=cc/\0<=cc:=⟨_,rfl,zDs oM⟩;rw[hcc]at hcmp;clear hcc;subst h1;obtain⟨b,off,d,rfl,hbw,hd32,HD,hck⟩:=hx2.limb (k:=0) oM;rw[zAa]at hck;have hyd:nat ys=d:=by
  match ys,hn2,HD.out with
  | [y],_,h=>simp at h;simp[zCV,h]
 have hsh:=fun W h=>zTs ao1 n1 cap1 xs d W hn1 oM h oM hd32
 rw[hyd]at hge hy ⊢
 have HN1:=zI hn1;clear hn1 hn2 hyd;go_enter Tryz.func191,Tryz.ntmps191;go_wp2_with (first
  |(go_at_call 124;refine(hcmp _ hx1 hx2).mono ?_;rintro e w' ⟨rfl,nd,rfl⟩)
  |(go_at_call 206;refine(hsh _ (hx1.ext (lx (drN _ _)))).mono ?_;rintro e w1 ⟨g,qs,r,rfl,p1,p2,p3,p4,p5,p6⟩))
 go_ret2;have hB:BWq w w1:=nx (drN _ _) p6;have hB2:BWq w1 (w1.alloc (.cells #[.int .u32 (r:Nat)] tU)):=(zA _ _).alloc (xgf _) _;exact⟨_,_,_,qs,_,_,_,[r],rfl,p3,xgf _,oM,(p1.at_ p2).ext (lx hB2),rfl,xgf _,oM,yB.one w1 r oM _ rfl,by simp[zCV];exact p5,by simp[zCV];exact p4,nx hB hB2⟩
end
theorem zNs(ao1 ao2:Option Addr)(n1 cap1 n2 cap2:Nat)(xs ys:List Nat)(w:World)(hn1:xs.length=n1)(hn2:ys.length=n2)(hl1:n1<=cap1)(hl2:n2<=cap2)
  (hc1:cap1<=9223372036854775807) (hc2:cap2<=9223372036854775807) (hb1:n1<=2*LIM) (hx1:yB w ao1 xs) (hx2:yB w ao2 ys) (hN1:zBK xs) (hN2:zBK ys)
  (hge:nat ys<=nat xs) (h2:2<n1) (h1:2<=n2):CPq 191 #[.slice ao1 n1 cap1,.slice ao2 n2 cap2] w (zJK w (nat xs) (nat ys)):=by
 have hn12:n2<=n1:=by rw[<-hn1,<-hn2];exact zDS hx1.1 hN2 hge
 have hcmp:=fun W h1 h2=>zDL ao1 ao2 n1 cap1 n2 cap2 xs ys W hn1 hn2 hl1 hl2 hc1 hc2 h1 h2 hN1 hN2
 obtain⟨cc,hcc,hcc0⟩:∃cc:Int,zAt (nat xs) (nat ys)=cc/\0<=cc:=⟨_,rfl,zDs oM⟩;rw[hcc]at hcmp;clear hcc;obtain⟨b,off,d,rfl,hbw,hd32,HD,hck⟩:=hx2.limb (k:=n2-1) oM;have hd0:0<d:=by
  have:=hN2 (n2-1) oM;rw[HD.out]at this;omega
 obtain⟨s,hs32,hs1,hs2,hlead⟩:=zU7 d w hd0 hd32;have hsh1:=fun W h=>zNB ao1 n1 cap1 xs s W hn1 oM h hs32
 have hsh2:=fun W h=>zNB (some ⟨b,off,none⟩) n2 cap2 ys s W hn2 oM h hs32
 have hVB:nat ys*2^s<B32^n2:=by
  obtain⟨m,rfl⟩:∃m,n2=m+1:=⟨n2-1,oM⟩;have e1:=jF ys m;rw[yG ys oM]at e1;have e2:=zEK (hx2.1.take m);rw[qF,zBN oM]at e2;rw[show m+1-1=m by omega]at HD;rw[HD.out]at e1;have e3:nat ys<(d+1)*B32^m:=by rw[e1,zZ,zAs];omega
  have e4:nat ys*2^s<(d+1)*B32^m*2^s:=(zCU (qR oM)).2 e3;have e5:(d+1)*B32^m*2^s=(d+1)*2^s*B32^m:=by rw[zC,zN (B32^m),<-zC]
  have e6:(d+1)*2^s<=B32:=by
   obtain⟨t,ht⟩:∃t,2^s*t=4294967296:=⟨2^(32-s),by rw[<-yD,show s+(32-s)=32 by omega]⟩;rw[<-ht,zN d]at hs2;have:=Nat.lt_of_mul_lt_mul_left hs2;rw[zCE,<-ht,zN];exact zH _ this
  have e7:=zM (B32^m) e6;rw[e5]at e4;rw[qI,zN (B32^m)];exact zJ e4 e7
 have hXB:nat xs*2^s<B32^n1*2^s:=(zCU (qR oM)).2 (by have:=zEK hx1.1;rwa[hn1]at this);have HVB:=zI hVB;have HXB:=zI hXB;have HN1:=zI hn1;have HN2:=zI hn2;have HGE:=zI hge;have HS1:=zI hs1;have HS2:=zI hs2;clear hn1 hn2 hVB hXB hs1 hs2 hge;have f1:(n2:Int)<=(n2:Int)+1:=oM;have f2:(0:Int)<=(n2:Int):=oM;rw[zC0]at hb1;go_enter Tryz.func191,Tryz.ntmps191;go_wp2_with (first
  |(go_at_call 124;refine(hcmp _ hx1 hx2).mono ?_;rintro e w' ⟨rfl,nd,rfl⟩)
  |(go_at_call 207;refine(hlead _).mono ?_;rintro e w' ⟨rfl,rfl⟩))
 refine zD ?_;intro W1 hW1;have hB1:BWq w W1:=by rw[hW1.out];exact drN _ _
 have lx1:=lx (nx hB1 (dr W1));go_region_held3 (fun _=>True) (exact trivial)
  (first
   |(go_at_call_of 208 ao1;refine(hsh1 _ (hx1.ext lx1)).mono ?_;rintro e w1 ⟨gu,us,rfl,p2,p3,p4,p5,p7,p6⟩)
   |(go_at_call_of 208 off;refine(hsh2 _ ((hx2.ext lx1).ext (lx p6))).mono ?_;rintro e w2 ⟨gv,vz,rfl,s2,s3,s1,s4,s5,s6⟩))
 have hmk:=fun W=>mkU ((n1:Int)-n2+1) (n1-n2+1) oM oM W
 go_upto_block 1 with(fail)
 clear hmk;refine zD ?_;intro W3 hW3;have hvt:nat (vz.take n2)=nat ys*2^s:=by
  have e1:=zDA vz n2 (by rw[s4];omega);rcases qN (nat (vz.drop n2))with h0|h0
  rw[h0,zCJ,zAa,s5]at e1;exact e1.symm;exfalso;have h1:=zO (B32^n2) h0;have h2:=HVB.out;rw[<-s5]at h2;omega
 have hgu:W1.heap.size<=gu:=p2;have hguv:gu<w1.heap.size:=p3.lt;have hgv:w1.heap.size<=gv:=s2;have hgvq:gv<w2.heap.size:=s3.lt;have hB2:BWq w w2:=nx (nx (nx hB1 (dr W1)) p6) s6;have hB3:BWq w W3:=by rw[hW3.out];exact hB2.alloc hB2.size _
 have hU3:zCz W3 gu us:=by rw[hW3.out];exact(p3.ext (lx s6)).alloc _
 have hV3:zCz W3 gv vz:=by rw[hW3.out];exact s3.alloc _
 have hQ3:zCz W3 w2.heap.size (List.replicate (n1-n2+1) 0):=by rw[hW3.out];exact zCz.made _ _
 have hwu:w.heap.size<=gu:=by have:=hB1.size;omega
 have hst0:zJF (nat xs*2^s) (nat ys*2^s) n2 (n1-n2+1) us (List.replicate (n1-n2+1) 0):=by
  refine⟨p4,fun x hx=>by rw[List.eq_of_mem_replicate hx];exact zCk,?_,?_⟩;rw[qP sI,p7,nat_nil,zBO,zBO,zAR];refine zWx oM ?_;rw[p7];refine zJ HXB.out ?_;have h1:=zMt hN2 (n:=n2-1) (by rw[HN2.out];omega);have h2:B32^n1=B32^(n1-n2+1)*B32^(n2-1):=by rw[<-yD];congr 1;omega
  rw[h2,zC];exact zH _ (zM _ h1)
 have hvl:(vz.take n2).length=n2:=by rw[qF,s4];omega
 have hhigh:2147483648<=(vz.take n2).getD (n2-1) 0:=by
  refine zVq (s1.take n2) (by rw[hvl];omega) ?_;rw[hvt];have h1:=zXT (ys:=ys) (m:=n2-1) (by rw[HN2.out];omega) HD.out;have h2:=zM (2^s) h1;refine zB ?_ h2;rw[zC,zN (B32^(n2-1)),<-zC];exact zM _ HS1.out
 have hdig:=fun W j cap ul hU hul hv hlen hQ=>zR8 gu j cap gv 0 n2 n2 ul (vz.take n2) W hU hul hv oM hvl h1 hlen (by rw[zC0];omega) hhigh hQ
 have HDIG:=zI hdig;have HVT:=zI hvt;have HST0:=zI hst0;have HVL:=zI hvl;clear hdig hvt hst0 hvl hhigh hW3 hsh1 hsh2 hcmp hlead s5 p7;obtain⟨W4,rfl⟩:∃W:World,W=W3:=⟨_,rfl⟩;obtain⟨gq,hgq⟩:∃g,w2.heap.size=g:=⟨_,rfl⟩;rw[hgq]at hgvq hQ3 ⊢
 have hgq':gq<=w2.heap.size:=oM;clear hgq;go_wp2;go_loopw [15] (fun iv wr=>∃(k:Nat) (ul qs:List Nat),k<=n1-n2+1/\iv=niq ((k:Int)-1)/\zCz wr gu ul/\zCz wr gq qs/\zCz wr gv vz/\BWq w wr/\ul.length=n1+1/\qs.length=n1-n2+1∧
   Hid (zJF (nat xs*2^s) (nat ys*2^s) n2 k ul qs)) (fun iv _=>(intOf iv+1).toNat)
 case atStart=>exact⟨n1-n2+1,us,_,xgf _,by go_num,hU3,hQ3,hV3,hB3,p5,by simp,HST0.out⟩
 obtain⟨k,ul,qs,hk,rfl,hU,hQ,hV,hB,hul,hql,HDS⟩:=hrel;have HUL:=zI hul;have HQL:=zI hql;have hul':n1+1<=ul.length:=oM;have hql':n1-n2+1<=qs.length:=oM;clear hul hql;cases k with
 | zero=>
  have hmk2:=fun W=>mkU (n2:Int) n2 rfl oM W
  go_upto_block 3 with(fail)
  clear hmk2;refine zD ?_;intro W5 hW5;obtain⟨gr,hgr⟩:∃g,wr.heap.size=g:=⟨_,rfl⟩;have hU5:zCz W5 gu ul:=by rw[hW5.out];exact hU.alloc _
  have hQ5:zCz W5 gq qs:=by rw[hW5.out];exact hQ.alloc _
  have hR5:zCz W5 gr (List.replicate n2 0):=by rw[hW5.out,<-hgr];exact zCz.made _ _
  have hB5:BWq w W5:=by rw[hW5.out];exact hB.alloc hB.size _
  have hgru:gu<gr:=by rw[<-hgr];exact hU.lt
  have hgrq:gq<gr:=by rw[<-hgr];exact hQ.lt
  rw[hgr];have hmod:Hid (ul.getD 0 0%2^s=0):=by
   show _=_;rw[<-zXM hs32 oM];have h1:=HDS.out.eq;rw[xgk,zEW,zAr,<-zC]at h1;have h2:(nat xs*2^s)%2^s=0:=Nat.mul_mod_left _ _;rw[h1,zN (nat qs*nat ys),Nat.mul_add_mod]at h2;exact h2
  have hlt0:Hid (nat ul<nat ys*2^s):=by have:=HDS.out.lt;rwa[xgk]at this
  have hzero:Hid (ul.getD n2 0=0/\nat (ul.take n2)=nat ul):=by
   have h0:=HDS.out.zero HVB.out oM;rw[zAR]at h0;have h1:=zDA ul n2 oM;have h2:=zCt ul n2 oM;rw[h0]at h1 h2;exact⟨oM,by rw[h1,zCJ,zAa]⟩
  clear hW5 hgr;obtain⟨W6,rfl⟩:∃W:World,W=W5:=⟨_,rfl⟩;go_wp2;go_loopw [103] (fun iv wr=>∃(k:Nat) (rs:List Nat),k<=n2/\iv=niq k/\zCz wr gu ul/\zCz wr gq qs/\zCz wr gr rs/\BWq w wr/\n2<=rs.length∧
    Hid (rs.length=n2/\zA6 rs/\nat (rs.take k)*2^s=nat (ul.take k)+(ul.getD k 0%2^s)*B32^k)) (fun iv _=>n2-(intOf iv).toNat)
  case atStart=>exact⟨0,_,oM,rfl,hU5,hQ5,hR5,hB5,by simp,⟨by simp,fun x hx=>by rw[List.eq_of_mem_replicate hx];exact zCk,by rw[hmod.out,jI,jI,nat_nil,zBO,zBO]⟩⟩
  obtain⟨k,rs,hk,rfl,hU7,hQ7,hR7,hB7,hrl,HH⟩:=hrel;by_cases hkn:k<n2
  ·obtain⟨xa,hxa⟩:∃a,ul.getD (k+1) 0=a:=⟨_,rfl⟩
   obtain⟨xb,hxb⟩:∃a,ul.getD k 0=a:=⟨_,rfl⟩;have ha32:xa<4294967296:=by rw[<-hxa];exact HDS.out.lim.get _
   have hb32:xb<4294967296:=by rw[<-hxb];exact HDS.out.lim.get _
   have c1:=hU7.cell (k:=k+1) oM;have c2:=hU7.cell (k:=k) oM;have c3:=hR7.cell (k:=k) oM;have c4:=hR7.frozen k;rw[hxa]at c1;rw[hxb]at c2;have HXA:=zI hxa;have HXB:=zI hxb;obtain⟨m,hm⟩:∃m,xa*4294967296+xb=m:=⟨_,rfl⟩;have eo:=zPW xa xb ha32 hb32;rw[hm]at eo;have HM:=zI hm;clear hm;have ew1:IntKind.u64.wrap (xa:Int)=(xa:Int):=by rw[zAm];omega
   have ew2:IntKind.u64.wrap (xb:Int)=(xb:Int):=by rw[zAm];omega
   have ew3:IntKind.u64.wrap ((xa:Int)*4294967296)=(xa:Int)*4294967296:=by rw[zAm];omega
   have i1:IntKind.i64.wrap ((k:Int)+1)=(k:Int)+1:=qU _ oM;have i2:((k:Int)+1).toNat=k+1:=oM;have i3:(0:Int)<=(k:Int)+1:=oM;have i4:(0:Int)<=(k:Int):=oM;have i5:(k:Int)<(n2:Int):=oM;have i6:(k:Int)+1<(n1:Int)+1:=oM;have i7:(k:Int)<(n1:Int)+1:=oM;clear hxa hxb;go_wp2;go_region_held3 (fun w'=>w'.cell? ⟨gu,k+1,none⟩=some (.int .u32 (xa:Nat))/\w'.cell? ⟨gu,k,none⟩=some (.int .u32 (xb:Nat)))
    ((((try go_split_ands);(repeat' apply And.intro))<;>first|exact zBn (by assumption)|exact zC9 (by assumption) oM)) (fail)
   go_wp2;go_roundw
   case rel=>
    have hv:((m/2^s%4294967296:Nat):Int)=IntKind.u32.wrap ((m:Int)/2^s):=by rw[zA8];simp
    have hst:=zNR (ul:=ul) (rs:=rs) (k:=k) (s:=s) (v:=m/2^s%4294967296) hs32 ha32 hb32 HXA.out HXB.out oM (by rw[HM.out]) HH.out.2.2
    (repeat apply Exists.intro)
    exact⟨⟨k+1,rs.set k (m/2^s%4294967296),oM,by go_num,(yF _ _ _ _ (by simp;omega)).trans hU7,(yF _ _ _ _ (by simp;omega)).trans hQ7,hR7.set' _ _ _ (by first|exact hv.symm|(rw[hv];done)|(rw[hv];simp)),(hB7.setCell (p:=⟨gr,k,none⟩) (by show _<=gr;omega) _).drew,by simpa using hrl,
     ⟨by simpa using HH.out.1,HH.out.2.1.set _ _ (yH _ dE),hst⟩⟩,rfl⟩
   case measure=>exact meq
  obtain rfl:n2=k:=oM;go_wp2;go_ret2;have h1:=HH.out.2.2;rw[hzero.out.1,Nat.zero_mod,zBO,zAa,hzero.out.2,yG rs (by rw[HH.out.1];exact xgf _)]at h1;have h2:=HDS.out.eq;rw[xgk,zEW,zAr,<-h1,<-zC,<-zZ]at h2;have h3:=hlt0.out;rw[<-h1]at h3;have hp:0<2^s:=qR oM;exact⟨_,_,_,qs,_,_,_,rs,rfl,HQL.out,xgf _,oM,hQ7.at_ HDS.out.qlim,HH.out.1,xgf _,oM,hR7.at_ HH.out.2.1,Nat.eq_of_mul_eq_mul_right hp h2,Nat.lt_of_mul_lt_mul_right h3,hB7⟩
 | succ k=>
  have hfr:=hQ.frozen k;have hcz:=hQ.cell (k:=k) oM;go_wp2_with fail
  rw[show k+n2+1-k=n2+1 by omega];refine(HDIG.out _ _ _ ul hU HDS.out.lim ((hV.at_ s1).take n2) oM ?_).mono ?_
  ·rw[HDS.out.seg_eq HVB.out oM,HVT.out]
   exact HDS.out.small oM
  rintro e w4 ⟨q,rs,rfl,t1,t2,t3,t4,t5,t6,t7⟩;have hQ4:zCz w4 gq qs:=(t7.block gq hQ.lt (by simp;omega)).trans hQ;have hV4:zCz w4 gv vz:=(t7.block gv hV.lt (by simp;omega)).trans hV;have hfr4:=hQ4.frozen k;have hcz4:=hQ4.cell (k:=k) oM;have hB4:BWq w w4:=hB.grown t7 hB.size (fun k hk=>by injection hk with hk;omega);rw[HVT.out]at t4 t5;have hds:=HDS.out.step HVB.out oM oM t1 t2 t3 t4 t5;have HDS':=zI hds;clear hcz hfr t4 t5 hds;go_wp2;go_roundw
  case rel=>
   refine⟨k,put ul k rs,qs.set k q,oM,by go_num,?_,?_,?_,?_,?_,?_,HDS'.out⟩;exact(yF _ _ _ _ (by simp;omega)).trans t6;exact hQ4.set' _ _ _ rfl;exact(yF _ _ _ _ (by simp;omega)).trans hV4;exact hB4.setCell (by simp;omega) _;rw[zFE (by rw[t2];omega)];exact HUL.out;simp[HQL.out]
  case measure=>simp[intOf]
theorem zKV(ao1 ao2:Option Addr)(n1 cap1 n2 cap2:Nat)(xs ys:List Nat)(w:World)(hn1:xs.length=n1)(hn2:ys.length=n2)(hl1:n1<=cap1)(hl2:n2<=cap2)
  (hc1:cap1<=9223372036854775807) (hc2:cap2<=9223372036854775807) (hb1:n1<=2*LIM) (hb2:n2<=2*LIM) (hx1:yB w ao1 xs) (hx2:yB w ao2 ys) (hN1:zBK xs) (hN2:zBK ys) (hy:0<nat ys):
  CPq 191 #[.slice ao1 n1 cap1,.slice ao2 n2 cap2] w (zJK w (nat xs) (nat ys)):=by
 rcases zG (nat xs) (nat ys)with h|h
 exact zNr ao1 ao2 n1 cap1 n2 cap2 xs ys w hn1 hn2 hl1 hl2 hc1 hc2 hb1 hb2 hx1 hx2 hN1 hN2 hy h;by_cases h2:n1<=2
 ·exact zQG ao1 ao2 n1 cap1 n2 cap2 xs ys w hn1 hn2 hl1 hl2 hc1 hc2 hb1 hb2 hx1 hx2 hN1 hN2 hy h h2
 by_cases h1:n2=1
 ·exact zMb ao1 ao2 n1 cap1 n2 cap2 xs ys w hn1 hn2 hl1 hl2 hc1 hc2 hb1 hb2 hx1 hx2 hN1 hN2 hy h oM h1
 have h0:n2≠0:=by
  rintro rfl;have:ys= []:=qE hn2;subst this;simp at hy
 exact zNs ao1 ao2 n1 cap1 n2 cap2 xs ys w hn1 hn2 hl1 hl2 hc1 hc2 hb1 hx1 hx2 hN1 hN2 h oM oM
def zZL(w:World)(z1 z2:Int)(e:Ending)(w':World):Prop:=
 ∃v1 v2,e= .returned (.tuple #[v1,v2,niq 0])/\jY w' v1 (z1/z2)/\jY w' v2 (z1%z2)/\BWq w w'
def dmQ(neg:Bool)(a b:Nat):Nat:=if neg=true/\0<a%b then a/b+1 else a/b
def dmR(neg:Bool)(a b:Nat):Nat:=if neg=true/\0<a%b then b-a%b else a%b
theorem zWw(n1 n2:Bool)(a b:Nat)(hb:0<b):sgn n1 a/sgn n2 b=sgn (n1 !=n2) (dmQ n1 a b)/\sgn n1 a%sgn n2 b=(dmR n1 a b:Nat):=by
 have hm:=yH a hb;have he:=zAA a b;have key:∀(z:Int) (q r:Int),z=q*b+r->0<=r->r<b->z/(b:Int)=q/\z%(b:Int)=r:=fun z q r h1 h2 h3=>
  (Int.ediv_emod_unique oM).2 ⟨by rw[h1,qH];omega,h2,h3⟩
 have hpos:sgn n1 a/(b:Int)=sgn n1 (dmQ n1 a b)/\sgn n1 a%(b:Int)=(dmR n1 a b:Nat):=by
  cases n1 with
  |false=>
   have e1:dmQ false a b=a/b:=by unfold dmQ;rw[if_neg sI]
   have e2:dmR false a b=a%b:=by unfold dmR;rw[if_neg sI]
   rw[e1,e2];simp
  | true=>
   by_cases h0:0<a%b
   ·have e1:dmQ true a b=a/b+1:=by unfold dmQ;rw[if_pos ⟨rfl,h0⟩]
    have e2:dmR true a b=b-a%b:=by unfold dmR;rw[if_pos ⟨rfl,h0⟩]
    rw[e1,e2];refine key _ _ _ ?_ oM oM;simp only[sgn_true];rw[yA,zAN,zA2,zN]at*;have:((a/b*b:Nat):Int)+((a%b:Nat):Int)=(a:Int):=by exact_mod_cast he
    rw[yS]at this;omega
   have e1:dmQ true a b=a/b:=by unfold dmQ;rw[if_neg (by simp;omega)]
   have e2:dmR true a b=a%b:=by unfold dmR;rw[if_neg (by simp;omega)]
   rw[e1,e2];refine key _ _ _ ?_ oM oM;simp only[sgn_true];rw[yA,zN]at*;have:((a/b*b:Nat):Int)+((a%b:Nat):Int)=(a:Int):=by exact_mod_cast he
   rw[yS]at this;omega
 cases n2 with
 |false=>simp only[sgn_false,Bool.bne_false];exact hpos
 |true=>
  simp only[sgn_true,Int.ediv_neg,Int.emod_neg,Bool.bne_true];rw[hpos.1,hpos.2,zL0];exact⟨rfl,rfl⟩
theorem zJ3(hn:xs.length=n)(hl:zA6 xs):zBH xs n=0↔nat xs=0:=by
 subst hn;have h1:=zDx xs;have h2:=zKL xs;have h3:=zE2 xs;rw[<-h2,<-h1];constructor;intro h;rw[qE h];rfl;intro h;rw[(zHM h3).1 h];rfl
theorem zJK.mod{w':World}{e:Ending}(h:zJK w a b e w'):
 ∃qo ql qc qs ro rl rc rs,e= .returned (.tuple #[.slice qo ql qc,.slice ro rl rc])/\qs.length=ql/\ql<=qc/\qc<=9223372036854775807/\yB w' qo qs∧
  rs.length=rl/\rl<=rc/\rc<=9223372036854775807/\yB w' ro rs/\Hid (nat qs=a/b/\nat rs=a%b)/\BWq w w':=by
 obtain⟨qo,ql,qc,qs,ro,rl,rc,rs,he,h1,h2,h3,h4,h5,h6,h7,h8,h9,h10,h11⟩:=h;have hb:0<b:=oM;have h12:a/b=nat qs:=by rw[h9,zN,Nat.mul_add_div hb,Nat.div_eq_of_lt h10];rfl
 have h13:a%b=nat rs:=by rw[h9,zN,Nat.mul_add_mod,Nat.mod_eq_of_lt h10]
 exact⟨qo,ql,qc,qs,ro,rl,rc,rs,he,h1,h2,h3,h4,h5,h6,h7,h8,⟨h12.symm,h13.symm⟩,h11⟩
theorem zEe{r:Nat}{v:Array Value}(hb:Blk W r 43 v)(h2:v.size=2):(loadVar 43 ⟨r,0,none⟩).run Tryz.prog W= .ok (.agg v) W:=
 run_loadVar_row W r _ _ v _ _ hb zC3 rfl (by rw[zFP,h2])
theorem zHR{fn:Func}{p1 p2 u:Tmp}(h:fn.results=#[.cell p1 43,.cell p2 43,.tmp u])(tmps:Array Value){W:World}{r1 r2:Nat}{v1 v2:Array Value}
  (hp1:tmps.getD p1 undef=ptq r1 0) (hp2:tmps.getD p2 undef=ptq r2 0) (hb1:Blk W r1 43 v1) (hb2:Blk W r2 43 v2) (h1:v1.size=2) (h2:v2.size=2):
  (results fn tmps).run Tryz.prog W= .ok (.tuple #[.agg v1,.agg v2,tmps.getD u undef]) W:=by
 have hp1':tmps[p1]?.getD undef=ptq r1 0:=by simpa using hp1
 have hp2':tmps[p2]?.getD undef=ptq r2 0:=by simpa using hp2
 simp[results,h,hp1',hp2',asAddr,zEe hb1 h1,zEe hb2 h2]
theorem zEd{fn:Func}{p1 p2 p3:Tmp}(h:fn.results=#[.cell p1 43,.cell p2 43,.cell p3 43])(tmps:Array Value){W:World}{r1 r2 r3:Nat}{v1 v2 v3:Array Value}
  (hp1:tmps.getD p1 undef=ptq r1 0) (hp2:tmps.getD p2 undef=ptq r2 0) (hp3:tmps.getD p3 undef=ptq r3 0)
  (hb1:Blk W r1 43 v1) (hb2:Blk W r2 43 v2) (hb3:Blk W r3 43 v3) (h1:v1.size=2) (h2:v2.size=2) (h3:v3.size=2):
  (results fn tmps).run Tryz.prog W= .ok (.tuple #[.agg v1,.agg v2,.agg v3]) W:=by
 have hp1':tmps[p1]?.getD undef=ptq r1 0:=by simpa using hp1
 have hp2':tmps[p2]?.getD undef=ptq r2 0:=by simpa using hp2
 have hp3':tmps[p3]?.getD undef=ptq r3 0:=by simpa using hp3
 simp[results,h,hp1',hp2',hp3',asAddr,zEe hb1 h1,zEe hb2 h2,zEe hb3 h3]
theorem zDt(v1 v2:Value)(z1 z2:Int)(w:World)(h1:zIp w v1 z1)(h2:zIp w v2 z2)(s1:Sm z1)(s2:Sm z2)(hz:z2≠0):CPq 162 #[v1,v2] w (zZL w z1 z2):=by
 obtain⟨neg1,ao1,n1,cap1,xs,rfl,hn1,hl1,hc1,hx1,hN1,hz1,hq1⟩:=h1.len s1;obtain⟨neg2,ao2,n2,cap2,ys,rfl,hn2,hl2,hc2,hx2,hN2,hz2,hq2⟩:=h2.len s2;have hcall1:=fun W hw=>zCy ao1 n1 cap1 xs W hn1 hl1 hc1 hw
 rw[<-hn1,zA5 hN1,hn1]at hcall1;have hcall2:=fun W hw=>zCy ao2 n2 cap2 ys W hn2 hl2 hc2 hw
 rw[<-hn2,zA5 hN2,hn2]at hcall2;have HY:Hid (0<nat ys):=by
  show _<_;rcases qN (nat ys)with h|h
  exact absurd (by rw[hz2,h,zI8]) hz;exact h
 have hn20:0<n2:=by
  rcases qN n2 with h|h
  ·rw[h]at hn2
   have:=qE hn2;subst this;exact absurd HY.out sI
  exact h
 have HSP:Hid (z1/z2=sgn (neg1 !=neg2) (dmQ neg1 (nat xs) (nat ys))/\z1%z2=(dmR neg1 (nat xs) (nat ys):Nat)):=by
  rw[hz1,hz2];exact zWw neg1 neg2 _ _ HY.out
 have HN1:=zI hn1;have HN2:=zI hn2;have hn20':((n2:Int)==0)=false:=by simp;omega
 have hq1':n1<=2*LIM:=oM;have hq2':n2<=2*LIM:=oM;clear hn1 hn2 hz1 hz2 s1 s2 h1 h2 hz;rw[zC0]at hq1 hq2;replace hq1:=hq1';replace hq2:=hq2';cases neg1 with
 | false=>
  have hsg:(false !=neg2)=neg2:=by cases neg2<;>rfl
  rw[hsg]at HSP;clear hsg;go_enter Tryz.func162,Tryz.ntmps162;go_upto_region 1 with(fail)
  refine zD ?_;intro W0 hW0;obtain⟨hB0,bx1,bx2,br1,br2,hs0⟩:=zNW hW0;have hx1':=hx1.ext (lx hB0);have hx2':=hx2.ext (lx hB0);have c1:=bx1.two;have d1:=bx2.two;go_quiet ((first|(go_at_call_of 120 ao1;exact yN ((hcall1 _ (hx1'.ext (lx (drN _ _)))).mono (by rintro e w' ⟨rfl,rfl⟩;exact⟨rfl,rfl⟩)))|(go_at_call_of 120 ao2;exact yN ((hcall2 _ (hx2'.ext (lx (drN _ _)))).mono (by rintro e w' ⟨rfl,rfl⟩;exact⟨rfl,rfl⟩)))));go_upto_region 4 with(fail)
  refine zD ?_;intro W1 hW1;have hB1:BWq w W1:=by rw[hW1.out];exact nx hB0 (drN _ _)
  have bx1':=zAk hW1 bx1;have bx2':=zAk hW1 bx2;have br1':=zAk hW1 br1;have br2':=zAk hW1 br2;clear c1 d1 hW1 bx1 bx2 br1 br2;go_wp2_with fail
  refine(zKV ao1 ao2 n1 n1 n2 n2 xs ys _ HN1.out HN2.out (xgf _) (xgf _) oM oM hq1 hq2 (hx1.ext (lx hB1)) (hx2.ext (lx hB1)) hN1 hN2 HY.out).mono ?_;intro e w2 hret;obtain⟨qo,ql,qc,qs,ro,rl,rc,rs,rfl,p1,p2,p3,p4,p5,p6,p7,p8,HM,hb2⟩:=hret.mod;have bx1:=bx1'.below hb2;have bx2:=bx2'.below hb2;have br1:=br1'.below hb2;have br2:=br2'.below hb2;have hB2:=nx hB1 hb2;have c1:=bx1.two;have d1:=bx2.two;have htl:=zEh rs rl;obtain⟨t,HT⟩:∃t,zBH rs rl=t:=⟨_,rfl⟩;rw[HT]at htl;have htr:=fun W hw=>zCy ro rl rc rs W p5 p6 p7 hw
  rw[HT]at htr;have htz:Hid ((t=0↔nat rs=0)/\nat (rs.take t)=nat rs/\(rs.take t).length=t/\zBK (rs.take t)):=by
   refine⟨by rw[<-HT];exact zJ3 p5 p8.1,?_,?_,by rw[<-HT];exact zDn rs rl oM⟩
   ·have h1:=zDx rs
    unfold zEi at h1;rw[p5,HT]at h1;exact h1
   rw[qF];omega
  clear HT hret bx1' bx2' br1' br2';go_wp2_with fail
  refine(htr _ p8).mono ?_;rintro e w' ⟨rfl,rfl⟩;go_wp2_with fail
  have hQ:nat qs=dmQ false (nat xs) (nat ys):=by rw[HM.out.1];unfold dmQ;rw[if_neg sI]
  have hR:sgn false (nat (rs.take t))=(dmR false (nat xs) (nat ys):Nat):=by rw[htz.out.2.1,HM.out.2];unfold dmR;rw[if_neg sI];rfl
  refine(zB4 neg2 qo ql qc qs _ p1 p2 p3 p4).mono ?_;rintro e w5 ⟨v1,rfl,hv1,hb5⟩;go_wp2_with fail
  refine(zB4 false ro t t (rs.take t) _ htz.out.2.2.1 (xgf _) oM ((p8.take t).ext (lx hb5))).mono ?_;rintro e w6 ⟨v2,rfl,hv2,hb6⟩;have br1a:=(br1.below hb5).below hb6;have br2a:=(br2.below hb5).below hb6;have e1:=br1a.two;have g1:=br2a.two;have hv1':=hv1.ext (lx hb6);rw[hQ]at hv1';rw[hR]at hv2;clear hv1;obtain⟨qn,qa,ql',qc',qx,rfl,hq⟩:=hv1';obtain⟨rn,ra,rl',rc',rx,rfl,hr⟩:=hv2;go_wp2_with fail
  refine bodyPost_ret (zHR rfl _ rfl rfl (((br1a.put2 _ _).far oM _ _).far oM _ _) (((br2a.far oM _ _).far oM _ _).put2 _ _) rfl rfl) rfl ?_;have hlx:=(br1a.lext2 dE (.bool qn) (.slice qa ql' qc')).trans (((br2a.far oM 0 (.bool qn)).far oM 1 (.slice qa ql' qc')).lext2 dE (.bool rn) (.slice ra rl' rc'));refine⟨_,_,rfl,?_,?_,yJ (yJ (yJ (yJ (nx (nx hB2 hb5) hb6) oM 0 _) oM 1 _) oM 0 _) oM 1 _⟩
  ·rw[HSP.out.1]
   exact jY.ext ⟨qn,qa,ql',qc',qx,rfl,hq⟩ hlx
  rw[HSP.out.2];exact jY.ext ⟨rn,ra,rl',rc',rx,rfl,hr⟩ hlx
 | true=>
  have hsg:(true !=neg2)=(!neg2):=by cases neg2<;>rfl
  rw[hsg]at HSP;clear hsg;go_enter Tryz.func162,Tryz.ntmps162;go_upto_region 1 with(fail)
  refine zD ?_;intro W0 hW0;obtain⟨hB0,bx1,bx2,br1,br2,hs0⟩:=zNW hW0;have hx1':=hx1.ext (lx hB0);have hx2':=hx2.ext (lx hB0);have c1:=bx1.two;have d1:=bx2.two;go_quiet ((first|(go_at_call_of 120 ao1;exact yN ((hcall1 _ (hx1'.ext (lx (drN _ _)))).mono (by rintro e w' ⟨rfl,rfl⟩;exact⟨rfl,rfl⟩)))|(go_at_call_of 120 ao2;exact yN ((hcall2 _ (hx2'.ext (lx (drN _ _)))).mono (by rintro e w' ⟨rfl,rfl⟩;exact⟨rfl,rfl⟩)))));go_upto_region 4 with(fail)
  refine zD ?_;intro W1 hW1;have hB1:BWq w W1:=by rw[hW1.out];exact nx hB0 (drN _ _)
  have bx1':=zAk hW1 bx1;have bx2':=zAk hW1 bx2;have br1':=zAk hW1 br1;have br2':=zAk hW1 br2;clear c1 d1 hW1 bx1 bx2 br1 br2;go_wp2_with fail
  refine(zKV ao1 ao2 n1 n1 n2 n2 xs ys _ HN1.out HN2.out (xgf _) (xgf _) oM oM hq1 hq2 (hx1.ext (lx hB1)) (hx2.ext (lx hB1)) hN1 hN2 HY.out).mono ?_;intro e w2 hret;obtain⟨qo,ql,qc,qs,ro,rl,rc,rs,rfl,p1,p2,p3,p4,p5,p6,p7,p8,HM,hb2⟩:=hret.mod;have bx1:=bx1'.below hb2;have bx2:=bx2'.below hb2;have br1:=br1'.below hb2;have br2:=br2'.below hb2;have hB2:=nx hB1 hb2;have c1:=bx1.two;have d1:=bx2.two;have htl:=zEh rs rl;obtain⟨t,HT⟩:∃t,zBH rs rl=t:=⟨_,rfl⟩;rw[HT]at htl;have htr:=fun W hw=>zCy ro rl rc rs W p5 p6 p7 hw
  rw[HT]at htr;have htz:Hid ((t=0↔nat rs=0)/\nat (rs.take t)=nat rs/\(rs.take t).length=t/\zBK (rs.take t)):=by
   refine⟨by rw[<-HT];exact zJ3 p5 p8.1,?_,?_,by rw[<-HT];exact zDn rs rl oM⟩
   ·have h1:=zDx rs
    unfold zEi at h1;rw[p5,HT]at h1;exact h1
   rw[qF];omega
  clear HT hret bx1' bx2' br1' br2';go_wp2_with fail
  refine(htr _ p8).mono ?_;rintro e w' ⟨rfl,rfl⟩;by_cases ht0:t=0
  ·have hz0:Hid (nat rs=0):=htz.out.1.1 ht0
   have hv0:Hid (nat (rs.take t)=nat rs/\(rs.take t).length=t):=⟨htz.out.2.1,htz.out.2.2.1⟩;clear htz;subst ht0;go_wp2_with fail
   have hQ:nat qs=dmQ true (nat xs) (nat ys):=by rw[HM.out.1];unfold dmQ;rw[if_neg (by rw[<-HM.out.2,hz0.out];simp)]
   have hR:sgn false (nat (rs.take 0))=(dmR true (nat xs) (nat ys):Nat):=by rw[hv0.out.1,HM.out.2];unfold dmR;rw[if_neg (by rw[<-HM.out.2,hz0.out];simp)];rfl
   refine(zB4 (!neg2) qo ql qc qs _ p1 p2 p3 p4).mono ?_;rintro e w5 ⟨v1,rfl,hv1,hb5⟩;go_wp2_with fail
   refine(zB4 false ro 0 0 (rs.take 0) _ hv0.out.2 (xgf _) oM ((p8.take 0).ext (lx hb5))).mono ?_;rintro e w6 ⟨v2,rfl,hv2,hb6⟩;have br1a:=(br1.below hb5).below hb6;have br2a:=(br2.below hb5).below hb6;have e1:=br1a.two;have g1:=br2a.two;have hv1':=hv1.ext (lx hb6);rw[hQ]at hv1';rw[hR]at hv2;clear hv1;obtain⟨qn,qa,ql',qc',qx,rfl,hq⟩:=hv1';obtain⟨rn,ra,rl',rc',rx,rfl,hr⟩:=hv2;go_wp2_with fail
   refine bodyPost_ret (zHR rfl _ rfl rfl (((br1a.put2 _ _).far oM _ _).far oM _ _) (((br2a.far oM _ _).far oM _ _).put2 _ _) rfl rfl) rfl ?_;have hlx:=(br1a.lext2 dE (.bool qn) (.slice qa ql' qc')).trans (((br2a.far oM 0 (.bool qn)).far oM 1 (.slice qa ql' qc')).lext2 dE (.bool rn) (.slice ra rl' rc'));refine⟨_,_,rfl,?_,?_,yJ (yJ (yJ (yJ (nx (nx hB2 hb5) hb6) oM 0 _) oM 1 _) oM 0 _) oM 1 _⟩
   ·rw[HSP.out.1]
    exact jY.ext ⟨qn,qa,ql',qc',qx,rfl,hq⟩ hlx
   rw[HSP.out.2];exact jY.ext ⟨rn,ra,rl',rc',rx,rfl,hr⟩ hlx
  have ht1:(0:Int)<(t:Int):=oM;have hrpos:Hid (0<nat rs):=Nat.pos_of_ne_zero (fun h=>ht0 (htz.out.1.2 h));have htq:=fun W hw=>zCy qo ql qc qs W p1 p2 p3 hw
  have htql:=zEh qs ql;obtain⟨u,HU⟩:∃u,zBH qs ql=u:=⟨_,rfl⟩;rw[HU]at htq htql;have huz:Hid (nat (qs.take u)=nat qs/\(qs.take u).length=u):=by
   refine⟨?_,by rw[qF];omega⟩;have h1:=zDx qs;unfold zEi at h1;rw[p1,HU]at h1;exact h1
  have hub:u<=4*LIM:=by
   have h1:zBK (qs.take u):=by rw[<-HU];exact zDn qs ql oM
   have h2:=zDS hx1.1 h1 (by rw[huz.out.1,HM.out.1];exact zDY _ _);rw[huz.out.2,HN1.out]at h2;omega
  clear HU;go_wp2_with fail
  refine(htq _ p4).mono ?_;rintro e w' ⟨rfl,rfl⟩;go_wp2_with fail
  have hBa:BWq w2 (w2.alloc (.cells #[.int .u32 1] tU)):=(zA _ _).alloc (xgf _) _;refine(zPb qo (some ⟨w2.heap.size,0,none⟩) u u 1 1 (qs.take u) [1] _ huz.out.2 rfl (xgf _) (xgf _) oM oM hub (by rw[zC0];omega) ((p4.take u).ext (lx hBa)) (yB.one w2 1 oM 1 rfl)).mono ?_;rintro e w3 ⟨ko,kl,kc,ks,rfl,k1,k2,k3,k4,k5,hb3⟩;have hB3:=nx (nx hB2 hBa) hb3;go_wp2_with fail
  refine(zJk ao2 ro n2 n2 t t ys (rs.take t) _ HN2.out htz.out.2.2.1 (xgf _) (xgf _) oM oM oM (hx2.ext (lx hB3)) ((p8.take t).ext (lx (nx hBa hb3))) (by have h:=zDS hx2.1 htz.out.2.2.2 (by rw[htz.out.2.1,HM.out.2];exact zAp (yH _ HY.out));rw[htz.out.2.2.1,HN2.out]at h;exact h) (by rw[htz.out.2.1,HM.out.2];exact zAp (yH _ HY.out))).mono ?_;rintro e w4 ⟨lo,ll,lc,ls,rfl,l1,l2,l3,l4,l5,hb4⟩;have hB4:=nx hB3 hb4;replace br1:=((br1.below hBa).below hb3).below hb4;replace br2:=((br2.below hBa).below hb3).below hb4;replace bx1:=((bx1.below hBa).below hb3).below hb4;replace bx2:=((bx2.below hBa).below hb3).below hb4;clear c1 d1;have c1:=bx1.two;have d1:=bx2.two;go_wp2_with fail
  have hQ:nat ks=dmQ true (nat xs) (nat ys):=by
   rw[k5,huz.out.1,HM.out.1];unfold dmQ;rw[if_pos ⟨rfl,by rw[<-HM.out.2];exact hrpos.out⟩];rfl
  have hR:sgn false (nat ls)=(dmR true (nat xs) (nat ys):Nat):=by
   rw[l5,htz.out.2.1,HM.out.2];unfold dmR;rw[if_pos ⟨rfl,by rw[<-HM.out.2];exact hrpos.out⟩];rfl
  refine(zB4 (!neg2) ko kl kc ks _ k1 k2 k3 (k4.ext (lx hb4))).mono ?_;rintro e w5 ⟨v1,rfl,hv1,hb5⟩;go_wp2_with fail
  refine(zB4 false lo ll lc ls _ l1 l2 l3 (l4.ext (lx hb5))).mono ?_;rintro e w6 ⟨v2,rfl,hv2,hb6⟩;have br1a:=(br1.below hb5).below hb6;have br2a:=(br2.below hb5).below hb6;have e1:=br1a.two;have g1:=br2a.two;have hv1':=hv1.ext (lx hb6);rw[hQ]at hv1';rw[hR]at hv2;clear hv1;obtain⟨qn,qa,ql',qc',qx,rfl,hq⟩:=hv1';obtain⟨rn,ra,rl',rc',rx,rfl,hr⟩:=hv2;go_wp2_with fail
  refine bodyPost_ret (zHR rfl _ rfl rfl (((br1a.put2 _ _).far oM _ _).far oM _ _) (((br2a.far oM _ _).far oM _ _).put2 _ _) rfl rfl) rfl ?_;have hlx:=(br1a.lext2 dE (.bool qn) (.slice qa ql' qc')).trans (((br2a.far oM 0 (.bool qn)).far oM 1 (.slice qa ql' qc')).lext2 dE (.bool rn) (.slice ra rl' rc'));refine⟨_,_,rfl,?_,?_,yJ (yJ (yJ (yJ (nx (nx hB4 hb5) hb6) oM 0 _) oM 1 _) oM 0 _) oM 1 _⟩
  ·rw[HSP.out.1]
   exact jY.ext ⟨qn,qa,ql',qc',qx,rfl,hq⟩ hlx
  rw[HSP.out.2];exact jY.ext ⟨rn,ra,rl',rc',rx,rfl,hr⟩ hlx
theorem zFY(ao:Option Addr)(n cap:Nat)(xs:List Nat)(neg:Bool)(w:World)(hn:xs.length=n)(hl:n<=cap)(hcap:cap<=9223372036854775807)(hb:n<=8*LIM)(hx:yB w ao xs):
  CPq 91 #[.slice ao n cap,.bool neg] w (zDp w (sgn neg (nat xs))):=by
 have HN:=zI hn;have hlen:xs.length<=n:=oM;have hlen':n<=xs.length:=oM;rw[zC0]at hb;have hnt:Hid (∀k,zBH xs k=zBH xs n->zBH xs n=k->(zBK (xs.take k)/\nat (xs.take k)=nat xs)):=fun k _ h=>by
  have h1:=zDx xs;have h2:=zE2 xs;unfold zEi at h1 h2;rw[hn,h]at h1 h2;exact⟨h2,h1⟩
 clear hn;go_enter Tryz.func91,Tryz.ntmps91;go_upto_region 1 with(fail)
 refine zD ?_;intro W0 hW0;obtain⟨hB0,br,hs0⟩:=qL hW0;have hx0:=hx.ext (lx hB0);clear hW0;go_wp2;go_loop [5] (fun v=>∃k:Nat,k<=n/\v=niq k/\Hid (zBH xs k=zBH xs n)) (fun v=>(intOf v).toNat)
 case atStart=>exact⟨n,xgf _,rfl,rfl⟩
 obtain⟨k,hk,rfl,ht⟩:=hrel;have hkl:Hid ((xs.take k).length=k):=by show _=_;rw[qF];omega
 cases k with
 | zero=>
  have hfin:Hid (zBK (xs.take 0)/\nat (xs.take 0)=nat xs):=hnt.out 0 ht.out ht.out.symm;have E0:Hid (nat xs=0):=hfin.out.2.symm;cases neg with
  |false=>
   go_wp2_with (at_builtin;refine zP4 rfl _ _ rfl W0.heap.size (slq W0.heap.size 0 0) [] rfl (zKP.empty W0 _ (xgf _)) _ 0 cap ([]:List Nat) rfl (yB.nil _ _) rfl (by first|(simp;done)|(simp;omega)) sI ?_;intro v' w' hown hgr;have hBw:BWq W0 w':=((zA _ _).alloc (xgf _) _).grown hgr sI (fun g hg=>by simp[Value.ownBlock]at hg;omega);have br2:=br.below hBw;obtain⟨e1,e2,e3,e4⟩:=br2.two;obtain⟨ao',cap',hv,h1,h2,h3⟩:=hown.at_;rw[zBf,show([]:List Nat).length=0 from rfl]at hv h1;subst hv)
   refine jH rfl rfl rfl (br2.put2 _ _) ?_ (yJ (yJ (nx hB0 hBw) oM 0 _) oM 1 _);refine jY.ext ?_ (br2.lext2 dE _ _);exact⟨false,ao',0,cap',[],rfl,rfl,h1,h2,by simpa using h3,zBK.nil,by rw[E0.out];rfl,by simp⟩
  |true=>
   go_wp2_with (at_builtin;refine zP4 rfl _ _ rfl W0.heap.size (slq W0.heap.size 0 0) [] rfl (zKP.empty W0 _ (xgf _)) _ 0 cap ([]:List Nat) rfl (yB.nil _ _) rfl (by first|(simp;done)|(simp;omega)) sI ?_;intro v' w' hown hgr;have hBw:BWq W0 w':=((zA _ _).alloc (xgf _) _).grown hgr sI (fun g hg=>by simp[Value.ownBlock]at hg;omega);have br2:=br.below hBw;obtain⟨e1,e2,e3,e4⟩:=br2.two;obtain⟨ao',cap',hv,h1,h2,h3⟩:=hown.at_;rw[zBf,show([]:List Nat).length=0 from rfl]at hv h1;subst hv)
   refine jH rfl rfl rfl (br2.put2 _ _) ?_ (yJ (yJ (nx hB0 hBw) oM 0 _) oM 1 _);refine jY.ext ?_ (br2.lext2 dE _ _);exact⟨false,ao',0,cap',[],rfl,rfl,h1,h2,by simpa using h3,zBK.nil,by rw[E0.out];rfl,by simp⟩
 | succ k=>
  obtain⟨b,off,x,rfl,hbw,hx32,HX,hck⟩:=hx0.limb (k:=k) oM;by_cases hz:x=0
  ·have ht':Hid (zBH xs k=zBH xs n):=by
    have:=ht.out;rw[show zBH xs (k+1)=if xs.getD k 0=0 then zBH xs k else k+1 from rfl,if_pos (HX.out.trans hz)]at this;exact this
   subst hz;clear ht;go_wp2;go_round
   case rel=>exact⟨k,oM,by go_num,ht'⟩
   case measure=>simp[intOf]
  have ht':Hid (zBH xs n=k+1):=by
   have:=ht.out;rw[show zBH xs (k+1)=if xs.getD k 0=0 then zBH xs k else k+1 from rfl,if_neg (by rw[HX.out];exact hz)]at this;exact this.symm
  have hfin:Hid (zBK (xs.take (k+1))/\nat (xs.take (k+1))=nat xs):=hnt.out (k+1) ht.out ht'.out;have hzz:((x:Int)==0)=false:=by simpa using hz
  clear hz ht;cases neg with
  |false=>
   go_wp2_with (at_builtin;refine zP4 rfl _ _ rfl W0.heap.size (slq W0.heap.size 0 0) [] rfl (zKP.empty W0 _ (xgf _)) _ (k+1) cap (xs.take (k+1)) rfl ((hx0.take (k+1)).ext (lx ((zA _ _).alloc (xgf _) _))) hkl.out (by first|(simp;done)|(simp;omega)) sI ?_;intro v' w' hown hgr;have hBw:BWq W0 w':=((zA _ _).alloc (xgf _) _).grown hgr sI (fun g hg=>by simp[Value.ownBlock]at hg;omega);have br2:=br.below hBw;obtain⟨e1,e2,e3,e4⟩:=br2.two;obtain⟨ao',cap',hv,h1,h2,h3⟩:=hown.at_;rw[zBf,show(xs.take (k+1)).length=(k+1) from hkl.out]at hv h1;subst hv)
   refine jH rfl rfl rfl (br2.put2 _ _) ?_ (yJ (yJ (nx hB0 hBw) oM 0 _) oM 1 _);refine jY.ext ?_ (br2.lext2 dE _ _);exact⟨false,ao',k+1,cap',xs.take (k+1),rfl,hkl.out,h1,h2,by simpa using h3,hfin.out.1,by rw[hfin.out.2];rfl,by simp⟩
  |true=>
   go_wp2_with (at_builtin;refine zP4 rfl _ _ rfl W0.heap.size (slq W0.heap.size 0 0) [] rfl (zKP.empty W0 _ (xgf _)) _ (k+1) cap (xs.take (k+1)) rfl ((hx0.take (k+1)).ext (lx ((zA _ _).alloc (xgf _) _))) hkl.out (by first|(simp;done)|(simp;omega)) sI ?_;intro v' w' hown hgr;have hBw:BWq W0 w':=((zA _ _).alloc (xgf _) _).grown hgr sI (fun g hg=>by simp[Value.ownBlock]at hg;omega);have br2:=br.below hBw;obtain⟨e1,e2,e3,e4⟩:=br2.two;obtain⟨ao',cap',hv,h1,h2,h3⟩:=hown.at_;rw[zBf,show(xs.take (k+1)).length=(k+1) from hkl.out]at hv h1;subst hv)
   refine jH rfl rfl rfl (br2.put2 _ _) ?_ (yJ (yJ (nx hB0 hBw) oM 0 _) oM 1 _);refine jY.ext ?_ (br2.lext2 dE _ _);exact⟨true,ao',k+1,cap',xs.take (k+1),rfl,hkl.out,h1,h2,by simpa using h3,hfin.out.1,by rw[hfin.out.2];rfl,by simp⟩
theorem zG6{P:Program}{f:FuncId}{args:Array Value}{R:Ending->World->Prop}(h:∀W0,Hid (W0=w)->Calls P f args W0 R):Calls P f args w R:=h w rfl
theorem zWL{g:Nat}{m k:Int}(h:Blk w g tU #[.int .u32 m,.int .u32 k])(ha:a<4294967296)(hb:b<4294967296)(hm:m=a)(hk:k=b):yB w (some ⟨g,0,none⟩) [a,b]:=by
 subst hm;subst hk;exact zCz.at_ (xs:=[a,b]) h (fun x hx=>by simp at hx;unfold B32;omega)
theorem zCx(n:Int)(w:World)(h1:-9223372036854775808<=n)(h2:n<=9223372036854775807):
  CPq 37 #[niq n] w (zDp w n):=by
 obtain⟨m,hm⟩:∃m,n.natAbs=m:=⟨_,rfl⟩;have hm64:m<=9223372036854775808:=oM;have hlen:([m%4294967296,m/4294967296]:List Nat).length=2:=rfl;have hnat:nat [m%4294967296,m/4294967296]=m:=by simp[zCV,zCE];omega
 have hz:Hid (sgn (decide (n<0)) (nat [m%4294967296,m/4294967296])=n):=by show _=_;rw[hnat];by_cases h:n<0<;>simp[h,sgn]<;>omega
 clear hnat hlen;by_cases hn:n<0
 ·have e:IntKind.u64.wrap (-IntKind.u64.wrap n)=((m:Nat):Int):=by simp only[IntKind.wrap_u64];omega
  have hz':Hid (sgn true (nat [m%4294967296,m/4294967296])=n):=by have:=hz.out;rw[show decide (n<0)=true by simpa using hn]at this;exact this
  clear hm;go_enter Tryz.func37,Tryz.ntmps37;go_wp2_with fail
  refine zG6 ?_;intro W1 hW1;obtain⟨hB1,br1,bl1,hs1⟩:=zAj hW1;refine(zFY _ 2 2 [m%4294967296,m/4294967296] true _ rfl (xgf _) oM (by rw[zC0];omega) (zWL bl1 oM oM (by simp[IntKind.wrap_u32]) (by simp[IntKind.wrap_u32]))).mono ?_;rintro e2 w2 ⟨v,rfl,hv,hb2⟩;have br2:=br1.below hb2;have k1:=br2.two;rw[hz'.out]at hv;obtain⟨vn,va,vl,vc,vx,rfl,hv2⟩:=hv;go_wp2_with fail
  refine jH rfl rfl rfl (br2.put2 _ _) ?_ (yJ (yJ (nx hB1 hb2) oM 0 _) oM 1 _);exact jY.ext ⟨vn,va,vl,vc,vx,rfl,hv2⟩ (br2.lext2 dE _ _)
 have e:IntKind.u64.wrap n=((m:Nat):Int):=by simp only[IntKind.wrap_u64];omega
 have hz':Hid (sgn false (nat [m%4294967296,m/4294967296])=n):=by have:=hz.out;rw[show decide (n<0)=false by simpa using hn]at this;exact this
 clear hm;go_enter Tryz.func37,Tryz.ntmps37;go_wp2_with fail
 refine zG6 ?_;intro W1 hW1;obtain⟨hB1,br1,bl1,hs1⟩:=zAj hW1;refine(zFY _ 2 2 [m%4294967296,m/4294967296] false _ rfl (xgf _) oM (by rw[zC0];omega) (zWL bl1 oM oM (by simp[IntKind.wrap_u32]) (by simp[IntKind.wrap_u32]))).mono ?_;rintro e2 w2 ⟨v,rfl,hv,hb2⟩;have br2:=br1.below hb2;have k1:=br2.two;rw[hz'.out]at hv;obtain⟨vn,va,vl,vc,vx,rfl,hv2⟩:=hv;go_wp2_with fail
 refine jH rfl rfl rfl (br2.put2 _ _) ?_ (yJ (yJ (nx hB1 hb2) oM 0 _) oM 1 _);exact jY.ext ⟨vn,va,vl,vc,vx,rfl,hv2⟩ (br2.lext2 dE _ _)
theorem jY.len{v:Value}(h:jY w v z)(s:Sm z):
  ∃neg ao n cap xs,v= .agg #[.bool neg,.slice ao n cap]/\xs.length=n/\n<=cap/\cap<=9223372036854775807/\yB w ao xs/\zBK xs/\z=sgn neg (nat xs)/\(n=0->neg=false)/\n<=LIM:=by
 obtain⟨neg,ao,n,cap,xs,h1,h2,h3,h4,h5,h6,h7,h8⟩:=h;exact⟨neg,ao,n,cap,xs,h1,h2,h3,h4,h5,h6,h7,h8,by rw[<-h2];exact Sm.len (neg:=neg) (by rw[<-h7];exact s) h6⟩
theorem zFF(v:Value)(z:Int)(w:World)(h:jY w v z):
  CPq 48 #[v] w fun e w'=>e= .returned (niq (zAt z 0))/\BWq w w':=by
 obtain⟨neg,ao,n,cap,xs,rfl,hn,hl,hcap,hx,hN,hz,_⟩:=h;by_cases h0:n=0
 ·have E:Hid (zAt z 0=0):=by
   have:xs= []:=qE oM;subst this;exact zCf (by rw[hz];simp[zI8])
  clear hz hn;subst h0;go_enter Tryz.func48,Tryz.ntmps48;go_wp2;go_ret;exact⟨by rw[E.out];rfl,(zA _ _).alloc (xgf _) _⟩
 have hp:0<nat xs:=zOO hN (by rintro rfl;simp at hn;omega);have h0':((n:Int)==0)=false:=by simpa using h0
 cases neg with
 |true=>
  have E:Hid (zAt z 0=-1):=zBc (by rw[hz];simp;omega);clear hz hn;go_enter Tryz.func48,Tryz.ntmps48;go_wp2;go_ret;exact⟨by rw[E.out];rfl,(zA _ _).alloc (xgf _) _⟩
 |false=>
  have E:Hid (zAt z 0=1):=zCK (by rw[hz];simp;omega);clear hz hn;go_enter Tryz.func48,Tryz.ntmps48;go_wp2;go_ret;exact⟨by rw[E.out];rfl,(zA _ _).alloc (xgf _) _⟩
theorem zOd(v1:Value)(z:Int)(w:World)(h1:jY w v1 z):CPq 45 #[v1] w fun e w'=>e= .returned (.bool true)/\BWq w w':=by
 obtain⟨neg,ao,n,cap,xs,rfl,hn,hl,hc,hx,hN,hz,hpos⟩:=h1;have HN:=zI hn;clear hz;cases n with
 |zero=>
  obtain rfl:=hpos rfl;clear hn;go_enter Tryz.func45,Tryz.ntmps45;go_wp2;go_ret;exact⟨rfl,(zA _ _).alloc (xgf _) _⟩
 | succ n=>
  obtain⟨b,off,x,rfl,hbw,hx32,HX,hck⟩:=hx.limb (k:=n) oM;have hx0:((x:Int) !=0)=true:=by
   have:=hN n hn;rw[HX.out]at this;simpa using this
  clear hn hpos;go_enter Tryz.func45,Tryz.ntmps45;go_wp2;go_ret;exact⟨rfl,(zA _ _).alloc (xgf _) _⟩
theorem zTW(v1:Value)(z:Int)(w:World)(h1:zIp w v1 z)(s1:Sm z):CPq 39 #[v1] w (zDp w (-z)):=by
 obtain⟨neg,ao,n,cap,xs,rfl,hn,hl,hc,hx,hN,hz,hq⟩:=h1.len s1;have HN:=zI hn;have HZ:=zI hz;clear hn hz s1 h1;have hq':n<=8*LIM:=oM;go_enter Tryz.func39,Tryz.ntmps39;go_upto_region 1 with(fail)
 refine zD ?_;intro W0 hW0;obtain⟨hB0,bx1,br,hs0⟩:=zAj hW0;have c1:=bx1.two;have d1:=br.two;go_wp2_with fail
 refine(zFY ao n cap xs (!neg) _ HN.out hl hc hq' (hx.ext (lx hB0))).mono ?_;rintro e w2 ⟨v,rfl,hv,hb2⟩;have br2:=br.below hb2;have e1:=br2.two;obtain⟨vn,va,vl,vc,vx,rfl,hv2⟩:=hv;go_wp2_with fail
 refine jH rfl rfl rfl (br2.put2 _ _) ?_ (yJ (yJ (nx hB0 hb2) oM 0 _) oM 1 _);refine jY.ext ?_ (br2.lext2 dE _ _);rw[HZ.out,<-zL0];exact⟨vn,va,vl,vc,vx,rfl,hv2⟩
theorem zLi(ao1 ao2:Option Addr)(n1 cap1 n2 cap2:Nat)(xs ys:List Nat)(w:World)(hn1:xs.length=n1)(hn2:ys.length=n2)(hl1:n1<=cap1)(hl2:n2<=cap2)
  (hc1:cap1<=9223372036854775807) (hc2:cap2<=9223372036854775807) (hx1:yB w ao1 xs) (hx2:yB w ao2 ys) (hN1:zBK xs) (hN2:zBK ys):
  CPq 81 #[.slice ao1 n1 cap1,.slice ao2 n2 cap2] w fun e w'=>e= .returned (.bool (decide (nat xs<nat ys)))/\∃q,w'=w.drewN q:=by
 have HN1:=zI hn1;have HN2:=zI hn2;by_cases hne:n1=n2
 ·subst hne
  have hlen1:xs.length<=n1:=oM;have hlen1':n1<=xs.length:=oM;have hlen2:ys.length<=n1:=oM;have hlen2':n1<=ys.length:=oM;clear hn1 hn2;go_enter Tryz.func81,Tryz.ntmps81;go_wp2;go_loopw [5] (fun i wr=>∃k q:Nat,k<=n1/\i=niq ((k:Int)-1)/\Hid (xs.drop k=ys.drop k)/\Hid (wr=w.drewN q)) (fun i _=>(intOf i+1).toNat)
  case atStart=>exact⟨n1,0,xgf _,rfl,by show _=_;rw[qP oM,qP oM],rfl⟩
  obtain⟨k,q,hk,rfl,HD,HW⟩:=hrel;cases k with
  | zero=>
   have E:Hid (decide (nat xs<nat ys)=false):=by
    have:xs=ys:=by simpa using HD.out
    subst this;show _=_;simp
   go_wp2;go_ret;exact⟨by rw[E.out];rfl,_,HW.out⟩
  | succ k=>
   obtain⟨b,off,x,rfl,hbw,hx32,HX,hck⟩:=hx1.limb (k:=k) oM;obtain⟨b2,off2,y,rfl,hbw2,hy32,HY,hcy⟩:=hx2.limb (k:=k) oM;have hck':wr.cell? ⟨b,off+k,none⟩=some (.int .u32 (x:Nat)):=by rw[HW.out];exact hck
   have hcy':wr.cell? ⟨b2,off2+k,none⟩=some (.int .u32 (y:Nat)):=by rw[HW.out];exact hcy
   have ek:IntKind.i64.wrap ((k:Int)+1-1)=k:=by rw[qU _ oM];omega
   clear hck hcy;by_cases hxy:x=y
   ·subst hxy
    have HD':Hid (xs.drop k=ys.drop k):=by
     show _=_;rw[jG (l:=xs) (i:=k) oM,jG (l:=ys) (i:=k) oM,HD.out];have h1:=HX.out;have h2:=HY.out;rw[xgb,xga oM]at h1 h2;simp at h1 h2;rw[h1,h2]
    have e0:((x:Int) !=x)=false:=by simp
    clear HD HX HY;go_wp2;go_quiet (fail);go_wp2;go_roundw
    case rel=>exact⟨k,_,oM,by go_num,HD',by show _=_;rw[HW.out,zAH]⟩
    case measure=>simp[intOf]
   have e0:((x:Int) !=y)=true:=by simp;omega
   have E:Hid (decide (nat xs<nat ys)=decide (x<y)):=by
    show _=_;rcases zAQ hxy with h|h
    ·have:=zO7 hx1.1 oM oM HD.out HX.out HY.out h
     simp[this,h]
    have:=zO7 hx2.1 oM oM HD.out.symm HY.out HX.out h;simp;constructor<;>intro<;>omega
   by_cases hlt:x<y
   ·have e1:decide ((x:Int)<(y:Int))=true:=by simp;omega
    have e2:Hid (decide (nat xs<nat ys)=true):=by show _=_;rw[E.out];simp[hlt]
    go_wp2;go_quiet (fail);go_wp2;go_quiet (fail);go_wp2;go_ret;exact⟨by rw[e2.out];rfl,_,by rw[HW.out];simp only[World.drewN_drewN];rfl⟩
   have e1:decide ((x:Int)<(y:Int))=false:=by simp;omega
   have e2:Hid (decide (nat xs<nat ys)=false):=by show _=_;rw[E.out];simp[hlt]
   go_wp2;go_quiet (fail);go_wp2;go_quiet (fail);go_wp2;go_ret;exact⟨by rw[e2.out];rfl,_,by rw[HW.out];simp only[World.drewN_drewN];rfl⟩
 have e0:((n1:Int) !=n2)=true:=by simp;omega
 rcases zAQ hne with h|h
 ·have e2:Hid (decide (nat xs<nat ys)=true):=by
   have:=zLN hx1.1 hN2 oM;show _=_;simp[this]
  clear hn1 hn2;go_enter Tryz.func81,Tryz.ntmps81;go_wp2;go_ret;exact⟨by rw[e2.out];first|rfl|(show Ending.returned (.bool (decide (n1<n2)))=_;first|rw[decide_eq_true h]|rw[decide_eq_false oM]),0,rfl⟩
 have e2:Hid (decide (nat xs<nat ys)=false):=by
  have:=zLN hx2.1 hN1 oM;show _=_;simp;omega
 clear hn1 hn2;go_enter Tryz.func81,Tryz.ntmps81;go_wp2;go_ret;exact⟨by rw[e2.out];first|rfl|(show Ending.returned (.bool (decide (n1<n2)))=_;first|rw[decide_eq_true h]|rw[decide_eq_false oM]),0,rfl⟩
def zMF(w:World)(n:Nat)(e:Ending)(w':World):Prop:=
 ∃ao len cap xs,e= .returned (.slice ao len cap)/\xs.length=len/\len<=cap/\cap<=9223372036854775807/\yB w' ao xs/\nat xs=n/\BWq w w'/\len<=8*LIM
theorem zHp(hl:zs.length=k)(h:nat zs+d*B32^k=nat (xs.take k)+nat (ys.take k))(hx:xs.getD k 0=x)(hy:ys.getD k 0=y):
  nat (zs++ [(d+x+y)%4294967296])+(d+x+y)/4294967296*B32^(k+1)=nat (xs.take (k+1))+nat (ys.take (k+1)):=by
 have h1:=zGC (xs:=xs) (ys:=ys) (zs:=zs++ [0]) (k:=k) (d:=d) (x:=x) (y:=y) (by rw[zAY oM,yG zs oM];exact h) (by simp;omega) hx hy;have h2:(zs++ [0]).set k ((d+x+y)%4294967296)=zs++ [(d+x+y)%4294967296]:=by
  rw[zBD _ _ oM,hl,jW];rfl
 rw[h2,yG _ (by simp;omega)]at h1;exact h1
theorem zF3(h:xs.length<=k):xs.getD k 0=0:=by rw[xgb,List.getElem?_eq_none h];rfl
theorem zKP.base_le{base:Nat}{v:Value}(h:zKP w base v xs):∀g,v.ownBlock=some g->base<=g:=fun g hg=>(h.2.lt g hg).1
theorem zQz(ao1 ao2:Option Addr)(n1 cap1 n2 cap2:Nat)(xs ys:List Nat)(w:World)(hn1:xs.length=n1)(hn2:ys.length=n2)
  (hb1:n1<=4*LIM) (hb2:n2<=4*LIM) (hx1:yB w ao1 xs) (hx2:yB w ao2 ys):
  CPq 141 #[.slice ao1 n1 cap1,.slice ao2 n2 cap2] w (zMF w (nat xs+nat ys)):=by
 have HN1:=zI hn1;have HN2:=zI hn2;have hlen1:xs.length<=n1:=oM;have hlen1':n1<=xs.length:=oM;have hlen2:ys.length<=n2:=oM;have hlen2':n2<=ys.length:=oM;clear hn1 hn2;rw[zC0]at hb1 hb2;obtain⟨mx,hmx1,hmx2,hmx3⟩:∃m,n1<=m/\n2<=m/\m<=4*1099511627776:=⟨max n1 n2,oM,oM,oM⟩;go_enter Tryz.func141,Tryz.ntmps141;go_wp2;go_loopw [5,6,7] (fun v c i wr=>∃(k d:Nat) (zs:List Nat),k<=mx+1/\i=niq k/\c= .int .u64 d/\d<=1/\k+d<=mx+1/\zs.length<=mx+1/\zKP wr w.heap.size v zs/\BWq w wr∧
   Hid (zs.length=k/\nat zs+d*B32^k=nat (xs.take k)+nat (ys.take k))) (fun _ _ i _=>mx+1-(intOf i).toNat)
 case atStart=>exact⟨0,0,[],oM,rfl,rfl,oM,oM,by simp,zKP.empty w _ (xgf _),(zA _ _).alloc (xgf _) _,⟨rfl,by simp⟩⟩
 obtain⟨k,d,zs,hk,rfl,rfl,hd,hkd,hzl,hown,hbel,HH⟩:=hrel;have hzk:zs.length<=k:=zA3 HH.out.1;by_cases h1:k<n1
 ·obtain⟨b,off,x,rfl,hbw,hx32,HX,hck⟩:=hx1.limb (k:=k) oM
  have hck':=(hbel.cell (p:=⟨b,off+k,none⟩) hbw).trans hck;clear hck;by_cases h2:k<n2
  ·obtain⟨b2,off2,y,rfl,hbw2,hy32,HY,hcy⟩:=hx2.limb (k:=k) oM
   have hcy':=(hbel.cell (p:=⟨b2,off2+k,none⟩) hbw2).trans hcy;clear hcy;go_wp2_with (at_builtin;refine zP4 rfl _ _ rfl w.heap.size u5 zs rfl (hown.alloc _) _ 1 _ [(d+x+y)%4294967296] rfl (yB.one _ ((d+x+y)%4294967296) (yH _ dE) _ (by first|rfl|omega|simp)) rfl oM (by have:=hbel.size;simp;omega) ?_;intro v' w' hown' hgr';have hbel':BWq w w':=(hbel.alloc hbel.size _).grown hgr' (by have:=hbel.size;simp;omega) (fun g hg=>hown.base_le g hg))
   go_roundw
   case rel=>exact⟨k+1,(d+x+y)/4294967296,zs++ [(d+x+y)%4294967296],oM,by go_num,by go_num,oM,oM,by simp;omega,hown',hbel',⟨by simp[HH.out.1],zHp HH.out.1 HH.out.2 HX.out HY.out⟩⟩
   case measure=>exact meq
  have HY:Hid (ys.getD k 0=0):=zF3 oM;have hs0:d+x+0=d+x:=rfl;go_wp2_with (at_builtin;refine zP4 rfl _ _ rfl w.heap.size u5 zs rfl (hown.alloc _) _ 1 _ [(d+x+0)%4294967296] rfl (yB.one _ ((d+x+0)%4294967296) (yH _ dE) _ (by first|rfl|omega|simp)) rfl oM (by have:=hbel.size;simp;omega) ?_;intro v' w' hown' hgr';have hbel':BWq w w':=(hbel.alloc hbel.size _).grown hgr' (by have:=hbel.size;simp;omega) (fun g hg=>hown.base_le g hg))
  go_roundw
  case rel=>exact⟨k+1,(d+x+0)/4294967296,zs++ [(d+x+0)%4294967296],oM,by go_num,by go_num,oM,oM,by simp;omega,hown',hbel',⟨by simp[HH.out.1],zHp HH.out.1 HH.out.2 HX.out HY.out⟩⟩
  case measure=>exact meq
 have HX:Hid (xs.getD k 0=0):=zF3 oM;by_cases h2:k<n2
 ·obtain⟨b2,off2,y,rfl,hbw2,hy32,HY,hcy⟩:=hx2.limb (k:=k) oM
  have hcy':=(hbel.cell (p:=⟨b2,off2+k,none⟩) hbw2).trans hcy;clear hcy;go_wp2_with (at_builtin;refine zP4 rfl _ _ rfl w.heap.size u5 zs rfl (hown.alloc _) _ 1 _ [(d+0+y)%4294967296] rfl (yB.one _ ((d+0+y)%4294967296) (yH _ dE) _ (by first|rfl|omega|simp)) rfl oM (by have:=hbel.size;simp;omega) ?_;intro v' w' hown' hgr';have hbel':BWq w w':=(hbel.alloc hbel.size _).grown hgr' (by have:=hbel.size;simp;omega) (fun g hg=>hown.base_le g hg))
  go_roundw
  case rel=>exact⟨k+1,(d+0+y)/4294967296,zs++ [(d+0+y)%4294967296],oM,by go_num,by go_num,oM,oM,by simp;omega,hown',hbel',⟨by simp[HH.out.1],zHp HH.out.1 HH.out.2 HX.out HY.out⟩⟩
  case measure=>exact meq
 have HY:Hid (ys.getD k 0=0):=zF3 oM;by_cases h3:0<d
 ·
  go_wp2_with (at_builtin;refine zP4 rfl _ _ rfl w.heap.size u5 zs rfl (hown.alloc _) _ 1 _ [(d+0+0)%4294967296] rfl (yB.one _ ((d+0+0)%4294967296) (yH _ dE) _ (by first|rfl|omega|simp)) rfl oM (by have:=hbel.size;simp;omega) ?_;intro v' w' hown' hgr';have hbel':BWq w w':=(hbel.alloc hbel.size _).grown hgr' (by have:=hbel.size;simp;omega) (fun g hg=>hown.base_le g hg))
  go_roundw
  case rel=>exact⟨k+1,(d+0+0)/4294967296,zs++ [(d+0+0)%4294967296],oM,by go_num,by go_num,oM,oM,by simp;omega,hown',hbel',⟨by simp[HH.out.1],zHp HH.out.1 HH.out.2 HX.out HY.out⟩⟩
  case measure=>exact meq
 obtain rfl:0=d:=oM;go_wp2;go_ret;obtain⟨ao',cap',hv,q1,q2,q3⟩:=hown.at_;have h4:=HH.out.2;rw[zBO,zAa,yG xs oM,yG ys oM]at h4;exact⟨ao',_,cap',zs,by rw[hv];rfl,rfl,q1,q2,q3,h4,hbel,by rw[zC0];omega⟩
theorem zGa{e:Nat}(hl:zs.length=k)(h:nat zs+nat (ys.take k)=nat (xs.take k)+d*B32^k)(hx:xs.getD k 0=x)(hy:ys.getD k 0=y)(hv:v+y+d=x+e*4294967296):
  nat (zs++ [v])+nat (ys.take (k+1))=nat (xs.take (k+1))+e*B32^(k+1):=by
 have h1:=zIB (xs:=xs) (ys:=ys) (zs:=zs++ [0]) (k:=k) (d:=d) (x:=x) (y:=y) (v:=v) (e:=e) (by rw[zAY oM,yG zs oM];exact h) (by simp;omega) hx hy hv;have h2:(zs++ [0]).set k v=zs++ [v]:=by
  rw[zBD _ _ oM,hl,jW];rfl
 rw[h2,yG _ (by simp;omega)]at h1;exact h1
theorem zJq(ao1 ao2:Option Addr)(n1 cap1 n2 cap2:Nat)(xs ys:List Nat)(w:World)(hn1:xs.length=n1)(hn2:ys.length=n2)
  (hb1:n1<=4*LIM) (hx1:yB w ao1 xs) (hx2:yB w ao2 ys) (hle:n2<=n1) (hval:nat ys<=nat xs):
  CPq 142 #[.slice ao1 n1 cap1,.slice ao2 n2 cap2] w (zMF w (nat xs-nat ys)):=by
 have HN1:=zI hn1;have HN2:=zI hn2;have HV:=zI hval;have hlen1:xs.length<=n1:=oM;have hlen1':n1<=xs.length:=oM;have hlen2:ys.length<=n2:=oM;have hlen2':n2<=ys.length:=oM;clear hn1 hn2 hval;rw[zC0]at hb1;go_enter Tryz.func142,Tryz.ntmps142;go_wp2;go_loopw [5,6,7] (fun v c i wr=>∃(k d:Nat) (zs:List Nat),k<=n1/\i=niq k/\c=niq d/\d<=1/\zKP wr w.heap.size v zs/\BWq w wr∧
   Hid (zs.length=k/\nat zs+nat (ys.take k)=nat (xs.take k)+d*B32^k)) (fun _ _ i _=>n1-(intOf i).toNat)
 case atStart=>exact⟨0,0,[],oM,rfl,rfl,oM,zKP.empty w _ (xgf _),(zA _ _).alloc (xgf _) _,⟨rfl,by simp⟩⟩
 obtain⟨k,d,zs,hk,rfl,rfl,hd,hown,hbel,HH⟩:=hrel;have hzk:zs.length<=k:=zA3 HH.out.1;by_cases h1:k<n1
 ·obtain⟨b,off,x,rfl,hbw,hx32,HX,hck⟩:=hx1.limb (k:=k) oM
  have hck':=(hbel.cell (p:=⟨b,off+k,none⟩) hbw).trans hck;clear hck;by_cases h2:k<n2
  ·obtain⟨b2,off2,y,rfl,hbw2,hy32,HY,hcy⟩:=hx2.limb (k:=k) oM
   have hcy':=(hbel.cell (p:=⟨b2,off2+k,none⟩) hbw2).trans hcy;clear hcy;by_cases hs:y+d<=x
   ·
    go_wp2_with (at_builtin;refine zP4 rfl _ _ rfl w.heap.size u5 zs rfl (hown.alloc _) _ 1 _ [(x-d-y)] rfl (yB.one _ ((x-d-y)) oM _ (by first|rfl|omega|(rw[zA8];omega))) rfl oM (by have:=hbel.size;simp;omega) ?_;intro v' w' hown' hgr';have hbel':BWq w w':=(hbel.alloc hbel.size _).grown hgr' (by have:=hbel.size;simp;omega) (fun g hg=>hown.base_le g hg))
    go_roundw
    case rel=>exact⟨k+1,0,zs++ [(x-d-y)],oM,by go_num,rfl,oM,hown',hbel',⟨by simp[HH.out.1],zGa HH.out.1 HH.out.2 HX.out HY.out oM⟩⟩
    case measure=>exact meq
   go_wp2_with (at_builtin;refine zP4 rfl _ _ rfl w.heap.size u5 zs rfl (hown.alloc _) _ 1 _ [(x+4294967296-d-y)] rfl (yB.one _ ((x+4294967296-d-y)) oM _ (by first|rfl|omega|(rw[zA8];omega))) rfl oM (by have:=hbel.size;simp;omega) ?_;intro v' w' hown' hgr';have hbel':BWq w w':=(hbel.alloc hbel.size _).grown hgr' (by have:=hbel.size;simp;omega) (fun g hg=>hown.base_le g hg))
   go_roundw
   case rel=>exact⟨k+1,1,zs++ [(x+4294967296-d-y)],oM,by go_num,rfl,oM,hown',hbel',⟨by simp[HH.out.1],zGa HH.out.1 HH.out.2 HX.out HY.out oM⟩⟩
   case measure=>exact meq
  have HY:Hid (ys.getD k 0=0):=zF3 oM;by_cases hs:d<=x
  ·
   go_wp2_with (at_builtin;refine zP4 rfl _ _ rfl w.heap.size u5 zs rfl (hown.alloc _) _ 1 _ [(x-d)] rfl (yB.one _ ((x-d)) oM _ (by first|rfl|omega|(rw[zA8];omega))) rfl oM (by have:=hbel.size;simp;omega) ?_;intro v' w' hown' hgr';have hbel':BWq w w':=(hbel.alloc hbel.size _).grown hgr' (by have:=hbel.size;simp;omega) (fun g hg=>hown.base_le g hg))
   go_roundw
   case rel=>exact⟨k+1,0,zs++ [(x-d)],oM,by go_num,rfl,oM,hown',hbel',⟨by simp[HH.out.1],zGa HH.out.1 HH.out.2 HX.out HY.out oM⟩⟩
   case measure=>exact meq
  go_wp2_with (at_builtin;refine zP4 rfl _ _ rfl w.heap.size u5 zs rfl (hown.alloc _) _ 1 _ [(x+4294967296-d)] rfl (yB.one _ ((x+4294967296-d)) oM _ (by first|rfl|omega|(rw[zA8];omega))) rfl oM (by have:=hbel.size;simp;omega) ?_;intro v' w' hown' hgr';have hbel':BWq w w':=(hbel.alloc hbel.size _).grown hgr' (by have:=hbel.size;simp;omega) (fun g hg=>hown.base_le g hg))
  go_roundw
  case rel=>exact⟨k+1,1,zs++ [(x+4294967296-d)],oM,by go_num,rfl,oM,hown',hbel',⟨by simp[HH.out.1],zGa HH.out.1 HH.out.2 HX.out HY.out oM⟩⟩
  case measure=>exact meq
 obtain rfl:n1=k:=oM;go_wp2;go_ret;obtain⟨ao',cap',hv,q1,q2,q3⟩:=hown.at_;have h4:=HH.out.2;rw[yG xs oM,yG ys oM]at h4;have h2:=zEK hown.1;rw[HH.out.1]at h2;have h3:=HV.out;refine⟨ao',_,cap',zs,by rw[hv];rfl,rfl,q1,q2,q3,?_,hbel,by rw[zC0];omega⟩;generalize B32^n1=p at h4 h2;have h5:d=0∨d=1:=oM;rcases h5 with rfl|rfl<;>omega
theorem zM3(v1 v2:Value)(z1 z2:Int)(w:World)(h1:jY w v1 z1)(h2:jY w v2 z2)(s1:Sm z1)(s2:Sm z2):
  CPq 94 #[v1,v2] w (zDp w (z1+z2)):=by
 obtain⟨neg1,ao1,n1,cap1,xs,rfl,hn1,hl1,hc1,hx1,hN1,hz1,hp1,hq1⟩:=h1.len s1;obtain⟨neg2,ao2,n2,cap2,ys,rfl,hn2,hl2,hc2,hx2,hN2,hz2,hp2,hq2⟩:=h2.len s2;have HN1:=zI hn1;have HN2:=zI hn2;have HZ1:=zI hz1;have HZ2:=zI hz2;clear hn1 hn2 hz1 hz2 s1 s2 h1 h2 hp1 hp2;have hq1':n1<=4*LIM:=oM;have hq2':n2<=4*LIM:=oM;clear hq1 hq2;by_cases hs:neg1=neg2
 ·subst hs
  go_enter Tryz.func94,Tryz.ntmps94;go_upto_region 1 with(fail)
  refine zD ?_;intro W0 hW0;obtain⟨hB0,bx1,bx2,br,hs0⟩:=zBk hW0;have c1:=bx1.two;have d1:=bx2.two;go_wp2_with fail
  have lx1:=lx (nx hB0 (dr W0));go_region_held3 (fun w'=>w'.cell? ⟨w.heap.size,1,none⟩=some (.slice ao1 n1 cap1)/\w'.cell? ⟨w.heap.size+1,1,none⟩=some (.slice ao2 n2 cap2)/\w'.cell? ⟨w.heap.size,0,none⟩=some (.bool neg1))
   ((((try go_split_ands);(repeat' apply And.intro))<;>first|exact zBn (by assumption)|exact jL (by assumption) hb1|exact jL (by assumption) hb2|exact zC9 (zC9 (by assumption) oM) oM))
   (first
    |(go_at_call 141;refine(zQz ao1 ao2 n1 cap1 n2 cap2 xs ys _ HN1.out HN2.out hq1' hq2' (hx1.ext lx1) (hx2.ext lx1)).mono ?_;rintro e w1 ⟨ao,len,cap,zs,rfl,hz1,hz2,hz3,hz4,hz5,hb1,hz6⟩;have br1:=br.drew.below hb1)
    |(go_at_call 91;refine(zFY ao len cap zs neg1 _ hz1 hz2 hz3 hz6 hz4).mono ?_;rintro e w2 ⟨v,rfl,hv,hb2⟩;have br2:=br1.below hb2;obtain⟨e1,e2,e3,e4⟩:=br2.two;obtain⟨vn,va,vl,vc,vx,rfl,hv2⟩:=hv))
  go_wp2_with fail
  refine jH rfl rfl rfl (br2.put2 _ _) ?_ (yJ (yJ (nx (nx (nx hB0 (dr W0)) hb1) hb2) oM 0 _) oM 1 _);refine jY.ext ?_ (br2.lext2 dE _ _);rw[hz5]at hv2;rw[HZ1.out,HZ2.out,<-zTq];exact⟨vn,va,vl,vc,vx,rfl,hv2⟩
 have hs':(neg1==neg2)=false:=by simpa using hs
 have Hs:=zI hs;clear hs;have hless:=fun W h1 h2=>zLi ao1 ao2 n1 cap1 n2 cap2 xs ys W HN1.out HN2.out hl1 hl2 hc1 hc2 h1 h2 hN1 hN2
 by_cases hlt:nat xs<nat ys
 ·rw[decide_eq_true hlt]at hless
  go_enter Tryz.func94,Tryz.ntmps94;go_upto_region 1 with(fail)
  refine zD ?_;intro W0 hW0;obtain⟨hB0,bx1,bx2,br,hs0⟩:=zBk hW0;have c1:=bx1.two;have d1:=bx2.two;go_wp2_with (go_at_call 81;refine(hless _ (hx1.ext (lx hB0)) (hx2.ext (lx hB0))).mono ?_;rintro e w' ⟨rfl,nd,rfl⟩)
  have lx1:=lx (nx (nx hB0 (drN W0 nd)) (dr (W0.drewN nd)));go_region_held3 (fun w'=>w'.cell? ⟨w.heap.size,1,none⟩=some (.slice ao1 n1 cap1)/\w'.cell? ⟨w.heap.size+1,1,none⟩=some (.slice ao2 n2 cap2)/\w'.cell? ⟨(w.heap.size+1),0,none⟩=some (.bool neg2))
   ((((try go_split_ands);(repeat' apply And.intro))<;>first|exact zBn (by assumption)|exact jL (by assumption) hb1|exact jL (by assumption) hb2|exact zC9 (zC9 (by assumption) oM) oM))
   (first
    |(go_at_call 142;refine(zJq ao2 ao1 n2 cap2 n1 cap1 ys xs _ HN2.out HN1.out hq2' (hx2.ext lx1) (hx1.ext lx1) (by rw[<-HN1.out,<-HN2.out];exact zDS hx2.1 hN1 oM) oM).mono ?_;rintro e w1 ⟨ao,len,cap,zs,rfl,hz1,hz2,hz3,hz4,hz5,hb1,hz6⟩;have br1:=(br.drewN nd).drew.below hb1)
    |(go_at_call 91;refine(zFY ao len cap zs neg2 _ hz1 hz2 hz3 hz6 hz4).mono ?_;rintro e w2 ⟨v,rfl,hv,hb2⟩;have br2:=br1.below hb2;obtain⟨e1,e2,e3,e4⟩:=br2.two;obtain⟨vn,va,vl,vc,vx,rfl,hv2⟩:=hv))
  go_wp2_with fail
  refine jH rfl rfl rfl (br2.put2 _ _) ?_ (yJ (yJ (nx (nx (nx (nx hB0 (drN W0 nd)) (dr (W0.drewN nd))) hb1) hb2) oM 0 _) oM 1 _);refine jY.ext ?_ (br2.lext2 dE _ _);rw[hz5]at hv2;rw[HZ1.out,HZ2.out,<-zPm Hs.out _ _ oM];exact⟨vn,va,vl,vc,vx,rfl,hv2⟩
 rw[decide_eq_false hlt]at hless;go_enter Tryz.func94,Tryz.ntmps94;go_upto_region 1 with(fail)
 refine zD ?_;intro W0 hW0;obtain⟨hB0,bx1,bx2,br,hs0⟩:=zBk hW0;have c1:=bx1.two;have d1:=bx2.two;go_wp2_with (go_at_call 81;refine(hless _ (hx1.ext (lx hB0)) (hx2.ext (lx hB0))).mono ?_;rintro e w' ⟨rfl,nd,rfl⟩)
 have lx1:=lx (nx (nx hB0 (drN W0 nd)) (dr (W0.drewN nd)));go_region_held3 (fun w'=>w'.cell? ⟨w.heap.size,1,none⟩=some (.slice ao1 n1 cap1)/\w'.cell? ⟨w.heap.size+1,1,none⟩=some (.slice ao2 n2 cap2)/\w'.cell? ⟨w.heap.size,0,none⟩=some (.bool neg1))
  ((((try go_split_ands);(repeat' apply And.intro))<;>first|exact zBn (by assumption)|exact jL (by assumption) hb1|exact jL (by assumption) hb2|exact zC9 (zC9 (by assumption) oM) oM))
  (first
   |(go_at_call 142;refine(zJq ao1 ao2 n1 cap1 n2 cap2 xs ys _ HN1.out HN2.out hq1' (hx1.ext lx1) (hx2.ext lx1) (by rw[<-HN1.out,<-HN2.out];exact zDS hx1.1 hN2 oM) oM).mono ?_;rintro e w1 ⟨ao,len,cap,zs,rfl,hz1,hz2,hz3,hz4,hz5,hb1,hz6⟩;have br1:=(br.drewN nd).drew.below hb1)
   |(go_at_call 91;refine(zFY ao len cap zs neg1 _ hz1 hz2 hz3 hz6 hz4).mono ?_;rintro e w2 ⟨v,rfl,hv,hb2⟩;have br2:=br1.below hb2;obtain⟨e1,e2,e3,e4⟩:=br2.two;obtain⟨vn,va,vl,vc,vx,rfl,hv2⟩:=hv))
 go_wp2_with fail
 refine jH rfl rfl rfl (br2.put2 _ _) ?_ (yJ (yJ (nx (nx (nx (nx hB0 (drN W0 nd)) (dr (W0.drewN nd))) hb1) hb2) oM 0 _) oM 1 _);refine jY.ext ?_ (br2.lext2 dE _ _);rw[hz5]at hv2;rw[HZ1.out,HZ2.out,<-zPl Hs.out _ _ oM];exact⟨vn,va,vl,vc,vx,rfl,hv2⟩
theorem Sm.neg(h:Sm z):Sm (-z):=by unfold Sm at h ⊢;rwa[zR]
theorem zTX(v1 v2:Value)(z1 z2:Int)(w:World)(h1:jY w v1 z1)(h2:jY w v2 z2)(s1:Sm z1)(s2:Sm z2):
  CPq 92 #[v1,v2] w (zDp w (z1-z2)):=by
 have H1:=zI h1;have H2:=zI h2;obtain⟨neg1,ao1,n1,cap1,xs,rfl,-⟩:=h1;obtain⟨neg2,ao2,n2,cap2,ys,rfl,-⟩:=h2;have hneg:=fun W h=>zTW (.agg #[.bool neg2,.slice ao2 n2 cap2]) z2 W h s2
 have hadd:=fun v W h1 h2=>zM3 (.agg #[.bool neg1,.slice ao1 n1 cap1]) v z1 (-z2) W h1 h2 s1 s2.neg
 clear s1 s2;go_enter Tryz.func92,Tryz.ntmps92;go_upto_region 1 with(fail)
 refine zD ?_;intro W0 hW0;obtain⟨hB0,bx1,bx2,br,hs0⟩:=zBk hW0;have c1:=bx1.two;have d1:=bx2.two;have lx1:=lx (nx hB0 (dr W0));go_region_held3 (fun w'=>w'.cell? ⟨w.heap.size,0,none⟩=some (.bool neg1)/\w'.cell? ⟨w.heap.size,1,none⟩=some (.slice ao1 n1 cap1)/\w'.cell? ⟨w.heap.size+1,0,none⟩=some (.bool neg2)/\w'.cell? ⟨w.heap.size+1,1,none⟩=some (.slice ao2 n2 cap2))
  ((((try go_split_ands);(repeat' apply And.intro))<;>first|exact zBn (by assumption)|exact jL (by assumption) hb1|exact jL (by assumption) hb2|exact zC9 (zC9 (by assumption) oM) oM))
  (first
   |(go_at_call 39;refine(hneg _ (H2.out.weak.ext lx1)).mono ?_;rintro e w1 ⟨vneg,rfl,hvn,hb1⟩;have br1:=br.drew.below hb1;have h1':=H1.out.ext (lx (nx (nx hB0 (dr W0)) hb1)))
   |(go_at_call 94;refine(hadd vneg _ h1' hvn).mono ?_;rintro e w2 ⟨v,rfl,hv,hb2⟩;have br2:=br1.below hb2;obtain⟨e1,e2,e3,e4⟩:=br2.two;obtain⟨vn,va,vl,vc,vx,rfl,hv2⟩:=hv))
 go_wp2_with fail
 refine jH rfl rfl rfl (br2.put2 _ _) ?_ (yJ (yJ (nx (nx (nx hB0 (dr W0)) hb1) hb2) oM 0 _) oM 1 _);refine jY.ext ?_ (br2.lext2 dE _ _);rw[Int.sub_eq_add_neg];exact⟨vn,va,vl,vc,vx,rfl,hv2⟩
theorem zTU(v1 v2:Value)(z1 z2:Int)(w:World)(h1:jY w v1 z1)(h2:jY w v2 z2)(s1:Sm z1)(s2:Sm z2):
  CPq 46 #[v1,v2] w fun e w'=>e= .returned (niq (zAt z1 z2))/\BWq w w':=by
 have H1:=zI h1;have H2:=zI h2;obtain⟨neg1,ao1,n1,cap1,xs,rfl,-⟩:=h1;obtain⟨neg2,ao2,n2,cap2,ys,rfl,-⟩:=h2;have hsub:=fun W h1 h2=>zTX (.agg #[.bool neg1,.slice ao1 n1 cap1]) (.agg #[.bool neg2,.slice ao2 n2 cap2]) z1 z2 W h1 h2 s1 s2
 have E:Hid (zAt (z1-z2) 0=zAt z1 z2):=by
  rcases zAg z1 z2 with h|h|h
  show _=_;rw[zBc h,zBc oM];show _=_;rw[zCf h,zCf oM];show _=_;rw[zCK h,zCK oM]
 clear s1 s2;go_enter Tryz.func46,Tryz.ntmps46;go_upto_region 1 with(fail)
 refine zD ?_;intro W0 hW0;obtain⟨hB0,bx1,bx2,hs0⟩:=zAj hW0;have c1:=bx1.two;have d1:=bx2.two;go_wp2_with fail
 refine(hsub _ (H1.out.ext (lx hB0)) (H2.out.ext (lx hB0))).mono ?_;rintro e w1 ⟨v,rfl,hv,hb1⟩;go_wp2_with fail
 refine(zFF v _ _ hv).mono ?_;rintro e w2 ⟨rfl,hb2⟩;go_wp2_with fail
 go_ret;exact⟨by rw[<-E.out];rfl,nx (nx hB0 hb1) hb2⟩
theorem zYx{a b:Bool}(h:sgn a m=sgn b n):m=n/\(m≠0->a=b):=by
 have h1:=congrArg Int.natAbs h;rw[zBR,zBR]at h1;subst h1;refine⟨rfl,fun h0=>?_⟩;cases a<;>cases b<;>simp at h ⊢<;>omega
theorem zK1(v1 v2:Value)(z1 z2:Int)(w:World)(h1:jY w v1 z1)(h2:jY w v2 z2):
  CPq 29 #[v1,v2] w fun e w'=>e= .returned (.bool (decide (z1=z2)))/\BWq w w':=by
 obtain⟨neg1,ao1,n1,cap1,xs,rfl,hn1,hl1,hc1,hx1,hN1,hz1,hp1⟩:=h1;obtain⟨neg2,ao2,n2,cap2,ys,rfl,hn2,hl2,hc2,hx2,hN2,hz2,hp2⟩:=h2;have hz:Hid (z1=z2↔(neg1=neg2/\¬ nat xs<nat ys/\¬ nat ys<nat xs)):=by
  show _↔_;rw[hz1,hz2];constructor
  ·intro h
   obtain⟨h3,h4⟩:=zYx h;refine⟨?_,oM,oM⟩;by_cases h0:nat xs=0
   ·have e1:=(zHM hN1).1 h0
    have e2:=(zHM hN2).1 oM;subst e1;subst e2;rw[hp1 hn1.symm,hp2 hn2.symm]
   exact h4 h0
  rintro⟨h3,h4,h5⟩;rw[h3,show nat xs=nat ys by omega]
 have hl12:=fun W h1 h2=>zLi ao1 ao2 n1 cap1 n2 cap2 xs ys W hn1 hn2 hl1 hl2 hc1 hc2 h1 h2 hN1 hN2
 have hl21:=fun W h1 h2=>zLi ao2 ao1 n2 cap2 n1 cap1 ys xs W hn2 hn1 hl2 hl1 hc2 hc1 h1 h2 hN2 hN1
 clear hn1 hn2 hz1 hz2 hp1 hp2;by_cases hs:neg1=neg2
 ·subst hs
  by_cases h12:nat xs<nat ys
  ·rw[decide_eq_true h12]at hl12
   have E:Hid (decide (z1=z2)=false):=by show _=_;rw[decide_eq_false];rw[hz.out];omega
   clear hz;go_enter Tryz.func29,Tryz.ntmps29;go_upto_region 1 with(fail)
   refine zD ?_;intro W0 hW0;obtain⟨hB0,bx1,bx2,hs0⟩:=zAj hW0;have c1:=bx1.two;have d1:=bx2.two;go_wp2_with (go_at_call 81;refine(hl12 _ (hx1.ext (lx hB0)) (hx2.ext (lx hB0))).mono ?_;rintro e w' ⟨rfl,nd,rfl⟩)
   go_ret;exact⟨by rw[E.out];rfl,nx hB0 (drN _ _)⟩
  rw[decide_eq_false h12]at hl12;by_cases h21:nat ys<nat xs
  ·rw[decide_eq_true h21]at hl21
   have E:Hid (decide (z1=z2)=false):=by show _=_;rw[decide_eq_false];rw[hz.out];omega
   clear hz;go_enter Tryz.func29,Tryz.ntmps29;go_upto_region 1 with(fail)
   refine zD ?_;intro W0 hW0;obtain⟨hB0,bx1,bx2,hs0⟩:=zAj hW0;have c1:=bx1.two;have d1:=bx2.two;go_wp2_with fail
   refine(hl12 _ (hx1.ext (lx hB0)) (hx2.ext (lx hB0))).mono ?_;rintro e w' ⟨rfl,nd,rfl⟩;go_wp2_with fail
   refine(hl21 _ (hx2.ext (lx (nx hB0 (drN _ _)))) (hx1.ext (lx (nx hB0 (drN _ _))))).mono ?_;rintro e w' ⟨rfl,nd2,rfl⟩;go_wp2_with fail
   go_ret;exact⟨by rw[E.out];rfl,nx hB0 (drN _ _)⟩
  rw[decide_eq_false h21]at hl21;have E:Hid (decide (z1=z2)=true):=by show _=_;rw[decide_eq_true];rw[hz.out];exact⟨rfl,h12,h21⟩
  clear hz;go_enter Tryz.func29,Tryz.ntmps29;go_upto_region 1 with(fail)
  refine zD ?_;intro W0 hW0;obtain⟨hB0,bx1,bx2,hs0⟩:=zAj hW0;have c1:=bx1.two;have d1:=bx2.two;go_wp2_with fail
  refine(hl12 _ (hx1.ext (lx hB0)) (hx2.ext (lx hB0))).mono ?_;rintro e w' ⟨rfl,nd,rfl⟩;go_wp2_with fail
  refine(hl21 _ (hx2.ext (lx (nx hB0 (drN _ _)))) (hx1.ext (lx (nx hB0 (drN _ _))))).mono ?_;rintro e w' ⟨rfl,nd2,rfl⟩;go_wp2_with fail
  go_ret;exact⟨by rw[E.out];rfl,nx hB0 (drN _ _)⟩
 have hs':(neg1==neg2)=false:=by simpa using hs
 have E:Hid (decide (z1=z2)=false):=by show _=_;rw[decide_eq_false];rw[hz.out];intro h;exact hs h.1
 clear hz hs;go_enter Tryz.func29,Tryz.ntmps29;go_wp2_with fail
 go_ret;exact⟨by rw[E.out];rfl,((zA _ _).alloc (xgf _) _).alloc sI _⟩
end Go.Proofs.YtkidaebmhlijlaaGreat
