/- Division of limbs: the call. Division of limbs: the long case, and all cases. -/
import Derived.Test.YtgnmdddaiefooaaGreatR05
set_option linter.unusedVariables false
set_option linter.unusedSimpArgs false
set_option linter.unusedSectionVars false
set_option maxHeartbeats 16000000
set_option maxRecDepth 100000
namespace Go.Proofs.YtgnmdddaiefooaaGreat
open Go.RowKit
theorem zIp(ao:Option Addr)(n cap:Nat)(xs:List Nat)(w:World)(hn:xs.length=n)(hn2:n<=2)(hx:zG w ao xs):
  Calls Tryz.prog 150 #[.slice ao n cap] w fun e w'=>e= .returned (.int .u64 (nat xs:Nat))/\w=w':=by
 match n,xs,hn with
 |0,[],_=>
  go_enter Tryz.func150,Tryz.ntmps150;go_wp2;refine wp_loop_rounds 1 ?_;rw[rounds_succ];go_wp2;go_ret;exact⟨rfl,rfl⟩
 |1,[a],_=>
  obtain⟨b,off,x,rfl,hbw,hx32,HX,hck⟩:=hx.limb (k:=0) sI;have hxa:x=a:=HX.out.symm;subst hxa;rw[Nat.add_zero]at hck;have e1:bits BinOp.or IntKind.u64 0 (x:Int)=(x:Int):=by have:=u64_or_nat 0 x oM oM;simpa using this
  have E:Hid (nat [x]=x):=by show _=_;simp[yK]
  go_enter Tryz.func150,Tryz.ntmps150;go_wp2;refine wp_loop_rounds 2 ?_;rw[rounds_succ];go_wp2;rw[rounds_succ];go_wp2;go_ret;exact⟨by rw[E.out];rfl,rfl⟩
 | 2,[a,b],_=>
  obtain⟨bb,off,hbo,hbw,hcs⟩:=hx.cells sI;subst hbo;have c0:=hcs 0 sI;have c1:=hcs 1 sI;have ha:a<4294967296:=hx.1 a sI;have hb:b<4294967296:=hx.1 b sI;have e1:bits BinOp.or IntKind.u64 0 (a:Int)=(a:Int):=by have:=u64_or_nat 0 a oM oM;simpa using this
  have e2:bits BinOp.or IntKind.u64 (a:Int) ((b:Int)*4294967296)=((a+b*4294967296:Nat):Int):=by
   have:=u64_or_nat a (b*4294967296) oM oM;rw[Nat.or_comm,zIW b a ha,Nat.add_comm]at this;rw[<-this];simp
  have E:Hid (nat [a,b]=a+b*4294967296):=by show _=_;simp[yK,yL];omega
  clear hcs;simp at c0 c1;go_enter Tryz.func150,Tryz.ntmps150;go_wp2;refine wp_loop_rounds 3 ?_;rw[rounds_succ];go_wp2;rw[rounds_succ];go_wp2;rw[rounds_succ];go_wp2;go_ret;exact⟨by rw[E.out];rfl,rfl⟩
def zEH(w:World)(a b:Nat)(e:Ending)(w':World):Prop:=
 ∃qo ql qc qs ro rl rc rs,e= .returned (.tuple #[.slice qo ql qc,.slice ro rl rc])/\qs.length=ql/\ql<=qc/\qc<=9223372036854775807/\zG w' qo qs∧
  rs.length=rl/\rl<=rc/\rc<=9223372036854775807/\zG w' ro rs/\a=nat qs*b+nat rs/\nat rs<b/\Below w.heap.size w w'
section
variable (ao1 ao2:Option Addr) (n1 cap1 n2 cap2:Nat) (xs ys:List Nat) (w:World) (hn1:xs.length=n1) (hn2:ys.length=n2) (hl1:n1<=cap1) (hl2:n2<=cap2)
  (hc1:cap1<=9223372036854775807) (hc2:cap2<=9223372036854775807) (hb1:n1<=2*LIM) (hb2:n2<=2*LIM) (hx1:zG w ao1 xs) (hx2:zG w ao2 ys) (hN1:qP xs) (hN2:qP ys) (hy:0<nat ys)
include hn1 hn2 hl1 hl2 hc1 hc2 hb1 hb2 hx1 hx2 hN1 hN2 hy
theorem zHN(hlt:nat xs<nat ys):Calls Tryz.prog 133 #[.slice ao1 n1 cap1,.slice ao2 n2 cap2] w (zEH w (nat xs) (nat ys)):=by
 have hcmp:=fun W h1 h2=>zAC ao1 ao2 n1 cap1 n2 cap2 xs ys W hn1 hn2 hl1 hl2 hc1 hc2 h1 h2 hN1 hN2
 rw[yE oM]at hcmp;have HN1:=Lib.hid hn1;clear hn1 hn2;go_enter Tryz.func133,Tryz.ntmps133;go_wp2_with (go_at_call 110;refine(hcmp _ hx1 hx2).mono ?_;rintro e w' ⟨rfl,nd,rfl⟩)
 refine(zB5 ao1 n1 cap1 xs _ HN1.out oM (hx1.ext (lx (drN _ _)))).mono ?_;rintro e w2 ⟨ro,rl,rc,rfl,h1,h2,h3,h4,hb⟩;go_wp2_with fail
 go_ret2;exact⟨_,_,_,[],_,_,_,xs,rfl,rfl,by omega,by omega,zG.nil _ _,h1,h2,h3,h4,by simp,hlt,nx (drN _ _) hb⟩
theorem zIy(hge:nat ys<=nat xs)(h2:n1<=2):Calls Tryz.prog 133 #[.slice ao1 n1 cap1,.slice ao2 n2 cap2] w (zEH w (nat xs) (nat ys)):=by
 have hn12:n2<=n1:=by rw[<-hn1,<-hn2];exact zAF hx1.1 hN2 hge
 have hcmp:=fun W h1 h2=>zAC ao1 ao2 n1 cap1 n2 cap2 xs ys W hn1 hn2 hl1 hl2 hc1 hc2 h1 h2 hN1 hN2
 obtain⟨cc,hcc,hcc0⟩:∃cc:Int,qO (nat xs) (nat ys)=cc/\0<=cc:=⟨_,rfl,zAU oM⟩;rw[hcc]at hcmp;clear hcc;have hw1:=fun W h=>zIp ao1 n1 cap1 xs W hn1 h2 h
 have hw2:=fun W h=>zIp ao2 n2 cap2 ys W hn2 oM h
 have hu:nat xs<18446744073709551616:=by
  have h3:=jW hx1.1;have h4:=zAa (show xs.length<=2 by omega);rw[yL]at h4;have h5:(4294967296:Nat)^2=18446744073709551616:=by decide
  rw[h5]at h4;rw[yL]at h3;omega
 have hv:nat ys<18446744073709551616:=by omega
 obtain⟨a,ha⟩:∃a,nat xs=a:=⟨_,rfl⟩;obtain⟨b,hb⟩:∃b,nat ys=b:=⟨_,rfl⟩;rw[ha]at hw1 hu hge ⊢
 rw[hb]at hw2 hv hge hy ⊢
 clear hn1 hn2 ha hb;have hql:=zC3 (a/b);have hrl:=zC3 (a%b);have hqb:a/b<18446744073709551616:=Nat.lt_of_le_of_lt (Nat.div_le_self _ _) hu;have hrb:a%b<b:=Nat.mod_lt _ hy;have eq1:(a:Int)/(b:Int)=((a/b:Nat):Int):=by simp
 have eq2:(a:Int)%(b:Int)=((a%b:Nat):Int):=by simp
 have eq3:IntKind.u64.wrap ((a:Int)/(b:Int))=((a/b:Nat):Int):=by rw[eq1,IntKind.wrap_u64];generalize a/b=t at*;omega
 have EQM:Hid (a=a/b*b+a%b):=by show _=_;rw[Nat.mul_comm];exact(Nat.div_add_mod a b).symm
 obtain⟨q,hq⟩:∃q,a/b=q:=⟨_,rfl⟩;obtain⟨r,hr⟩:∃r,a%b=r:=⟨_,rfl⟩;rw[hq]at hql hqb eq1 eq3 EQM;rw[hr]at hrl hrb eq2 EQM;clear hq hr;have eq4:(a:Int).tdiv (b:Int)=(q:Int):=by rw[Int.tdiv_eq_ediv_of_nonneg oM];exact eq1
 have eq5:(a:Int).tmod (b:Int)=(r:Int):=by rw[Int.tmod_eq_emod_of_nonneg oM];exact eq2
 have eq6:IntKind.u64.wrap (q:Int)=(q:Int):=by rw[IntKind.wrap_u64];omega
 have eq7:IntKind.u64.wrap (r:Int)=(r:Int):=by rw[IntKind.wrap_u64];omega
 have hbn:¬ b=0:=by omega
 have hb0:((b:Int)==0)=false:=by simp;omega
 go_enter Tryz.func133,Tryz.ntmps133;go_wp2_with (first
  |(go_at_call 110;refine(hcmp _ hx1 hx2).mono ?_;rintro e w' ⟨rfl,nd,rfl⟩)
  |(go_at_call_of 150 ao1;refine(hw1 _ (hx1.ext (lx (drN _ _)))).mono ?_;rintro e w' ⟨rfl,rfl⟩)
  |(go_at_call_of 150 ao2;refine(hw2 _ (hx2.ext (lx (drN _ _)))).mono ?_;rintro e w' ⟨rfl,rfl⟩))
 go_region_held3 (fun _=>True) (exact trivial)
  (first
   |(go_at_call_of 108 q;refine(hql _ hqb).mono ?_;rintro e w1 ⟨qo,ql,qc,qs,rfl,p1,p2,p3,p4,p5,p6⟩)
   |(go_at_call_of 108 r;refine(hrl _ oM).mono ?_;rintro e w2 ⟨ro,rl,rc,rs,rfl,s1,s2,s3,s4,s5,s6⟩))
 go_wp2_with fail
 go_ret2;exact⟨qo,ql,qc,qs,ro,rl,rc,rs,rfl,p1,p2,p3,p4.ext (lx s6),s1,s2,s3,s4,by rw[p5,s5];exact EQM.out,by rw[s5];exact hrb,nx (nx (nx (drN _ _) (dr _)) p6) s6⟩
theorem zGd(hge:nat ys<=nat xs)(h2:2<n1)(h1:n2=1):Calls Tryz.prog 133 #[.slice ao1 n1 cap1,.slice ao2 n2 cap2] w (zEH w (nat xs) (nat ys)):=by
 have hcmp:=fun W h1 h2=>zAC ao1 ao2 n1 cap1 n2 cap2 xs ys W hn1 hn2 hl1 hl2 hc1 hc2 h1 h2 hN1 hN2
 obtain⟨cc,hcc,hcc0⟩:∃cc:Int,qO (nat xs) (nat ys)=cc/\0<=cc:=⟨_,rfl,zAU oM⟩;rw[hcc]at hcmp;clear hcc;subst h1;obtain⟨b,off,d,rfl,hbw,hd32,HD,hck⟩:=hx2.limb (k:=0) oM;rw[Nat.add_zero]at hck;have hyd:nat ys=d:=by
  match ys,hn2,HD.out with
  | [y],_,h=>simp at h;simp[yK,h]
 have hsh:=fun W h=>zLM ao1 n1 cap1 xs d W hn1 oM h oM hd32
 rw[hyd]at hge hy ⊢
 have HN1:=Lib.hid hn1;clear hn1 hn2 hyd;go_enter Tryz.func133,Tryz.ntmps133;go_wp2_with (first
  |(go_at_call 110;refine(hcmp _ hx1 hx2).mono ?_;rintro e w' ⟨rfl,nd,rfl⟩)
  |(go_at_call 151;refine(hsh _ (hx1.ext (lx (drN _ _)))).mono ?_;rintro e w1 ⟨g,qs,r,rfl,p1,p2,p3,p4,p5,p6⟩))
 go_ret2;have hB:Below w.heap.size w w1:=nx (drN _ _) p6;have hB2:Below w1.heap.size w1 (w1.alloc (.cells #[.int .u32 (r:Nat)] tU)):=(Below.refl _ _).alloc (xgf _) _;exact⟨_,_,_,qs,_,_,_,[r],rfl,p3,xgf _,by omega,(p1.at_ p2).ext (lx hB2),rfl,xgf _,by omega,zG.one w1 r oM _ rfl,by simp[yK];exact p5,by simp[yK];exact p4,nx hB hB2⟩
end
theorem zHO(ao1 ao2:Option Addr)(n1 cap1 n2 cap2:Nat)(xs ys:List Nat)(w:World)(hn1:xs.length=n1)(hn2:ys.length=n2)(hl1:n1<=cap1)(hl2:n2<=cap2)
  (hc1:cap1<=9223372036854775807) (hc2:cap2<=9223372036854775807) (hb1:n1<=2*LIM) (hx1:zG w ao1 xs) (hx2:zG w ao2 ys) (hN1:qP xs) (hN2:qP ys)
  (hge:nat ys<=nat xs) (h2:2<n1) (h1:2<=n2):Calls Tryz.prog 133 #[.slice ao1 n1 cap1,.slice ao2 n2 cap2] w (zEH w (nat xs) (nat ys)):=by
 have hn12:n2<=n1:=by rw[<-hn1,<-hn2];exact zAF hx1.1 hN2 hge
 have hcmp:=fun W h1 h2=>zAC ao1 ao2 n1 cap1 n2 cap2 xs ys W hn1 hn2 hl1 hl2 hc1 hc2 h1 h2 hN1 hN2
 obtain⟨cc,hcc,hcc0⟩:∃cc:Int,qO (nat xs) (nat ys)=cc/\0<=cc:=⟨_,rfl,zAU oM⟩;rw[hcc]at hcmp;clear hcc;obtain⟨b,off,d,rfl,hbw,hd32,HD,hck⟩:=hx2.limb (k:=n2-1) oM;have hd0:0<d:=by
  have:=hN2 (n2-1) oM;rw[HD.out]at this;omega
 obtain⟨s,hs32,hs1,hs2,hlead⟩:=zMB d w hd0 hd32;have hsh1:=fun W h=>zG2 ao1 n1 cap1 xs s W hn1 oM h hs32
 have hsh2:=fun W h=>zG2 (some ⟨b,off,none⟩) n2 cap2 ys s W hn2 oM h hs32
 have hVB:nat ys*2^s<B32^n2:=by
  obtain⟨m,rfl⟩:∃m,n2=m+1:=⟨n2-1,by omega⟩;have e1:=zO ys m;rw[zH ys oM]at e1;have e2:=jW (hx2.1.take m);rw[List.length_take,Nat.min_eq_left oM]at e2;rw[show m+1-1=m by omega]at HD;rw[HD.out]at e1;have e3:nat ys<(d+1)*B32^m:=by rw[e1,Nat.add_mul,Nat.one_mul];omega
  have e4:nat ys*2^s<(d+1)*B32^m*2^s:=(Nat.mul_lt_mul_right (Nat.pow_pos oM)).2 e3;have e5:(d+1)*B32^m*2^s=(d+1)*2^s*B32^m:=by rw[Nat.mul_assoc,Nat.mul_comm (B32^m),<-Nat.mul_assoc]
  have e6:(d+1)*2^s<=B32:=by
   obtain⟨t,ht⟩:∃t,2^s*t=4294967296:=⟨2^(32-s),by rw[<-Nat.pow_add,show s+(32-s)=32 by omega]⟩;rw[<-ht,Nat.mul_comm d]at hs2;have:=Nat.lt_of_mul_lt_mul_left hs2;rw[yL,<-ht,Nat.mul_comm];exact Nat.mul_le_mul_left _ this
  have e7:=Nat.mul_le_mul_right (B32^m) e6;rw[e5]at e4;rw[Nat.pow_succ,Nat.mul_comm (B32^m)];exact Nat.lt_of_lt_of_le e4 e7
 have hXB:nat xs*2^s<B32^n1*2^s:=(Nat.mul_lt_mul_right (Nat.pow_pos oM)).2 (by have:=jW hx1.1;rwa[hn1]at this);have HVB:=Lib.hid hVB;have HXB:=Lib.hid hXB;have HN1:=Lib.hid hn1;have HN2:=Lib.hid hn2;have HGE:=Lib.hid hge;have HS1:=Lib.hid hs1;have HS2:=Lib.hid hs2;clear hn1 hn2 hVB hXB hs1 hs2 hge;have f1:(n2:Int)<=(n2:Int)+1:=by omega
 have f2:(0:Int)<=(n2:Int):=by omega
 rw[yA]at hb1;go_enter Tryz.func133,Tryz.ntmps133;go_wp2_with (first
  |(go_at_call 110;refine(hcmp _ hx1 hx2).mono ?_;rintro e w' ⟨rfl,nd,rfl⟩)
  |(go_at_call 152;refine(hlead _).mono ?_;rintro e w' ⟨rfl,rfl⟩))
 refine zC ?_;intro W1 hW1;have hB1:Below w.heap.size w W1:=by rw[hW1.out];exact drN _ _
 have lx1:=lx (nx hB1 (dr W1));go_region_held3 (fun _=>True) (exact trivial)
  (first
   |(go_at_call_of 153 ao1;refine(hsh1 _ (hx1.ext lx1)).mono ?_;rintro e w1 ⟨gu,us,rfl,p2,p3,p4,p5,p7,p6⟩)
   |(go_at_call_of 153 off;refine(hsh2 _ ((hx2.ext lx1).ext (lx p6))).mono ?_;rintro e w2 ⟨gv,vz,rfl,s2,s3,s1,s4,s5,s6⟩))
 have hmk:=fun W=>mkU ((n1:Int)-n2+1) (n1-n2+1) oM oM W
 go_upto_block 1 with(fail)
 clear hmk;refine zC ?_;intro W3 hW3;have hvt:nat (vz.take n2)=nat ys*2^s:=by
  have e1:=jX vz n2 (by rw[s4];omega);rcases Nat.eq_zero_or_pos (nat (vz.drop n2))with h0|h0
  ·rw[h0,Nat.mul_zero,Nat.add_zero,s5]at e1;exact e1.symm
  ·exfalso
   have h1:=Nat.le_mul_of_pos_right (B32^n2) h0;have h2:=HVB.out;rw[<-s5]at h2;omega
 have hgu:W1.heap.size<=gu:=p2;have hguv:gu<w1.heap.size:=p3.lt;have hgv:w1.heap.size<=gv:=s2;have hgvq:gv<w2.heap.size:=s3.lt;have hB2:Below w.heap.size w w2:=nx (nx (nx hB1 (dr W1)) p6) s6;have hB3:Below w.heap.size w W3:=by rw[hW3.out];exact hB2.alloc hB2.size _
 have hU3:jJ W3 gu us:=by rw[hW3.out];exact(p3.ext (lx s6)).alloc _
 have hV3:jJ W3 gv vz:=by rw[hW3.out];exact s3.alloc _
 have hQ3:jJ W3 w2.heap.size (List.replicate (n1-n2+1) 0):=by rw[hW3.out];exact jJ.made _ _
 have hwu:w.heap.size<=gu:=by have:=hB1.size;omega
 have hst0:zEG (nat xs*2^s) (nat ys*2^s) n2 (n1-n2+1) us (List.replicate (n1-n2+1) 0):=by
  refine⟨p4,fun x hx=>by rw[List.eq_of_mem_replicate hx];exact yT,?_,?_⟩
  ·rw[List.drop_eq_nil_of_le sI,p7,nat_nil,Nat.zero_mul,Nat.zero_mul,Nat.zero_add]
  ·refine zNZ oM ?_
   rw[p7];refine Nat.lt_of_lt_of_le HXB.out ?_;have h1:=zDn hN2 (n:=n2-1) (by rw[HN2.out];omega);have h2:B32^n1=B32^(n1-n2+1)*B32^(n2-1):=by rw[<-Nat.pow_add];congr 1;omega
   rw[h2,Nat.mul_assoc];exact Nat.mul_le_mul_left _ (Nat.mul_le_mul_right _ h1)
 have hvl:(vz.take n2).length=n2:=by rw[List.length_take,s4];omega
 have hhigh:2147483648<=(vz.take n2).getD (n2-1) 0:=by
  refine zMg (s1.take n2) (by rw[hvl];omega) ?_;rw[hvt];have h1:=zN6 (ys:=ys) (m:=n2-1) (by rw[HN2.out];omega) HD.out;have h2:=Nat.mul_le_mul_right (2^s) h1;refine Nat.le_trans ?_ h2;rw[Nat.mul_assoc,Nat.mul_comm (B32^(n2-1)),<-Nat.mul_assoc];exact Nat.mul_le_mul_right _ HS1.out
 have hdig:=fun W j cap ul hU hul hv hlen hQ=>zKA gu j cap gv 0 n2 n2 ul (vz.take n2) W hU hul hv oM hvl h1 hlen (by rw[yA];omega) hhigh hQ
 have HDIG:=Lib.hid hdig;have HVT:=Lib.hid hvt;have HST0:=Lib.hid hst0;have HVL:=Lib.hid hvl;clear hdig hvt hst0 hvl hhigh hW3 hsh1 hsh2 hcmp hlead s5 p7;obtain⟨W4,rfl⟩:∃W:World,W=W3:=⟨_,rfl⟩;obtain⟨gq,hgq⟩:∃g,w2.heap.size=g:=⟨_,rfl⟩;rw[hgq]at hgvq hQ3 ⊢
 have hgq':gq<=w2.heap.size:=by omega
 clear hgq;go_wp2;go_loopw [15] (fun iv wr=>∃(k:Nat) (ul qs:List Nat),k<=n1-n2+1/\iv= .int .i64 ((k:Int)-1)/\jJ wr gu ul/\jJ wr gq qs/\jJ wr gv vz/\Below w.heap.size w wr/\ul.length=n1+1/\qs.length=n1-n2+1∧
   Hid (zEG (nat xs*2^s) (nat ys*2^s) n2 k ul qs)) (fun iv _=>(intOf iv+1).toNat)
 case atStart=>exact⟨n1-n2+1,us,_,xgf _,by go_num,hU3,hQ3,hV3,hB3,p5,by simp,HST0.out⟩
 case round=>
  obtain⟨k,ul,qs,hk,rfl,hU,hQ,hV,hB,hul,hql,HDS⟩:=hrel;have HUL:=Lib.hid hul;have HQL:=Lib.hid hql;have hul':n1+1<=ul.length:=by omega
  have hql':n1-n2+1<=qs.length:=by omega
  clear hul hql;cases k with
  | zero=>
   have hmk2:=fun W=>mkU (n2:Int) n2 rfl oM W
   go_upto_block 3 with(fail)
   clear hmk2;refine zC ?_;intro W5 hW5;obtain⟨gr,hgr⟩:∃g,wr.heap.size=g:=⟨_,rfl⟩;have hU5:jJ W5 gu ul:=by rw[hW5.out];exact hU.alloc _
   have hQ5:jJ W5 gq qs:=by rw[hW5.out];exact hQ.alloc _
   have hR5:jJ W5 gr (List.replicate n2 0):=by rw[hW5.out,<-hgr];exact jJ.made _ _
   have hB5:Below w.heap.size w W5:=by rw[hW5.out];exact hB.alloc hB.size _
   have hgru:gu<gr:=by rw[<-hgr];exact hU.lt
   have hgrq:gq<gr:=by rw[<-hgr];exact hQ.lt
   rw[hgr];have hmod:Hid (ul.getD 0 0%2^s=0):=by
    show _=_;rw[<-zNx hs32 oM];have h1:=HDS.out.eq;rw[xgk,Nat.pow_zero,Nat.mul_one,<-Nat.mul_assoc]at h1;have h2:(nat xs*2^s)%2^s=0:=Nat.mul_mod_left _ _;rw[h1,Nat.mul_comm (nat qs*nat ys),Nat.mul_add_mod]at h2;exact h2
   have hlt0:Hid (nat ul<nat ys*2^s):=by have:=HDS.out.lt;rwa[xgk]at this
   have hzero:Hid (ul.getD n2 0=0/\nat (ul.take n2)=nat ul):=by
    have h0:=HDS.out.zero HVB.out oM;rw[Nat.zero_add]at h0;have h1:=jX ul n2 oM;have h2:=jN ul n2 oM;rw[h0]at h1 h2;exact⟨by omega,by rw[h1,Nat.mul_zero,Nat.add_zero]⟩
   clear hW5 hgr;obtain⟨W6,rfl⟩:∃W:World,W=W5:=⟨_,rfl⟩;go_wp2;go_loopw [103] (fun iv wr=>∃(k:Nat) (rs:List Nat),k<=n2/\iv= .int .i64 k/\jJ wr gu ul/\jJ wr gq qs/\jJ wr gr rs/\Below w.heap.size w wr/\n2<=rs.length∧
     Hid (rs.length=n2/\qN rs/\nat (rs.take k)*2^s=nat (ul.take k)+(ul.getD k 0%2^s)*B32^k)) (fun iv _=>n2-(intOf iv).toNat)
   case atStart=>exact⟨0,_,by omega,rfl,hU5,hQ5,hR5,hB5,by simp,⟨by simp,fun x hx=>by rw[List.eq_of_mem_replicate hx];exact yT,by rw[hmod.out,List.take_zero,List.take_zero,nat_nil,Nat.zero_mul,Nat.zero_mul]⟩⟩
   case round=>
    obtain⟨k,rs,hk,rfl,hU7,hQ7,hR7,hB7,hrl,HH⟩:=hrel;by_cases hkn:k<n2
    ·obtain⟨xa,hxa⟩:∃a,ul.getD (k+1) 0=a:=⟨_,rfl⟩
     obtain⟨xb,hxb⟩:∃a,ul.getD k 0=a:=⟨_,rfl⟩;have ha32:xa<4294967296:=by rw[<-hxa];exact HDS.out.lim.get _
     have hb32:xb<4294967296:=by rw[<-hxb];exact HDS.out.lim.get _
     have c1:=hU7.cell (k:=k+1) oM;have c2:=hU7.cell (k:=k) oM;have c3:=hR7.cell (k:=k) oM;have c4:=hR7.frozen k;rw[hxa]at c1;rw[hxb]at c2;have HXA:=Lib.hid hxa;have HXB:=Lib.hid hxb;obtain⟨m,hm⟩:∃m,xa*4294967296+xb=m:=⟨_,rfl⟩;have eo:=zIX xa xb ha32 hb32;rw[hm]at eo;have HM:=Lib.hid hm;clear hm;have ew1:IntKind.u64.wrap (xa:Int)=(xa:Int):=by rw[IntKind.wrap_u64];omega
     have ew2:IntKind.u64.wrap (xb:Int)=(xb:Int):=by rw[IntKind.wrap_u64];omega
     have ew3:IntKind.u64.wrap ((xa:Int)*4294967296)=(xa:Int)*4294967296:=by rw[IntKind.wrap_u64];omega
     have i1:IntKind.i64.wrap ((k:Int)+1)=(k:Int)+1:=IntWalk.i64_in _ oM;have i2:((k:Int)+1).toNat=k+1:=by omega
     have i3:(0:Int)<=(k:Int)+1:=by omega
     have i4:(0:Int)<=(k:Int):=by omega
     have i5:(k:Int)<(n2:Int):=by omega
     have i6:(k:Int)+1<(n1:Int)+1:=by omega
     have i7:(k:Int)<(n1:Int)+1:=by omega
     clear hxa hxb;go_wp2;go_region_held3 (fun w'=>w'.cell? ⟨gu,k+1,none⟩=some (.int .u32 (xa:Nat))/\w'.cell? ⟨gu,k,none⟩=some (.int .u32 (xb:Nat)))
      ((((try go_split_ands);(repeat' apply And.intro))<;>first|exact yF (by assumption)|exact jV (by assumption) oM)) (fail)
     go_wp2;go_roundw
     case rel=>
      have hv:((m/2^s%4294967296:Nat):Int)=IntKind.u32.wrap ((m:Int)/2^s):=by rw[IntKind.wrap_u32];simp
      have hst:=zG9 (ul:=ul) (rs:=rs) (k:=k) (s:=s) (v:=m/2^s%4294967296) hs32 ha32 hb32 HXA.out HXB.out oM (by rw[HM.out]) HH.out.2.2
      (repeat apply Exists.intro)
      exact⟨⟨k+1,rs.set k (m/2^s%4294967296),by omega,by go_num,(Below.heap_setCell _ _ _ _ (by simp;omega)).trans hU7,(Below.heap_setCell _ _ _ _ (by simp;omega)).trans hQ7,hR7.set' _ _ _ (by first|exact hv.symm|(rw[hv];done)|(rw[hv];simp)),(hB7.setCell (p:=⟨gr,k,none⟩) (by show _<=gr;omega) _).drew,by simpa using hrl,
       ⟨by simpa using HH.out.1,HH.out.2.1.set _ _ (Nat.mod_lt _ dE),hst⟩⟩,rfl⟩
     case measure=>simp[intOf];omega
    ·obtain rfl:n2=k:=by omega
     go_wp2;go_ret2;have h1:=HH.out.2.2;rw[hzero.out.1,Nat.zero_mod,Nat.zero_mul,Nat.add_zero,hzero.out.2,zH rs (by rw[HH.out.1];exact xgf _)]at h1;have h2:=HDS.out.eq;rw[xgk,Nat.pow_zero,Nat.mul_one,<-h1,<-Nat.mul_assoc,<-Nat.add_mul]at h2;have h3:=hlt0.out;rw[<-h1]at h3;have hp:0<2^s:=Nat.pow_pos oM;exact⟨_,_,_,qs,_,_,_,rs,rfl,HQL.out,xgf _,by omega,hQ7.at_ HDS.out.qlim,HH.out.1,xgf _,by omega,hR7.at_ HH.out.2.1,Nat.eq_of_mul_eq_mul_right hp h2,Nat.lt_of_mul_lt_mul_right h3,hB7⟩
  | succ k=>
   have hfr:=hQ.frozen k;have hcz:=hQ.cell (k:=k) oM;go_wp2_with fail
   rw[show k+n2+1-k=n2+1 by omega];refine(HDIG.out _ _ _ ul hU HDS.out.lim ((hV.at_ s1).take n2) oM ?_).mono ?_
   ·rw[HDS.out.seg_eq HVB.out oM,HVT.out]
    exact HDS.out.small oM
   rintro e w4 ⟨q,rs,rfl,t1,t2,t3,t4,t5,t6,t7⟩;have hQ4:jJ w4 gq qs:=(t7.block gq hQ.lt (by simp;omega)).trans hQ;have hV4:jJ w4 gv vz:=(t7.block gv hV.lt (by simp;omega)).trans hV;have hfr4:=hQ4.frozen k;have hcz4:=hQ4.cell (k:=k) oM;have hB4:Below w.heap.size w w4:=hB.grown t7 hB.size (fun k hk=>by injection hk with hk;omega);rw[HVT.out]at t4 t5;have hds:=HDS.out.step HVB.out oM oM t1 t2 t3 t4 t5;have HDS':=Lib.hid hds;clear hcz hfr t4 t5 hds;go_wp2;go_roundw
   case rel=>
    refine⟨k,put ul k rs,qs.set k q,by omega,by go_num,?_,?_,?_,?_,?_,?_,HDS'.out⟩
    ·exact(Below.heap_setCell _ _ _ _ (by simp;omega)).trans t6
    ·exact hQ4.set' _ _ _ rfl
    ·exact(Below.heap_setCell _ _ _ _ (by simp;omega)).trans hV4
    ·exact hB4.setCell (by simp;omega) _
    ·rw[zBQ (by rw[t2];omega)];exact HUL.out
    ·simp[HQL.out]
   case measure=>simp[intOf]
theorem zFJ(ao1 ao2:Option Addr)(n1 cap1 n2 cap2:Nat)(xs ys:List Nat)(w:World)(hn1:xs.length=n1)(hn2:ys.length=n2)(hl1:n1<=cap1)(hl2:n2<=cap2)
  (hc1:cap1<=9223372036854775807) (hc2:cap2<=9223372036854775807) (hb1:n1<=2*LIM) (hb2:n2<=2*LIM) (hx1:zG w ao1 xs) (hx2:zG w ao2 ys) (hN1:qP xs) (hN2:qP ys) (hy:0<nat ys):
  Calls Tryz.prog 133 #[.slice ao1 n1 cap1,.slice ao2 n2 cap2] w (zEH w (nat xs) (nat ys)):=by
 rcases Nat.lt_or_ge (nat xs) (nat ys)with h|h
 ·exact zHN ao1 ao2 n1 cap1 n2 cap2 xs ys w hn1 hn2 hl1 hl2 hc1 hc2 hb1 hb2 hx1 hx2 hN1 hN2 hy h
 ·by_cases h2:n1<=2
  ·exact zIy ao1 ao2 n1 cap1 n2 cap2 xs ys w hn1 hn2 hl1 hl2 hc1 hc2 hb1 hb2 hx1 hx2 hN1 hN2 hy h h2
  ·by_cases h1:n2=1
   ·exact zGd ao1 ao2 n1 cap1 n2 cap2 xs ys w hn1 hn2 hl1 hl2 hc1 hc2 hb1 hb2 hx1 hx2 hN1 hN2 hy h oM h1
   ·have h0:n2≠0:=by
     rintro rfl;have:ys= []:=List.eq_nil_of_length_eq_zero hn2;subst this;simp at hy
    exact zHO ao1 ao2 n1 cap1 n2 cap2 xs ys w hn1 hn2 hl1 hl2 hc1 hc2 hb1 hx1 hx2 hN1 hN2 h oM oM
end Go.Proofs.YtgnmdddaiefooaaGreat
