/- The functions of package integer on integers. append on limbs; slices.Clone. The functions of package integer on integers, second part: Neg, Abs, Sub, Mul, own. The functions of package integer on integers, third part: Valid, Cmp, and matrix.own. -/
import Derived.Deep.RegionHeld3
import Derived.Laws.AppendOwnNone
import Derived.Deep.DeepCutAuto
import Derived.Deep.CutBlock
import Derived.Deep.Cut
import Derived.Test.YtgnmdddaiefooaaGreatR02
set_option linter.unusedVariables false
set_option linter.unusedSimpArgs false
set_option linter.unusedSectionVars false
set_option maxHeartbeats 16000000
set_option maxRecDepth 100000
namespace Go.Proofs.YtgnmdddaiefooaaGreat
open Go.RowKit
theorem zEi(n:Int)(w:World)(h1:-9223372036854775808<=n)(h2:n<=9223372036854775807):
  Calls Tryz.prog 64 #[.int .i64 n] w (zAI w n):=by
 by_cases hn:n<0
 ·have e:IntKind.u64.wrap (-IntKind.u64.wrap n)=((n.natAbs:Nat):Int):=by simp only[IntKind.wrap_u64];omega
  go_enter Tryz.func64,Tryz.ntmps64;go_wp2_with fail
  refine(zC3 n.natAbs _ oM).mono ?_;rintro e1 w1 ⟨ao,len,cap,zs,rfl,hz1,hz2,hz3,hz4,hz5,hb1⟩;have br1:=(Blk.new w 51 #[.bool false,.slice none 0 0]).below hb1;go_wp2_with fail
  refine(yP true ao len cap zs _ hz1 hz2 hz3 hz4).mono ?_;rintro e2 w2 ⟨v,rfl,hv,hb2⟩;have br2:=br1.below hb2;obtain⟨k1,k2,k3,k4⟩:=br2.two;obtain⟨vn,va,vl,vc,vx,rfl,hv2⟩:=hv;go_wp2_with fail
  refine zU rfl rfl rfl (br2.put2 _ _) ?_ (zP (zP (nx (nx ((Below.refl _ _).alloc (xgf _) _) hb1) hb2) oM 0 _) oM 1 _);refine zR.ext ?_ (br2.lext2 dE _ _);have e3:sgn true (nat zs)=n:=by rw[hz5];simp;omega
  rw[<-e3];exact⟨vn,va,vl,vc,vx,rfl,hv2⟩
 ·obtain⟨m,rfl⟩:=Int.eq_ofNat_of_zero_le (show 0<=n by omega)
  go_enter Tryz.func64,Tryz.ntmps64;go_wp2_with fail
  refine(zC3 m _ oM).mono ?_;rintro e1 w1 ⟨ao,len,cap,zs,rfl,hz1,hz2,hz3,hz4,hz5,hb1⟩;have br1:=(Blk.new w 51 #[.bool false,.slice none 0 0]).below hb1;go_wp2_with fail
  refine(yP false ao len cap zs _ hz1 hz2 hz3 hz4).mono ?_;rintro e2 w2 ⟨v,rfl,hv,hb2⟩;have br2:=br1.below hb2;obtain⟨k1,k2,k3,k4⟩:=br2.two;obtain⟨vn,va,vl,vc,vx,rfl,hv2⟩:=hv;go_wp2_with fail
  refine zU rfl rfl rfl (br2.put2 _ _) ?_ (zP (zP (nx (nx ((Below.refl _ _).alloc (xgf _) _) hb1) hb2) oM 0 _) oM 1 _);refine zR.ext ?_ (br2.lext2 dE _ _);have e3:sgn false (nat zs)=m:=by rw[hz5];simp
  rw[<-e3];exact⟨vn,va,vl,vc,vx,rfl,hv2⟩
theorem zAU{a b:Int}(h:¬ a<b):0<=qO a b:=by
 unfold qO;rw[if_neg h];split<;>omega
theorem zLK(neg:Bool)(a b:Nat):sgn neg (a+b)=sgn neg a+sgn neg b:=by cases neg<;>simp<;>omega
theorem zIh{n1 n2:Bool}(h:n1≠n2)(a b:Nat)(hl:b<=a):sgn n1 (a-b)=sgn n1 a+sgn n2 b:=by
 cases n1<;>cases n2<;>simp at h ⊢<;>omega
theorem zIi{n1 n2:Bool}(h:n1≠n2)(a b:Nat)(hl:a<=b):sgn n2 (b-a)=sgn n1 a+sgn n2 b:=by
 cases n1<;>cases n2<;>simp at h ⊢<;>omega
theorem zFg(v1 v2:Value)(z1 z2:Int)(w:World)(h1:zDw w v1 z1)(h2:zDw w v2 z2)(s1:Sm z1)(s2:Sm z2):
  Calls Tryz.prog 92 #[v1,v2] w (zAI w (z1+z2)):=by
 obtain⟨neg1,ao1,n1,cap1,xs,rfl,hn1,hl1,hc1,hx1,hN1,hz1⟩:=h1;obtain⟨neg2,ao2,n2,cap2,ys,rfl,hn2,hl2,hc2,hx2,hN2,hz2⟩:=h2;have hq1:n1<=4*LIM:=by
  have:n1<=LIM:=by rw[<-hn1];exact Sm.len (neg:=neg1) (by rw[<-hz1];exact s1) hN1
  omega
 have hq2:n2<=4*LIM:=by
  have:n2<=LIM:=by rw[<-hn2];exact Sm.len (neg:=neg2) (by rw[<-hz2];exact s2) hN2
  omega
 have hcall1:=fun W hw=>jO ao1 n1 cap1 xs W hn1 hl1 hc1 hw
 rw[<-hn1,qV hN1,hn1]at hcall1;have hcall2:=fun W hw=>jO ao2 n2 cap2 ys W hn2 hl2 hc2 hw
 rw[<-hn2,qV hN2,hn2]at hcall2;have HN1:=Lib.hid hn1;have HN2:=Lib.hid hn2;have HZ1:=Lib.hid hz1;have HZ2:=Lib.hid hz2;clear hn1 hn2 hz1 hz2 s1 s2;have Hcall1:=Lib.hid hcall1;by_cases hs:neg1=neg2
 ·subst hs
  go_enter Tryz.func92,Tryz.ntmps92;go_wp2_with fail
  refine zC ?_;intro W0 hW0;obtain⟨hB0,bx1,bx2,br,hs0⟩:=zAS hW0;have hx1':=hx1.ext (lx hB0);have hx2':=hx2.ext (lx hB0);obtain⟨c1,c2,c3,c4⟩:=bx1.two;obtain⟨d1,d2,d3,d4⟩:=bx2.two;go_quiet ((first|(go_at_call_of 111 ao1;exact Calls.quiet_of_same ((hcall1 _ (hx1'.ext (lx (drN _ _)))).mono (by rintro e w' ⟨rfl,rfl⟩;exact⟨rfl,rfl⟩)))|(go_at_call_of 111 ao2;exact Calls.quiet_of_same ((hcall2 _ (hx2'.ext (lx (drN _ _)))).mono (by rintro e w' ⟨rfl,rfl⟩;exact⟨rfl,rfl⟩)))));go_wp2_with fail
  refine zC ?_;intro W1 hW1;have hB1:Below w.heap.size w W1:=by rw[hW1.out];exact nx hB0 (drN _ _)
  have bx1':=Blk.at_ hW1 bx1;have bx2':=Blk.at_ hW1 bx2;have br':=Blk.at_ hW1 br;have lx1:=lx (nx hB1 (dr W1));clear c1 c2 c3 c4 d1 d2 d3 d4;obtain⟨c1,c2,c3,c4⟩:=bx1'.two;obtain⟨d1,d2,d3,d4⟩:=bx2'.two;go_region_held3 (fun w'=>w'.cell? ⟨w.heap.size,0,none⟩=some (.bool neg1))
   ((((try go_split_ands);(repeat' apply And.intro))<;>first|exact yF (by assumption)|exact qC (by assumption) hb1|exact qC (by assumption) hb2|exact jV (jV (by assumption) oM) oM))
   (first
    |((go_at_call 131;refine(zIc ao1 ao2 n1 n1 n2 n2 xs ys _ HN1.out HN2.out (xgf _) (xgf _) oM oM hq1 hq2 (hx1.ext lx1) (hx2.ext lx1)).mono ?_;rintro e w1 ⟨ao,len,cap,zs,rfl,hz1,hz2,hz3,hz4,hz5,hb1⟩;have br1:=br'.drew.below hb1))
    |((go_at_call 107;refine(yP neg1 ao len cap zs _ hz1 hz2 hz3 hz4).mono ?_;rintro e w2 ⟨v,rfl,hv,hb2⟩;have br2:=br1.below hb2;obtain⟨e1,e2,e3,e4⟩:=br2.two;obtain⟨vn,va,vl,vc,vx,rfl,hv2⟩:=hv)))
  go_wp2_with fail
  refine zU rfl rfl rfl (br2.put2 _ _) ?_ (zP (zP (nx (nx (nx hB1 (dr W1)) hb1) hb2) oM 0 _) oM 1 _);refine zR.ext ?_ (br2.lext2 dE _ _);rw[hz5]at hv2;rw[HZ1.out,HZ2.out,<-zLK];exact⟨vn,va,vl,vc,vx,rfl,hv2⟩
 ·have hs':(neg1==neg2)=false:=by simpa using hs
  have Hs:=Lib.hid hs;clear hs;by_cases hlt:nat xs<nat ys
  ·have hcmp:=fun W h1 h2=>zAC ao1 ao2 n1 n1 n2 n2 xs ys W HN1.out HN2.out (xgf _) (xgf _) oM oM h1 h2 hN1 hN2
   rw[yE oM]at hcmp;go_enter Tryz.func92,Tryz.ntmps92;go_wp2_with fail
   refine zC ?_;intro W0 hW0;obtain⟨hB0,bx1,bx2,br,hs0⟩:=zAS hW0;have hx1':=hx1.ext (lx hB0);have hx2':=hx2.ext (lx hB0);obtain⟨c1,c2,c3,c4⟩:=bx1.two;obtain⟨d1,d2,d3,d4⟩:=bx2.two;go_quiet ((first|(go_at_call_of 111 ao1;exact Calls.quiet_of_same ((hcall1 _ (hx1'.ext (lx (drN _ _)))).mono (by rintro e w' ⟨rfl,rfl⟩;exact⟨rfl,rfl⟩)))|(go_at_call_of 111 ao2;exact Calls.quiet_of_same ((hcall2 _ (hx2'.ext (lx (drN _ _)))).mono (by rintro e w' ⟨rfl,rfl⟩;exact⟨rfl,rfl⟩)))));have hx1'':=hx1'.ext (lx (drN W0 nq));have hx2'':=hx2'.ext (lx (drN W0 nq));go_wp2_with (go_at_call 110;refine(hcmp _ hx1'' hx2'').mono ?_;rintro e w' ⟨rfl,q,rfl⟩)
   refine zC ?_;intro W1 hW1;have hB1:Below w.heap.size w W1:=by rw[hW1.out];exact nx hB0 (drN _ _)
   have bx1':=Blk.at_ hW1 bx1;have bx2':=Blk.at_ hW1 bx2;have br':=Blk.at_ hW1 br;have lx1:=lx (nx hB1 (dr W1));clear c1 c2 c3 c4 d1 d2 d3 d4;obtain⟨c1,c2,c3,c4⟩:=bx1'.two;obtain⟨d1,d2,d3,d4⟩:=bx2'.two;go_region_held3 (fun w'=>w'.cell? ⟨(w.heap.size+1),0,none⟩=some (.bool neg2))
    ((((try go_split_ands);(repeat' apply And.intro))<;>first|exact yF (by assumption)|exact qC (by assumption) hb1|exact qC (by assumption) hb2|exact jV (jV (by assumption) oM) oM))
    (first
     |((go_at_call 132;refine(zEe ao2 ao1 n2 n2 n1 n1 ys xs _ HN2.out HN1.out (xgf _) (xgf _) oM oM hq2 (hx2.ext lx1) (hx1.ext lx1) (by rw[<-HN1.out,<-HN2.out];exact zAF hx2.1 hN1 oM) oM).mono ?_;rintro e w1 ⟨ao,len,cap,zs,rfl,hz1,hz2,hz3,hz4,hz5,hb1⟩;have br1:=br'.drew.below hb1))
     |((go_at_call 107;refine(yP neg2 ao len cap zs _ hz1 hz2 hz3 hz4).mono ?_;rintro e w2 ⟨v,rfl,hv,hb2⟩;have br2:=br1.below hb2;obtain⟨e1,e2,e3,e4⟩:=br2.two;obtain⟨vn,va,vl,vc,vx,rfl,hv2⟩:=hv)))
   go_wp2_with fail
   refine zU rfl rfl rfl (br2.put2 _ _) ?_ (zP (zP (nx (nx (nx hB1 (dr W1)) hb1) hb2) oM 0 _) oM 1 _);refine zR.ext ?_ (br2.lext2 dE _ _);rw[hz5]at hv2;rw[HZ1.out,HZ2.out,<-zIi Hs.out _ _ oM];exact⟨vn,va,vl,vc,vx,rfl,hv2⟩
  ·have hcmp:=fun W h1 h2=>zAC ao1 ao2 n1 n1 n2 n2 xs ys W HN1.out HN2.out (xgf _) (xgf _) oM oM h1 h2 hN1 hN2
   obtain⟨cc,hcc,hcc0⟩:∃cc:Int,qO (nat xs) (nat ys)=cc/\0<=cc:=⟨_,rfl,zAU oM⟩;rw[hcc]at hcmp;clear hcc;go_enter Tryz.func92,Tryz.ntmps92;go_wp2_with fail
   refine zC ?_;intro W0 hW0;obtain⟨hB0,bx1,bx2,br,hs0⟩:=zAS hW0;have hx1':=hx1.ext (lx hB0);have hx2':=hx2.ext (lx hB0);obtain⟨c1,c2,c3,c4⟩:=bx1.two;obtain⟨d1,d2,d3,d4⟩:=bx2.two;go_quiet ((first|(go_at_call_of 111 ao1;exact Calls.quiet_of_same ((hcall1 _ (hx1'.ext (lx (drN _ _)))).mono (by rintro e w' ⟨rfl,rfl⟩;exact⟨rfl,rfl⟩)))|(go_at_call_of 111 ao2;exact Calls.quiet_of_same ((hcall2 _ (hx2'.ext (lx (drN _ _)))).mono (by rintro e w' ⟨rfl,rfl⟩;exact⟨rfl,rfl⟩)))));have hx1'':=hx1'.ext (lx (drN W0 nq));have hx2'':=hx2'.ext (lx (drN W0 nq));go_wp2_with (go_at_call 110;refine(hcmp _ hx1'' hx2'').mono ?_;rintro e w' ⟨rfl,q,rfl⟩)
   refine zC ?_;intro W1 hW1;have hB1:Below w.heap.size w W1:=by rw[hW1.out];exact nx hB0 (drN _ _)
   have bx1':=Blk.at_ hW1 bx1;have bx2':=Blk.at_ hW1 bx2;have br':=Blk.at_ hW1 br;have lx1:=lx (nx hB1 (dr W1));clear c1 c2 c3 c4 d1 d2 d3 d4;obtain⟨c1,c2,c3,c4⟩:=bx1'.two;obtain⟨d1,d2,d3,d4⟩:=bx2'.two;go_region_held3 (fun w'=>w'.cell? ⟨w.heap.size,0,none⟩=some (.bool neg1))
    ((((try go_split_ands);(repeat' apply And.intro))<;>first|exact yF (by assumption)|exact qC (by assumption) hb1|exact qC (by assumption) hb2|exact jV (jV (by assumption) oM) oM))
    (first
     |((go_at_call 132;refine(zEe ao1 ao2 n1 n1 n2 n2 xs ys _ HN1.out HN2.out (xgf _) (xgf _) oM oM hq1 (hx1.ext lx1) (hx2.ext lx1) (by rw[<-HN1.out,<-HN2.out];exact zAF hx1.1 hN2 oM) oM).mono ?_;rintro e w1 ⟨ao,len,cap,zs,rfl,hz1,hz2,hz3,hz4,hz5,hb1⟩;have br1:=br'.drew.below hb1))
     |((go_at_call 107;refine(yP neg1 ao len cap zs _ hz1 hz2 hz3 hz4).mono ?_;rintro e w2 ⟨v,rfl,hv,hb2⟩;have br2:=br1.below hb2;obtain⟨e1,e2,e3,e4⟩:=br2.two;obtain⟨vn,va,vl,vc,vx,rfl,hv2⟩:=hv)))
   go_wp2_with fail
   refine zU rfl rfl rfl (br2.put2 _ _) ?_ (zP (zP (nx (nx (nx hB1 (dr W1)) hb1) hb2) oM 0 _) oM 1 _);refine zR.ext ?_ (br2.lext2 dE _ _);rw[hz5]at hv2;rw[HZ1.out,HZ2.out,<-zIh Hs.out _ _ oM];exact⟨vn,va,vl,vc,vx,rfl,hv2⟩
def zDG(w:World)(base:Nat)(v:Value)(xs:List Nat):Prop:=qN xs/\w.ownsRow base tU 1 v xs.length (xs.map fun n=>Value.int .u32 (n:Nat))
theorem zDG.at_{w:World}{base:Nat}{v:Value}{xs:List Nat}(h:zDG w base v xs):
  ∃ao cap,v= .slice ao xs.length cap/\xs.length<=cap/\cap<=9223372036854775807/\zG w ao xs:=by
 obtain⟨hl,h1,h2⟩:=h;rcases h2 with⟨rfl,h0⟩|⟨g,cap,cur,rfl,hg,hh,hn,hc,hs,ht⟩
 ·have:xs= []:=List.eq_nil_of_length_eq_zero h0
  subst this;exact⟨none,0,rfl,by simp,by omega,zG.nil _ _⟩
 ·refine⟨some ⟨g,0,none⟩,cap,rfl,hn,hc,hl,fun _=>⟨g,0,cur,_,rfl,hh,fun k x hk=>?_⟩⟩
  have hk':(xs.map fun n=>Value.int .u32 (n:Nat))[k]?=some (.int .u32 (x:Nat)):=by simp[hk]
  rw[<-ht,List.getElem?_take]at hk';split at hk'
  ·simpa using hk'
  ·cases hk'
theorem zDG.nil(w:World)(base:Nat):zDG w base (.slice none 0 0) []:=⟨qN.nil,World.ownsRow_nil _ _ _ _⟩
theorem zDG.empty(w:World)(base:Nat)(h:base<=w.heap.size):zDG (w.alloc (.cells #[] tU)) base (.slice (some ⟨w.heap.size,0,none⟩) 0 0) []:=
 ⟨qN.nil,by simp,.inr ⟨w.heap.size,0,#[],rfl,h,heap_alloc_new w _,xgf _,by simp[maxLen],rfl,rfl⟩⟩
theorem zDG.alloc{w:World}{base:Nat}{v:Value}{xs:List Nat}(h:zDG w base v xs)(o:Obj):zDG (w.alloc o) base v xs:=⟨h.1,h.2.alloc o⟩
theorem zDG.keep{w w':World}{base:Nat}{v:Value}{xs:List Nat}(h:zDG w base v xs)(hb:Below w.heap.size w w'):zDG w' base v xs:=
 ⟨h.1,h.2.kept (row:=none) ⟨hb.os,hb.tape,hb.output,hb.size,fun k hk _=>hb.block k hk⟩ (by cases hv:v.ownBlock<;>simp)⟩
theorem zDC{P:Program}{w:World}(base:Nat)(t ty e:TypeId)(i:TypeInfo)(size:Nat)(ht:P.underlying t=some (.slice e))(hi:P.info? e=some i)
  (v:Value) (n:Nat) (xs:List Value) (hown:w.ownsRow base e size v n xs) (c:Nat):(Builtin.append_ #[t,t] ty #[v,.slice none 0 c]).run P w= .ok v w:=by
 rcases hown.2 with⟨rfl,rfl⟩|⟨g,cap,cur,rfl,_,_,hnc,_⟩
 ·simp[Builtin.append_,run_underlying ht,sizeOf,typeInfo,hi,Builtin.lenOf,Builtin.firstCells]
 ·simp[Builtin.append_,run_underlying ht,sizeOf,typeInfo,hi,Builtin.lenOf,Builtin.firstCells,hnc,storeCells]
theorem zH8{w:World}{ops:Array Oper}{rest:List Oper}{o:Oper}{a:Act}{Q:Exit->Act->World->Prop}(hgd:o.guard=none)(s x:Operand)
  (ho:o.op= .call {callee:=.builtin .append,args:=#[s,x],argTypes:=#[49,49]})
  (base:Nat) (v:Value) (xs:List Nat) (hs:a.eval s=v) (hown:zDG w base v xs) (ao:Option Addr) (m c:Nat) (ys:List Nat) (hx:a.eval x= .slice ao m c) (hy:zG w ao ys) (hm:ys.length=m)
  (hlen:xs.length+m<=35184372088832) (hbase:base<=w.heap.size)
  (h:∀v' w',zDG w' base v' (xs++ys)->w.grownBy w' v.ownBlock->wpList Tryz.prog ops Q rest (a.put o.dst v') w'):wpList Tryz.prog ops Q (o::rest) a w:=by
 obtain⟨i0,hi,hz0,hz1,hz2⟩:=info_parts Tryz.infoU;cases ao with
 | none=>
  have hy0:ys= []:=by
   by_cases h0:ys= []
   ·exact h0
   ·obtain⟨_,_,_,_,h1,_⟩:=hy.2 h0
    cases h1
  subst hy0;simp at hm;subst hm;refine wpList_plain hgd fun K hK=>?_
  have hrun:=zDC (P:=Tryz.prog) (w:=w) base 49 o.type tU i0 1 Tryz.underlying49 hi v xs.length _ hown.2 c;unfold Oper.wp;simp only[execOp,ho,resolve,invoke,builtin,Sem.run_bind,Sem.run_pure,Result.andThen_ok,List.map_toArray,List.map_cons,List.map_nil,hs,hx,hrun];exact hK _ _ (h v w (by simpa using hown) (World.grownBy.refl w _))
 | some ad=>
  refine wpList_append_own w hgd s x 49 ho base tU i0 _ 1 4 Tryz.underlying49 hi hz0 hz1 hz2 rfl oM v xs.length _ hs hown.2 ad m c (ys.map fun n=>Value.int .u32 (n:Nat)) hx (by simp[hm]) ?_ ?_ (by simp[maxLen];omega) oM hbase ?_
  ·intro j u hj
   simp only[List.getElem?_map,Option.map_eq_some_iff]at hj;obtain⟨x',hj,rfl⟩:=hj;obtain⟨b,off,cs,fz,h1,h2,h3⟩:=hy.2 (by rintro rfl;simp at hj);injection h1 with h1
   subst h1;rw[Addr.add_lit,cell_of_row w b (off+j) cs tU fz h2];exact h3 j x' hj
  ·intro u hu
   simp only[List.mem_map]at hu;obtain⟨x',_,rfl⟩:=hu;rfl
  ·intro v' w' h1 h2 _
   refine h v' w' ⟨hown.1.append hy.1,?_⟩ h2;simpa[hm]using h1
def zNL(w:World)(xs:List Nat)(e:Ending)(w':World):Prop:=
 ∃ao len cap,e= .returned (.slice ao len cap)/\xs.length=len/\len<=cap/\cap<=9223372036854775807/\zG w' ao xs/\Below w.heap.size w w'
theorem zB5(ao:Option Addr)(n cap:Nat)(xs:List Nat)(w:World)(hn:xs.length=n)(hb:n<=4*LIM)(hx:zG w ao xs):
  Calls Tryz.prog 135 #[.slice ao n cap] w (zNL w xs):=by
 have heq:=fun W=>Lib.run_eql_slice_nil (P:=Tryz.prog) W 49 tU ao n cap 0 0 Tryz.underlying49
 rw[yA]at hb;cases ao with
 | none=>
  have hy0:xs= []:=by
   by_cases h0:xs= []
   ·exact h0
   ·obtain⟨_,_,_,_,h1,_⟩:=hx.2 h0
    cases h1
  subst hy0;clear hn;go_enter Tryz.func135,Tryz.ntmps135;go_wp2;go_ret;exact⟨none,0,0,rfl,rfl,by omega,by omega,zG.nil _ _,Below.refl _ _⟩
 |some ad=>
  have HN:=Lib.hid hn;clear hn;go_enter Tryz.func135,Tryz.ntmps135;go_wp2_with (at_builtin;refine zH8 rfl _ _ rfl w.heap.size (.slice (some ⟨w.heap.size,0,none⟩) 0 0) [] rfl (zDG.empty w _ (xgf _)) (some ad) n cap xs rfl (hx.ext (lx ((Below.refl _ _).alloc (xgf _) _))) HN.out (by simp;omega) sI ?_;intro v' w' hown hgr)
  have hB:Below w.heap.size w w':=((Below.refl _ _).alloc (xgf _) _).grown hgr sI (fun k hk=>by simp[Value.ownBlock]at hk;omega);go_ret;obtain⟨ao',cap',hv,h1,h2,h3⟩:=hown.at_;exact⟨ao',_,cap',by rw[hv];rfl,rfl,h1,h2,h3,hB⟩
theorem zDw.len{w:World}{v:Value}{z:Int}(h:zDw w v z)(s:Sm z):
  ∃neg ao n cap xs,v= .agg #[.bool neg,.slice ao n cap]/\xs.length=n/\n<=cap/\cap<=9223372036854775807/\zG w ao xs/\qP xs/\z=sgn neg (nat xs)/\n<=LIM:=by
 obtain⟨neg,ao,n,cap,xs,h1,h2,h3,h4,h5,h6,h7⟩:=h;exact⟨neg,ao,n,cap,xs,h1,h2,h3,h4,h5,h6,h7,by rw[<-h2];exact Sm.len (neg:=neg) (by rw[<-h7];exact s) h6⟩
theorem zF6(b:Bool)(n:Nat):sgn (!b) n=-sgn b n:=by cases b<;>simp
theorem jR(v1:Value)(z:Int)(w:World)(h1:zDw w v1 z)(s1:Sm z):Calls Tryz.prog 95 #[v1] w (zAI w (-z)):=by
 obtain⟨neg,ao,n,cap,xs,rfl,hn,hl,hc,hx,hN,hz,hq⟩:=h1.len s1;have HN:=Lib.hid hn;have HZ:=Lib.hid hz;clear hn hz s1 h1;have hq':n<=4*LIM:=by omega
 go_enter Tryz.func95,Tryz.ntmps95;go_upto_region 1 with(fail)
 refine zC ?_;intro W0 hW0;obtain⟨hB0,bx1,br,hs0⟩:=qK hW0;obtain⟨c1,c2,c3,c4⟩:=bx1.two;obtain⟨d1,d2,d3,d4⟩:=br.two;have lx1:=lx (nx hB0 (dr W0));go_region_held3 (fun w'=>w'.cell? ⟨w.heap.size,0,none⟩=some (.bool neg)/\w'.cell? ⟨w.heap.size,1,none⟩=some (.slice ao n cap))
  ((((try go_split_ands);(repeat' apply And.intro))<;>first|exact yF (by assumption)|exact qC (by assumption) hb1|exact qC (by assumption) hb2|exact jV (jV (by assumption) oM) oM))
  (first
   |((go_at_call 135;refine(zB5 ao n cap xs _ HN.out hq' (hx.ext lx1)).mono ?_;rintro e w1 ⟨ao',len,cap',rfl,hz1,hz2,hz3,hz4,hb1⟩;have br1:=br.drew.below hb1))
   |((go_at_call 107;refine(yP (!neg) ao' len cap' xs _ hz1 hz2 hz3 hz4).mono ?_;rintro e w2 ⟨v,rfl,hv,hb2⟩;have br2:=br1.below hb2;obtain⟨e1,e2,e3,e4⟩:=br2.two;obtain⟨vn,va,vl,vc,vx,rfl,hv2⟩:=hv)))
 go_wp2_with fail
 refine zU rfl rfl rfl (br2.put2 _ _) ?_ (zP (zP (nx (nx (nx hB0 (dr W0)) hb1) hb2) oM 0 _) oM 1 _);refine zR.ext ?_ (br2.lext2 dE _ _);rw[HZ.out,<-zF6];exact⟨vn,va,vl,vc,vx,rfl,hv2⟩
theorem zJu(v1:Value)(z:Int)(w:World)(h1:zDw w v1 z)(s1:Sm z):Calls Tryz.prog 164 #[v1] w (zAI w (z.natAbs:Nat)):=by
 obtain⟨neg,ao,n,cap,xs,rfl,hn,hl,hc,hx,hN,hz,hq⟩:=h1.len s1;have HN:=Lib.hid hn;have HZ:=Lib.hid hz;clear hn hz s1 h1;have hq':n<=4*LIM:=by omega
 go_enter Tryz.func164,Tryz.ntmps164;go_upto_region 1 with(fail)
 refine zC ?_;intro W0 hW0;obtain⟨hB0,bx1,br,hs0⟩:=qK hW0;obtain⟨c1,c2,c3,c4⟩:=bx1.two;obtain⟨d1,d2,d3,d4⟩:=br.two;have lx1:=lx hB0;go_wp2_with fail
 refine(zB5 ao n cap xs _ HN.out hq' (hx.ext lx1)).mono ?_;rintro e w1 ⟨ao',len,cap',rfl,hz1,hz2,hz3,hz4,hb1⟩;have br1:=br.below hb1;go_wp2_with fail
 refine(yP false ao' len cap' xs _ hz1 hz2 hz3 hz4).mono ?_;rintro e w2 ⟨v,rfl,hv,hb2⟩;have br2:=br1.below hb2;obtain⟨e1,e2,e3,e4⟩:=br2.two;obtain⟨vn,va,vl,vc,vx,rfl,hv2⟩:=hv;go_wp2_with fail
 refine zU rfl rfl rfl (br2.put2 _ _) ?_ (zP (zP (nx (nx hB0 hb1) hb2) oM 0 _) oM 1 _);refine zR.ext ?_ (br2.lext2 dE _ _);rw[show((z.natAbs:Nat):Int)=sgn false (nat xs) by rw[HZ.out,qD];rfl];exact⟨vn,va,vl,vc,vx,rfl,hv2⟩
theorem zLP(v1 v2:Value)(z1 z2:Int)(w:World)(h1:zDw w v1 z1)(h2:zDw w v2 z2)(s1:Sm z1)(s2:Sm z2):Calls Tryz.prog 165 #[v1,v2] w (zAI w (z1-z2)):=by
 have h1':=h1;have H2:=Lib.hid h2;obtain⟨neg1,ao1,n1,cap1,xs,rfl,_⟩:=h1;obtain⟨neg2,ao2,n2,cap2,ys,rfl,hn2,hl2,hc2,hx2,hN2,hz2⟩:=h2;have hcall:∀W,yI w W->Calls Tryz.prog 92 #[.agg #[.bool neg1,.slice ao1 n1 cap1],.agg #[.bool (!neg2),.slice ao2 n2 cap2]] W (zAI W (z1+-z2)):=fun W e=>
  zFg _ _ _ _ W (h1'.ext e) ⟨!neg2,ao2,n2,cap2,ys,rfl,hn2,hl2,hc2,hx2.ext e,hN2,by rw[hz2,zF6]⟩ s1 (by unfold Sm at s2 ⊢;rwa[Int.natAbs_neg])
 clear hn2 hz2 s1 s2 H2;go_enter Tryz.func165,Tryz.ntmps165;go_upto_region 1 with(fail)
 refine zC ?_;intro W0 hW0;obtain⟨hB0,bx1,bx2,br,hs0⟩:=zAS hW0;obtain⟨c1,c2,c3,c4⟩:=bx1.two;obtain⟨d1,d2,d3,d4⟩:=bx2.two;obtain⟨r1,r2,r3,r4⟩:=br.two;go_wp2_with fail
 refine(hcall _ (lx hB0)).mono ?_;rintro e w2 ⟨v,rfl,hv,hb2⟩;have br2:=br.below hb2;obtain⟨e1,e2,e3,e4⟩:=br2.two;obtain⟨vn,va,vl,vc,vx,rfl,hv2⟩:=hv;go_wp2_with fail
 refine zU rfl rfl rfl (br2.put2 _ _) ?_ (zP (zP (nx hB0 hb2) oM 0 _) oM 1 _);refine zR.ext ?_ (br2.lext2 dE _ _);rw[show z1-z2=z1+-z2 from Int.sub_eq_add_neg];exact⟨vn,va,vl,vc,vx,rfl,hv2⟩
theorem zLL(a b:Bool)(m n:Nat):sgn (a !=b) (m*n)=sgn a m*sgn b n:=by
 cases a<;>cases b<;>simp[Int.neg_mul,Int.mul_neg]
theorem zBw(v1 v2:Value)(z1 z2:Int)(w:World)(h1:zDw w v1 z1)(h2:zDw w v2 z2)(s1:Sm z1)(s2:Sm z2):Calls Tryz.prog 134 #[v1,v2] w (zAI w (z1*z2)):=by
 obtain⟨neg1,ao1,n1,cap1,xs,rfl,hn1,hl1,hc1,hx1,hN1,hz1,hq1⟩:=h1.len s1;obtain⟨neg2,ao2,n2,cap2,ys,rfl,hn2,hl2,hc2,hx2,hN2,hz2,hq2⟩:=h2.len s2;have hcall1:=fun W hw=>jO ao1 n1 cap1 xs W hn1 hl1 hc1 hw
 rw[<-hn1,qV hN1,hn1]at hcall1;have hcall2:=fun W hw=>jO ao2 n2 cap2 ys W hn2 hl2 hc2 hw
 rw[<-hn2,qV hN2,hn2]at hcall2;have HN1:=Lib.hid hn1;have HN2:=Lib.hid hn2;have HZ1:=Lib.hid hz1;have HZ2:=Lib.hid hz2;clear hn1 hn2 hz1 hz2 s1 s2 h1 h2;go_enter Tryz.func134,Tryz.ntmps134;go_upto_region 1 with(fail)
 refine zC ?_;intro W0 hW0;obtain⟨hB0,bx1,bx2,br,hs0⟩:=zAS hW0;obtain⟨c1,c2,c3,c4⟩:=bx1.two;obtain⟨d1,d2,d3,d4⟩:=bx2.two;obtain⟨r1,r2,r3,r4⟩:=br.two;have hxd1:=hx1.ext (lx (nx hB0 (dr W0)));have hxd2:=hx2.ext (lx (nx hB0 (dr W0)));go_region_held3 (fun w'=>w'.cell? ⟨w.heap.size,0,none⟩=some (.bool neg1)/\w'.cell? ⟨w.heap.size,1,none⟩=some (.slice ao1 n1 cap1)/\w'.cell? ⟨w.heap.size+1,0,none⟩=some (.bool neg2)/\w'.cell? ⟨w.heap.size+1,1,none⟩=some (.slice ao2 n2 cap2))
  ((((try go_split_ands);(repeat' apply And.intro))<;>first|exact yF (by assumption)|exact qC (by assumption) hb1|exact qC (by assumption) hb2|assumption|exact jV (jV (by assumption) oM) oM))
  (first
   |(go_at_call_of 111 ao1;refine(hcall1 _ hxd1).mono ?_;rintro e w' ⟨rfl,rfl⟩)
   |(go_at_call_of 111 ao2;refine(hcall2 _ hxd2).mono ?_;rintro e w' ⟨rfl,rfl⟩)
   |(go_at_call 155;refine(zLY ao1 ao2 n1 n1 n2 n2 xs ys _ HN1.out HN2.out oM oM hxd1 hxd2).mono ?_;rintro e w1 ⟨ao',len,cap',zs,rfl,hz1,hz2,hz3,hz4,hz5,hb1⟩;have br1:=br.drew.below hb1)
   |(go_at_call 107;refine(yP (neg1 !=neg2) ao' len cap' zs _ hz1 hz2 hz3 hz4).mono ?_;rintro e w2 ⟨v,rfl,hv,hb2⟩;have br2:=br1.below hb2;obtain⟨e1,e2,e3,e4⟩:=br2.two;obtain⟨vn,va,vl,vc,vx,rfl,hv2⟩:=hv))
 go_wp2_with fail
 refine zU rfl rfl rfl (br2.put2 _ _) ?_ (zP (zP (nx (nx (nx hB0 (dr W0)) hb1) hb2) oM 0 _) oM 1 _);refine zR.ext ?_ (br2.lext2 dE _ _);rw[HZ1.out,HZ2.out,<-zLL,<-hz5];exact⟨vn,va,vl,vc,vx,rfl,hv2⟩
theorem zN8(v1:Value)(z:Int)(w:World)(h1:zR w v1 z)(s1:Sm z):Calls Tryz.prog 113 #[v1] w (zAI w z):=by
  obtain⟨neg,ao,n,cap,xs,rfl,hn,hl,hc,hx,hN,hz,hpos⟩:=h1;have hq:n<=LIM:=by rw[<-hn];exact Sm.len (neg:=neg) (by rw[<-hz];exact s1) hN
  have HN:=Lib.hid hn;have HZ:=Lib.hid hz;have HP:=Lib.hid hpos;clear hn hz s1 hpos;have hq':n<=4*LIM:=by omega
  go_enter Tryz.func113,Tryz.ntmps113;go_upto_region 1 with(fail)
  refine zC ?_;intro W0 hW0;obtain⟨hB0,bx1,br,hs0⟩:=qK hW0;obtain⟨c1,c2,c3,c4⟩:=bx1.two;obtain⟨d1,d2,d3,d4⟩:=br.two;have lx1:=lx (nx hB0 (dr W0));go_region_held3 (fun w'=>w'.cell? ⟨w.heap.size,0,none⟩=some (.bool neg)/\w'.cell? ⟨w.heap.size,1,none⟩=some (.slice ao n cap))
    ((((try go_split_ands);(repeat' apply And.intro))<;>first|exact yF (by assumption)|exact qC (by assumption) hb1|exact qC (by assumption) hb1|exact jV (jV (by assumption) oM) oM))
    (first
      |((go_at_call 135;refine(zB5 ao n cap xs _ HN.out hq' (hx.ext lx1)).mono ?_;rintro e w1 ⟨ao',len,cap',rfl,hz1,hz2,hz3,hz4,hb1⟩;have br1:=br.drew.below hb1;obtain⟨e1,e2,e3,e4⟩:=br1.two))
      |(fail))
  go_wp2_with fail
  refine zU rfl rfl rfl (br1.put2 _ _) ?_ (zP (zP (nx (nx hB0 (dr W0)) hb1) oM 0 _) oM 1 _);refine zR.ext ?_ (br1.lext2 dE _ _);exact⟨neg,ao',len,cap',xs,rfl,hz1,hz2,hz3,hz4,hN,HZ.out,fun h=>HP.out (by rw[<-HN.out,hz1,h])⟩
theorem zLe(v1:Value)(z:Int)(w:World)(h1:zR w v1 z):Calls Tryz.prog 105 #[v1] w fun e w'=>e= .returned (.bool true)/\Below w.heap.size w w':=by
  obtain⟨neg,ao,n,cap,xs,rfl,hn,hl,hc,hx,hN,hz,hpos⟩:=h1;have HN:=Lib.hid hn;clear hz;cases n with
  | zero=>
    obtain rfl:=hpos rfl;clear hn;go_enter Tryz.func105,Tryz.ntmps105;go_wp2;go_ret;exact⟨rfl,(Below.refl _ _).alloc (xgf _) _⟩
  | succ n=>
    obtain⟨b,off,x,rfl,hbw,hx32,HX,hck⟩:=hx.limb (k:=n) oM;have hx0:((x:Int) !=0)=true:=by
      have:=hN n hn;rw[HX.out]at this;simpa using this
    clear hn hpos;go_enter Tryz.func105,Tryz.ntmps105;go_wp2;go_ret;exact⟨rfl,(Below.refl _ _).alloc (xgf _) _⟩
theorem zFh(a b:Int):-1<=qO a b/\qO a b<=1:=by
  unfold qO;by_cases h1:a<b
  · rw[if_pos h1];omega
  · rw[if_neg h1];by_cases h2:b<a
    · rw[if_pos h2];omega
    · rw[if_neg h2];omega
theorem zCr{a b:Int}:(qO a b=-1->a<b)/\(qO a b=0->a=b)/\(qO a b=1->b<a):=by
  rcases Int.lt_trichotomy a b with h|h|h
  · rw[yE h];omega
  · rw[jC h];omega
  · rw[yV h];omega
theorem zGX{a b:Int}(h:qO a 0≠qO b 0):qO (qO a 0) (qO b 0)=qO a b:=by
  rcases Int.lt_trichotomy a 0 with ha|ha|ha<;>rcases Int.lt_trichotomy b 0 with hb|hb|hb
  all_goals first
    |(exfalso;apply h;first|rw[yE ha,yE hb]|rw[jC ha,jC hb]|rw[yV ha,yV hb];done)
    | (first|rw[yE ha]|rw[jC ha]|rw[yV ha]
       first|rw[yE hb]|rw[jC hb]|rw[yV hb]
       first|(rw[yE (show a<b by omega)];rfl)|(rw[yV (show b<a by omega)];rfl))
theorem zGW{a b:Int}(h:qO a 0=qO b 0):qO a 0*qO (a.natAbs:Nat) (b.natAbs:Nat)=qO a b:=by
  rcases Int.lt_trichotomy a 0 with ha|ha|ha
  · rw[yE ha]at h ⊢
    have hb:b<0:=zCr.1 h.symm;rcases Int.lt_trichotomy a b with h1|h1|h1
    · rw[yE h1,yV oM];rfl
    · rw[jC h1,jC oM];rfl
    · rw[yV h1,yE oM];rfl
  · rw[jC ha]at h ⊢
    have hb:b=0:=zCr.2.1 h.symm;rw[Int.zero_mul,jC (show a=b by omega)]
  · rw[yV ha]at h ⊢
    have hb:0<b:=zCr.2.2 h.symm;rw[Int.one_mul];rcases Int.lt_trichotomy a b with h1|h1|h1
    · rw[yE h1,yE oM]
    · rw[jC h1,jC oM]
    · rw[yV h1,yV oM]
theorem zKR(n:Int)(h1:-1<=n)(h2:n<=1):IntKind.i64.wrap n=n:=IntWalk.i64_in n ⟨by omega,by omega⟩
theorem zJ0(v1 v2:Value)(z1 z2:Int)(w:World)(h1:zDw w v1 z1)(h2:zDw w v2 z2):Calls Tryz.prog 65 #[v1,v2] w fun e w'=>e= .returned (.int .i64 (qO z1 z2))/\Below w.heap.size w w':=by
  have H1:=Lib.hid h1;have H2:=Lib.hid h2;obtain⟨neg1,ao1,n1,cap1,xs,rfl,hn1,hl1,hc1,hx1,hN1,hz1⟩:=h1;obtain⟨neg2,ao2,n2,cap2,ys,rfl,hn2,hl2,hc2,hx2,hN2,hz2⟩:=h2;have hcall1:=fun W hw=>jO ao1 n1 cap1 xs W hn1 hl1 hc1 hw
  rw[<-hn1,qV hN1,hn1]at hcall1;have hcall2:=fun W hw=>jO ao2 n2 cap2 ys W hn2 hl2 hc2 hw
  rw[<-hn2,qV hN2,hn2]at hcall2;obtain⟨s,hs⟩:∃s,qO z1 0=s:=⟨_,rfl⟩;obtain⟨t,ht⟩:∃t,qO z2 0=t:=⟨_,rfl⟩;obtain⟨c,hc⟩:∃c,qO (nat xs) (nat ys)=c:=⟨_,rfl⟩;have hsb:=zFh z1 0;have htb:=zFh z2 0;have hcb:=zFh (nat xs) (nat ys);have hsg1:=fun W hw=>jE (.agg #[.bool neg1,.slice ao1 n1 cap1]) z1 W hw
  have hsg2:=fun W hw=>jE (.agg #[.bool neg2,.slice ao2 n2 cap2]) z2 W hw
  have hcmp:=fun W h1 h2=>zAC ao1 ao2 n1 n1 n2 n2 xs ys W hn1 hn2 (xgf _) (xgf _) oM oM h1 h2 hN1 hN2
  rw[hs]at hsg1 hsb;rw[ht]at hsg2 htb;rw[hc]at hcmp hcb;have hres:Hid ((s≠t->qO s t=qO z1 z2)/\(s=t->s*c=qO z1 z2)):=by
    subst hs;subst ht;subst hc;refine⟨fun h=>zGX h,fun h=>?_⟩;have:=zGW h;rw[hz1,hz2,qD,qD]at this;rw[hz1,hz2];exact this
  clear hn1 hn2 hz1 hz2 hs ht hc;go_enter Tryz.func65,Tryz.ntmps65;go_upto_region 1 with(fail)
  refine zC ?_;intro W0 hW0;obtain⟨hB0,bx1,bx2,hs0⟩:=qK hW0;obtain⟨c1,c2,c3,c4⟩:=bx1.two;obtain⟨d1,d2,d3,d4⟩:=bx2.two;have lx1:=lx (nx hB0 (dr W0));go_region_held3 (fun w'=>w'.cell? ⟨w.heap.size,0,none⟩=some (.bool neg1)/\w'.cell? ⟨w.heap.size,1,none⟩=some (.slice ao1 n1 cap1)/\w'.cell? ⟨w.heap.size+1,0,none⟩=some (.bool neg2)/\w'.cell? ⟨w.heap.size+1,1,none⟩=some (.slice ao2 n2 cap2))
    ((((try go_split_ands);(repeat' apply And.intro))<;>first|exact yF (by assumption)|exact qC (by assumption) hb1|exact qC (by assumption) hb2|assumption))
    (first
      |(go_at_call_of 103 ao1;refine(hsg1 _ (H1.out.ext lx1)).mono ?_;rintro e w1 ⟨rfl,hb1⟩)
      |(go_at_call_of 103 ao2;refine(hsg2 _ (H2.out.ext (lx (nx (nx hB0 (dr W0)) hb1)))).mono ?_;rintro e w2 ⟨rfl,hb2⟩))
  have hB2:=nx (nx (nx hB0 (dr W0)) hb1) hb2;by_cases hst:s=t
  · subst hst
    have e0:((s:Int) !=s)=false:=by simp
    have HR:Hid (s*c=qO z1 z2):=hres.out.2 rfl;clear hres;have hq:=fun W=>hcmp W
    have bx1':=(bx1.drew.below hb1).below hb2;have bx2':=(bx2.drew.below hb1).below hb2;clear c1 c2 c3 c4 d1 d2 d3 d4;go_wp2_with fail
    obtain⟨c1,c2,c3,c4⟩:=bx1'.two;obtain⟨d1,d2,d3,d4⟩:=bx2'.two;have hxd1:=hx1.ext (lx (nx hB2 (dr w2)));have hxd2:=hx2.ext (lx (nx hB2 (dr w2)));go_region_held3 (fun w'=>w'.cell? ⟨w.heap.size,1,none⟩=some (.slice ao1 n1 cap1)/\w'.cell? ⟨w.heap.size+1,1,none⟩=some (.slice ao2 n2 cap2))
      ((((try go_split_ands);(repeat' apply And.intro))<;>first|exact yF (by assumption)|exact qC (by assumption) (drN _ _)|assumption))
      (first
        |(go_at_call_of 111 ao1;refine(hcall1 _ hxd1).mono ?_;rintro e w' ⟨rfl,rfl⟩)
        |(go_at_call_of 111 ao2;refine(hcall2 _ hxd2).mono ?_;rintro e w' ⟨rfl,rfl⟩)
        |(go_at_call 110;refine(hcmp _ hxd1 hxd2).mono ?_;rintro e w' ⟨rfl,q,rfl⟩))
    go_wp2_with fail
    go_ret;have hr:=HR.out;have hbd:=zFh z1 z2;refine⟨?_,nx hB2 (drN _ _)⟩;rw[<-hr]at hbd ⊢
    first|rfl|(show _=Ending.returned (.int .i64 _);simp[IntWalk.wrap64_in _ ⟨show-9223372036854775808<=s*c by omega,by omega⟩,zKR _ hbd.1 hbd.2])
  · have e0:((s:Int) !=t)=true:=by simpa using hst
    have E:=hres.out.1 hst;have hci:=fun W=>zB6 s t W
    rw[E]at hci;clear E hst;go_wp2_with (go_at_call 109;refine(hci _).mono ?_;rintro e w' ⟨rfl,rfl⟩)
    go_ret;exact⟨rfl,hB2⟩
end Go.Proofs.YtgnmdddaiefooaaGreat
