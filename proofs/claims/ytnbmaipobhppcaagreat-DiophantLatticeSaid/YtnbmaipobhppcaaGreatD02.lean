/- The functions of package integer: word, limbs, value, Sign, Clone. The functions of package integer on integers. append on limbs; slices.Clone. The functions of package integer on integers, second part: Neg, Abs, Sub, Mul, own. The functions of package integer on integers, third part: Valid, Cmp, and matrix.own. Division of limbs: word, short. math/bits.Len32 and LeadingZeros32 by the library's contracts, at this dump's numbers. Division of limbs: shift. The plain arithmetic of one digit of a long division. -/
import Derived.Laws.ResultCell
import Derived.Deep.RegionHeld3
import Derived.Laws.AppendOwnNone
import Derived.Deep.DeepCutAuto
import Derived.Deep.CutBlock
import Derived.Deep.Cut
import Derived.Shelf.Small.Bits
import Derived.Ground.Names2Prog
import Derived.Test.YtnbmaipobhppcaaGreatD01
set_option linter.unusedVariables false
set_option linter.unusedSimpArgs false
set_option linter.unusedSectionVars false
set_option maxHeartbeats 16000000
set_option maxRecDepth 100000
namespace Go.Proofs.YtnbmaipobhppcaaGreat
open Go.RowKit
theorem yF(neg:Bool)(ao:Option Addr)(n cap:Nat)(xs:List Nat)(w:World)(hn:xs.length=n)(hl:n<=cap)(hcap:cap<=9223372036854775807)(hx:zG w ao xs):
  Calls Tryz.prog 199 #[.bool neg,.slice ao n cap] w (jL w (sgn neg (nat xs))):=by
 have HN:=Lib.hid hn;have htl:=zAm xs n;obtain⟨t,HT⟩:∃t,qQ xs n=t:=⟨_,rfl⟩;rw[HT]at htl;have hcall:=fun W hw=>jH ao n cap xs W hn hl hcap hw
 rw[HT]at hcall;have HT':=Lib.hid HT;clear HT hn;have hnorm:qM (xs.take t):=by
  have h1:=zBP xs;unfold zAr at h1;rw[HN.out,HT'.out]at h1;exact h1
 have hval:Hid (nat (xs.take t)=nat xs):=by
  have h1:=zAL xs;unfold zAr at h1;rw[HN.out,HT'.out]at h1;exact h1
 by_cases h0:t=0
 ·subst h0
  go_enter Tryz.func199,Tryz.ntmps199;go_wp2_with (go_at_call 224;refine(hcall _ ?_).mono ?_;exact hx.ext (yO.below ((Below.refl _ _).alloc (xgf _) _) (xgf _));rintro e w' ⟨rfl,rfl⟩)
  refine bodyPost_ret (v:=.agg #[.bool false,.slice none 0 0]) (by simp[results,Tryz.results199,go_sem]) rfl ?_;refine⟨_,rfl,⟨false,none,0,0,[],rfl,rfl,by omega,by omega,zG.nil _ _,qM.nil,?_,by simp⟩,(Below.refl _ _).alloc (xgf _) _⟩;have:=hval.out;simp at this;rw[<-this];simp[zEB]
 ·have ht0:((t:Int)==0)=false:=by simpa using h0
  go_enter Tryz.func199,Tryz.ntmps199;go_wp2_with (go_at_call 224;refine(hcall _ ?_).mono ?_;exact hx.ext (yO.below ((Below.refl _ _).alloc (xgf _) _) (xgf _));rintro e w' ⟨rfl,rfl⟩)
  refine bodyPost_ret (v:=.agg #[.bool neg,.slice ao t t]) (by simp[results,Tryz.results199,go_sem]) rfl ?_;have hB:Below w.heap.size w (w.alloc (.cells #[.bool neg,.slice ao t t] 35)):=(Below.refl _ _).alloc (xgf _) _;exact⟨_,rfl,⟨neg,ao,t,t,xs.take t,rfl,by rw[List.length_take,HN.out];omega,by omega,by omega,(hx.take t).ext (yO.below hB (xgf _)),hnorm,by rw[hval.out],by omega⟩,hB⟩
theorem zG.two(w:World)(a b:Nat)(ha:a<4294967296)(hb:b<4294967296)(m k:Int)(hm:m=a)(hk:k=b):
  zG (w.alloc (.cells #[.int .u32 m,.int .u32 k] tU)) (some ⟨w.heap.size,0,none⟩) [a,b]:=by
 subst hm;subst hk;exact(jO.made w [a,b]).at_ (fun x hx=>by simp at hx;unfold B32;omega)
theorem zG.one(w:World)(a:Nat)(ha:a<4294967296)(m:Int)(hm:m=a):
  zG (w.alloc (.cells #[.int .u32 m] tU)) (some ⟨w.heap.size,0,none⟩) [a]:=by
 subst hm;exact(jO.made w [a]).at_ (fun x hx=>by simp at hx;unfold B32;omega)
theorem zB1(u:Nat)(w:World)(hu:u<18446744073709551616):
  Calls Tryz.prog 200 #[.int .u64 (u:Nat)] w (zD2 w u):=by
 go_enter Tryz.func200,Tryz.ntmps200;go_wp2;go_ret;exact⟨_,_,_,[u%4294967296,u/4294967296],rfl,rfl,by omega,by omega,zG.two w _ _ oM oM _ _ (by simp[IntKind.wrap_u32]) (by simp[IntKind.wrap_u32]),by simp[yM,yS];omega,(Below.refl _ _).alloc (xgf _) _⟩
theorem qU(v:Value)(z:Int)(w:World)(h:zDz w v z):
  Calls Tryz.prog 160 #[v] w fun e w'=>e= .returned (.int .i64 (qJ z 0))/\Below w.heap.size w w':=by
 obtain⟨neg,ao,n,cap,xs,rfl,hn,hl,hcap,hx,hN,hz⟩:=h;have hcall:=fun W hw=>jH ao n cap xs W hn hl hcap hw
 rw[<-hn,qP hN,hn]at hcall;by_cases h0:n=0
 ·have E:Hid (qJ z 0=0):=by
   have:xs= []:=List.eq_nil_of_length_eq_zero oM;subst this;exact jY (by rw[hz];simp[zEB])
  clear hz hn;subst h0;go_enter Tryz.func160,Tryz.ntmps160;go_wp2_with (go_at_call 224;refine(hcall _ ?_).mono ?_;exact hx.ext (yO.below ((Below.refl _ _).alloc (xgf _) _) (xgf _));rintro e w' ⟨rfl,rfl⟩)
  go_ret;exact⟨by rw[E.out];rfl,(Below.refl _ _).alloc (xgf _) _⟩
 ·have hp:0<nat xs:=zHp hN (by rintro rfl;simp at hn;omega)
  have h0':((n:Int)==0)=false:=by simpa using h0
  cases neg with
  |true=>
   have E:Hid (qJ z 0=-1):=yY (by rw[hz];simp;omega);clear hz hn;go_enter Tryz.func160,Tryz.ntmps160;go_wp2_with (go_at_call 224;refine(hcall _ ?_).mono ?_;exact hx.ext (yO.below ((Below.refl _ _).alloc (xgf _) _) (xgf _));rintro e w' ⟨rfl,rfl⟩)
   go_ret;exact⟨by rw[E.out];rfl,(Below.refl _ _).alloc (xgf _) _⟩
  |false=>
   have E:Hid (qJ z 0=1):=jF (by rw[hz];simp;omega);clear hz hn;go_enter Tryz.func160,Tryz.ntmps160;go_wp2_with (go_at_call 224;refine(hcall _ ?_).mono ?_;exact hx.ext (yO.below ((Below.refl _ _).alloc (xgf _) _) (xgf _));rintro e w' ⟨rfl,rfl⟩)
   go_ret;exact⟨by rw[E.out];rfl,(Below.refl _ _).alloc (xgf _) _⟩
theorem zBF(n:Int)(w:World)(h1:-9223372036854775808<=n)(h2:n<=9223372036854775807):
  Calls Tryz.prog 114 #[.int .i64 n] w (jL w n):=by
 by_cases hn:n<0
 ·have e:IntKind.u64.wrap (-IntKind.u64.wrap n)=((n.natAbs:Nat):Int):=by simp only[IntKind.wrap_u64];omega
  go_enter Tryz.func114,Tryz.ntmps114;go_wp2_with fail
  refine(zB1 n.natAbs _ oM).mono ?_;rintro e1 w1 ⟨ao,len,cap,zs,rfl,hz1,hz2,hz3,hz4,hz5,hb1⟩;have br1:=(Blk.new w 35 #[.bool false,.slice none 0 0]).below hb1;go_wp2_with fail
  refine(yF true ao len cap zs _ hz1 hz2 hz3 hz4).mono ?_;rintro e2 w2 ⟨v,rfl,hv,hb2⟩;have br2:=br1.below hb2;obtain⟨k1,k2,k3,k4⟩:=br2.two;obtain⟨vn,va,vl,vc,vx,rfl,hv2⟩:=hv;go_wp2_with fail
  refine zW rfl rfl rfl (br2.put2 _ _) ?_ (zT (zT (nx (nx ((Below.refl _ _).alloc (xgf _) _) hb1) hb2) oM 0 _) oM 1 _);refine zH.ext ?_ (br2.lext2 dE _ _);have e3:sgn true (nat zs)=n:=by rw[hz5];simp;omega
  rw[<-e3];exact⟨vn,va,vl,vc,vx,rfl,hv2⟩
 ·obtain⟨m,rfl⟩:=Int.eq_ofNat_of_zero_le (show 0<=n by omega)
  go_enter Tryz.func114,Tryz.ntmps114;go_wp2_with fail
  refine(zB1 m _ oM).mono ?_;rintro e1 w1 ⟨ao,len,cap,zs,rfl,hz1,hz2,hz3,hz4,hz5,hb1⟩;have br1:=(Blk.new w 35 #[.bool false,.slice none 0 0]).below hb1;go_wp2_with fail
  refine(yF false ao len cap zs _ hz1 hz2 hz3 hz4).mono ?_;rintro e2 w2 ⟨v,rfl,hv,hb2⟩;have br2:=br1.below hb2;obtain⟨k1,k2,k3,k4⟩:=br2.two;obtain⟨vn,va,vl,vc,vx,rfl,hv2⟩:=hv;go_wp2_with fail
  refine zW rfl rfl rfl (br2.put2 _ _) ?_ (zT (zT (nx (nx ((Below.refl _ _).alloc (xgf _) _) hb1) hb2) oM 0 _) oM 1 _);refine zH.ext ?_ (br2.lext2 dE _ _);have e3:sgn false (nat zs)=m:=by rw[hz5];simp
  rw[<-e3];exact⟨vn,va,vl,vc,vx,rfl,hv2⟩
theorem zBi{a b:Int}(h:¬ a<b):0<=qJ a b:=by
 unfold qJ;rw[if_neg h];split<;>omega
theorem zLR(neg:Bool)(a b:Nat):sgn neg (a+b)=sgn neg a+sgn neg b:=by cases neg<;>simp<;>omega
theorem zIr{n1 n2:Bool}(h:n1≠n2)(a b:Nat)(hl:b<=a):sgn n1 (a-b)=sgn n1 a+sgn n2 b:=by
 cases n1<;>cases n2<;>simp at h ⊢<;>omega
theorem zIs{n1 n2:Bool}(h:n1≠n2)(a b:Nat)(hl:a<=b):sgn n2 (b-a)=sgn n1 a+sgn n2 b:=by
 cases n1<;>cases n2<;>simp at h ⊢<;>omega
theorem zBv(v1 v2:Value)(z1 z2:Int)(w:World)(h1:zDz w v1 z1)(h2:zDz w v2 z2)(s1:Sm z1)(s2:Sm z2):
  Calls Tryz.prog 156 #[v1,v2] w (jL w (z1+z2)):=by
 obtain⟨neg1,ao1,n1,cap1,xs,rfl,hn1,hl1,hc1,hx1,hN1,hz1⟩:=h1;obtain⟨neg2,ao2,n2,cap2,ys,rfl,hn2,hl2,hc2,hx2,hN2,hz2⟩:=h2;have hq1:n1<=4*LIM:=by
  have:n1<=LIM:=by rw[<-hn1];exact Sm.len (neg:=neg1) (by rw[<-hz1];exact s1) hN1
  omega
 have hq2:n2<=4*LIM:=by
  have:n2<=LIM:=by rw[<-hn2];exact Sm.len (neg:=neg2) (by rw[<-hz2];exact s2) hN2
  omega
 have hcall1:=fun W hw=>jH ao1 n1 cap1 xs W hn1 hl1 hc1 hw
 rw[<-hn1,qP hN1,hn1]at hcall1;have hcall2:=fun W hw=>jH ao2 n2 cap2 ys W hn2 hl2 hc2 hw
 rw[<-hn2,qP hN2,hn2]at hcall2;have HN1:=Lib.hid hn1;have HN2:=Lib.hid hn2;have HZ1:=Lib.hid hz1;have HZ2:=Lib.hid hz2;clear hn1 hn2 hz1 hz2 s1 s2;have Hcall1:=Lib.hid hcall1;by_cases hs:neg1=neg2
 ·subst hs
  go_enter Tryz.func156,Tryz.ntmps156;go_wp2_with fail
  refine zB ?_;intro W0 hW0;obtain⟨hB0,bx1,bx2,br,hs0⟩:=yG hW0;have hx1':=hx1.ext (lx hB0);have hx2':=hx2.ext (lx hB0);obtain⟨c1,c2,c3,c4⟩:=bx1.two;obtain⟨d1,d2,d3,d4⟩:=bx2.two;go_quiet ((first|(go_at_call_of 224 ao1;exact Calls.quiet_of_same ((hcall1 _ (hx1'.ext (lx (drN _ _)))).mono (by rintro e w' ⟨rfl,rfl⟩;exact⟨rfl,rfl⟩)))|(go_at_call_of 224 ao2;exact Calls.quiet_of_same ((hcall2 _ (hx2'.ext (lx (drN _ _)))).mono (by rintro e w' ⟨rfl,rfl⟩;exact⟨rfl,rfl⟩)))));go_wp2_with fail
  refine zB ?_;intro W1 hW1;have hB1:Below w.heap.size w W1:=by rw[hW1.out];exact nx hB0 (drN _ _)
  have bx1':=Blk.at_ hW1 bx1;have bx2':=Blk.at_ hW1 bx2;have br':=Blk.at_ hW1 br;have lx1:=lx (nx hB1 (dr W1));clear c1 c2 c3 c4 d1 d2 d3 d4;obtain⟨c1,c2,c3,c4⟩:=bx1'.two;obtain⟨d1,d2,d3,d4⟩:=bx2'.two;go_region_held3 (fun w'=>w'.cell? ⟨w.heap.size,0,none⟩=some (.bool neg1))
   ((((try go_split_ands);(repeat' apply And.intro))<;>first|exact yH (by assumption)|exact zI (by assumption) hb1|exact zI (by assumption) hb2|exact zAB (zAB (by assumption) oM) oM))
   (first
    |((go_at_call 225;refine(zIh ao1 ao2 n1 n1 n2 n2 xs ys _ HN1.out HN2.out (xgf _) (xgf _) oM oM hq1 hq2 (hx1.ext lx1) (hx2.ext lx1)).mono ?_;rintro e w1 ⟨ao,len,cap,zs,rfl,hz1,hz2,hz3,hz4,hz5,hb1⟩;have br1:=br'.drew.below hb1))
    |((go_at_call 199;refine(yF neg1 ao len cap zs _ hz1 hz2 hz3 hz4).mono ?_;rintro e w2 ⟨v,rfl,hv,hb2⟩;have br2:=br1.below hb2;obtain⟨e1,e2,e3,e4⟩:=br2.two;obtain⟨vn,va,vl,vc,vx,rfl,hv2⟩:=hv)))
  go_wp2_with fail
  refine zW rfl rfl rfl (br2.put2 _ _) ?_ (zT (zT (nx (nx (nx hB1 (dr W1)) hb1) hb2) oM 0 _) oM 1 _);refine zH.ext ?_ (br2.lext2 dE _ _);rw[hz5]at hv2;rw[HZ1.out,HZ2.out,<-zLR];exact⟨vn,va,vl,vc,vx,rfl,hv2⟩
 ·have hs':(neg1==neg2)=false:=by simpa using hs
  have Hs:=Lib.hid hs;clear hs;by_cases hlt:nat xs<nat ys
  ·have hcmp:=fun W h1 h2=>zAI ao1 ao2 n1 n1 n2 n2 xs ys W HN1.out HN2.out (xgf _) (xgf _) oM oM h1 h2 hN1 hN2
   rw[yY oM]at hcmp;go_enter Tryz.func156,Tryz.ntmps156;go_wp2_with fail
   refine zB ?_;intro W0 hW0;obtain⟨hB0,bx1,bx2,br,hs0⟩:=yG hW0;have hx1':=hx1.ext (lx hB0);have hx2':=hx2.ext (lx hB0);obtain⟨c1,c2,c3,c4⟩:=bx1.two;obtain⟨d1,d2,d3,d4⟩:=bx2.two;go_quiet ((first|(go_at_call_of 224 ao1;exact Calls.quiet_of_same ((hcall1 _ (hx1'.ext (lx (drN _ _)))).mono (by rintro e w' ⟨rfl,rfl⟩;exact⟨rfl,rfl⟩)))|(go_at_call_of 224 ao2;exact Calls.quiet_of_same ((hcall2 _ (hx2'.ext (lx (drN _ _)))).mono (by rintro e w' ⟨rfl,rfl⟩;exact⟨rfl,rfl⟩)))));have hx1'':=hx1'.ext (lx (drN W0 nq));have hx2'':=hx2'.ext (lx (drN W0 nq));go_wp2_with (go_at_call 226;refine(hcmp _ hx1'' hx2'').mono ?_;rintro e w' ⟨rfl,q,rfl⟩)
   refine zB ?_;intro W1 hW1;have hB1:Below w.heap.size w W1:=by rw[hW1.out];exact nx hB0 (drN _ _)
   have bx1':=Blk.at_ hW1 bx1;have bx2':=Blk.at_ hW1 bx2;have br':=Blk.at_ hW1 br;have lx1:=lx (nx hB1 (dr W1));clear c1 c2 c3 c4 d1 d2 d3 d4;obtain⟨c1,c2,c3,c4⟩:=bx1'.two;obtain⟨d1,d2,d3,d4⟩:=bx2'.two;go_region_held3 (fun w'=>w'.cell? ⟨(w.heap.size+1),0,none⟩=some (.bool neg2))
    ((((try go_split_ands);(repeat' apply And.intro))<;>first|exact yH (by assumption)|exact zI (by assumption) hb1|exact zI (by assumption) hb2|exact zAB (zAB (by assumption) oM) oM))
    (first
     |((go_at_call 227;refine(zEY ao2 ao1 n2 n2 n1 n1 ys xs _ HN2.out HN1.out (xgf _) (xgf _) oM oM hq2 (hx2.ext lx1) (hx1.ext lx1) (by rw[<-HN1.out,<-HN2.out];exact jU hx2.1 hN1 oM) oM).mono ?_;rintro e w1 ⟨ao,len,cap,zs,rfl,hz1,hz2,hz3,hz4,hz5,hb1⟩;have br1:=br'.drew.below hb1))
     |((go_at_call 199;refine(yF neg2 ao len cap zs _ hz1 hz2 hz3 hz4).mono ?_;rintro e w2 ⟨v,rfl,hv,hb2⟩;have br2:=br1.below hb2;obtain⟨e1,e2,e3,e4⟩:=br2.two;obtain⟨vn,va,vl,vc,vx,rfl,hv2⟩:=hv)))
   go_wp2_with fail
   refine zW rfl rfl rfl (br2.put2 _ _) ?_ (zT (zT (nx (nx (nx hB1 (dr W1)) hb1) hb2) oM 0 _) oM 1 _);refine zH.ext ?_ (br2.lext2 dE _ _);rw[hz5]at hv2;rw[HZ1.out,HZ2.out,<-zIs Hs.out _ _ oM];exact⟨vn,va,vl,vc,vx,rfl,hv2⟩
  ·have hcmp:=fun W h1 h2=>zAI ao1 ao2 n1 n1 n2 n2 xs ys W HN1.out HN2.out (xgf _) (xgf _) oM oM h1 h2 hN1 hN2
   obtain⟨cc,hcc,hcc0⟩:∃cc:Int,qJ (nat xs) (nat ys)=cc/\0<=cc:=⟨_,rfl,zBi oM⟩;rw[hcc]at hcmp;clear hcc;go_enter Tryz.func156,Tryz.ntmps156;go_wp2_with fail
   refine zB ?_;intro W0 hW0;obtain⟨hB0,bx1,bx2,br,hs0⟩:=yG hW0;have hx1':=hx1.ext (lx hB0);have hx2':=hx2.ext (lx hB0);obtain⟨c1,c2,c3,c4⟩:=bx1.two;obtain⟨d1,d2,d3,d4⟩:=bx2.two;go_quiet ((first|(go_at_call_of 224 ao1;exact Calls.quiet_of_same ((hcall1 _ (hx1'.ext (lx (drN _ _)))).mono (by rintro e w' ⟨rfl,rfl⟩;exact⟨rfl,rfl⟩)))|(go_at_call_of 224 ao2;exact Calls.quiet_of_same ((hcall2 _ (hx2'.ext (lx (drN _ _)))).mono (by rintro e w' ⟨rfl,rfl⟩;exact⟨rfl,rfl⟩)))));have hx1'':=hx1'.ext (lx (drN W0 nq));have hx2'':=hx2'.ext (lx (drN W0 nq));go_wp2_with (go_at_call 226;refine(hcmp _ hx1'' hx2'').mono ?_;rintro e w' ⟨rfl,q,rfl⟩)
   refine zB ?_;intro W1 hW1;have hB1:Below w.heap.size w W1:=by rw[hW1.out];exact nx hB0 (drN _ _)
   have bx1':=Blk.at_ hW1 bx1;have bx2':=Blk.at_ hW1 bx2;have br':=Blk.at_ hW1 br;have lx1:=lx (nx hB1 (dr W1));clear c1 c2 c3 c4 d1 d2 d3 d4;obtain⟨c1,c2,c3,c4⟩:=bx1'.two;obtain⟨d1,d2,d3,d4⟩:=bx2'.two;go_region_held3 (fun w'=>w'.cell? ⟨w.heap.size,0,none⟩=some (.bool neg1))
    ((((try go_split_ands);(repeat' apply And.intro))<;>first|exact yH (by assumption)|exact zI (by assumption) hb1|exact zI (by assumption) hb2|exact zAB (zAB (by assumption) oM) oM))
    (first
     |((go_at_call 227;refine(zEY ao1 ao2 n1 n1 n2 n2 xs ys _ HN1.out HN2.out (xgf _) (xgf _) oM oM hq1 (hx1.ext lx1) (hx2.ext lx1) (by rw[<-HN1.out,<-HN2.out];exact jU hx1.1 hN2 oM) oM).mono ?_;rintro e w1 ⟨ao,len,cap,zs,rfl,hz1,hz2,hz3,hz4,hz5,hb1⟩;have br1:=br'.drew.below hb1))
     |((go_at_call 199;refine(yF neg1 ao len cap zs _ hz1 hz2 hz3 hz4).mono ?_;rintro e w2 ⟨v,rfl,hv,hb2⟩;have br2:=br1.below hb2;obtain⟨e1,e2,e3,e4⟩:=br2.two;obtain⟨vn,va,vl,vc,vx,rfl,hv2⟩:=hv)))
   go_wp2_with fail
   refine zW rfl rfl rfl (br2.put2 _ _) ?_ (zT (zT (nx (nx (nx hB1 (dr W1)) hb1) hb2) oM 0 _) oM 1 _);refine zH.ext ?_ (br2.lext2 dE _ _);rw[hz5]at hv2;rw[HZ1.out,HZ2.out,<-zIr Hs.out _ _ oM];exact⟨vn,va,vl,vc,vx,rfl,hv2⟩
def zEJ(w:World)(base:Nat)(v:Value)(xs:List Nat):Prop:=qR xs/\w.ownsRow base tU 1 v xs.length (xs.map fun n=>Value.int .u32 (n:Nat))
theorem zEJ.at_{w:World}{base:Nat}{v:Value}{xs:List Nat}(h:zEJ w base v xs):
  ∃ao cap,v= .slice ao xs.length cap/\xs.length<=cap/\cap<=9223372036854775807/\zG w ao xs:=by
 obtain⟨hl,h1,h2⟩:=h;rcases h2 with⟨rfl,h0⟩|⟨g,cap,cur,rfl,hg,hh,hn,hc,hs,ht⟩
 ·have:xs= []:=List.eq_nil_of_length_eq_zero h0
  subst this;exact⟨none,0,rfl,by simp,by omega,zG.nil _ _⟩
 ·refine⟨some ⟨g,0,none⟩,cap,rfl,hn,hc,hl,fun _=>⟨g,0,cur,_,rfl,hh,fun k x hk=>?_⟩⟩
  have hk':(xs.map fun n=>Value.int .u32 (n:Nat))[k]?=some (.int .u32 (x:Nat)):=by simp[hk]
  rw[<-ht,List.getElem?_take]at hk';split at hk'
  ·simpa using hk'
  ·cases hk'
theorem zEJ.empty(w:World)(base:Nat)(h:base<=w.heap.size):zEJ (w.alloc (.cells #[] tU)) base (.slice (some ⟨w.heap.size,0,none⟩) 0 0) []:=
 ⟨qR.nil,by simp,.inr ⟨w.heap.size,0,#[],rfl,h,heap_alloc_new w _,xgf _,by simp[maxLen],rfl,rfl⟩⟩
theorem zEJ.alloc{w:World}{base:Nat}{v:Value}{xs:List Nat}(h:zEJ w base v xs)(o:Obj):zEJ (w.alloc o) base v xs:=⟨h.1,h.2.alloc o⟩
theorem zDE{P:Program}{w:World}(base:Nat)(t ty e:TypeId)(i:TypeInfo)(size:Nat)(ht:P.underlying t=some (.slice e))(hi:P.info? e=some i)
  (v:Value) (n:Nat) (xs:List Value) (hown:w.ownsRow base e size v n xs) (c:Nat):(Builtin.append_ #[t,t] ty #[v,.slice none 0 c]).run P w= .ok v w:=by
 rcases hown.2 with⟨rfl,rfl⟩|⟨g,cap,cur,rfl,_,_,hnc,_⟩
 ·simp[Builtin.append_,run_underlying ht,sizeOf,typeInfo,hi,Builtin.lenOf,Builtin.firstCells]
 ·simp[Builtin.append_,run_underlying ht,sizeOf,typeInfo,hi,Builtin.lenOf,Builtin.firstCells,hnc,storeCells]
theorem zIJ{w:World}{ops:Array Oper}{rest:List Oper}{o:Oper}{a:Act}{Q:Exit->Act->World->Prop}(hgd:o.guard=none)(s x:Operand)
  (ho:o.op= .call {callee:=.builtin .append,args:=#[s,x],argTypes:=#[33,33]})
  (base:Nat) (v:Value) (xs:List Nat) (hs:a.eval s=v) (hown:zEJ w base v xs) (ao:Option Addr) (m c:Nat) (ys:List Nat) (hx:a.eval x= .slice ao m c) (hy:zG w ao ys) (hm:ys.length=m)
  (hlen:xs.length+m<=35184372088832) (hbase:base<=w.heap.size)
  (h:∀v' w',zEJ w' base v' (xs++ys)->w.grownBy w' v.ownBlock->wpList Tryz.prog ops Q rest (a.put o.dst v') w'):wpList Tryz.prog ops Q (o::rest) a w:=by
 obtain⟨i0,hi,hz0,hz1,hz2⟩:=info_parts Tryz.infoU;cases ao with
 | none=>
  have hy0:ys= []:=by
   by_cases h0:ys= []
   ·exact h0
   ·obtain⟨_,_,_,_,h1,_⟩:=hy.2 h0
    cases h1
  subst hy0;simp at hm;subst hm;refine wpList_plain hgd fun K hK=>?_
  have hrun:=zDE (P:=Tryz.prog) (w:=w) base 33 o.type tU i0 1 Tryz.underlying33 hi v xs.length _ hown.2 c;unfold Oper.wp;simp only[execOp,ho,resolve,invoke,builtin,Sem.run_bind,Sem.run_pure,Result.andThen_ok,List.map_toArray,List.map_cons,List.map_nil,hs,hx,hrun];exact hK _ _ (h v w (by simpa using hown) (World.grownBy.refl w _))
 | some ad=>
  refine wpList_append_own w hgd s x 33 ho base tU i0 _ 1 4 Tryz.underlying33 hi hz0 hz1 hz2 rfl oM v xs.length _ hs hown.2 ad m c (ys.map fun n=>Value.int .u32 (n:Nat)) hx (by simp[hm]) ?_ ?_ (by simp[maxLen];omega) oM hbase ?_
  ·intro j u hj
   simp only[List.getElem?_map,Option.map_eq_some_iff]at hj;obtain⟨x',hj,rfl⟩:=hj;obtain⟨b,off,cs,fz,h1,h2,h3⟩:=hy.2 (by rintro rfl;simp at hj);injection h1 with h1
   subst h1;rw[Addr.add_lit,cell_of_row w b (off+j) cs tU fz h2];exact h3 j x' hj
  ·intro u hu
   simp only[List.mem_map]at hu;obtain⟨x',_,rfl⟩:=hu;rfl
  ·intro v' w' h1 h2 _
   refine h v' w' ⟨hown.1.append hy.1,?_⟩ h2;simpa[hm]using h1
def zNj(w:World)(xs:List Nat)(e:Ending)(w':World):Prop:=
 ∃ao len cap,e= .returned (.slice ao len cap)/\xs.length=len/\len<=cap/\cap<=9223372036854775807/\zG w' ao xs/\Below w.heap.size w w'
theorem zBS(ao:Option Addr)(n cap:Nat)(xs:List Nat)(w:World)(hn:xs.length=n)(hb:n<=4*LIM)(hx:zG w ao xs):
  Calls Tryz.prog 229 #[.slice ao n cap] w (zNj w xs):=by
 have heq:=fun W=>Lib.run_eql_slice_nil (P:=Tryz.prog) W 33 tU ao n cap 0 0 Tryz.underlying33
 rw[qV]at hb;cases ao with
 | none=>
  have hy0:xs= []:=by
   by_cases h0:xs= []
   ·exact h0
   ·obtain⟨_,_,_,_,h1,_⟩:=hx.2 h0
    cases h1
  subst hy0;clear hn;go_enter Tryz.func229,Tryz.ntmps229;go_wp2;go_ret;exact⟨none,0,0,rfl,rfl,by omega,by omega,zG.nil _ _,Below.refl _ _⟩
 |some ad=>
  have HN:=Lib.hid hn;clear hn;go_enter Tryz.func229,Tryz.ntmps229;go_wp2_with (at_builtin;refine zIJ rfl _ _ rfl w.heap.size (.slice (some ⟨w.heap.size,0,none⟩) 0 0) [] rfl (zEJ.empty w _ (xgf _)) (some ad) n cap xs rfl (hx.ext (lx ((Below.refl _ _).alloc (xgf _) _))) HN.out (by simp;omega) sI ?_;intro v' w' hown hgr)
  have hB:Below w.heap.size w w':=((Below.refl _ _).alloc (xgf _) _).grown hgr sI (fun k hk=>by simp[Value.ownBlock]at hk;omega);go_ret;obtain⟨ao',cap',hv,h1,h2,h3⟩:=hown.at_;exact⟨ao',_,cap',by rw[hv];rfl,rfl,h1,h2,h3,hB⟩
theorem zDz.len{w:World}{v:Value}{z:Int}(h:zDz w v z)(s:Sm z):
  ∃neg ao n cap xs,v= .agg #[.bool neg,.slice ao n cap]/\xs.length=n/\n<=cap/\cap<=9223372036854775807/\zG w ao xs/\qM xs/\z=sgn neg (nat xs)/\n<=LIM:=by
 obtain⟨neg,ao,n,cap,xs,h1,h2,h3,h4,h5,h6,h7⟩:=h;exact⟨neg,ao,n,cap,xs,h1,h2,h3,h4,h5,h6,h7,by rw[<-h2];exact Sm.len (neg:=neg) (by rw[<-h7];exact s) h6⟩
theorem zGD(b:Bool)(n:Nat):sgn (!b) n=-sgn b n:=by cases b<;>simp
theorem jN(v1:Value)(z:Int)(w:World)(h1:zDz w v1 z)(s1:Sm z):Calls Tryz.prog 159 #[v1] w (jL w (-z)):=by
 obtain⟨neg,ao,n,cap,xs,rfl,hn,hl,hc,hx,hN,hz,hq⟩:=h1.len s1;have HN:=Lib.hid hn;have HZ:=Lib.hid hz;clear hn hz s1 h1;have hq':n<=4*LIM:=by omega
 go_enter Tryz.func159,Tryz.ntmps159;go_upto_region 1 with(fail)
 refine zB ?_;intro W0 hW0;obtain⟨hB0,bx1,br,hs0⟩:=qI hW0;obtain⟨c1,c2,c3,c4⟩:=bx1.two;obtain⟨d1,d2,d3,d4⟩:=br.two;have lx1:=lx (nx hB0 (dr W0));go_region_held3 (fun w'=>w'.cell? ⟨w.heap.size,0,none⟩=some (.bool neg)/\w'.cell? ⟨w.heap.size,1,none⟩=some (.slice ao n cap))
  ((((try go_split_ands);(repeat' apply And.intro))<;>first|exact yH (by assumption)|exact zI (by assumption) hb1|exact zI (by assumption) hb2|exact zAB (zAB (by assumption) oM) oM))
  (first
   |((go_at_call 229;refine(zBS ao n cap xs _ HN.out hq' (hx.ext lx1)).mono ?_;rintro e w1 ⟨ao',len,cap',rfl,hz1,hz2,hz3,hz4,hb1⟩;have br1:=br.drew.below hb1))
   |((go_at_call 199;refine(yF (!neg) ao' len cap' xs _ hz1 hz2 hz3 hz4).mono ?_;rintro e w2 ⟨v,rfl,hv,hb2⟩;have br2:=br1.below hb2;obtain⟨e1,e2,e3,e4⟩:=br2.two;obtain⟨vn,va,vl,vc,vx,rfl,hv2⟩:=hv)))
 go_wp2_with fail
 refine zW rfl rfl rfl (br2.put2 _ _) ?_ (zT (zT (nx (nx (nx hB0 (dr W0)) hb1) hb2) oM 0 _) oM 1 _);refine zH.ext ?_ (br2.lext2 dE _ _);rw[HZ.out,<-zGD];exact⟨vn,va,vl,vc,vx,rfl,hv2⟩
theorem zJ0(v1:Value)(z:Int)(w:World)(h1:zDz w v1 z)(s1:Sm z):Calls Tryz.prog 316 #[v1] w (jL w (z.natAbs:Nat)):=by
 obtain⟨neg,ao,n,cap,xs,rfl,hn,hl,hc,hx,hN,hz,hq⟩:=h1.len s1;have HN:=Lib.hid hn;have HZ:=Lib.hid hz;clear hn hz s1 h1;have hq':n<=4*LIM:=by omega
 go_enter Tryz.func316,Tryz.ntmps316;go_upto_region 1 with(fail)
 refine zB ?_;intro W0 hW0;obtain⟨hB0,bx1,br,hs0⟩:=qI hW0;obtain⟨c1,c2,c3,c4⟩:=bx1.two;obtain⟨d1,d2,d3,d4⟩:=br.two;have lx1:=lx hB0;go_wp2_with fail
 refine(zBS ao n cap xs _ HN.out hq' (hx.ext lx1)).mono ?_;rintro e w1 ⟨ao',len,cap',rfl,hz1,hz2,hz3,hz4,hb1⟩;have br1:=br.below hb1;go_wp2_with fail
 refine(yF false ao' len cap' xs _ hz1 hz2 hz3 hz4).mono ?_;rintro e w2 ⟨v,rfl,hv,hb2⟩;have br2:=br1.below hb2;obtain⟨e1,e2,e3,e4⟩:=br2.two;obtain⟨vn,va,vl,vc,vx,rfl,hv2⟩:=hv;go_wp2_with fail
 refine zW rfl rfl rfl (br2.put2 _ _) ?_ (zT (zT (nx (nx hB0 hb1) hb2) oM 0 _) oM 1 _);refine zH.ext ?_ (br2.lext2 dE _ _);rw[show((z.natAbs:Nat):Int)=sgn false (nat xs) by rw[HZ.out,zZ];rfl];exact⟨vn,va,vl,vc,vx,rfl,hv2⟩
theorem zID(v1 v2:Value)(z1 z2:Int)(w:World)(h1:zDz w v1 z1)(h2:zDz w v2 z2)(s1:Sm z1)(s2:Sm z2):Calls Tryz.prog 317 #[v1,v2] w (jL w (z1-z2)):=by
 have h1':=h1;have H2:=Lib.hid h2;obtain⟨neg1,ao1,n1,cap1,xs,rfl,_⟩:=h1;obtain⟨neg2,ao2,n2,cap2,ys,rfl,hn2,hl2,hc2,hx2,hN2,hz2⟩:=h2;have hcall:∀W,yO w W->Calls Tryz.prog 156 #[.agg #[.bool neg1,.slice ao1 n1 cap1],.agg #[.bool (!neg2),.slice ao2 n2 cap2]] W (jL W (z1+-z2)):=fun W e=>
  zBv _ _ _ _ W (h1'.ext e) ⟨!neg2,ao2,n2,cap2,ys,rfl,hn2,hl2,hc2,hx2.ext e,hN2,by rw[hz2,zGD]⟩ s1 (by unfold Sm at s2 ⊢;rwa[Int.natAbs_neg])
 clear hn2 hz2 s1 s2 H2;go_enter Tryz.func317,Tryz.ntmps317;go_upto_region 1 with(fail)
 refine zB ?_;intro W0 hW0;obtain⟨hB0,bx1,bx2,br,hs0⟩:=yG hW0;obtain⟨c1,c2,c3,c4⟩:=bx1.two;obtain⟨d1,d2,d3,d4⟩:=bx2.two;obtain⟨r1,r2,r3,r4⟩:=br.two;go_wp2_with fail
 refine(hcall _ (lx hB0)).mono ?_;rintro e w2 ⟨v,rfl,hv,hb2⟩;have br2:=br.below hb2;obtain⟨e1,e2,e3,e4⟩:=br2.two;obtain⟨vn,va,vl,vc,vx,rfl,hv2⟩:=hv;go_wp2_with fail
 refine zW rfl rfl rfl (br2.put2 _ _) ?_ (zT (zT (nx hB0 hb2) oM 0 _) oM 1 _);refine zH.ext ?_ (br2.lext2 dE _ _);rw[show z1-z2=z1+-z2 from Int.sub_eq_add_neg];exact⟨vn,va,vl,vc,vx,rfl,hv2⟩
theorem zLS(a b:Bool)(m n:Nat):sgn (a !=b) (m*n)=sgn a m*sgn b n:=by
 cases a<;>cases b<;>simp[Int.neg_mul,Int.mul_neg]
theorem jM(v1 v2:Value)(z1 z2:Int)(w:World)(h1:zDz w v1 z1)(h2:zDz w v2 z2)(s1:Sm z1)(s2:Sm z2):Calls Tryz.prog 194 #[v1,v2] w (jL w (z1*z2)):=by
 obtain⟨neg1,ao1,n1,cap1,xs,rfl,hn1,hl1,hc1,hx1,hN1,hz1,hq1⟩:=h1.len s1;obtain⟨neg2,ao2,n2,cap2,ys,rfl,hn2,hl2,hc2,hx2,hN2,hz2,hq2⟩:=h2.len s2;have hcall1:=fun W hw=>jH ao1 n1 cap1 xs W hn1 hl1 hc1 hw
 rw[<-hn1,qP hN1,hn1]at hcall1;have hcall2:=fun W hw=>jH ao2 n2 cap2 ys W hn2 hl2 hc2 hw
 rw[<-hn2,qP hN2,hn2]at hcall2;have HN1:=Lib.hid hn1;have HN2:=Lib.hid hn2;have HZ1:=Lib.hid hz1;have HZ2:=Lib.hid hz2;clear hn1 hn2 hz1 hz2 s1 s2 h1 h2;go_enter Tryz.func194,Tryz.ntmps194;go_upto_region 1 with(fail)
 refine zB ?_;intro W0 hW0;obtain⟨hB0,bx1,bx2,br,hs0⟩:=yG hW0;obtain⟨c1,c2,c3,c4⟩:=bx1.two;obtain⟨d1,d2,d3,d4⟩:=bx2.two;obtain⟨r1,r2,r3,r4⟩:=br.two;have hxd1:=hx1.ext (lx (nx hB0 (dr W0)));have hxd2:=hx2.ext (lx (nx hB0 (dr W0)));go_region_held3 (fun w'=>w'.cell? ⟨w.heap.size,0,none⟩=some (.bool neg1)/\w'.cell? ⟨w.heap.size,1,none⟩=some (.slice ao1 n1 cap1)/\w'.cell? ⟨w.heap.size+1,0,none⟩=some (.bool neg2)/\w'.cell? ⟨w.heap.size+1,1,none⟩=some (.slice ao2 n2 cap2))
  ((((try go_split_ands);(repeat' apply And.intro))<;>first|exact yH (by assumption)|exact zI (by assumption) hb1|exact zI (by assumption) hb2|assumption|exact zAB (zAB (by assumption) oM) oM))
  (first
   |(go_at_call_of 224 ao1;refine(hcall1 _ hxd1).mono ?_;rintro e w' ⟨rfl,rfl⟩)
   |(go_at_call_of 224 ao2;refine(hcall2 _ hxd2).mono ?_;rintro e w' ⟨rfl,rfl⟩)
   |(go_at_call 243;refine(zLd ao1 ao2 n1 n1 n2 n2 xs ys _ HN1.out HN2.out oM oM hxd1 hxd2).mono ?_;rintro e w1 ⟨ao',len,cap',zs,rfl,hz1,hz2,hz3,hz4,hz5,hb1⟩;have br1:=br.drew.below hb1)
   |(go_at_call 199;refine(yF (neg1 !=neg2) ao' len cap' zs _ hz1 hz2 hz3 hz4).mono ?_;rintro e w2 ⟨v,rfl,hv,hb2⟩;have br2:=br1.below hb2;obtain⟨e1,e2,e3,e4⟩:=br2.two;obtain⟨vn,va,vl,vc,vx,rfl,hv2⟩:=hv))
 go_wp2_with fail
 refine zW rfl rfl rfl (br2.put2 _ _) ?_ (zT (zT (nx (nx (nx hB0 (dr W0)) hb1) hb2) oM 0 _) oM 1 _);refine zH.ext ?_ (br2.lext2 dE _ _);rw[HZ1.out,HZ2.out,<-zLS,<-hz5];exact⟨vn,va,vl,vc,vx,rfl,hv2⟩
theorem zOX(v1:Value)(z:Int)(w:World)(h1:zH w v1 z)(s1:Sm z):Calls Tryz.prog 223 #[v1] w (jL w z):=by
  obtain⟨neg,ao,n,cap,xs,rfl,hn,hl,hc,hx,hN,hz,hpos⟩:=h1;have hq:n<=LIM:=by rw[<-hn];exact Sm.len (neg:=neg) (by rw[<-hz];exact s1) hN
  have HN:=Lib.hid hn;have HZ:=Lib.hid hz;have HP:=Lib.hid hpos;clear hn hz s1 hpos;have hq':n<=4*LIM:=by omega
  go_enter Tryz.func223,Tryz.ntmps223;go_upto_region 1 with(fail)
  refine zB ?_;intro W0 hW0;obtain⟨hB0,bx1,br,hs0⟩:=qI hW0;obtain⟨c1,c2,c3,c4⟩:=bx1.two;obtain⟨d1,d2,d3,d4⟩:=br.two;have lx1:=lx (nx hB0 (dr W0));go_region_held3 (fun w'=>w'.cell? ⟨w.heap.size,0,none⟩=some (.bool neg)/\w'.cell? ⟨w.heap.size,1,none⟩=some (.slice ao n cap))
    ((((try go_split_ands);(repeat' apply And.intro))<;>first|exact yH (by assumption)|exact zI (by assumption) hb1|exact zI (by assumption) hb1|exact zAB (zAB (by assumption) oM) oM))
    (first
      |((go_at_call 229;refine(zBS ao n cap xs _ HN.out hq' (hx.ext lx1)).mono ?_;rintro e w1 ⟨ao',len,cap',rfl,hz1,hz2,hz3,hz4,hb1⟩;have br1:=br.drew.below hb1;obtain⟨e1,e2,e3,e4⟩:=br1.two))
      |(fail))
  go_wp2_with fail
  refine zW rfl rfl rfl (br1.put2 _ _) ?_ (zT (zT (nx (nx hB0 (dr W0)) hb1) oM 0 _) oM 1 _);refine zH.ext ?_ (br1.lext2 dE _ _);exact⟨neg,ao',len,cap',xs,rfl,hz1,hz2,hz3,hz4,hN,HZ.out,fun h=>HP.out (by rw[<-HN.out,hz1,h])⟩
theorem zDL(v1:Value)(z:Int)(w:World)(h1:zH w v1 z):Calls Tryz.prog 149 #[v1] w fun e w'=>e= .returned (.bool true)/\Below w.heap.size w w':=by
  obtain⟨neg,ao,n,cap,xs,rfl,hn,hl,hc,hx,hN,hz,hpos⟩:=h1;have HN:=Lib.hid hn;clear hz;cases n with
  | zero=>
    obtain rfl:=hpos rfl;clear hn;go_enter Tryz.func149,Tryz.ntmps149;go_wp2;go_ret;exact⟨rfl,(Below.refl _ _).alloc (xgf _) _⟩
  | succ n=>
    obtain⟨b,off,x,rfl,hbw,hx32,HX,hck⟩:=hx.limb (k:=n) oM;have hx0:((x:Int) !=0)=true:=by
      have:=hN n hn;rw[HX.out]at this;simpa using this
    clear hn hpos;go_enter Tryz.func149,Tryz.ntmps149;go_wp2;go_ret;exact⟨rfl,(Below.refl _ _).alloc (xgf _) _⟩
theorem zFj(a b:Int):-1<=qJ a b/\qJ a b<=1:=by
  unfold qJ;by_cases h1:a<b
  · rw[if_pos h1];omega
  · rw[if_neg h1];by_cases h2:b<a
    · rw[if_pos h2];omega
    · rw[if_neg h2];omega
theorem zFk{a b:Int}:(qJ a b=-1->a<b)/\(qJ a b=0->a=b)/\(qJ a b=1->b<a):=by
  rcases Int.lt_trichotomy a b with h|h|h
  · rw[yY h];omega
  · rw[jY h];omega
  · rw[jF h];omega
theorem zGa{a b:Int}(h:qJ a 0≠qJ b 0):qJ (qJ a 0) (qJ b 0)=qJ a b:=by
  rcases Int.lt_trichotomy a 0 with ha|ha|ha<;>rcases Int.lt_trichotomy b 0 with hb|hb|hb
  all_goals first
    |(exfalso;apply h;first|rw[yY ha,yY hb]|rw[jY ha,jY hb]|rw[jF ha,jF hb];done)
    | (first|rw[yY ha]|rw[jY ha]|rw[jF ha]
       first|rw[yY hb]|rw[jY hb]|rw[jF hb]
       first|(rw[yY (show a<b by omega)];rfl)|(rw[jF (show b<a by omega)];rfl))
theorem zGZ{a b:Int}(h:qJ a 0=qJ b 0):qJ a 0*qJ (a.natAbs:Nat) (b.natAbs:Nat)=qJ a b:=by
  rcases Int.lt_trichotomy a 0 with ha|ha|ha
  · rw[yY ha]at h ⊢
    have hb:b<0:=zFk.1 h.symm;rcases Int.lt_trichotomy a b with h1|h1|h1
    · rw[yY h1,jF oM];rfl
    · rw[jY h1,jY oM];rfl
    · rw[jF h1,yY oM];rfl
  · rw[jY ha]at h ⊢
    have hb:b=0:=zFk.2.1 h.symm;rw[Int.zero_mul,jY (show a=b by omega)]
  · rw[jF ha]at h ⊢
    have hb:0<b:=zFk.2.2 h.symm;rw[Int.one_mul];rcases Int.lt_trichotomy a b with h1|h1|h1
    · rw[yY h1,yY oM]
    · rw[jY h1,jY oM]
    · rw[jF h1,jF oM]
theorem zKc(n:Int)(h1:-1<=n)(h2:n<=1):IntKind.i64.wrap n=n:=IntWalk.i64_in n ⟨by omega,by omega⟩
theorem zHU(v1 v2:Value)(z1 z2:Int)(w:World)(h1:zDz w v1 z1)(h2:zDz w v2 z2):Calls Tryz.prog 176 #[v1,v2] w fun e w'=>e= .returned (.int .i64 (qJ z1 z2))/\Below w.heap.size w w':=by
  have H1:=Lib.hid h1;have H2:=Lib.hid h2;obtain⟨neg1,ao1,n1,cap1,xs,rfl,hn1,hl1,hc1,hx1,hN1,hz1⟩:=h1;obtain⟨neg2,ao2,n2,cap2,ys,rfl,hn2,hl2,hc2,hx2,hN2,hz2⟩:=h2;have hcall1:=fun W hw=>jH ao1 n1 cap1 xs W hn1 hl1 hc1 hw
  rw[<-hn1,qP hN1,hn1]at hcall1;have hcall2:=fun W hw=>jH ao2 n2 cap2 ys W hn2 hl2 hc2 hw
  rw[<-hn2,qP hN2,hn2]at hcall2;obtain⟨s,hs⟩:∃s,qJ z1 0=s:=⟨_,rfl⟩;obtain⟨t,ht⟩:∃t,qJ z2 0=t:=⟨_,rfl⟩;obtain⟨c,hc⟩:∃c,qJ (nat xs) (nat ys)=c:=⟨_,rfl⟩;have hsb:=zFj z1 0;have htb:=zFj z2 0;have hcb:=zFj (nat xs) (nat ys);have hsg1:=fun W hw=>qU (.agg #[.bool neg1,.slice ao1 n1 cap1]) z1 W hw
  have hsg2:=fun W hw=>qU (.agg #[.bool neg2,.slice ao2 n2 cap2]) z2 W hw
  have hcmp:=fun W h1 h2=>zAI ao1 ao2 n1 n1 n2 n2 xs ys W hn1 hn2 (xgf _) (xgf _) oM oM h1 h2 hN1 hN2
  rw[hs]at hsg1 hsb;rw[ht]at hsg2 htb;rw[hc]at hcmp hcb;have hres:Hid ((s≠t->qJ s t=qJ z1 z2)/\(s=t->s*c=qJ z1 z2)):=by
    subst hs;subst ht;subst hc;refine⟨fun h=>zGa h,fun h=>?_⟩;have:=zGZ h;rw[hz1,hz2,zZ,zZ]at this;rw[hz1,hz2];exact this
  clear hn1 hn2 hz1 hz2 hs ht hc;go_enter Tryz.func176,Tryz.ntmps176;go_upto_region 1 with(fail)
  refine zB ?_;intro W0 hW0;obtain⟨hB0,bx1,bx2,hs0⟩:=qI hW0;obtain⟨c1,c2,c3,c4⟩:=bx1.two;obtain⟨d1,d2,d3,d4⟩:=bx2.two;have lx1:=lx (nx hB0 (dr W0));go_region_held3 (fun w'=>w'.cell? ⟨w.heap.size,0,none⟩=some (.bool neg1)/\w'.cell? ⟨w.heap.size,1,none⟩=some (.slice ao1 n1 cap1)/\w'.cell? ⟨w.heap.size+1,0,none⟩=some (.bool neg2)/\w'.cell? ⟨w.heap.size+1,1,none⟩=some (.slice ao2 n2 cap2))
    ((((try go_split_ands);(repeat' apply And.intro))<;>first|exact yH (by assumption)|exact zI (by assumption) hb1|exact zI (by assumption) hb2|assumption))
    (first
      |(go_at_call_of 160 ao1;refine(hsg1 _ (H1.out.ext lx1)).mono ?_;rintro e w1 ⟨rfl,hb1⟩)
      |(go_at_call_of 160 ao2;refine(hsg2 _ (H2.out.ext (lx (nx (nx hB0 (dr W0)) hb1)))).mono ?_;rintro e w2 ⟨rfl,hb2⟩))
  have hB2:=nx (nx (nx hB0 (dr W0)) hb1) hb2;by_cases hst:s=t
  · subst hst
    have e0:((s:Int) !=s)=false:=by simp
    have HR:Hid (s*c=qJ z1 z2):=hres.out.2 rfl;clear hres;have hq:=fun W=>hcmp W
    have bx1':=(bx1.drew.below hb1).below hb2;have bx2':=(bx2.drew.below hb1).below hb2;clear c1 c2 c3 c4 d1 d2 d3 d4;go_wp2_with fail
    obtain⟨c1,c2,c3,c4⟩:=bx1'.two;obtain⟨d1,d2,d3,d4⟩:=bx2'.two;have hxd1:=hx1.ext (lx (nx hB2 (dr w2)));have hxd2:=hx2.ext (lx (nx hB2 (dr w2)));go_region_held3 (fun w'=>w'.cell? ⟨w.heap.size,1,none⟩=some (.slice ao1 n1 cap1)/\w'.cell? ⟨w.heap.size+1,1,none⟩=some (.slice ao2 n2 cap2))
      ((((try go_split_ands);(repeat' apply And.intro))<;>first|exact yH (by assumption)|exact zI (by assumption) (drN _ _)|assumption))
      (first
        |(go_at_call_of 224 ao1;refine(hcall1 _ hxd1).mono ?_;rintro e w' ⟨rfl,rfl⟩)
        |(go_at_call_of 224 ao2;refine(hcall2 _ hxd2).mono ?_;rintro e w' ⟨rfl,rfl⟩)
        |(go_at_call 226;refine(hcmp _ hxd1 hxd2).mono ?_;rintro e w' ⟨rfl,q,rfl⟩))
    go_wp2_with fail
    go_ret;have hr:=HR.out;have hbd:=zFj z1 z2;refine⟨?_,nx hB2 (drN _ _)⟩;rw[<-hr]at hbd ⊢
    first|rfl|(show _=Ending.returned (.int .i64 _);simp[IntWalk.wrap64_in _ ⟨show-9223372036854775808<=s*c by omega,by omega⟩,zKc _ hbd.1 hbd.2])
  · have e0:((s:Int) !=t)=true:=by simpa using hst
    have E:=hres.out.1 hst;have hci:=fun W=>zCB s t W
    rw[E]at hci;clear E hst;go_wp2_with (go_at_call 238;refine(hci _).mono ?_;rintro e w' ⟨rfl,rfl⟩)
    go_ret;exact⟨rfl,hB2⟩
theorem zDi(n:Nat)(h:n<4294967296):IntKind.u32.wrap (n:Int)=n:=by rw[IntKind.wrap_u32];omega
theorem zIc(a b:Nat)(hb:b<4294967296):a*4294967296|||b=a*4294967296+b:=by
 have h:=Nat.shiftLeft_add_eq_or_of_lt (i:=32) (show b<2^32 from hb) a;rw[Nat.shiftLeft_eq]at h;exact h.symm
theorem zId(a b:Nat)(ha:a<4294967296)(hb:b<4294967296):bits BinOp.or IntKind.u64 ((a:Int)*4294967296) (b:Int)=((a*4294967296+b:Nat):Int):=by
 have h:=u64_or_nat (a*4294967296) b oM oM;rw[zIc a b hb]at h;rw[<-h];simp
theorem jP(xs:List Nat)(k:Nat)(h:k<xs.length):nat (xs.drop k)=xs.getD k 0+B32*nat (xs.drop (k+1)):=by
 rw[List.drop_eq_getElem_cons h,yM,xgb,xga h];rfl
theorem zFa{xs zs:List Nat}{k r d x:Nat}(h:nat (xs.drop (k+1))=nat (zs.drop (k+1))*d+r)(hk:k<xs.length)(hkz:k<zs.length)(hx:xs.getD k 0=x):
  nat (xs.drop k)=nat ((zs.set k ((r*4294967296+x)/d)).drop k)*d+(r*4294967296+x)%d:=by
 rw[jP xs k hk,jP _ k (by simpa using hkz),hx,h,zAT,xgb,List.getElem?_set_self hkz,yS];simp only[Option.getD_some];have e:=Nat.div_add_mod (r*4294967296+x) d;generalize (r*4294967296+x)/d=q at*;generalize (r*4294967296+x)%d=s at*;generalize nat (List.drop (k+1) zs)=z at*;rw[Nat.add_mul,Nat.mul_comm q d,Nat.mul_add,Nat.mul_assoc];omega
theorem zLT(ao:Option Addr)(n cap:Nat)(xs:List Nat)(d:Nat)(w:World)(hn:xs.length=n)(hb:n<=4*LIM)(hx:zG w ao xs)(hd0:0<d)(hd:d<4294967296):
  Calls Tryz.prog 264 #[.slice ao n cap,.int .u32 (d:Nat)] w fun e w'=>
   ∃g qs r,e= .returned (.tuple #[.slice (some ⟨g,0,none⟩) n n,.int .u32 (r:Nat)])/\jO w' g qs/\qR qs/\qs.length=n/\r<d/\nat xs=nat qs*d+r/\Below w.heap.size w w':=by
 have HN:=Lib.hid hn;have hlen1:xs.length<=n:=by omega
 have hlen1':n<=xs.length:=by omega
 clear hn;rw[qV]at hb;have hmk:=fun W=>mkU (n:Int) n oM oM W
 go_enter Tryz.func264,Tryz.ntmps264;go_wp2;clear hmk;go_loopw [7,8] (fun rv i wr=>∃(k r:Nat) (zs:List Nat),k<=n/\i= .int .i64 ((k:Int)-1)/\rv= .int .u64 r/\r<d/\jO wr w.heap.size zs/\Below w.heap.size w wr/\n<=zs.length∧
   Hid (zs.length=n/\qR zs/\nat (xs.drop k)=nat (zs.drop k)*d+r)) (fun _ i _=>(intOf i+1).toNat)
 case atStart=>exact⟨n,0,List.replicate n 0,by omega,by go_num,rfl,by omega,jO.made _ _,(Below.refl _ _).alloc (xgf _) _,by simp,⟨by simp,fun x hx=>by rw[List.eq_of_mem_replicate hx];exact jA,by rw[List.drop_eq_nil_of_le hlen1,List.drop_eq_nil_of_le sI];simp⟩⟩
 case round=>
  obtain⟨k,r,zs,hk,rfl,rfl,hr,hblk,hbel,hlz,HH⟩:=hrel;cases k with
  |zero=>
   go_wp2;go_ret2;refine⟨_,zs,r,by congr 3,hblk,HH.out.2.1,HH.out.1,hr,by simpa using HH.out.2.2,hbel⟩
  | succ k=>
   have hfr:=hblk.frozen k;obtain⟨b,off,x,rfl,hbw,hx32,HX,hck⟩:=hx.limb (k:=k) oM;have hck':=(hbel.cell (p:=⟨b,off+k,none⟩) hbw).trans hck;have hcz:=hblk.cell (k:=k) oM;clear hck;have eo:=zId r x oM hx32;have hq:(r*4294967296+x)/d<4294967296:=by
    rw[Nat.div_lt_iff_lt_mul hd0];have:(r+1)*4294967296<=d*4294967296:=Nat.mul_le_mul_right _ hr;omega
   have hr':(r*4294967296+x)%d<d:=Nat.mod_lt _ hd0;have EQ:Hid (((r:Int)*4294967296+x)/d=(((r*4294967296+x)/d:Nat):Int)):=by show _=_;simp
   have ER:Hid (((r:Int)*4294967296+x)%d=(((r*4294967296+x)%d:Nat):Int)):=by show _=_;simp
   go_wp2;go_roundw
   case rel=>exact⟨k,(r*4294967296+x)%d,zs.set k ((r*4294967296+x)/d),by omega,by go_num,by rw[ER.out],hr',hblk.set' _ _ _ (by rw[EQ.out];exact zDi _ hq),hbel.setCell (xgf _) _,by simpa using hlz,
     ⟨by simpa using HH.out.1,HH.out.2.1.set _ _ hq,zFa HH.out.2.2 oM oM HX.out⟩⟩
   case measure=>simp[intOf]
end Go.Proofs.YtnbmaipobhppcaaGreat

namespace Go.Proofs.YtnbmaipobhppcaaGreat
open Go.Shelf Go.RowKit
def Tryz.lays128_ren:Go.Shelf.Ren:=⟨fun|128=>303|n=>n,fun|51=>128|3=>3|4=>4|46=>129|5=>5|9=>9|n=>n,fun|n=>n⟩
def Tryz.lays133_ren:Go.Shelf.Ren:=⟨fun|133=>265|128=>303|n=>n,fun|51=>128|3=>3|4=>4|46=>129|5=>5|9=>9|n=>n,fun|n=>n⟩
theorem Tryz.lays133:Go.Proofs.Lays.n133 Tryz.prog Tryz.lays133_ren:={
 mixed:=by kernel_rfl
 f128:=Tryz.func303.trans (congrArg some kR)
 f133:=Tryz.func265.trans (congrArg some kR)
 t3:=Tryz.underlying3
 a3:=Tryz.isAgg3
 z3:=Tryz.sizeOf3
 v3:=Tryz.zeroValue3
 t4:=Tryz.underlying4
 a4:=Tryz.isAgg4
 z4:=Tryz.sizeOf4
 v4:=Tryz.zeroValue4
 t5:=Tryz.underlying5
 a5:=Tryz.isAgg5
 z5:=Tryz.sizeOf5
 v5:=Tryz.zeroValue5
 t9:=Tryz.underlying9
 a9:=Tryz.isAgg9
 z9:=Tryz.sizeOf9
 v9:=Tryz.zeroValue9
 t46:=Tryz.underlying129
 a46:=Tryz.isAgg129
 z46:=Tryz.sizeOf129
 v46:=Tryz.zeroValue129
 t51:=Tryz.underlying128
 a51:=Tryz.isAgg128
 z51:=Tryz.sizeOf128
 v51:=Tryz.zeroValue128}
theorem Tryz.bits_LeadingZeros32(x:Int)(w:World)(h0:0<=x)(h1:x<=4294967295):
  Calls Tryz.prog 265 #[.int .u32 x] w fun e w'=>e= .returned (.int .i64 (32-(Lib.bitLen x.toNat:Int)))/\w'=w:=Any.bits_LeadingZeros32 Tryz.lays133 x w h0 h1
theorem zCR:∀(f x:Nat),x<2^f->0<x->2^(Lib.bitLenAux f x-1)<=x/\x<2^Lib.bitLenAux f x/\0<Lib.bitLenAux f x
 |0,x,h,h0=>by simp at h;omega
 | f+1,x,h,h0=>by
  unfold Lib.bitLenAux;rw[if_neg oM];by_cases h1:x/2=0
  ·have:x=1:=by omega
   subst this;cases f<;>simp[Lib.bitLenAux]
  ·obtain⟨a,b,c⟩:=zCR f (x/2) (by rw[Nat.pow_succ]at h;omega) oM
   generalize Lib.bitLenAux f (x/2)=m at*;obtain⟨m,rfl⟩:∃k,m=k+1:=⟨m-1,by omega⟩;rw[show 1+(m+1)-1=m+1 by omega,show 1+(m+1)=m+1+1 by omega,Nat.pow_succ,Nat.pow_succ 2 (m+1)];simp only[Nat.add_sub_cancel]at a;omega
theorem zMb(x:Nat)(w:World)(h0:0<x)(h1:x<4294967296):
  ∃s:Nat,s<32/\2147483648<=x*2^s/\x*2^s<4294967296/\∀w,Calls Tryz.prog 265 #[.int .u32 (x:Nat)] w fun e w'=>e= .returned (.int .i64 (s:Nat))/\w=w':=by
 have hsp:=zCR 64 x oM h0;obtain⟨a,b,c⟩:=hsp;have hL:Lib.bitLen x<=32:=by
  unfold Lib.bitLen;rcases Nat.lt_or_ge 32 (Lib.bitLenAux 64 x)with h|h
  ·have:=Nat.pow_le_pow_right (show 0<2 by omega) (show 32<=Lib.bitLenAux 64 x-1 by omega)
   omega
  ·exact h
 refine⟨32-Lib.bitLen x,?_,?_,?_,fun w=>(Tryz.bits_LeadingZeros32 (x:Int) w oM oM).mono fun e w' h=>⟨?_,h.2.symm⟩⟩
 ·unfold Lib.bitLen;omega
 ·unfold Lib.bitLen at*
  generalize Lib.bitLenAux 64 x=m at*;have:2^(m-1)*2^(32-m)=2^31:=by rw[<-Nat.pow_add];congr 1;omega
  have h3:=Nat.mul_le_mul_right (2^(32-m)) a;omega
 ·unfold Lib.bitLen at*
  generalize Lib.bitLenAux 64 x=m at*;have:2^m*2^(32-m)=2^32:=by rw[<-Nat.pow_add];congr 1;omega
  have h3:=(Nat.mul_lt_mul_right (a:=2^(32-m)) (Nat.pow_pos oM)).2 b;omega
 ·rw[h.1]
  simp only[Int.toNat_natCast];congr 2;omega
end Go.Proofs.YtnbmaipobhppcaaGreat

namespace Go.Proofs.YtnbmaipobhppcaaGreat
open Go.RowKit
theorem zPR(d x s:Nat)(hd:d<2^s):d|||x*2^s=d+x*2^s:=by
 have h:=Nat.shiftLeft_add_eq_or_of_lt hd x;rw[Nat.shiftLeft_eq]at h;rw[Nat.or_comm,<-h,Nat.add_comm]
theorem zIt{x s:Nat}(hx:x<4294967296)(hs:s<32):x*2^s<=4294967295*2^s/\4294967296*2^s<18446744073709551616:=by
 refine⟨Nat.mul_le_mul_right _ oM,?_⟩;have:2^s<=2^31:=Nat.pow_le_pow_right oM oM;omega
theorem zOW(d x s:Nat)(hd:d<2^s)(hx:x<4294967296)(hs:s<32):bits BinOp.or IntKind.u64 (d:Int) (IntKind.u64.wrap ((x:Int)*2^s))=((d+x*2^s:Nat):Int):=by
 obtain⟨h1,h2⟩:=zIt hx hs;have e:IntKind.u64.wrap ((x:Int)*2^s)=((x*2^s:Nat):Int):=by
  rw[IntKind.wrap_u64,show(x:Int)*2^s=((x*2^s:Nat):Int) by simp];generalize x*2^s=m at*;generalize 2^s=p at*;omega
 have h:=u64_or_nat d (x*2^s) (by generalize x*2^s=m at*;generalize 2^s=p at*;omega) (by generalize x*2^s=m at*;generalize 2^s=p at*;omega);rw[e,h,zPR d x s hd]
theorem zJe{xs zs:List Nat}{k d x p m:Nat}(h:nat (zs.take k)+d*B32^k=nat (xs.take k)*p)(hk:k<zs.length)(hx:xs.getD k 0=x)(hm:d+x*p=m):
  nat ((zs.set k (m%4294967296)).take (k+1))+m/4294967296*B32^(k+1)=nat (xs.take (k+1))*p:=by
 rw[yX _ _ _ hk,zQ xs,hx,Nat.add_mul,<-h,Nat.pow_succ,yS];have e:=Nat.div_add_mod m 4294967296;generalize m/4294967296=q at*;generalize m%4294967296=r at*;have e1:x*4294967296^k*p=x*p*4294967296^k:=by simp only[Nat.mul_assoc,Nat.mul_comm,Nat.mul_left_comm]
 rw[e1];generalize 4294967296^k=t at*;have e2:(4294967296*q+r)*t=(d+x*p)*t:=by rw[e,hm]
 rw[Nat.add_mul,Nat.add_mul,Nat.mul_comm 4294967296 q,Nat.mul_assoc,Nat.mul_comm 4294967296 t]at e2;omega
theorem zG7(ao:Option Addr)(n cap:Nat)(xs:List Nat)(s:Nat)(w:World)(hn:xs.length=n)(hb:n<=4*LIM)(hx:zG w ao xs)(hs:s<32):
  Calls Tryz.prog 266 #[.slice ao n cap,.int .i64 (s:Nat)] w fun e w'=>
   ∃g zs,e= .returned (.slice (some ⟨g,0,none⟩) (n+1) (n+1))/\w.heap.size<=g/\jO w' g zs/\qR zs/\zs.length=n+1/\nat zs=nat xs*2^s/\Below w.heap.size w w':=by
 have HN:=Lib.hid hn;have hlen1:xs.length<=n:=by omega
 have hlen1':n<=xs.length:=by omega
 clear hn;rw[qV]at hb;have hmk:=fun W=>mkU ((n:Int)+1) (n+1) oM oM W
 go_enter Tryz.func266,Tryz.ntmps266;go_wp2;clear hmk;go_loopw [6,15] (fun c i wr=>∃(k d:Nat) (zs:List Nat),k<=n/\i= .int .i64 k/\c= .int .u64 d/\d<4294967296/\jO wr w.heap.size zs/\Below w.heap.size w wr/\n<zs.length∧
   Hid (zs.length=n+1/\qR zs/\d<2^s/\nat (zs.take k)+d*B32^k=nat (xs.take k)*2^s)) (fun _ i _=>n-(intOf i).toNat)
 case atStart=>exact⟨0,0,List.replicate (n+1) 0,by omega,rfl,rfl,by omega,jO.made _ _,(Below.refl _ _).alloc (xgf _) _,by simp,⟨by simp,fun x hx=>by rw[List.eq_of_mem_replicate hx];exact jA,Nat.pow_pos oM,by simp⟩⟩
 case round=>
  obtain⟨k,d,zs,hk,rfl,rfl,hd,hblk,hbel,hlz,HH⟩:=hrel;have hfr:=hblk.frozen k;by_cases hkn:k<n
  ·obtain⟨b,off,x,rfl,hbw,hx32,HX,hck⟩:=hx.limb (k:=k) oM
   have hck':=(hbel.cell (p:=⟨b,off+k,none⟩) hbw).trans hck;have hcz:=hblk.cell (k:=k) oM;clear hck;have hor:=zOW d x s HH.out.2.2.1 hx32 hs;obtain⟨hs1,hs2⟩:=zIt hx32 hs;obtain⟨m,hm⟩:∃m,d+x*2^s=m:=⟨_,rfl⟩;rw[hm]at hor;have hmlt:m<4294967296*2^s:=by have:=HH.out.2.2.1;generalize x*2^s=y at*;generalize 2^s=p at*;omega
   have hmd:m/4294967296<2^s:=by omega
   have HM:=Lib.hid hm;have HMD:=Lib.hid hmd;have hm64:m<18446744073709551616:=by generalize 2^s=p at*;omega
   clear hm hmlt hs1 hs2 hmd;go_wp2;go_roundw
   case rel=>exact⟨k+1,m/4294967296,zs.set k (m%4294967296),by omega,by go_num,by go_num,by omega,hblk.set' _ _ _ (by simp[IntKind.wrap_u32]),hbel.setCell (xgf _) _,by simpa using hlz,
     ⟨by simpa using HH.out.1,HH.out.2.1.set _ _ (Nat.mod_lt _ oM),HMD.out,zJe HH.out.2.2.2 oM HX.out HM.out⟩⟩
   case measure=>simp[intOf];omega
  ·obtain rfl:n=k:=by omega
   have hcz:=hblk.cell (k:=n) oM;go_wp2;go_ret;have h1:=HH.out.2.2.2;have h2:=yX zs n d hlz;rw[zJ _ (by simp[HH.out.1]),h1,zJ xs oM]at h2;exact⟨_,zs.set n d,rfl,xgf _,hblk.set' _ _ d (by simp[IntKind.wrap_u32]),HH.out.2.1.set _ _ hd,by simpa using HH.out.1,h2,hbel.setCell (xgf _) _⟩
end Go.Proofs.YtnbmaipobhppcaaGreat

namespace Go.Proofs.YtnbmaipobhppcaaGreat
def seg(us:List Nat)(off k:Nat):List Nat:=(us.drop off).take k
theorem zFZ{us:List Nat}{off k:Nat}(h:off+k<=us.length):(seg us off k).length=k:=by unfold seg;simp;omega
theorem zM6{us:List Nat}{off k:Nat}(h:off+k<us.length):seg us off (k+1)=seg us off k++ [us.getD (off+k) 0]:=by
 unfold seg;rw[zBO _ _ (by simp;omega)];simp[xgb,List.getElem?_drop]
theorem zDt{us:List Nat}{off k:Nat}(h:off+k<us.length):nat (seg us off (k+1))=nat (seg us off k)+us.getD (off+k) 0*B32^k:=by
 rw[zM6 h,zAu,zFZ (by omega),Nat.mul_comm]
theorem qR.drop{xs:List Nat}(h:qR xs)(k:Nat):qR (xs.drop k):=fun x hx=>h x (List.mem_of_mem_drop hx)
theorem qR.seg{xs:List Nat}(h:qR xs)(off k:Nat):qR (seg xs off k):=(h.drop off).take k
def put(us:List Nat)(off:Nat)(ms:List Nat):List Nat:=us.take off++ms++us.drop (off+ms.length)
theorem zBY{us ms:List Nat}{off:Nat}(h:off+ms.length<=us.length):(put us off ms).length=us.length:=by unfold put;simp;omega
theorem zOb(us:List Nat)(off:Nat):put us off []=us:=by unfold put;simp
theorem zK7{us ms:List Nat}{off v:Nat}(h:off+ms.length<us.length):(put us off ms).set (off+ms.length) v=put us off (ms++ [v]):=by
 unfold put;have h1:(us.take off++ms).length=off+ms.length:=by simp;omega
 rw[List.set_append_right _ _ (by rw[h1];omega),h1,Nat.sub_self,List.drop_eq_getElem_cons h];simp[Nat.add_assoc]
theorem zIk{us ms:List Nat}{off k:Nat}(h:off+ms.length<=us.length)(hk:ms.length<=k):(put us off ms).getD (off+k) 0=us.getD (off+k) 0:=by
 unfold put;have h1:(us.take off++ms).length=off+ms.length:=by simp;omega
 simp only[xgb];rw[List.getElem?_append_right (by rw[h1];omega),h1,List.getElem?_drop];congr 2;omega
theorem zHu{us ms:List Nat}{off k:Nat}(h:off+ms.length<=us.length)(hk:k<ms.length):(put us off ms).getD (off+k) 0=ms.getD k 0:=by
 unfold put;have h2:(us.take off).length=off:=by simp;omega
 simp only[xgb];rw[List.getElem?_append_left (by simp;omega),List.getElem?_append_right (by rw[h2];omega),h2];congr 2;omega
theorem zK6{us ms:List Nat}{off:Nat}(h:qR us)(hm:qR ms):qR (put us off ms):=((h.take off).append hm).append (h.drop _)
theorem zJR{us ms:List Nat}{off k v:Nat}(h:off+ms.length<=us.length)(hk:k<ms.length):(put us off ms).set (off+k) v=put us off (ms.set k v):=by
 unfold put;have h2:(us.take off).length=off:=by simp;omega
 rw[List.set_append_left _ _ (by simp;omega),List.set_append_right _ _ (by rw[h2];omega),h2,Nat.add_sub_cancel_left];simp
theorem zMk{vs:List Nat}{n:Nat}(hv:qR vs)(hl:vs.length=n+2):
  ∃l,l<B32^n/\nat vs=(vs.getD (n+1) 0*B32+vs.getD n 0)*B32^n+l:=by
 refine⟨nat (vs.take n),?_,?_⟩
 ·have:=jX (hv.take n);rwa[List.length_take,Nat.min_eq_left (by omega)]at this
 ·have h1:=zQ vs (n+1)
  have h2:=zQ vs n;rw[zJ vs (by omega),h2,Nat.pow_succ]at h1;rw[h1,Nat.add_mul,Nat.mul_assoc,Nat.mul_comm B32 (B32^n)];omega
theorem zMl{us:List Nat}{n:Nat}(hv:qR us)(hl:us.length=n+3):
  ∃l,l<B32^n/\nat us=((us.getD (n+2) 0*B32+us.getD (n+1) 0)*B32+us.getD n 0)*B32^n+l:=by
 refine⟨nat (us.take n),?_,?_⟩
 ·have:=jX (hv.take n);rwa[List.length_take,Nat.min_eq_left (by omega)]at this
 ·have h1:=zQ us (n+2)
  have h2:=zQ us (n+1);have h3:=zQ us n;rw[zJ us (by omega),h2,h3]at h1;rw[h1,show B32^(n+2)=B32*(B32*B32^n) by rw[Nat.pow_succ,Nat.pow_succ,Nat.mul_comm,Nat.mul_comm (B32^n)],show B32^(n+1)=B32*B32^n by rw[Nat.pow_succ,Nat.mul_comm]];generalize B32^n=P;simp only[Nat.add_mul,Nat.mul_assoc];omega
theorem zOO(t B p:Nat):t*(B*p)=t*p*B:=by rw[Nat.mul_comm B p,<-Nat.mul_assoc]
section
variable {U V Q h v2 u2 top p Ul Vl:Nat} (hU:U=(top*4294967296+u2)*p+Ul) (hV:V=(h*4294967296+v2)*p+Vl) (hp:0<p) (hUl:Ul<p) (hVl:Vl<p)
 (hu2:u2<4294967296) (hv2:v2<4294967296) (hh:2147483648<=h) (hh2:h<4294967296) (hQ:Q*V<=U) (hQB:Q<4294967296) (hUV:U<V*4294967296)
include hU hV hp hUl hVl hu2 hv2 hh hh2 hQ hQB hUV
omit hUl hu2 hh hh2 hQ hQB hUV in
theorem zP2{q r:Nat}(hqr:q*h+r=top)(hb:r*4294967296+u2<q*v2)(hUl:Ul<p):U<q*V:=by
 have h1:top*4294967296+u2+1<=q*(h*4294967296+v2):=by
  rw[<-hqr,Nat.mul_add,Nat.add_mul,Nat.mul_assoc];omega
 have h2:=Nat.mul_le_mul_right p h1;rw[hU,hV,Nat.mul_add,<-Nat.mul_assoc];rw[Nat.add_mul _ 1 p]at h2;omega
theorem zPK{q r:Nat}(hqr:q*h+r=top)(hq:Q<=q)(hb:q>4294967295∨r*4294967296+u2<q*v2):Q<=q-1:=by
 rcases hb with hb|hb
 ·omega
 ·have h1:=zP2 hU hV hp hVl hv2 hqr hb hUl
  rcases Nat.lt_or_ge Q q with h2|h2
  ·omega
  ·have:=Nat.mul_le_mul_right V h2;omega
theorem zOB:Q<=top/h:=by
 rw[Nat.le_div_iff_mul_le (by omega)];rcases Nat.lt_or_ge top (Q*h)with h1|h1
 ·exfalso
  have h2:(top+1)*(4294967296*p)<=Q*h*(4294967296*p):=Nat.mul_le_mul_right _ h1;have h3:Q*h*(4294967296*p)<=Q*V:=by
   rw[hV,Nat.mul_assoc];refine Nat.mul_le_mul_left _ ?_;rw[Nat.add_mul,<-Nat.mul_assoc];omega
  have h4:U<(top+1)*(4294967296*p):=by
   rw[hU,Nat.add_mul,Nat.add_mul,<-Nat.mul_assoc];have:(u2+1)*p<=4294967296*p:=Nat.mul_le_mul_right _ hu2;rw[Nat.add_mul]at this;omega
  omega
 ·exact h1
theorem zNW:top<(h+1)*4294967296:=by
 rcases Nat.lt_or_ge top ((h+1)*4294967296)with h1|h1
 ·exact h1
 ·exfalso
  have h2:V<(h+1)*4294967296*p:=by
   rw[hV];have:(h*4294967296+v2+1)*p<=(h+1)*4294967296*p:=Nat.mul_le_mul_right _ (by omega);rw[Nat.add_mul _ 1]at this;omega
  have h3:=Nat.mul_le_mul_right (4294967296*p) h1;have h4:top*(4294967296*p)<=U:=by rw[hU,Nat.add_mul,<-Nat.mul_assoc,Nat.add_assoc];exact Nat.le_add_right _ _
  rw[zOO]at h3;have h5:=Nat.mul_le_mul_right 4294967296 (Nat.le_of_lt h2);exact absurd (Nat.lt_of_lt_of_le hUV (Nat.le_trans h5 (Nat.le_trans h3 h4))) (Nat.lt_irrefl _)
theorem zMY:top/h<=4294967297:=by
 have h1:=zNW hU hV hp hUl hVl hu2 hv2 hh hh2 hQ hQB hUV;have:top/h<4294967298:=by
  rw[Nat.div_lt_iff_lt_mul (by omega)];omega
 omega
theorem zP3{q r:Nat}(hqr:q*h+r=top)(hqB:q<4294967296)(hb:q*v2<=r*4294967296+u2):q<=Q+1∨q*V<U+V:=by
 right;have h1:q*(h*4294967296+v2)<=top*4294967296+u2:=by
  rw[<-hqr,Nat.mul_add,Nat.add_mul,Nat.mul_assoc];omega
 have h2:=Nat.mul_le_mul_right p h1;rw[hV,Nat.mul_add,<-Nat.mul_assoc,hU];have h3:q*Vl<=4294967295*p:=Nat.mul_le_mul (by omega) (by omega);have h4:4294967296*p<=h*4294967296*p:=Nat.mul_le_mul_right _ (by omega);rw[Nat.add_mul (h*4294967296)];omega
theorem zOC{q r:Nat}(hqr:q*h+r=top)(hr:4294967295<r):q<4294967296/\q*v2<=r*4294967296+u2:=by
 have h1:=zNW hU hV hp hUl hVl hu2 hv2 hh hh2 hQ hQB hUV;have h2:q<4294967296:=by
  rcases Nat.lt_or_ge q 4294967296 with h3|h3
  ·exact h3
  ·have:=Nat.mul_le_mul_right h h3;omega
 refine⟨h2,?_⟩;have h3:q*v2<=4294967296*4294967296:=Nat.mul_le_mul (by omega) (by omega);omega
end
theorem zKo{us ms vs:List Nat}{off q b c x e v b' c':Nat}(h:nat ms+q*nat (vs.take ms.length)=nat (seg us off ms.length)+(b+c)*B32^ms.length)(hk:off+ms.length<us.length)
  (hx:us.getD (off+ms.length) 0=x) (he:vs.getD ms.length 0=e) (hv:v+(c+q*e)+b=x+(b'+c')*4294967296):
  nat (ms++ [v])+q*nat (vs.take (ms.length+1))=nat (seg us off (ms.length+1))+(b'+c')*B32^(ms.length+1):=by
 rw[zAu,zDt hk,zQ,hx,he,Nat.pow_succ,yS,Nat.mul_add,<-Nat.mul_assoc q];rw[yS]at h;generalize 4294967296^ms.length=p at*;have e1:(v+(c+q*e)+b)*p=(x+(b'+c')*4294967296)*p:=by rw[hv]
 have e2:(b'+c')*(p*4294967296)=(b'+c')*4294967296*p:=by rw[Nat.mul_assoc,Nat.mul_comm p]
 rw[e2,Nat.mul_comm p v];simp only[Nat.add_mul]at*;omega
theorem zGO{ms vs rr:List Nat}{c x e:Nat}(h:nat rr+c*B32^rr.length=nat (ms.take rr.length)+nat (vs.take rr.length))(hx:ms.getD rr.length 0=x)(he:vs.getD rr.length 0=e):
  nat (rr++ [(c+(x+e))%4294967296])+(c+(x+e))/4294967296*B32^(rr.length+1)=nat (ms.take (rr.length+1))+nat (vs.take (rr.length+1)):=by
 rw[zAu,zQ,zQ,hx,he,Nat.pow_succ,yS];rw[yS]at h;generalize 4294967296^rr.length=p at*;have e0:=Nat.div_add_mod (c+(x+e)) 4294967296;generalize (c+(x+e))/4294967296=q at*;generalize hr:(c+(x+e))%4294967296=r at*;have e2:(4294967296*q+r)*p=(c+(x+e))*p:=by rw[e0]
 rw[Nat.add_mul,Nat.mul_comm 4294967296 q,Nat.mul_assoc,Nat.mul_comm 4294967296 p,Nat.add_mul,Nat.add_mul]at e2;rw[Nat.mul_comm p r];omega
end Go.Proofs.YtnbmaipobhppcaaGreat
