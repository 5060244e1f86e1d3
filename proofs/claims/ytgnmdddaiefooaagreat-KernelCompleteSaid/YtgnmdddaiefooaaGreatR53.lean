/- torsionref12.Reduce. torsionlaw12.HermiteMatchesReference: the walk. The law for regions that draw, where a value is promised only until its reader has come up. torsionlaw12.HermiteReduces: the walk. torsionref12.Contains, torsionref15.Rank; the other ways to a saturation. torsionlaw15.KernelSaturates: the walk. For torsionlaw15.KernelComplete: an own vector; how large the numbers are; the kernel of b. -/
import Derived.Test.YtgnmdddaiefooaaGreatR25
import Derived.Test.YtgnmdddaiefooaaGreatR41
import Derived.Test.YtgnmdddaiefooaaGreatR44
import Derived.Test.YtgnmdddaiefooaaGreatR47
import Derived.Test.YtgnmdddaiefooaaGreatR48
import Derived.Test.YtgnmdddaiefooaaGreatR51
import Derived.Test.YtgnmdddaiefooaaGreatR52
set_option linter.unusedVariables false
set_option linter.unusedSimpArgs false
set_option linter.unusedSectionVars false
set_option maxHeartbeats 16000000
set_option maxRecDepth 100000
namespace Go.Proofs.YtgnmdddaiefooaaGreat
open Go.RowKit
theorem zBo.row{w:World}{base:Nat}{v:Value}{zs:List Int}{g:Nat}(h:zBo w base v zs)(hg:v.ownBlock=some g):
  ∃cap,v= .slice (some ⟨g,0,none⟩) zs.length cap/\zs.length<=cap/\cap<=9223372036854775807/\base<=g/\qF w g zs:=by
 obtain⟨cells,⟨h0,h1⟩,h2⟩:=h;rcases h1 with⟨rfl,hn⟩|⟨g',cap,cur,rfl,e1,e2,e3,e4,e5,e6⟩
 ·cases hg
 ·injection hg with hg
  subst hg;refine⟨cap,rfl,e3,e4,e1,cur,e2,fun k z hk=>?_⟩;obtain⟨s,a,l,c,q1,q2,q3⟩:=h2 k z hk;have hk':k<zs.length:=(xge.1 hk).1;rw[<-e6,List.getElem?_take_of_lt oM]at q1 q2;exact⟨s,a,l,c,by simpa using q1,by simpa using q2,q3⟩
theorem zHC(w:World){base:Nat}(hb:base<=w.heap.size):zBo (w.alloc (.cells #[] tI)) base (.slice (some ⟨w.heap.size,0,none⟩) 0 0) []:=
 ⟨[],World.ownsRow_made w #[] 0 hb (Nat.zero_le _) rfl,fun k z h=>by simp at h⟩
theorem zBo.grown{w w':World}{base:Nat}{v:Value}{zs:List Int}{row:Option Nat}(h:zBo w base v zs)(hg:w.grownBy w' row)(hne:∀g,v.ownBlock=some g->some g≠row)(hx:yI w w'):zBo w' base v zs:=by
 obtain⟨cells,h1,h2⟩:=h;exact⟨cells,h1.kept hg (by cases hv:v.ownBlock with
  |none=>exact .inl rfl
  |some g=>exact .inr (hne g hv)),zA2.ext h2 hx⟩
theorem zBo.glt{w:World}{base:Nat}{v:Value}{zs:List Int}(h:zBo w base v zs):∀g,v.ownBlock=some g->g<w.heap.size:=fun g hg=>by
 obtain⟨cells,h1,-⟩:=h;exact(h1.lt g hg).2
theorem zBo.onlyS{w w':World}{base:Nat}{v:Value}{zs:List Int}{S:List Nat}(h:zBo w base v zs)(ho:yQ S w w')(hA:∀g,v.ownBlock=some g->g ∉ S):zBo w' base v zs:=by
 obtain⟨cells,h1,h2⟩:=h;refine⟨cells,⟨h1.1,?_⟩,zA2.ext h2 ho.lext⟩;rcases h1.2 with h3|⟨g,cap,cur,e1,e2,e3,e4⟩
 ·exact .inl h3
 ·exact .inr ⟨g,cap,cur,e1,e2,(ho.old g (Array.getElem?_eq_some_iff.1 e3).1 (hA g (by rw[e1];rfl))).trans e3,e4⟩
theorem zKn{w:World}{b i:Nat}{u v:Value}(hx:yI w ((w.setCell ⟨b,i,none⟩ u).setCell ⟨b,i+1,none⟩ v)):yQ [b] w ((w.setCell ⟨b,i,none⟩ u).setCell ⟨b,i+1,none⟩ v):=
 ⟨zP (zP (Below.refl _ _) (Nat.zero_le _) _ _) (Nat.zero_le _) _ _,hx,fun k _ hk=>qH _ _ _ _ _ _ _ (fun e=>hk (e ▸ List.mem_singleton.2 rfl))⟩
theorem zPE{w:World}{n:Bool}{a:Option Addr}{l c:Nat}{z:Int}(h:zR w (.agg #[.bool n,.slice a l c]) z):ZsV (w.alloc (.cells #[.bool n,.slice a l c] tI)) (.slice (some ⟨w.heap.size,0,none⟩) 1 1) [z]:=by
 refine⟨_,1,1,rfl,rfl,fun _=>⟨_,0,[.bool n,.slice a l c],rfl,rfl,fun k y hk=>?_,fun j u hj=>?_⟩⟩
 ·have hk0:k=0:=by
   have:=(xge.1 hk).1;simp at this;omega
  subst hk0;simp at hk;subst hk;exact⟨n,a,l,c,rfl,rfl,h.ext (lx ((Below.refl _ _).alloc (xgf _) _))⟩
 ·rw[Nat.zero_add,(Blk.new w tI #[Value.bool n,.slice a l c]).cell]
  simpa using hj
theorem zF3{B:Nat}(hB:BSd B)(hv vv:Value)(R C:Nat)(M:List (List Int))(x:Nat->Int)(w:World)(h:qL w hv R C M)(hF:yG R C M)(hx:zAZ w vv (zQ C x))(hR:R<=1000000)(hC:C<=1000000)(hok:zPK B R C (ent M) x)(hB0:0<B):
  Calls Tryz.prog 47 #[hv,vv] w (zOd R C (zEA C (ent M) x) (zCO C (ent M) x R) w):=by
 have h0:=h;obtain⟨A,rfl,h⟩:=h;obtain⟨ao,n,cap,rfl,e2,e3,e4,-⟩:=id h;obtain rfl:R=n:=by rw[<-e2,hF.1]
 obtain⟨xo,xn,xcap,rfl,x2,x3,x4,-⟩:=id hx;rw[zE]at x2;subst x2;have HF:=xgv hF;have HOK:=xgv hok;have H0:=xgv h0;have HR:=xgv h;have HX:=xgv hx;have HB0:=xgv hB0;clear hok h0 hF e2 h hx hB0;go_enter Tryz.func47,Tryz.ntmps47;go_upto_region 1 with(fail)
 refine zC ?_;intro W0 hW0;obtain⟨hb0,bx1,hs0⟩:=zN hW0;obtain⟨c1,c2,c3,c4,c5,c6⟩:=bx1.three;clear hW0;go_upto_region 4 with(fail)
 have hzs:=(HX.out.below hb0).zs;have ho8:zBo ((W0.alloc (.cells #[] tI)).alloc (.cells #[] tI)) (W0.heap.size+1) (.slice (some ⟨W0.heap.size+1,0,none⟩) 0 0) []:=by
  have:=zHC (W0.alloc (.cells #[] tI)) (base:=W0.heap.size+1) sI;rwa[show(W0.alloc (.cells #[] tI)).heap.size=W0.heap.size+1 by simp]at this
 have ho7:=zHC W0 (base:=W0.heap.size) (xgf _);go_wp2_with (at_builtin;go_loud (refine zQB 38 Tryz.underlying38 rfl _ _ rfl (W0.heap.size+1) (.slice (some ⟨W0.heap.size+1,0,none⟩) 0 0) [] rfl ho8 _ (zQ C x) rfl (hzs.below (((Below.refl _ _).alloc (xgf _) _).alloc sI _)) (by rw[zE];simp;omega) sI ?_);intro v4 w4 hv4 hgr hxg hob)
 have hgr:World.grownBy ((W0.alloc (.cells #[] tI)).alloc (.cells #[] tI)) w4 (some (W0.heap.size+1)):=hgr;rw[List.nil_append]at hv4;obtain⟨g8,hg8,hge⟩:∃g,v4.ownBlock=some g/\W0.heap.size+1<=g:=by
  rcases hob with e|⟨g,e1,e2⟩
  ·exact⟨_,e,xgf _⟩
  ·exact⟨g,e1,by simp at e2;omega⟩
 obtain⟨cap8,e8,k1,k2,-,hr8⟩:=hv4.row hg8;rw[zE]at e8 k1;subst e8;have hb4:Below w.heap.size w w4:=(((hb0.alloc hb0.size _).alloc (by have:=hb0.size;simp;omega) _)).grown hgr (by have:=hb0.size;simp;omega) (fun g hg=>by have:=hb0.size;injection hg;omega);have ho7:=(ho7.below ((Below.refl _ _).alloc (xgf _) _)).grown hgr (fun g hg e=>by have h1:W0.heap.size=g:=Option.some.inj hg;have h2:=Option.some.inj e;omega) hxg;have hq8:∀g,(Value.slice (some ⟨W0.heap.size,0,none⟩) 0 0).ownBlock=some g->g≠g8:=fun g hg=>by have h1:W0.heap.size=g:=Option.some.inj hg;omega
 have bx1:Blk w4 w.heap.size 28 #[.int .i64 R,.int .i64 C,.slice ao R cap]:=(hgr.block _ (by simp;omega) (by simp;omega)).trans (((bx1.alloc _).alloc _));have hge8:w.heap.size<g8:=by omega
 clear hob hgr hxg hv4 hzs ho8 c1 c2 c3 c4 c5 c6 hg8;go_wp2;go_loopw [7,9] (fun qv iv wr=>∃i:Nat,i<=R/\iv= .int .i64 i/\Below w.heap.size w wr/\Blk wr w.heap.size 28 #[.int .i64 R,.int .i64 C,.slice ao R cap]/\zBo wr W0.heap.size qv (zQ i (zEA C (ent M) x))/\(∀g,qv.ownBlock=some g->g≠g8)/\qF wr g8 (zQ C (zCO C (ent M) x i))) (fun _ iv _=>R-(intOf iv).toNat)
 case atStart=>exact⟨0,by omega,rfl,hb4,bx1,ho7,hq8,hr8⟩
 case round=>
  rename World=>wt
  clear hb4 bx1 ho7 hq8 hr8;obtain⟨i,hi,rfl,hbt,bx1,ho7,hq8,hr8⟩:=hrel;have lbx:=bx1.lt;have lr8:=hr8.lt;have l7:=ho7.glt;by_cases hlt:i<R
  ·obtain⟨b,ra,rn,rc,zs,rfl,hbl,hz,p1,hrv0⟩:=HR.out.row (k:=i) (by rw[HF.out.1];exact hlt)
   obtain rfl:=HF.out.row_eq hz;have hrn:=hrv0.len.1;have p0:=p1;have p1:=(hbt.cell (p:=⟨b,i,none⟩) hbl).trans p1;have hrv:=hrv0.below hbt;rw[zE]at hrn;subst hrn;obtain⟨c1,c2,c3,c4,c5,c6⟩:=bx1.three;clear hz;go_wp2_with fail
   refine(zBg 0 wt oM oM).mono ?_;rintro e w7 ⟨u,rfl,hu,hb7⟩;obtain⟨un,ua,ul,uc,ux,rfl,hu'⟩:=id hu;have HU:=xgw hu';have hblt:=Nat.lt_of_lt_of_le hbl hbt.size;have hbt:=nx hbt hb7;have bx1:=bx1.below hb7;have ho7:=ho7.below hb7;have hr8:=hr8.below hb7;have hrv:=hrv.below hb7;have p1:=(hb7.cell (p:=⟨b,i,none⟩) hblt).trans p1;clear hu' c1 c2 c3 c4 c5 c6;go_upto_region 9 with(fail)
   refine zC ?_;intro W8 hW8;obtain⟨hB8,T10,hs8⟩:=zN hW8;have hbt:=nx hbt hB8;have bx1:=bx1.below hB8;have ho7:=ho7.below hB8;have hr8:=hr8.below hB8;have hrv:=hrv.below hB8;have p1:=(hB8.cell (p:=⟨b,i,none⟩) (Nat.lt_of_lt_of_le hblt hb7.size)).trans p1;have hT:=jS.mk T10 (hu.ext (lx hB8));obtain⟨c1,c2,c3,c4,c5,c6⟩:=bx1.three;go_wp2_with fail
   refine(zEk _ (zQ C (ent M i)) W8 hrv).mono ?_;rintro e w9 ⟨rfl,hb9⟩;obtain⟨d,hd⟩:∃d,zAN 0 (zQ C (ent M i))=d:=⟨_,rfl⟩;rw[hd];have HD:=xgw (show lead C (ent M) i=d from hd);clear c1 c2 c3 c4 c5 c6;go_upto_region 10 with(fail)
   rename_i K1 hK1 K0 hK0;have hbt:=nx hbt hb9;have bx1:=bx1.below hb9;have ho7:=ho7.below hb9;have hr8:=hr8.below hb9;have hT:=hT.below hb9;have lt10:w.heap.size<w7.heap.size:=by have:=hb7.size;omega
   have hg10:g8≠w7.heap.size:=by have:=hb7.size;omega
   have h710:∀g,u7.ownBlock=some g->g≠w7.heap.size:=fun g hg=>by have:=hb7.size;have:=l7 g hg;omega
   obtain⟨F1,hF1⟩:∃F1,zCO C (ent M) x i=F1:=⟨_,rfl⟩;obtain⟨F2,hF2⟩:∃F2,zCO C (ent M) x (i+1)=F2:=⟨_,rfl⟩;obtain⟨q,hq⟩:∃q,zEA C (ent M) x i=q:=⟨_,rfl⟩;have HST:qM (∀t,F2 t=F1 t-q*ent M i t):=⟨fun t=>by
    rw[<-hF2,<-hF1,<-hq];show zCO C (ent M) x i t+-(zEA C (ent M) x i)*ent M i t=_;rw[Int.neg_mul];omega⟩
   have HSM:qM (Sm q/\∀t,t<C->Sm (F1 t)/\Sm (ent M i t)/\Sm (q*ent M i t)):=⟨by
    rw[<-hF1,<-hq];exact⟨hB.bsm.sm _ (HOK.out.quot i hlt).1,fun t ht=>⟨hB.bsm.sm _ (HOK.out.rest i oM t ht),hB.bsm.sm _ (HOK.out.mat i hlt t ht),hB.bsm.sm _ (by have:=(HOK.out.quot i hlt).2 t ht;rwa[Int.neg_mul,Int.natAbs_neg]at this)⟩⟩⟩
   rw [hF1]at hr8;have HF2:=xgv hF2;have HQ:=xgv hq;have HK1:=xgv hK1;clear hK1 hF2;have body:∀{u11 u12 u22 u23 u24 u25 u26 u27 u28 u29 u30 u31 u32 u33 u34 u35 u36 u37 u38 u39 u40 u41 u42 u43 u44 u45 u46 u47 u48 u49 u50 u51 u52 u53 u54 u55 u56 u57 u58 u59 u60 u61 u62 u63 u64 u65 u66 u67 u68 u69 u70 u71 u72 u73 u74 u75 u76 u77:Value} (wX:World),yQ [w7.heap.size] w9 wX->jS wX w7.heap.size q->K1 {tmps:=#[.agg #[.int .i64 R,.int .i64 C,.slice (some ⟨b,0,none⟩) R cap],.slice xo C xcap,.pointer (some ⟨w.heap.size,0,none⟩),undef,.slice none 0 0,.slice none 0 0,.int .i64 0,u7,.slice (some ⟨g8,0,none⟩) C cap8,.int .i64 i,.pointer (some ⟨w7.heap.size,0,none⟩),u11,u12,.slice xo C xcap,.int .i64 C,.pointer (some ⟨w.heap.size,1,none⟩),.int .i64 C,.bool false,.slice (some ⟨W0.heap.size,0,none⟩) 0 0,.slice (some ⟨W0.heap.size+1,0,none⟩) 0 0,.slice xo C xcap,.slice (some ⟨g8,0,none⟩) C cap8,u22,u23,u24,u25,u26,u27,u28,u29,u30,u31,u32,u33,u34,u35,u36,u37,u38,u39,u40,u41,u42,u43,u44,u45,u46,u47,u48,u49,u50,u51,u52,u53,u54,u55,u56,u57,u58,u59,u60,u61,u62,u63,u64,u65,u66,u67,u68,u69,u70,u71,u72,u73,u74,u75,u76,u77,undef,undef],defers:=[]} wX:=by
    intro u11 u12 u22 u23 u24 u25 u26 u27 u28 u29 u30 u31 u32 u33 u34 u35 u36 u37 u38 u39 u40 u41 u42 u43 u44 u45 u46 u47 u48 u49 u50 u51 u52 u53 u54 u55 u56 u57 u58 u59 u60 u61 u62 u63 u64 u65 u66 u67 u68 u69 u70 u71 u72 u73 u74 u75 u76 u77 wX hX hT;refine HK1.out _ _ ?_;have hbt:=Below.only hbt hX (by have:=hbt.size;omega) (fun k hk=>by simp at hk;omega);have bx1:=(hX.old _ bx1.lt (by simp;omega)).trans bx1;have ho7:=ho7.onlyS hX (fun g hg=>by simpa using h710 g hg);have hr8:=hr8.only hX (by simpa using hg10);have hr8:qF wX g8 (zQ C (qI F2 F1 0)):=by rw[zJh];exact hr8
    clear hX HK1;go_wp2;go_loopw [12] (fun jv wr=>∃j:Nat,j<=C/\jv= .int .i64 j/\Below w.heap.size w wr/\Blk wr w.heap.size 28 #[.int .i64 R,.int .i64 C,.slice (some ⟨b,0,none⟩) R cap]/\zBo wr W0.heap.size u7 (zQ i (zEA C (ent M) x))/\qF wr g8 (zQ C (qI F2 F1 j))/\jS wr w7.heap.size q) (fun jv _=>C-(intOf jv).toNat)
    case atStart=>exact⟨0,by omega,rfl,hbt,bx1,ho7,hr8,hT⟩
    case round=>
     rename World=>ws
     clear hbt bx1 ho7 hr8 hT;obtain⟨j,hj,rfl,hbt,bx1,ho7,hr8,hT⟩:=hrel;obtain⟨c1,c2,c3,c4,c5,c6⟩:=bx1.three;by_cases hjc:j<C
     ·obtain⟨bi,rfl,hrow⟩:∃bi,ra=some ⟨bi,0,none⟩/\qF w bi (zQ C (ent M i)):=by
       obtain⟨_,_,_,e1,-,-,-,g5⟩:=id hrv0;cases e1;exact g5 (fun h=>by have:=congrArg List.length h;rw[zE]at this;simp at this;omega)
      have p1:=(hbt.cell (p:=⟨b,i,none⟩) hbl).trans p0;obtain⟨s2,a2,l2,k2',o1,o2,-,-,hov⟩:=hr8.cell (zW hjc);obtain⟨s,a,l,k,q1,q2,-,-,hzv⟩:=(hrow.below hbt).cell (zW hjc);have hFj:qI F2 F1 j j=F1 j:=by unfold qI;rw[if_neg oM]
      rw[hFj]at hov;obtain⟨y,hy⟩:∃y,F1 j=y:=⟨_,rfl⟩;obtain⟨m,hm⟩:∃m,ent M i j=m:=⟨_,rfl⟩;rw[hy]at hov;rw[hm]at hzv;have HY:=xgw hy;have HM:=xgw hm;have HS:qM (Sm q/\Sm y/\Sm m/\Sm (q*m)):=⟨by
       have:=HSM.out.2 j hjc;rw[hy,hm]at this;exact⟨HSM.out.1,this⟩⟩
      obtain⟨bn,ba,bl,bk,bT,hbv⟩:=id hT;obtain⟨b1,b2,b3,b4⟩:=bT.two;have ln1:=hr8.lt;have ln2:=bx1.lt;have ln3:=bT.lt;have ln4:=(hrow.below hbt).lt;have ln5:b<ws.heap.size:=by omega
      clear hFj hy hm;go_upto_region 15 with(fail)
      refine zB 18 rfl (RI ws (ws.heap.size) _ 51
        [VSl 0 56 g8 C cap8,VN 1 57 j,VSl 2 58 g8 C cap8,VN 3 59 j,VP 4 60 g8 (j*2),E 5 61 (.agg #[.bool s2,.slice a2 l2 k2']),E 6 62 (.agg #[.bool bn,.slice ba bl bk]),VP 7 63 w.heap.size 2,VSl 8 64 b R cap,VN 9 65 i,VP 10 66 b i,VSl 11 67 bi C rc,VN 12 68 j,VP 13 69 bi (j*2),E 14 70 (.agg #[.bool s,.slice a l k]),EI 15 71 (q*m),EI 16 72 (y-q*m),VP 17 73 g8 (j*2)] [] []) kR RI.start (RI.fin kR ?fin1) ?steps1
      case steps1=>
       refine⟨?_,?_,?_,?_,?_,?_,?_,?_,?_,?_,?_,?_,?_,?_,?_,?_,?_,?_,trivial⟩<;>(intro L T wS hL hd hcl hI K hK;try refine zA rfl ?_)
       ·exact xgs (hI.k 8 rfl kR)
       ·exact xgs (hI.k 12 rfl kR)
       ·exact xgs (hI.k 8 rfl kR)
       ·exact xgs (hI.k 12 rfl kR)
       ·exact xgt (hI.e mm2 (hd 2)) (hI.e mm3 (hd 3))
       ·have zt4:=hI.e mm4 (hd 4)
        have cc0:=hI.cell o1 oM nom;have cc1:=hI.cell o2 oM nom;exact xgu
       ·have zt:=hI.k 10 rfl kR
        have cc0:=hI.cell b1 oM nom;have cc1:=hI.cell b2 oM nom;exact xgu
       ·exact xgs (hI.k 2 rfl kR)
       ·have zt7:=hI.e mm7 (hd 7)
        have cc0:=hI.cell c3 oM nom;exact xgu
       ·exact xgs (hI.k 9 rfl kR)
       ·exact xgt (hI.e mm8 (hd 8)) (hI.e mm9 (hd 9))
       ·have zt10:=hI.e yD (hd 10)
        have cc0:=hI.cell p1 oM nom;exact xgu
       ·exact xgs (hI.k 12 rfl kR)
       ·exact xgt (hI.e zAB (hd 11)) (hI.e zAh (hd 12))
       ·have zt13:=hI.e zBv (hd 13)
        have cc0:=hI.cell q1 oM nom;have cc1:=hI.cell q2 oM nom;exact xgu
       ·have zt6:=hI.e mm6 (hd 6)
        have zt14:=hI.e zBF (hd 14);go_simp;refine(zAQ _ _ q m _ (hbv.ext hI.lext) (hzv.ext hI.lext) HS.out.1 HS.out.2.2.1).mono ?_;exact xgo
       ·have zt5:=hI.e mm5 (hd 5)
        obtain⟨v15,zt15,h15⟩:=hI.vi zCN (hd 15);go_simp;refine(zB0 _ _ y (q*m) _ (hov.ext hI.lext) h15 HS.out.2.1 HS.out.2.2.2).mono ?_;exact xgo
       ·exact xgt (hI.e mm0 (hd 0)) (hI.e mm1 (hd 1))
      intro wy hlwy hbwy holdwy T hT;simp only[Fin,E,EI,VP,VSl,VN,xgg,xgh,xgi,xgj]at hT;obtain⟨va15,ha15,va16,ha16,rfl⟩:=hT;simp only[xgl,xgk];obtain⟨tn,ta,tl,tc,tx,rfl,htx⟩:=id ha16;have HTX:=xgw htx;have hr8:=hr8.below hbwy;have hset:=hr8.set (k:=j) (by rw[zE];exact hjc) ha16;rw[show y-q*m=F2 j from by rw[HST.out,HY.out,HM.out],zLd]at hset;obtain⟨_,_,_,_,f1,f2,f3,f4,-⟩:=hr8.cell (zW hjc);have hbt:=nx hbt hbwy;have bx1:=bx1.below hbwy;have ho7:=ho7.below hbwy;have hT:=hT.below hbwy;have hO:=zKn hset.2;have hbt:=Below.only hbt hO (by have:=hbt.size;omega) (fun k hk=>by simp at hk;omega);have bx1:=(hO.old _ bx1.lt (by simp;omega)).trans bx1;have ho7:=ho7.onlyS hO (fun g hg=>by simpa using hq8 g hg);have hT:=hT.old (hO.old _ hT.lt (by simpa using Ne.symm hg10)) hO.lext;have hset:=hset.1;clear hO htx ha15 ha16 o1 o2 q1 q2 b1 b2 b3 b4 c1 c2 c3 c4 c5 c6 hov hzv hbv p1;go_wp2;go_roundw
      case rel=>exact⟨j+1,by omega,by simp,hbt,bx1,ho7,hset,hT⟩
      case measure=>simp[intOf];omega
     ·have hjC:j=C:=by omega
      rw[hjC,zJg]at hr8;obtain⟨bn,ba,bl,bk,bT,hbv⟩:=id hT;obtain⟨b1,b2,b3,b4⟩:=bT.two;have hq1:=zPE hbv;have hsw:=hbt.size;have hW0s:W0.heap.size<=ws.heap.size:=by have:=hr8.lt;omega
      clear hjC;go_upto_region 16 with(fail)
      go_wp2_with (at_builtin;go_loud (refine zQB 38 Tryz.underlying38 rfl _ _ rfl W0.heap.size u7 (zQ i (zEA C (ent M) x)) rfl (ho7.below ((Below.refl _ _).alloc (xgf _) _)) _ [q] rfl hq1 (by rw[zE];simp;omega) (by simp;omega) ?_);intro v' w' hown' hgr hxg hob)
      have hgr:World.grownBy (ws.alloc (.cells #[.bool bn,.slice ba bl bk] 51)) w' u7.ownBlock:=hgr;have hxg:yI (ws.alloc (.cells #[.bool bn,.slice ba bl bk] 51)) w':=hxg;have hob:v'.ownBlock=u7.ownBlock∨∃g,v'.ownBlock=some g/\(ws.alloc (.cells #[.bool bn,.slice ba bl bk] 51)).heap.size<=g:=hob;have hOg:yQ u7.ownBlock.toList ws w':=⟨((Below.refl 0 ws).alloc (Nat.zero_le _) _).grown hgr (Nat.zero_le _) (fun g _=>Nat.zero_le g),(lx ((Below.refl _ _).alloc (xgf _) _)).trans hxg,fun k hk hn=>(hgr.block k (by simp;omega) (fun e=>hn (by rw[<-e];simp))).trans (((Below.refl ws.heap.size ws).alloc (xgf _) _).block k hk)⟩;have hown1:=ho7.own;have hbt:=Below.only hbt hOg oM (fun k hk=>by have:=hown1 k (Option.mem_toList.1 hk);omega);have bx1:=(hOg.old _ bx1.lt (fun hm=>by have:=hown1 _ (Option.mem_toList.1 hm);omega)).trans bx1;have hr8':=hr8.only hOg (fun hm=>hq8 _ (Option.mem_toList.1 hm) rfl);have hq8':∀g,v'.ownBlock=some g->g≠g8:=fun g' hg'=>by
       rcases hob with e|⟨g2,e1,e2⟩
       ·exact hq8 g' (e ▸ hg')
       ·rw[e1]at hg'
        injection hg' with hg'
        have:=hr8.lt;simp at e2;omega
      have hown':zBo w' W0.heap.size v' (zQ (i+1) (zEA C (ent M) x)):=by
       rw[show zQ (i+1) (zEA C (ent M) x)=zQ i (zEA C (ent M) x)++ [q] from by rw[<-HQ.out];unfold zQ;rw[List.range_succ,List.map_append];rfl];exact hown'
      rw[<-HF2.out]at hr8';clear hOg hgr hxg hob hown1 hr8 hq1 b1 b2 b3 b4 c1 c2 c3 c4 c5 c6;go_roundw
      case rel=>exact⟨i+1,by omega,by simp,hbt,bx1,hown',hq8',hr8'⟩
      case measure=>simp[intOf];omega
   have HBODY:=xgv @body;clear body HK1 hd;have HHD:=HD.out;by_cases hneg:d<0
   ·have hdn:decide (0<=d)=false:=decide_eq_false oM
    have hq0:q=0:=by
     rw[<-HQ.out];unfold zEA quo;rw[if_pos (by rw[HHD];exact hneg)]
    have hT0:jS w9 w7.heap.size q:=by rw[hq0];exact hT
    clear hneg HHD hq0 hT hr8 ho7 bx1 HQ;go_wp2;exact HBODY.out w9 (yQ.refl _ _) hT0
   ·obtain⟨c,rfl⟩:=Int.eq_ofNat_of_zero_le (Int.not_lt.1 hneg)
    obtain⟨hcC,hcz⟩:=zAA HHD;have hqe:q=F1 c/ent M i c:=by rw[<-HQ.out,<-hF1];unfold zEA quo;rw[HHD,if_neg hneg];rfl
    obtain⟨y,hy⟩:∃y,F1 c=y:=⟨_,rfl⟩;obtain⟨p,hp⟩:∃p,ent M i c=p:=⟨_,rfl⟩;have hyB:qM (Smd y):=⟨by rw[<-hy,<-hF1];exact hB.smd _ (HOK.out.rest i oM c hcC)⟩;have hpB:qM (Smd p):=⟨by rw[<-hp];exact hB.smd _ (HOK.out.mat i hlt c hcC)⟩;have hp0:qM (p≠0):=⟨by rw[<-hp];exact hcz⟩;rw[hy,hp]at hqe;have HQE:=xgv hqe;obtain⟨bi,rfl,hrow⟩:∃bi,ra=some ⟨bi,0,none⟩/\qF w bi (zQ C (ent M i)):=by
     obtain⟨_,_,_,e1,-,-,-,g5⟩:=id hrv0;cases e1;exact g5 (fun h=>by have:=congrArg List.length h;rw[zE]at this;simp at this;omega)
    have p1:=(hbt.cell (p:=⟨b,i,none⟩) hbl).trans p0;obtain⟨s2,a2,l2,k2',o1,o2,-,-,hov⟩:=hr8.cell (zW hcC);obtain⟨s,a,l,k,q1,q2,-,-,hzv⟩:=(hrow.below hbt).cell (zW hcC);rw[hy]at hov;rw[hp]at hzv;obtain⟨bn,ba,bl,bk,bT,hbv⟩:=id hT;have ln1:=hr8.lt;have ln2:=bx1.lt;have ln3:=bT.lt;have ln4:=(hrow.below hbt).lt;have ln5:b<w9.heap.size:=by omega
    obtain⟨c1,c2,c3,c4,c5,c6⟩:=bx1.three;clear hneg hqe hy hp hcz HHD HQ hbv;go_upto_region 11 with(fail)
    refine zB 13 rfl (RI w9 (w9.heap.size) _ 51
      [VSl 0 37 g8 C cap8,VN 1 38 c,VP 2 39 g8 (c*2),E 3 40 (.agg #[.bool s2,.slice a2 l2 k2']),VP 4 41 w.heap.size 2,VSl 5 42 b R cap,VN 6 43 i,VP 7 44 b i,VSl 8 45 bi C rc,VN 9 46 c,VP 10 47 bi (c*2),E 11 48 (.agg #[.bool s,.slice a l k]),EI 12 49 (y/p)] [] []) kR RI.start (RI.fin kR ?fin2) ?steps2
    case steps2=>
     refine⟨?_,?_,?_,?_,?_,?_,?_,?_,?_,?_,?_,?_,?_,trivial⟩<;>(intro L T wS hL hd hcl hI K hK;try refine zA rfl ?_)
     ·exact xgs (hI.k 8 rfl kR)
     ·exact xgs (hI.k 11 rfl kR)
     ·exact xgt (hI.e mm0 (hd 0)) (hI.e mm1 (hd 1))
     ·have zt2:=hI.e mm2 (hd 2)
      have cc0:=hI.cell o1 oM nom;have cc1:=hI.cell o2 oM nom;exact xgu
     ·exact xgs (hI.k 2 rfl kR)
     ·have zt4:=hI.e mm4 (hd 4)
      have cc0:=hI.cell c3 oM nom;exact xgu
     ·exact xgs (hI.k 9 rfl kR)
     ·exact xgt (hI.e mm5 (hd 5)) (hI.e mm6 (hd 6))
     ·have zt7:=hI.e mm7 (hd 7)
      have cc0:=hI.cell p1 oM nom;exact xgu
     ·exact xgs (hI.k 11 rfl kR)
     ·exact xgt (hI.e mm8 (hd 8)) (hI.e mm9 (hd 9))
     ·have zt10:=hI.e yD (hd 10)
      have cc0:=hI.cell q1 oM nom;have cc1:=hI.cell q2 oM nom;exact xgu
     ·have zt3:=hI.e mm3 (hd 3)
      have zt11:=hI.e zAB (hd 11);go_simp;refine(zBz _ _ y p _ (hov.ext hI.lext) (hzv.ext hI.lext) hyB.out hpB.out hp0.out).mono ?_;exact xgo
    intro wy hlwy hbwy holdwy T hT;simp only[Fin,E,EI,VP,VSl,VN,xgg,xgh,xgi,xgj]at hT;obtain⟨vz12,hz12,rfl⟩:=hT;simp only[xgl,xgk];obtain⟨tn,ta,tl,tc,tx,rfl,htx⟩:=id hz12;have HTX:=xgw htx;have bT9:=bT.below hbwy;obtain⟨b1,b2,b3,b4⟩:=bT9.two;have hput:=jS.put bT9 hz12;have hO:=(yQ.of [w7.heap.size] hbwy).trans (zKn (b:=w7.heap.size) (i:=0) (u:=.bool tn) (v:=.slice ta tl tc) (bT9.lext2 dE _ _));rw[<-HQE.out]at hput;clear htx hz12 o1 o2 q1 q2 c1 c2 c3 c4 c5 c6 hov hzv p1 bT bT9;go_wp2;exact HBODY.out _ hO hput
  ·obtain rfl:i=R:=by omega
   obtain⟨c1,c2,c3,c4,c5,c6⟩:=bx1.three;go_wp2;refine bodyPost_ret (zHw rfl _ _ _) rfl ?_;exact⟨_,_,rfl,ho7.vec,hr8.vec (zE _ _) k1 k2,hbt⟩
theorem zCX.rows{R C r r':Nat}{c c':Nat->Nat}{A H H':Nat->Nat->Int}(h:zCX R C r c A H)(h':zCX R C r' c' A H'):r'=r/\genM r' C H'=genM r C H:=by
 obtain⟨rfl,-,e2⟩:=zDQ h.hnf h'.hnf (h.sp.trans h'.sp') (h'.sp.trans h.sp');exact⟨rfl,zS fun i hi j hj=>e2 i (Nat.lt_of_lt_of_le hi h.hnf.le) j hj⟩
structure RE(till:Nat->Nat)(W:World)(T0:Array Value)(vs:List VS)(L:Array Bool)(T:Array Value)(w:World):Prop where
 wf:zBY T0.size vs=true
 size:T.size=T0.size
 keep:∀j,(∀s∈vs,s.slot≠j)->T[j]?=T0[j]?
 bel:Below W.heap.size W w
 sz:L.size<=999
 has:∀s∈vs,L[s.op]?=some true->∃v,T[s.slot]?=some v/\(L[till s.op]?≠some true->s.P w v)
section
variable {till:Nat->Nat} {W:World} {T0:Array Value} {vs:List VS} {L:Array Bool} {T:Array Value} {w w':World}
theorem RE.start(hwf:zBY T0.size vs=true){n:Nat}(hn:n<=999):RE till W T0 vs (Array.replicate n false) T0 W.drew:=
 ⟨hwf,rfl,fun _ _=>rfl,dr _,by simpa using hn,fun s _ h=>by
  rw[Array.getElem?_replicate]at h;split at h<;>simp at h⟩
theorem RE.step{k:Nat}{v:Value}(h:RE till W T0 vs L T w)(hLk:L[k]?=some false)(s:VS)(hs:s∈vs)(hk:s.op=k)(hb:Below W.heap.size w w')(hP:s.P w' v)
  (hq:∀t∈vs,t.op≠k->L[t.op]?=some true->till t.op≠k->L[till t.op]?≠some true->∀v,t.P w v->t.P w' v):RE till W T0 vs (L.setIfInBounds k true) (T.setIfInBounds s.slot v) w':=by
 subst hk;have hwf:=h.wf;unfold zBY at hwf;simp only[Bool.and_eq_true,decide_eq_true_eq,List.all_eq_true]at hwf;obtain⟨⟨w1,w2⟩,w3⟩:=hwf;have hslot:s.slot<T0.size:=w3 _ (List.mem_map.2 ⟨s,hs,rfl⟩);refine⟨h.wf,by simp[h.size],fun j h1=>by rw[xgc (h1 s hs)];exact h.keep j h1,h.bel.trans hb,by simpa using h.sz,?_⟩;intro t ht hl;by_cases he:t=s
 ·subst he
  exact⟨v,by rw[Array.getElem?_setIfInBounds_self_of_lt (by rw[h.size];exact hslot)],fun _=>hP⟩
 ·have n1:t.op≠s.op:=fun e=>he (zL w2 ht hs e)
  have n2:t.slot≠s.slot:=fun e=>he (zL w1 ht hs e)
  have hl':=zK hl (Ne.symm n1);obtain⟨u,h1,h2⟩:=h.has t ht hl';refine⟨u,by rw[xgc (Ne.symm n2)];exact h1,fun hn=>?_⟩;have hn':L[till t.op]?≠some true:=zDs hn;by_cases ht2:till t.op=s.op
  ·exfalso
   rw[ht2]at hn;exact hn (by rw[Array.getElem?_setIfInBounds_self_of_lt (Array.getElem?_eq_some_iff.1 hLk).1])
  ·exact hq t ht n1 hl' ht2 hn' u (h2 hn')
theorem RE.val(h:RE till W T0 vs L T w)(s:VS)(hs:s∈vs)(hl:L[s.op]?=some true)(ht:L[till s.op]?≠some true):∃v,T[s.slot]?=some v/\s.P w v:=by
 obtain⟨v,h1,h2⟩:=h.has s hs hl;exact⟨v,h1,h2 ht⟩
theorem RE.keepV(h:RE till W T0 vs L T w)(s:VS)(hs:s∈vs)(hl:L[s.op]?=some true)(ht:till s.op=999):∃v,T[s.slot]?=some v/\s.P w v:=
 h.val s hs hl (by
  rw[ht,Array.getElem?_eq_none (by have:=h.sz;omega)]
  exact nofun)
theorem RE.e{i k:Nat}{x:Value}(h:RE till W T0 vs L T w)(hs:E i k x∈vs)(hl:L[i]?=some true)(ht:till i=999):T[k]?=some x:=by
 obtain⟨v,h1,h2⟩:=h.keepV (E i k x) hs hl ht;exact h1.trans (congrArg some h2)
theorem RE.fin(h:RE till W T0 vs L T w)(hL:(vs.all fun s=>L[s.op]?==some true)=true):Fin w (vs.map fun s=>⟨s.op,s.slot,if till s.op=999 then s.P else fun _ _=>True⟩) T0 T:=by
 have hw:=h.wf;unfold zBY at hw;simp only[Bool.and_eq_true,decide_eq_true_eq]at hw;refine zIG _ (fun j hj=>h.keep j fun s hs=>by have:=hj _ (List.mem_map.2 ⟨s,hs,rfl⟩);exact this) (fun s hs=>?_) h.size ?_
 ·obtain⟨t,ht,rfl⟩:=List.mem_map.1 hs
  have hl:=List.all_eq_true.1 hL t ht;by_cases h9:till t.op=999
  ·obtain⟨v,h1,h2⟩:=h.keepV t ht (by simpa using hl) h9
   exact⟨v,h1,by show(if till t.op=999 then t.P else fun _ _=>True) w v;rw[if_pos h9];exact h2⟩
  ·obtain⟨v,h1,-⟩:=h.has t ht (by simpa using hl)
   exact⟨v,h1,by show(if till t.op=999 then t.P else fun _ _=>True) w v;rw[if_neg h9];trivial⟩
 ·rw[List.map_map]
  exact hw.1.1
end
structure zQq(R C:Nat)(M G:List (List Int)):Prop where
 fit:yG R C G
 ok:∀x:Nat->Int,(∀b,b<C->(x b).natAbs<=1000000)->zPK BD R C (ent G) x
 comb:∀x:Nat->Int,∀y:Nat->Int,∀b,b<C->rest R C (ent G) (fun b=>y b+zAT [zQ R x] M R 0 b) b=rest R C (ent G) y b
 zero:∀x:Nat->Int,∀b,b<C->rest R C (ent G) (zAT [zQ R x] M R 0) b=0
theorem zFw{R C:Nat}{M:List (List Int)}{x:Nat->Int}(hA:leM 9 R C (ent M))(hx:∀b,(x b).natAbs<=9){b:Nat}(hb:b<C){m:Nat}(hm:m<=R):(zAT [zQ R x] M m 0 b).natAbs<=m*81:=by
 unfold zAT;rw[zAp];refine zAX fun t ht=>?_
 rw[zA7 (i:=0) (j:=t) rfl (zW oM),Int.natAbs_mul];exact Nat.mul_le_mul (hx t) (hA t oM b hb)
theorem zKg{R C:Nat}{M:List (List Int)}{x:Nat->Int}(hR:R<=4)(hA:leM 9 R C (ent M))(hx:∀b,(x b).natAbs<=9):zCM [zQ R x] M 1 R C:=by
 intro i hi j hj k hk;obtain rfl:i=0:=by omega
 have e:ent [zQ R x] 0 k=x k:=zA7 rfl (zW hk);rw[e];have h1:=hx k;have h2:=hA k hk j hj;have h3:(x k*ent M k j).natAbs<=81:=by rw[Int.natAbs_mul];exact Nat.mul_le_mul h1 h2
 have h4:=zFw hA hx hj (m:=k) oM;exact⟨zAi (zFU (Nat.le_trans h1 dE)),zAi (zFU (Nat.le_trans h2 dE)),zAi (zFU (Nat.le_trans h3 dE)),zAi (zFU (Nat.le_trans (show _<=1000 by omega) dE))⟩
def zQi(i:Nat):Nat:=if i=1 then 3 else if i=3 then 6 else if i=4 then 5 else if i=5 then 6 else if i=6 then 7 else 999
theorem zJ7{R C:Nat}{c:Nat->Nat}{r:Nat}{H:Nat->Nat->Int}{x:Nat->Int}(hv vv:Value)(w:World)(h:qL w hv R C (genM R C H))(hx:zAZ w vv (zQ C x))(hH:Hnf C R r c H)(hR:R<=1000000)(hC:C<=1000000)(hok:zPK BD R C (ent (genM R C H)) x)(hsp:jK R C H x):
  Calls Tryz.prog 35 #[hv,vv] w fun e w'=>∃v,e= .returned v/\v= .bool true/\Below w.heap.size w w':=by
 have hG:Hnf C R r c (ent (genM R C H)):=hH.congr fun a ha b hb=>(qG ha hb).symm
 have HOK:=xgv hok;have HZ:qM (∀z∈zQ C (zCO C (ent (genM R C H)) x R),z=0):=⟨fun z hz=>by
  obtain⟨t,ht⟩:=hsp;obtain⟨b,hb,rfl⟩:=List.mem_map.1 hz;rw[List.mem_range]at hb;exact zLD hG (x:=x) (z:=t) (fun b hb=>by rw[ht b hb];exact zD fun s hs=>by rw[qG hs hb]) b hb⟩
 obtain⟨g1,g2,g3,rfl⟩:=h.agg;obtain⟨xo,xn,xc,rfl,-⟩:=id hx;have HM:=xgv h;have HX:=xgv hx;clear h hx hG hH hok hsp;go_enter Tryz.func35,Tryz.ntmps35;go_upto_region 1 with(fail)
 refine zC ?_;intro W0 hW0;obtain⟨hB0,bx,hs0⟩:=zN hW0;obtain⟨c1,c2,c3,c4,c5,c6⟩:=bx.three;clear hW0;go_wp2_with fail
 refine(zF3 zGH _ _ R C _ x W0 (HM.out.below hB0) (zV _ _ _) (HX.out.below hB0) oM oM HOK.out (by have:=zFU (a:=0) dE;exact this)).mono ?_;rintro e w1 ⟨qv,rv,rfl,hq,hr,hb1⟩;obtain⟨qo,qn,qc,rfl,-⟩:=id hq;obtain⟨ro,rn,rc,rfl,-⟩:=id hr;have hB:=nx hB0 hb1;have HR:=xgv hr;clear hq hr c1 c2 c3 c4 c5 c6 HOK;go_wp2_with fail
 refine(zLk _ _ w1 HR.out HZ.out).mono ?_;rintro e w2 ⟨rfl,hb2⟩;have hB:=nx hB hb2;go_wp2;go_ret;exact⟨_,rfl,rfl,hB⟩
theorem zIz(a b c:Value)(W:World):(Instr.field 28 (.agg #[a,b,c]) 0).run Tryz.prog W= .ok a W:=by
 kernel_rfl
theorem zFC.satd{R C m:Nat}{A S:Nat->Nat->Int}(hs:zFC R C A m S):zIs m C (ent (genM m C S)):=fun x hx=>
 (jK.congr (fun a ha b hb=>(qG ha hb).symm) x).1 ((hs.1.iff x).1 ((hs.1.sat x).1 ((zBn.congr (fun a ha b hb=>qG ha hb) x).1 hx)))
def zQt(m C:Nat)(S:Nat->Nat->Int)(w:World)(v:Value):Prop:=qL w v m C (genM m C S)
theorem zJk(v:Value)(n:Nat)(ls:List Int)(w:World)(h:I8V w v ls)(hn:n<=16):
  Calls Tryz.prog 24 #[v,.int .i64 n] w fun e w'=>∃b,e= .returned (.slice (some ⟨b,0,none⟩) n n)/\w.heap.size<=b/\qF w' b (zQ n (zDN n ls 0))/\Below w.heap.size w w':=by
 obtain⟨ao,m,cap,rfl,-⟩:=id h;go_enter Tryz.func24,Tryz.ntmps24;go_wp2_with fail
 refine(zDP _ 1 n ls w h oM hn).mono ?_;rintro e w1 ⟨u,bs,rfl,⟨hbl,A2,rfl,ho⟩,hb1⟩;obtain⟨oo,on,oc,rfl,o2,o3,o4,-⟩:=id ho.rows;obtain⟨g,b,rfl,hg,hbo,hbl2,p1,-⟩:=ho.at_ (i:=0) oM;have hon:on=1:=by rw[<-o2];simp[genM]
 obtain⟨hlo,-,hrow⟩:=ho.row 0 b _ hbo (zAL 1 n (zDN n ls) oM);subst hon;clear ho o2 hbo;have hfl:=zB8;go_wp2;go_ret;exact⟨_,rfl,hlo,hrow,hb1⟩
theorem zN9{a k:Nat}(hk:k<=2000)(h:a<2^k):a<BD:=by
 have h1:2^k<=B32^zHE:=zCH (by rw[jB];omega);rw[zJr];exact Nat.lt_of_lt_of_le h h1
theorem zKl{n C r h e:Nat}{c:Nat->Nat}{H:Nat->Nat->Int}(hH:Hnf C n r c H)(hn:n<=5)(hh:leM h n C H)(he:1+h<=2^e)(he2:e<=300){x:Nat->Int}(hx:∀b,b<C->(x b).natAbs<=1000000):zPK BD n C H x:=by
 have hg:∀i,i<=6->1000000*(1+h)^i<BD:=fun i hi=>zN9 (k:=20+e*6) oM (by
  have h1:(1+h)^i<=2^(e*6):=Nat.le_trans (Nat.pow_le_pow_right oM hi) (by rw[Nat.pow_mul];exact Nat.pow_le_pow_left he 6);refine Nat.lt_of_le_of_lt (Nat.mul_le_mul_left _ h1) ?_;rw[Nat.pow_add];exact Nat.mul_lt_mul_of_pos_right dE (Nat.pow_pos oM))
 have hle:h<BD:=Nat.lt_of_le_of_lt (by rw[Nat.pow_one];omega) (hg 1 oM);refine⟨fun a ha b hb=>Nat.lt_of_le_of_lt (hh a ha b hb) hle,fun i hi b hb=>Nat.lt_of_le_of_lt (zLB hH hh hx i hi b hb) (hg i oM),fun i hi=>⟨Nat.lt_of_le_of_lt (zK9 hH hh hx hi) (hg i oM),fun b hb=>Nat.lt_of_le_of_lt ?_ (hg (i+1) oM)⟩⟩;rw[Int.natAbs_mul,Int.natAbs_neg];refine Nat.le_trans (Nat.mul_le_mul (zK9 hH hh hx hi) (hh i hi b hb)) ?_;rw[Nat.pow_succ,<-Nat.mul_assoc];exact Nat.mul_le_mul_left _ oM
theorem zBI.satd{R C m:Nat}{A G:Nat->Nat->Int}(h:zBI R C A m G):zIs m R (ent (genM m R G)):=fun x hx=>by
 refine(jK.congr (fun a ha b hb=>(qG ha hb).symm) x).1 ((h.1.iff x).1 fun b hb=>?_);have h1:=hx (fun t=>A t b) fun a ha=>by
  have h2:=(h.1.iff _).2 (jK.row G ha);rw[<-h2 b hb];exact zD fun t ht=>by rw[qG ha ht]
 exact h1
end Go.Proofs.YtgnmdddaiefooaaGreat
