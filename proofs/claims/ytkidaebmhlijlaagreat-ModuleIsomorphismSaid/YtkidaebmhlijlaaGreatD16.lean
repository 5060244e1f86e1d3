/- Joined. -/
import Derived.Test.YtkidaebmhlijlaaGreatD13
set_option linter.unusedVariables false
set_option linter.unusedSimpArgs false
set_option linter.unusedSectionVars false
set_option maxHeartbeats 16000000
set_option maxRecDepth 100000
variable{C R base i n:Nat}{w:Go.World}
namespace Go.Proofs.YtkidaebmhlijlaaGreat
open Go.RowKit
theorem zEH.shape{v:Value}{zs:List Int}(h:zEH w base v zs):∃o c,v= .slice o zs.length c:=by
 obtain⟨cells,h1,-⟩:=h;rcases h1.2 with⟨rfl,h0⟩|⟨g,cap,cur,rfl,-⟩
 exact⟨none,0,by rw[h0]⟩;exact⟨_,_,rfl⟩
theorem zR9(m i:Nat)(F:Nat->Nat->Int):divI (m+1) i F=divI m (i+1) (divJ i m (i+1) F):=rfl
theorem zSA(i m j:Nat)(F:Nat->Nat->Int):divJ i (m+1) j F=divJ i m (j+1) (if F i i∣F j j then F else zIr F i j):=rfl
theorem Exit.jump_normal{Q:Exit->Act->World->Prop}{a:Act}{l:Nat}{J:Act->World->Prop}:Exit.jump l J Q .normal a w=Q .normal a w:=rfl
theorem zJR{F:Nat->Nat->Int}:∀(d i:Nat),i+d=R->(zEr i ((genM R C F).drop i)=true↔∀a,i<=a->a<R->∀b,b<C->a≠b->F a b=0):=by
 intro d;induction d with
 |zero=>
  intro i h;have h1:(genM R C F).drop i= []:=qP (by simp[genM];omega);rw[h1];exact⟨fun _ a h1 h2=>oM,fun _=>rfl⟩
 | succ d ih=>
  intro i h;have hi:i<R:=oM;rw[zDe (zDF R C F hi)];unfold zEr;rw[zCR,decide_eq_true_eq,ih (i+1) oM];have hrow:zG9 i ((List.range C).map (F i)).length ((List.range C).map (F i))↔∀b,b<C->i≠b->F i b=0:=by
   unfold zG9;rw[show((List.range C).map (F i)).length=C by simp];refine⟨fun hh b hb hn=>?_,fun hh k hk hn=>?_⟩
   ·have:=hh b hb (qD hn)
    rwa[show((List.range C).map (F i)).getD b 0=F i b by simp[xgb,hb]]at this
   rw[show((List.range C).map (F i)).getD k 0=F i k by simp[xgb,hk]];exact hh k hk (qD hn)
  rw[hrow];refine⟨fun hh a h1 h2 b hb hn=>?_,fun hh=>⟨fun b hb hn=>hh i (xgf _) hi b hb hn,fun a h1 h2 b hb hn=>hh a oM h2 b hb hn⟩⟩;by_cases e:a=i
  ·subst e;exact hh.1 b hb hn
  exact hh.2 a oM h2 b hb hn
theorem zNp(R C:Nat)(F:Nat->Nat->Int):zEr 0 (genM R C F)=decide (zGl R C F):=by
 have h:=zJR (R:=R) (C:=C) (F:=F) R 0 oM;rw[xgk]at h;by_cases hd:zGl R C F
 ·rw[decide_eq_true hd]
  exact h.2 (fun a _ ha=>hd a ha)
 rw[decide_eq_false hd];cases hb:zEr 0 (genM R C F)with
 |false=>rfl
 |true=>exact absurd (fun a ha=>h.1 hb a (zE _) ha) hd
theorem zV4{B:Nat}(hB:BSd B){wb Cu Cw:Nat}{AS AU AV AW AX:Value}{bS bU bV bW bX:List Nat}{z:W5}(h:zCd w base wb R C R C Cu Cw AS AU AV AW AX bS bU bV bW bX z)(hbase:base<=w.heap.size)(hok:okW B R C Cu Cw z)
  (hR:R<=1000000) (hC:C<=1000000) (hCu:Cu<=1000000) (hCw:Cw<=1000000) {f rr:Nat} {y:W5} (hrun:zIO B R C Cu Cw f rr z=some y)
  (hdiv:∀y',zNc (min R C) y y'->∀i j,i<j->j<min R C->¬ y'.s i i∣y'.s j j->zRb B C Cu Cw y' i j) (hel:∀y',zNc (min R C) y y'->∀i,i<min R C->(y'.s i i).natAbs<B):
  CPq 115 #[ptq wb 0] w fun e w'=>(∃u,e= .returned u)/\qJ (fun b=>base<=b) w w'∧
   ∃AS' bS' bU' bV' bW' bX' y',zNc (min R C) y y'/\y'.s=divI (min R C) 0 y.s/\zCd w' base wb R C R C Cu Cw AS' AU AV AW AX bS' bU' bV' bW' bX' y':=by
 have hBm:=hB.bsm;obtain⟨uo,uc,rfl⟩:=h.mU.shape;obtain⟨vo,vc,rfl⟩:=h.mV.shape;obtain⟨wo,wc,rfl⟩:=h.mW.shape;obtain⟨xo,xc,rfl⟩:=h.mX.shape;have HDIV:=xgv hdiv;have HEL:=xgv hel;have HH:=xgv h;have HOK:=xgv hok;have HRUN:=xgv hrun;clear hdiv hel h hok hrun;go_enter Tryz.func115,Tryz.ntmps115;obtain⟨JF,hJF⟩:∃JF:Nat->Act->World->Prop,∀r a' wt,JF r a' wt↔∃(u5 u6 u7 u8 u9 u10 u11 u12 u13 u14 u15 u16 u17 u18 u19 u20 u21 u22 u23 u24 u25 u26 u27 u28 u29 u30 u31 u32 u33 u34 u35 u36 u37 u38 u39 u40 u41 u42 u43 u44 u45 u46 u47 u48 u49 u50 u51 u52 u53 u54 u55 u56 u57 u58 u59 u60 u61 u62 u63 u64 u65 u66 u67 u68 u69 u70 u71:Value),a'={tmps:=#[ptq wb 0,undef,undef,undef,undef,u5,u6,u7,u8,u9,u10,u11,u12,u13,u14,u15,u16,u17,u18,u19,u20,u21,u22,u23,u24,u25,u26,u27,u28,u29,u30,u31,u32,u33,u34,u35,u36,u37,u38,u39,u40,u41,u42,u43,u44,u45,u46,u47,u48,u49,u50,u51,u52,u53,u54,u55,u56,u57,u58,u59,u60,u61,u62,u63,u64,u65,u66,u67,u68,u69,u70,u71,undef,undef,undef,undef,undef,undef,undef,undef,undef,undef,undef,undef,undef,undef,undef,undef,undef,undef,undef,undef,undef,undef,undef,undef,undef,undef,undef,undef,undef,undef,undef,undef,undef,undef,undef,undef,undef,undef,undef,undef,undef,undef,undef,undef,undef,undef,undef,undef,undef],defers:=[]}∧
  qJ (fun b=>base<=b) w wt/\jZ (∃AS' bS' bU' bV' bW' bX' z',zCd wt base wb R C R C Cu Cw AS' (.slice uo R uc) (.slice vo R vc) (.slice wo C wc) (.slice xo C xc) bS' bU' bV' bW' bX' z'/\okW B R C Cu Cw z'/\zIO B R C Cu Cw f r z'=some y):=⟨_,fun _ _ _=>zAV⟩
 have HJF:=xgv hJF;clear hJF;refine zJ6 (fun a' wt=>∃r,JF r a' wt) (fun a' wt=>leastOf (fun r=>JF r a' wt)) ?_ ?_;exact⟨rr,(HJF.out _ _ _).2 ⟨_,_,_,_,_,_,_,_,_,_,_,_,_,_,_,_,_,_,_,_,_,_,_,_,_,_,_,_,_,_,_,_,_,_,_,_,_,_,_,_,_,_,_,_,_,_,_,_,_,_,_,_,_,_,_,_,_,_,_,_,_,_,_,_,_,_,_,rfl,qJ.refl _ _,⟨⟨AS,bS,bU,bV,bW,bX,z,HH.out,HOK.out,HRUN.out⟩⟩⟩⟩;intro a' wr hJ;obtain⟨f1,hJ⟩:=hJ;replace hJ:=(zF6 (P:=fun r=>JF r a' wr) hJ).1;generalize leastOf (fun r=>JF r a' wr)=f0 at hJ ⊢
 rw[HJF.out]at hJ;obtain⟨u5,u6,u7,u8,u9,u10,u11,u12,u13,u14,u15,u16,u17,u18,u19,u20,u21,u22,u23,u24,u25,u26,u27,u28,u29,u30,u31,u32,u33,u34,u35,u36,u37,u38,u39,u40,u41,u42,u43,u44,u45,u46,u47,u48,u49,u50,u51,u52,u53,u54,u55,u56,u57,u58,u59,u60,u61,u62,u63,u64,u65,u66,u67,u68,u69,u70,u71,rfl,hO,hox⟩:=hJ;obtain⟨AS0,bS0,bU0,bV0,bW0,bX0,z0,hw,hok,hrun⟩:=hox.out;obtain⟨ao,ac,rfl⟩:=hw.mS.shape;clear hox HOK HRUN HH;cases f0 with
 |zero=>cases hrun
 | succ r=>
  unfold zIO at hrun;rw[zAJ]at hrun;obtain⟨y1,hround,hrest⟩:=hrun;unfold zPg at hround;rw[zAJ]at hround;obtain⟨e1,hech1,h2⟩:=hround;rw[zAJ]at h2;obtain⟨e2,hech2,h3⟩:=h2;injection h3 with h3
  have HY1:=xgv h3;have HREST:=xgv hrest;have HE1:=xgv hech1;have HE2:=xgv hech2;have HOK:=xgv hok;have HW:=xgv hw;clear hrest hech1 hech2 h3 hok;obtain⟨k0,k1,k2,k5,k8,k11,k14,-,-,-⟩:=hw.blk.fifteen;have lw0:=hw.blk.lt;clear hw;go_upto_region 0 with(fail)
  refine yP 19 [] ?_;refine sRd ?_;refine sRf ?_;intro w1 hbw1;have hO:=hO.trans (qJ.of _ hbw1);have HW:=xgv (HW.out.below hbw1);clear k0 k1 k2 k5 k8 k11 k14 lw0;go_wp2_with fail
  refine(zJW hBm HW.out.zlt1 HW.out.band1 ⟨HOK.out.1,HOK.out.2.1,HOK.out.2.2.1⟩ hR hC hCu HE1.out).mono ?_;rintro e w2 ⟨⟨uu2,rfl⟩,hO2,hz2,hok2⟩;obtain⟨⟨bS1,bU1,bV1,hw2⟩,hO2'⟩:=HW.out.after1 hO2 hz2;have hO:=hO.trans hO2';have HW2:=xgv hw2;have HOK2:=xgv hok2;obtain⟨k0,k1,k2,k5,k8,k11,k14,k15,k16,k17⟩:=hw2.blk.fifteen;have lw0:=hw2.blk.lt;clear hw2 hok2 hz2 HW;go_wp2_with fail
  refine(zLE hBm HW2.out.mS HOK2.out.1 hR hC).mono ?_;rintro e w3 ⟨so,sc,bs3,rfl,hs3,hf3,hb3⟩;have k0:=jL k0 hb3;obtain⟨q0,q1,q2,q5,q8,q11,q14,q15,q16,q17⟩:=(HW2.out.below hb3).blk.fifteen;have hset:=(HW2.out.below hb3).setS hs3 hf3 HW2.out.zltR (by have:=HW2.out.wbb;omega);have HSET:=xgv hset;have hszb:=hb3.size;clear k0 k1 k2 k5 k8 k11 k14 k15 k16 k17 hset hs3 hf3;go_upto_region 2 with(fail)
  refine zD ?_;intro W4 hW4;rw[<-hW4.out]at HSET;obtain⟨hw4,hO4⟩:=HSET.out;have hO:=(hO.trans (qJ.of _ hb3)).trans hO4;have HW:=xgv hw4;obtain⟨k0,k1,k2,k5,k8,k11,k14,-,-,-⟩:=hw4.blk.fifteen;have lw0:=hw4.blk.lt;clear hw4 hO4 HSET q0 q1 q2 q5 q8 q11 q14 q15 q16 q17 hW4 HW2;refine yP 19 [] ?_;refine sRd ?_;refine sRf ?_;intro w5 hbw5;have hO:=hO.trans (qJ.of _ hbw5);have HW:=xgv (HW.out.below hbw5);clear k0 k1 k2 k5 k8 k11 k14 lw0;have hokt:okF B C R (trF e1.s):=fun a ha b hb=>HOK2.out.1 b hb a ha
  go_wp2_with fail
  refine(zJW hBm HW.out.zlt2 HW.out.band2 ⟨hokt,HOK.out.2.2.2.1,HOK.out.2.2.2.2⟩ hC hR hCw HE2.out).mono ?_;rintro e w6 ⟨⟨uu6,rfl⟩,hO6,hz6,hok6⟩;obtain⟨⟨bS3,bW3,bX3,hw6⟩,hO6'⟩:=HW.out.after2 hO6 hz6;have hO:=hO.trans hO6';have HW2:=xgv hw6;have HOK6:=xgv hok6;obtain⟨k0,k1,k2,k5,k8,k11,k14,k15,k16,k17⟩:=hw6.blk.fifteen;have lw0:=hw6.blk.lt;clear hw6 hok6 hz6 HW hokt;go_wp2_with fail
  refine(zLE hBm HW2.out.mS HOK6.out.1 hC hR).mono ?_;rintro e w7 ⟨so7,sc7,bs7,rfl,hs7,hf7,hb7⟩;obtain⟨q0,q1,q2,q5,q8,q11,q14,q15,q16,q17⟩:=(HW2.out.below hb7).blk.fifteen;have hset:=(HW2.out.below hb7).setS hs7 hf7 HW2.out.zltR (by have:=HW2.out.wbb;omega);have HSET:=xgv hset;clear k0 k1 k2 k5 k8 k11 k14 k15 k16 k17 hset hs7 hf7;go_upto_region 4 with(fail)
  refine zD ?_;intro W8 hW8;rw[<-hW8.out]at HSET;obtain⟨hw8,hO8⟩:=HSET.out;have hO:=(hO.trans (qJ.of _ hb7)).trans hO8;have hy1:(⟨trF e2.s,e1.t,e1.i,e2.t,e2.i⟩:W5)=y1:=HY1.out;replace hw8:zCd W8 base wb R C R C Cu Cw _ _ _ _ _ _ _ _ _ _ y1:=hy1 ▸ hw8;have hok1:okW B R C Cu Cw y1:=hy1 ▸ ⟨fun a ha b hb=>HOK6.out.1 b hb a ha,HOK2.out.2.1,HOK2.out.2.2,HOK6.out.2.1,HOK6.out.2.2⟩;have HW:=xgv hw8;have HOKY:=xgv hok1;obtain⟨k0,k1,k2,k5,k8,k11,k14,-,-,-⟩:=hw8.blk.fifteen;have lw0:=hw8.blk.lt;clear hw8 hok1 hy1 HY1 hO8 HSET q0 q1 q2 q5 q8 q11 q14 q15 q16 q17 hW8 HW2 HOK HOK2 HOK6 HE1 HE2;go_wp2_with fail
  refine(zMZ _ R C (genM R C y1.s) W8 HW.out.mS.mat).mono ?_;rintro e w9 ⟨rfl,hb9⟩;rw[zNp];have hO:=hO.trans (qJ.of _ hb9);have HW:=xgv (HW.out.below hb9);clear k0 k1 k2 k5 k8 k11 k14 lw0;have hrest:=HREST.out;clear HREST;by_cases hd:zGl R C y1.s
  ·rw [if_pos hd]at hrest
   injection hrest with hrest
   subst hrest;rw[decide_eq_true hd];clear hd;obtain⟨k0,k1,k2,k5,k8,k11,k14,-,-,-⟩:=HW.out.blk.fifteen;have lw0:=HW.out.blk.lt;go_wp2_with fail
   refine(zIb _ R C (genM R C y1.s) w9 HW.out.mS.mat (yW _ _ _) hR hC).mono ?_;rintro e w10 ⟨u10,rfl,hvo,hb10⟩;obtain⟨eo,ec,rfl⟩:=hvo.shape;rw[zF0];have hO:=hO.trans (qJ.of _ hb10);have HW:=xgv (HW.out.below hb10);clear k0 k1 k2 k5 k8 k11 k14 lw0 hvo;obtain⟨n,hn⟩:∃n,n=min R C:=⟨_,rfl⟩;rw[<-hn];have hnR:n<=R:=oM;have hnC:n<=C:=oM;rw[<-hn]at HDIV HEL;have HN:=xgv hn;clear hn;go_wp2;go_loopw [80] (fun iv wt=>∃(i:Nat) (bS' bU' bV' bW' bX':List Nat) (y':W5),iv=niq i/\i<=n/\qJ (fun b=>base<=b) w wt/\jZ (zCd wt base wb R C R C Cu Cw (.slice so7 R sc7) (.slice uo R uc) (.slice vo R vc) (.slice wo C wc) (.slice xo C xc) bS' bU' bV' bW' bX' y'/\zNc n y1 y'/\divI (n-i) i y'.s=divI n 0 y1.s)) (fun iv _=>n-(intOf iv).toNat)
   case atStart=>exact⟨0,_,_,_,_,_,y1,rfl,zE _,hO,⟨⟨HW.out,zNc.refl _,by rw[Nat.sub_zero]⟩⟩⟩
   rename World=>wq
   obtain⟨i,bS',bU',bV',bW',bX',y',rfl,hi,hO,hH⟩:=hrel;by_cases hlt:i<n
   ·go_wp2
    go_loopw [4] (fun jv wt=>∃(j:Nat) (bS' bU' bV' bW' bX':List Nat) (y':W5),jv=niq j/\i+1<=j/\j<=n/\qJ (fun b=>base<=b) w wt/\jZ (zCd wt base wb R C R C Cu Cw (.slice so7 R sc7) (.slice uo R uc) (.slice vo R vc) (.slice wo C wc) (.slice xo C xc) bS' bU' bV' bW' bX' y'/\zNc n y1 y'/\divI (n-(i+1)) (i+1) (divJ i (n-j) j y'.s)=divI n 0 y1.s)) (fun jv _=>n-(intOf jv).toNat)
    case atStart=>
     refine⟨i+1,_,_,_,_,_,y',by simp,oM,oM,hO,⟨⟨hH.out.1,hH.out.2.1,?_⟩⟩⟩;have h3:=hH.out.2.2;obtain⟨m,hm⟩:∃m,n-i=m+1:=⟨n-i-1,oM⟩;rw[hm,zR9]at h3;rw[show n-(i+1)=m by omega];exact h3
    rename World=>wt
    obtain⟨j,bS',bU',bV',bW',bX',y',rfl,hij,hj,hO,hH⟩:=hrel;by_cases hjn:j<n
    ·have h3:=hH.out.2.2
     obtain⟨m,hm⟩:∃m,n-j=m+1:=⟨n-j-1,oM⟩;have hm2:n-(j+1)=m:=oM;rw[hm,zSA]at h3;rw[<-hm2]at h3;have HT:=xgv h3;have HD:=xgv hH.out.2.1;have HW:=xgv hH.out.1;have S1:jZ (Smd (y'.s i i)):=⟨hB.smd _ (HEL.out y' HD.out i hlt)⟩;have S2:jZ (Smd (y'.s j j)):=⟨hB.smd _ (HEL.out y' HD.out j hjn)⟩;clear h3 hm hm2 hH;have hiR:i<R:=oM;have hjR:j<R:=oM;have hiC:i<C:=oM;have hjC:j<C:=oM;obtain⟨gs,bi,eg,hgs,hbi,hbi2,o1,-⟩:=qC.at_ HW.out.mS (i:=i) (by rw[HW.out.mS.len];exact hiR);subst eg;obtain⟨g2,bj,eg,hg2,hbj,hbj2,o2,-⟩:=qC.at_ HW.out.mS (i:=j) (by rw[HW.out.mS.len];exact hjR);obtain rfl:gs=g2:=by injection eg with eg;injection eg
     clear eg;obtain⟨xs,xa,xl,xc',p1,p2,-,-,hx⟩:=(HW.out.mS.rowAt hiR hbi).cell (yE hiC);obtain⟨ys,ya,yl,yc,r1,r2,-,-,hy⟩:=(HW.out.mS.rowAt hjR hbj).cell (yE hjC);obtain⟨k0,k1,k2,k5,k8,k11,k14,-,-,-⟩:=HW.out.blk.fifteen;have lw0:=HW.out.blk.lt;go_upto_region 12 with(fail)
     refine yP 24 [] ?_;refine sRd ?_;refine sRf ?_;intro wv hbwv;have hO:=hO.trans (qJ.of _ hbwv);have HW:=xgv (HW.out.below hbwv);have hx:=hx.ext (lx hbwv);have hy:=hy.ext (lx hbwv);clear k0 k1 k2 k5 k8 k11 k14 lw0 o1 o2 p1 p2 r1 r2;go_wp2_with fail
     refine(zNt _ _ (y'.s i i) (y'.s j j) wv hx hy S1.out S2.out).mono ?_;rintro e w12 ⟨rfl,hb12⟩;have hO:=hO.trans (qJ.of _ hb12);have HW:=xgv (HW.out.below hb12);have h3:=HT.out;clear hx hy HT;by_cases hdv:y'.s i i∣y'.s j j
     ·rw[if_pos hdv]at h3
      rw[decide_eq_true hdv];have HT:=xgv h3;clear h3 hdv;go_wp2;go_roundw
      case rel=>exact⟨j+1,_,_,_,_,_,y',by simp,oM,oM,hO,⟨⟨HW.out,HD.out,HT.out⟩⟩⟩
      case measure=>exact meq
     rw[if_neg hdv]at h3;rw[decide_eq_false hdv];have HT:=xgv h3;have HDV:=xgv hdv;clear h3 hdv;go_wp2_with fail
     refine(zOv hB HW.out oM hjR hjC hR hC hCu hCw (HDIV.out y' HD.out i j oM hjn HDV.out)).mono ?_;rintro e w13 ⟨⟨uu13,rfl⟩,hO13,s,t,hbz,hw13⟩;have hO:=hO.trans hO13;have HW:=xgv hw13;have HD:=xgv (zNc.step y1 y' i j s t HD.out oM hjn HDV.out hbz);clear hw13 hbz HDV;go_wp2;go_roundw
     case rel=>exact⟨j+1,_,_,_,_,_,_,by simp,oM,oM,hO,⟨⟨HW.out,HD.out,HT.out⟩⟩⟩
     case measure=>exact meq
    obtain rfl:j=n:=oM;have h3:=hH.out.2.2;rw[jW]at h3;have HT:=xgv (show divI (j-(i+1)) (i+1) y'.s=divI j 0 y1.s from h3);clear h3;go_wp2;go_roundw
    case rel=>exact⟨i+1,_,_,_,_,_,y',by simp,oM,hO,⟨⟨hH.out.1,hH.out.2.1,HT.out⟩⟩⟩
    case measure=>exact meq
   obtain rfl:i=n:=oM;have h3:=hH.out.2.2;rw[jW]at h3;have HT:=xgv (show y'.s=divI i 0 y1.s from h3);clear h3;go_wp2;rw[<-HN.out];rw[Exit.jump_normal];exact bodyPost_end (results_none rfl _ _ _) rfl ⟨⟨_,rfl⟩,hO,_,_,_,_,_,_,y',hH.out.2.1,HT.out,hH.out.1⟩
  rw[if_neg hd]at hrest;rw[decide_eq_false hd];have HREST:=xgv hrest;clear hd hrest;go_wp2;go_step3;refine⟨rfl,⟨r,(HJF.out _ _ _).2 ⟨_,_,_,_,_,_,_,_,_,_,_,_,_,_,_,_,_,_,_,_,_,_,_,_,_,_,_,_,_,_,_,_,_,_,_,_,_,_,_,_,_,_,_,_,_,_,_,_,_,_,_,_,_,_,_,_,_,_,_,_,_,_,_,_,_,_,_,rfl,hO,⟨⟨_,_,_,_,_,_,_,HW.out,HOKY.out,HREST.out⟩⟩⟩⟩,zH9 ((HJF.out _ _ _).2 ⟨_,_,_,_,_,_,_,_,_,_,_,_,_,_,_,_,_,_,_,_,_,_,_,_,_,_,_,_,_,_,_,_,_,_,_,_,_,_,_,_,_,_,_,_,_,_,_,_,_,_,_,_,_,_,_,_,_,_,_,_,_,_,_,_,_,_,_,rfl,hO,⟨⟨_,_,_,_,_,_,_,HW.out,HOKY.out,HREST.out⟩⟩⟩) (zAq r)⟩
abbrev tBo:TypeId:=4
theorem Tryz.infoBo:(Tryz.prog.info? tBo).map (fun i=>(i.zero,i.size,i.bytes))=some (some (.bool false),1,1):=by kernel_rfl
def zIy(n:Nat)(g:Nat->Bool):Array Value:=((List.range n).map fun i=>Value.bool (g i)).toArray
theorem zO2{g:Nat->Bool}(h:i<n):(zIy n g)[i]?=some (.bool (g i)):=by simp[zIy,h]
theorem zUZ{g:Nat->Bool}{z:Bool}:(zIy n g).setIfInBounds i (.bool z)=zIy n (fun t=>if t=i then z else g t):=by
 apply zCM;simp[zIy];intro a h1 h2;by_cases e:a=i
 ·subst e;simp[zIy]
 have:i≠a:=fun h=>e h.symm
 simp[zIy,this,e]
theorem zH3{f g:Nat->Bool}(h:∀t,t<n->f t=g t):zIy n f=zIy n g:=by
 unfold zIy;rw[zA1 fun t ht=>by rw[h t (yL.1 ht)]]
theorem zZY(n:Nat):madeCells (Value.bool false).cells (n*1)=zIy n (fun _=>false):=by
 apply zCM;simp[madeCells,zIy];intro i h1 h2;simp[madeCells,zIy,Nat.mod_one,Value.cells]
theorem mkB(m:Int)(n:Nat)(hm:m=n)(h:n<=1099511627776)(W:World):
  (Instr.makeSlice 149 (niq m) (niq m)).run Tryz.prog W= .ok (slq W.heap.size n n) (W.alloc (.cells (zIy n (fun _=>false)) tBo)):=by
 subst hm;obtain⟨i0,hi,hz0,hz1,hz2⟩:=info_parts Tryz.infoBo;have:=zCW (P:=Tryz.prog) 149 tBo i0 _ Tryz.underlying149 hi hz0 .i64 .i64 n n (xgf _) (by rw[hz2];omega) oM W;rw[this,hz1,zZY]
theorem zSa(b n cap:Nat)(g:Nat->Bool)(w:World)(h:Blk w b tBo (zIy n g))(hn:n<=1000000)(hc:n<=cap)(hc2:cap<=9223372036854775807):
  CPq 174 #[slq b n cap,.bool false] w fun e w'=>(∃r:Int,e= .returned (niq r)/\((r=-1/\∀i,i<n->g i=true)∨∃i:Nat,r=i/\i<n/\g i=false))/\BWq w w':=by
 go_enter Tryz.func174,Tryz.ntmps174;go_wp2;go_loopw [8] (fun iv wr=>∃k:Nat,k<=n/\iv=niq k/\BWq w wr/\jZ (∀i,i<k->g i=true)) (fun iv _=>n-(intOf iv).toNat)
 case atStart=>exact⟨0,oM,rfl,zA _ _,⟨fun i hi=>oM⟩⟩
 obtain⟨k,hk,rfl,hb,hall⟩:=hrel;have hB:=h.below hb;by_cases hlt:k<n
 ·have c1:=(hB.cell k).trans (zO2 hlt)
  by_cases hg:g k=false
  ·rw[hg]at c1
   have HG:=xgv hg;clear hg;go_wp2;go_ret;exact⟨⟨k,rfl,.inr ⟨k,rfl,hlt,HG.out⟩⟩,hb⟩
  have hg':g k=true:=by cases hh:g k with|true=>rfl|false=>exact absurd hh hg
  rw[hg']at c1;have HG:=xgv hg';clear hg hg';go_wp2;go_roundw
  case rel=>
   refine⟨k+1,oM,by simp,hb,⟨fun i hi=>?_⟩⟩;by_cases e:i=k
   ·rw[e];exact HG.out
   exact hall.out i oM
  case measure=>exact meq
 obtain rfl:k=n:=oM;go_wp2;go_ret;exact⟨⟨-1,rfl,.inl ⟨rfl,hall.out⟩⟩,hb⟩
theorem zMT(b n cap:Nat)(g:Nat->Bool)(w:World)(h:Blk w b tBo (zIy n g))(hn:n<=1000000)(hc:n<=cap)(hc2:cap<=9223372036854775807):
  CPq 128 #[slq b n cap,.bool false] w fun e w'=>e= .returned (.bool (decide (¬ ∀i,i<n->g i=true)))/\BWq w w':=by
 obtain⟨ans,hans⟩:∃ans:Bool,decide (¬ ∀i,i<n->g i=true)=ans:=⟨_,rfl⟩;rw[hans];have HA:=xgv hans;clear hans;go_enter Tryz.func128,Tryz.ntmps128;go_wp2_with fail
 refine(zSa b n cap g w h hn hc hc2).mono ?_;rintro e w1 ⟨⟨r,rfl,hr⟩,hb1⟩;rcases hr with⟨rfl,hall⟩|⟨i,rfl,hi,hg⟩
 ·have HL:=xgv hall
  clear hall;go_wp2;go_ret;refine⟨?_,hb1⟩;have h3:ans=false:=by rw[<-HA.out];exact decide_eq_false (fun hh=>hh HL.out)
  rw[h3];rfl
 have HG:=xgv hg;clear hg;go_wp2;go_ret;refine⟨?_,hb1⟩;have h3:ans=true:=by rw[<-HA.out];exact decide_eq_true (fun hh=>by have h3:=HG.out;rw[hh i hi]at h3;cases h3)
 rw[h3];rfl
theorem zSI(v1 v2:Value)(z1 z2:Int)(w:World)(h1:jY w v1 z1)(h2:jY w v2 z2):
  CPq 127 #[v1,v2] w fun e w'=>e= .returned (.bool (decide (z1=z2)))/\BWq w w':=by
 obtain⟨neg1,ao1,n1,cap1,xs,rfl,i1⟩:=id h1;obtain⟨neg2,ao2,n2,cap2,ys,rfl,i2⟩:=id h2;clear i1 i2;have hd:decide (z1=z2)=decide (zAt z1 z2=0):=decide_eq_decide.2 ⟨fun h=>zCf h,fun h=>zIz.2.1 h⟩;rw[hd];clear hd;go_enter Tryz.func127,Tryz.ntmps127;go_upto_region 1 with(fail)
 refine zD ?_;intro W0 hW0;obtain⟨hB0,bx1,bx2,hs0⟩:=zAj hW0;have c1:=bx1.two;have d1:=bx2.two;go_wp2_with fail
 refine(zR0 _ _ z1 z2 W0 (h1.ext (lx hB0)).weak (h2.ext (lx hB0)).weak).mono ?_;rintro e w1 ⟨rfl,hb1⟩;obtain⟨k0,hk0⟩:∃k0,zAt z1 z2=k0:=⟨_,rfl⟩;rw[hk0];go_wp2;go_ret;exact⟨by first|rfl|(rw[hk0];rfl)|(rw[hk0];simp),nx hB0 hb1⟩
theorem zYO(v1 v2:Value)(z1 z2:Int)(w:World)(h1:jY w v1 z1)(h2:jY w v2 z2):
  CPq 127 #[v1,v2] w fun e w'=>∃v,e= .returned v/\v= .bool (decide (z1=z2))/\BWq w w':=by
 refine(zSI v1 v2 z1 z2 w h1 h2).mono ?_;rintro e w' ⟨rfl,hb⟩;exact⟨_,rfl,rfl,hb⟩
def zNS(g:Nat->Bool)(j:Nat):Nat->Bool:=fun t=>if t<j then g t else false
theorem zRV{g:Nat->Bool}{j:Nat}:zIy n (fun t=>if t=j then g j else zNS g j t)=zIy n (zNS g (j+1)):=
 zH3 fun t _=>by
  unfold zNS;by_cases h:t=j
  ·subst h;rw[if_pos rfl,if_pos oM]
  rw[if_neg h];by_cases h2:t<j
  ·rw[if_pos h2,if_pos oM]
  rw[if_neg h2,if_neg oM]
theorem zR2(v1 v2:Value)(zs ys:List Int)(n:Nat)(w:World)(h1:zAv w v1 zs)(h2:zAv w v2 ys)(hl1:zs.length=n)(hl2:ys.length=n)(hn:n<=1000000):
  CPq 129 #[v1,v2,.func (.func 127) #[] #[]] w fun e w'=>
   e= .returned (slq w.heap.size n n)/\Blk w' w.heap.size tBo (zIy n (fun j=>decide (zs.getD j 0=ys.getD j 0)))/\BWq w w':=by
 obtain⟨ao,n1,cap,rfl,e1,e3,e4,-⟩:=id h1;obtain⟨bo,n2,bcap,rfl,f1,f3,f4,-⟩:=id h2;obtain rfl:n=n1:=oM;obtain rfl:n=n2:=oM;have hmk:=fun W=>mkB (n:Int) n rfl oM W
 have HL1:=xgv hl1;have HL2:=xgv hl2;obtain⟨G,hG⟩:∃G:Nat->Bool,(fun j=>decide (zs.getD j 0=ys.getD j 0))=G:=⟨_,rfl⟩;rw[hG];have HG:jZ (∀t,G t=decide (zs.getD t 0=ys.getD t 0)):=⟨fun t=>by rw[<-hG]⟩;clear hl1 hl2 e1 f1 hG;go_enter Tryz.func129,Tryz.ntmps129;go_upto_region 2 with(fail)
 refine zD ?_;intro W0 hW0;obtain⟨hB0,bA,hs0⟩:=qL hW0;have hst:zIy n (fun _=>false)=zIy n (zNS G 0):=zH3 fun t _=>by unfold zNS;rw[if_neg oM]
 rw[hst]at bA;clear hW0 hmk hst;go_wp2;go_loopw [14] (fun jv wr=>∃j:Nat,j<=n/\jv=niq j/\BWq w wr/\Blk wr w.heap.size tBo (zIy n (zNS G j))) (fun jv _=>n-(intOf jv).toNat)
 case atStart=>exact⟨0,oM,rfl,hB0,bA⟩
 obtain⟨j,hj,rfl,hb,bA⟩:=hrel;by_cases hlt:j<n
 ·obtain⟨b1,z1,s1,a1,l1,c1,rfl,hbl1,hz1,p1,p2,hv1⟩:=(h1.below hb).cell (k:=j) (by rw[HL1.out];exact hlt)
  obtain⟨b2,z2,s2,a2,l2,c2,rfl,hbl2,hz2,q1,q2,hv2⟩:=(h2.below hb).cell (k:=j) (by rw[HL2.out];exact hlt);have hgj:jZ (decide (z1=z2)=G j):=⟨by rw[HG.out,zBz hz1,zBz hz2]⟩;clear hz1 hz2;have lA:=bA.lt;go_upto_region 5 with(fail)
  refine yP 13 [pcD 11 [] (fun _ v=>v= .bool (decide (z1=z2)))] ?_;refine sRd ?_;refine sRc (fun wS hI Gk hG=>?_) (fun _ hv=>?_)
  ·go_simp
   refine(zYO _ _ z1 z2 _ (hv1.ext hI.lext) (hv2.ext hI.lext)).mono ?_;rintro e wa ⟨v,rfl,hv,hba⟩;exact⟨_,rfl,hG _ _ hv,hba⟩
  obtain⟨_,-,rfl⟩:=hv;refine sRd ?_;refine sRe ?_;intro w9 hbw9 _;rw[hgj.out];have bA:=bA.below hbw9;have k1:=(bA.cell j).trans (zO2 hlt);have k2:=bA.frozen j;have hset:=bA.set_ j (.bool (G j));rw[zUZ,zRV]at hset;clear p1 p2 q1 q2;go_wp2;go_roundw
  case rel=>exact⟨j+1,oM,by simp,yJ (nx hb hbw9) (xgf _) _ _,hset⟩
  case measure=>exact meq
 obtain rfl:j=n:=oM;have hq:zIy j (zNS G j)=zIy j G:=zH3 fun t ht=>by unfold zNS;rw[if_pos ht]
 rw[hq]at bA;go_wp2;go_ret;exact⟨rfl,bA,hb⟩
theorem zQ7(v1 v2:Value)(z k:Int)(kb:Nat)(x y:Value)(w:World)(h1:jY w v1 z)(h2:∃z2,jY w v2 z2)(hk:Blk w kb tI #[x,y])(hkv:jY w (.agg #[x,y]) k)(s1:Sm z)(s2:Sm k):
  CPq 157 #[v1,v2,ptq kb 0] w (zDp w (k*z)):=by
 obtain⟨neg1,ao1,n1,cap1,xs,rfl,i1⟩:=id h1;obtain⟨z2,h2⟩:=h2;obtain⟨neg2,ao2,n2,cap2,ys,rfl,i2⟩:=id h2;obtain⟨kn,ka,kl,kc,rfl,rfl⟩:=hkv.two;have HS1:=xgv s1;have HS2:=xgv s2;clear i1 i2 s1 s2 h2;go_enter Tryz.func157,Tryz.ntmps157;go_upto_region 1 with(fail)
 refine zD ?_;intro W0 hW0;obtain⟨hB0,bx1,bx2,br,hs0⟩:=zBk hW0;have c1:=bx1.two;obtain⟨d1,d2,d3,d4⟩:=(hk.below hB0).two;go_wp2_with fail
 refine(zEE _ _ k z W0 (hkv.ext (lx hB0)).weak (h1.ext (lx hB0)).weak HS2.out HS1.out).mono ?_;rintro e w1 ⟨v,rfl,hv,hb1⟩;obtain⟨pn,pa,pl,pc,px,rfl,hpx⟩:=id hv;have HPX:=xgw hpx;have br:=br.below hb1;have e1:=br.two;clear hpx;go_wp2;exact jH rfl rfl rfl (br.put2 _ _) (hv.ext (br.lext2 dE _ _)) (yJ (yJ (nx hB0 hb1) oM 0 _) oM 1 _)
theorem zR3(v1 v2:Value)(zs ys:List Int)(k:Int)(kb n:Nat)(x y:Value)(w:World)(h1:zAv w v1 zs)(h2:zAv w v2 ys)(hl1:zs.length=n)(hl2:ys.length=n)(hn:n<=1000000)(hk:Blk w kb tI #[x,y])(hkv:jY w (.agg #[x,y]) k)
  (hS:∀z∈zs,Sm z) (s2:Sm k):
  CPq 184 #[v1,v2,.func (.func 157) #[] #[ptq kb 0]] w fun e w'=>
   e= .returned (slq w.heap.size n n)/\jJ w' w.heap.size (qZ n (fun j=>k*zs.getD j 0))/\BWq w w':=by
 obtain⟨ao,n1,cap,rfl,e1,e3,e4,-⟩:=id h1;obtain⟨bo,n2,bcap,rfl,f1,f3,f4,-⟩:=id h2;obtain rfl:n=n1:=oM;obtain rfl:n=n2:=oM;have hmk:=fun W=>mkI (n:Int) n rfl oM W
 have HL1:=xgv hl1;have HL2:=xgv hl2;have HS:=xgv hS;have HK:=xgv s2;obtain⟨G,hG⟩:∃G:Nat->Int,(fun j=>k*zs.getD j 0)=G:=⟨_,rfl⟩;rw[hG];have HG:jZ (∀t,G t=k*zs.getD t 0):=⟨fun t=>by rw[<-hG]⟩;clear hl1 hl2 e1 f1 hG hS;go_enter Tryz.func184,Tryz.ntmps184;go_upto_region 2 with(fail)
 refine zD ?_;intro W0 hW0;obtain⟨hB0,bA,hs0⟩:=qL hW0;have hA:jJ W0 w.heap.size (qZ n (yQ G (fun _=>0) 0)):=by
  have h4:=zHt w n;have h5:List.replicate n (0:Int)=qZ n (yQ G (fun _=>0) 0):=by
   apply qT;simp[qZ];intro i h1 h2;simp[qZ,yQ]
  rw[h5]at h4;rw[hW0.out];exact h4
 clear hW0 hmk bA;go_wp2;go_loopw [14] (fun jv wr=>∃j:Nat,j<=n/\jv=niq j/\BWq w wr/\jJ wr w.heap.size (qZ n (yQ G (fun _=>0) j))) (fun jv _=>n-(intOf jv).toNat)
 case atStart=>exact⟨0,oM,rfl,hB0,hA⟩
 obtain⟨j,hj,rfl,hb,hA⟩:=hrel;by_cases hlt:j<n
 ·obtain⟨b1,z1,s1,a1,l1,c1,rfl,hbl1,hz1,p1,p2,hv1⟩:=(h1.below hb).cell (k:=j) (by rw[HL1.out];exact hlt)
  obtain⟨b2,z2,s2,a2,l2,c2,rfl,hbl2,hz2,q1,q2,hv2⟩:=(h2.below hb).cell (k:=j) (by rw[HL2.out];exact hlt);have hgj:jZ (k*z1=G j):=⟨by rw[HG.out,zBz hz1]⟩;have S1:jZ (Sm z1):=⟨HS.out _ (xgd hz1)⟩;have hkr:=hk.below hb;have hkvr:=hkv.ext (lx hb);have lkb:=hkr.lt;clear hz1 hz2;have lA:=hA.lt;go_upto_region 5 with(fail)
  refine yP 13 [pcI 11 (k*z1)] ?_;refine sRd ?_;refine sRc (fun wS hI Gk hG=>by go_simp;exact ck hG (zQ7 _ _ z1 k kb x y _ (hv1.ext hI.lext) ⟨z2,hv2.ext hI.lext⟩ ((hI.old kb oM sI).trans hkr) (hkvr.ext hI.lext) S1.out HK.out)) (fun va11 _=>?_);refine sRd ?_;refine sRe ?_;intro w9 hbw9 ha11;obtain⟨pn,pa,pl,pc,px,rfl,hpx⟩:=id ha11;have HPX:=xgw hpx;have hA:=hA.below hbw9;obtain⟨zs,za,zl,zc,z1,z2,z3,z4,-⟩:=hA.cell (yE hlt);have hset:=hA.set (k:=j) (by rw[qA];exact hlt) ha11;rw[zJC hgj.out]at hset;clear hpx p1 p2 q1 q2;go_wp2;go_roundw
  case rel=>exact⟨j+1,oM,by simp,yJ (yJ (nx hb hbw9) (xgf _) _ _) (xgf _) _ _,hset.1⟩
  case measure=>exact meq
 obtain rfl:j=n:=oM;have hq:qZ j (yQ G (fun _=>0) j)=qZ j G:=qY fun t ht=>by unfold yQ;rw[if_pos ht]
 rw[hq]at hA;go_wp2;go_ret;exact⟨rfl,hA,hb⟩
abbrev tF:TypeId:=71
def zHU(n0 C:Nat)(zs:List Int):World->Value->Prop:=fun w v=>∃g,v=slq g C C/\n0<=g/\jJ w g zs
theorem zKi(n0 C:Nat)(zs:List Int):zAK (zHU n0 C zs):=fun _ _ _ e ⟨g,h1,h2,h3⟩=>⟨g,h1,h2,h3.below e⟩
theorem zSE(v1 v2:Value)(zs ys:List Int)(k:Int)(fb kb n:Nat)(x y:Value)(w:World)(h1:zAv w v1 zs)(h2:zAv w v2 ys)(hl1:zs.length=n)(hl2:ys.length=n)(hn:n<=1000000)
  (hf:Blk w fb tF #[.func (.func 157) #[] #[ptq kb 0]]) (hk:Blk w kb tI #[x,y]) (hkv:jY w (.agg #[x,y]) k) (hS:∀z∈zs,Sm z) (s2:Sm k):
  CPq 183 #[v1,v2,ptq fb 0] w fun e w'=>∃v,e= .returned v/\zHU w.heap.size n (qZ n (fun j=>k*zs.getD j 0)) w' v/\BWq w w':=by
 have c1:=hf.cell 0;have HS:=xgv hS;have HK:=xgv s2;obtain⟨G,hG⟩:∃G:Nat->Int,(fun j=>k*zs.getD j 0)=G:=⟨_,rfl⟩;rw[hG];have HG:=xgv hG;clear hG hS;obtain⟨ao,n1,cap,rfl,-⟩:=id h1;obtain⟨bo,n2,bcap,rfl,-⟩:=id h2;go_enter Tryz.func183,Tryz.ntmps183;go_wp2_with fail
 refine(zR3 _ _ zs ys k kb n x y w h1 h2 hl1 hl2 hn hk hkv HS.out HK.out).mono ?_;rintro e w1 ⟨rfl,hr,hb1⟩;rw[HG.out]at hr;go_wp2;go_ret;exact⟨_,rfl,⟨_,rfl,xgf _,hr⟩,hb1⟩
theorem zMN(mv:Value)(m0 m1 m2 m3:Int)(w:World)(hm:M4V w mv m0 m1 m2 m3):
  CPq 179 #[.slice none 0 0,.slice none 0 0,mv] w fun e w'=>(∃u,e= .returned u)/\BWq w w':=by
 obtain⟨n0,a0,l0,c0,n1,a1,l1,c1,n2,a2,l2,c2,n3,a3,l3,c3,rfl,-⟩:=id hm;go_enter Tryz.func179,Tryz.ntmps179;go_upto_region 1 with(fail)
 refine zD ?_;intro W0 hW0;obtain⟨hB0,bk,hs0⟩:=qL hW0;clear hW0;go_wp2;go_loopw [11] (fun iv wr=>iv=niq 0/\wr=W0) (fun _ _=>0)
 case atStart=>exact⟨rfl,rfl⟩
 obtain⟨rfl,rfl⟩:=hrel;go_wp2;exact bodyPost_end (results_none rfl _ _ _) rfl ⟨⟨_,rfl⟩,hB0⟩
theorem zUH(bw:Nat)(Ah Au Av:Value)(n Cs i j:Nat)(bss:List Nat)(S:Nat->Nat->Int)(kv:Value)(k:Int)(w:World)(hbw:Blk w bw tHW #[Ah,Au,Av])(hs:Wri w Ah n Cs bss S)(hu:zFN w Au n)(hv:zFN w Av n)(hi:i<n)(hj:j<n)(hij:i≠j)(hk:jY w kv k)
  (hn:n<=1000000) (hCs:Cs<=1000000) (hS:zMC Cs S i j k) (hks:Sm k):
  CPq 144 #[ptq bw 0,niq i,niq j,kv] w fun e w'=>(∃u,e= .returned u)/\qJ (fun b=>b∈bss) w w'/\Blk w' bw tHW #[Ah,Au,Av]∧
   Wri w' Ah n Cs bss (zCm S i j k)/\zFN w' Au n/\zFN w' Av n:=by
 obtain⟨so,sn,sc,rfl,s1,s2,s3,-⟩:=id (qC.rows hs);obtain⟨kn,ka,kl,kc,kx,rfl,hkx⟩:=id hk;have HKX:=xgw hkx;have HS:=xgv hS;have HK:=xgv hks;clear hkx hS hks;have e1:n=sn:=by rw[<-s1];simp[genM]
 subst e1;clear s1;obtain⟨gs,_,rfl,-⟩:=qC.at_ hs (i:=i) (by rw[hs.len];exact hi);obtain⟨gt,tc,-,rfl,-⟩:=id hu;obtain⟨gi,ic,-,rfl,-⟩:=id hv;have hlt:∀b,b∈bss->b<w.heap.size:=fun b hb=>(hs.blk hb).elim fun r hr=>hr.lt
 go_enter Tryz.func144,Tryz.ntmps144;go_upto_region 1 with(fail)
 refine zD ?_;intro W0 hW0;obtain⟨hB0,bk,hs0⟩:=qL hW0;have bx:=hbw.below hB0;have hs:=hs.below hB0;have hu:=hu.below hB0;have hv:=hv.below hB0;have hk:=hk.ext (lx hB0);have hO:=qJ.of (fun b=>b∈bss) hB0;clear hW0 hbw;obtain⟨g1,bi,eg1,hg1,hbi1,hb1,o1,-⟩:=qC.at_ hs (i:=i) (by rw[hs.len];exact hi);obtain⟨g2,bj,eg2,hg2,hbj1,hb2,o2,-⟩:=qC.at_ hs (i:=j) (by rw[hs.len];exact hj);obtain rfl:gs=g1:=by injection eg1 with eg1;injection eg1
 obtain rfl:gs=g2:=by injection eg2 with eg2;injection eg2
 clear eg1 eg2 hb1 hb2;have hm1:=xgd hbi1;obtain⟨ri,hri⟩:=hs.blk hm1;have x1:=bx.three;have d1:=bk.two;have lbx:=bx.lt;have lk:=bk.lt;refine yP 15 [] ?_;refine sRd ?_;refine sRf ?_;intro w8 hbw8;have hH8:=hs.below hbw8;have hri8:=hri.below hbw8;clear o1 o2 x1 d1;go_wp2_with fail
 refine(zI1 hH8 hi hj hij hbi1 hbj1 _ (k) (hk.ext (lx0 hbw8)) hCs HS.out HK.out).mono ?_;rintro e w9 ⟨⟨u,rfl⟩,ho,hH9⟩;have hkne:w.heap.size≠bi:=by have:=hlt bi (by simp[hm1]);omega
 have bx:=(bx.below hbw8).row ho hri8 dE;have bk:Blk w9 w.heap.size 43 #[.bool kn,.slice ka kl kc]:=(ho.old _ (bk.below hbw8).lt (by simpa using hkne)).trans (bk.below hbw8);have hk:=(hk.ext (lx0 hbw8)).ext ho.lext;have hO:=(hO.trans (qJ.of _ hbw8)).trans (⟨ho.bel,ho.lext,fun k hk hn=>ho.old k hk (by simp;rintro rfl;exact hn (by simp[hm1]))⟩:qJ _ w8 w9);have hu:=(hu.below hbw8).row ho hri8;have hv:=(hv.below hbw8).row ho hri8;have hs:Wri w9 (slq gs n sc) n Cs bss (zCm S i j k):=hH9;clear ho hri8 hri hH8 hH9 hm1 hkne hbi1 hbj1;go_upto_region 2 with(fail)
 obtain⟨g1,k1,eg1,o1⟩:=hu.at_ hi;obtain⟨g2,k2',eg2,o2⟩:=hu.at_ hj;obtain⟨rfl,rfl⟩:gt=g1/\tc=k1:=by simpa using eg1
 obtain⟨rfl,rfl⟩:gt=g2/\tc=k2':=by simpa using eg2
 have hg1:=yU _ _ o1;clear eg1 eg2;have x1:=bx.three;have d1:=bk.two;have lbx:=bx.lt;have lk:=bk.lt;refine yP 15 [] ?_;refine sRd ?_;refine sRf ?_;intro w10 hbw10;go_wp2_with fail
 refine(zMH _ k _ (hk.ext (lx0 hbw10))).mono ?_;rintro e w11 ⟨⟨u,rfl⟩,hbq⟩;have hbz:=nx hbw10 hbq;have bx:=bx.below hbz;have bk:=bk.below hbz;have hO:=hO.trans (qJ.of _ hbz);have hs:=hs.below hbz;have hu:=hu.below hbz;have hv:=hv.below hbz;have hk:=hk.ext (lx hbz);clear o1 o2 x1 d1 hbz hbq hg1;go_upto_region 3 with(fail)
 obtain⟨g1,k1,eg1,o1⟩:=hv.at_ hj;obtain⟨g2,k2',eg2,o2⟩:=hv.at_ hi;obtain⟨rfl,rfl⟩:gi=g1/\ic=k1:=by simpa using eg1
 obtain⟨rfl,rfl⟩:gi=g2/\ic=k2':=by simpa using eg2
 have hg1:=yU _ _ o1;clear eg1 eg2;have x1:=bx.three;have d1:=bk.two;have lbx:=bx.lt;have lk:=bk.lt;refine yP 16 [pcI 15 (-k)] ?_;refine sRd ?_;refine sRc (fun wS hI Gk hG=>by go_simp;exact ck hG (zBY _ k _ (hk.ext hI.lext).weak HK.out)) (fun vc15 _=>?_);refine sRe ?_;intro w12 hbw12 hc15;obtain⟨pn,pa,pl,pc,px,rfl,-⟩:=id hc15;go_wp2_with fail
 refine(zMH _ (-k) _ hc15).mono ?_;rintro e w13 ⟨⟨u,rfl⟩,hbq⟩;have hbz:=nx hbw12 hbq;have bx:=bx.below hbz;have bk:=bk.below hbz;have hO:=hO.trans (qJ.of _ hbz);have hs:=hs.below hbz;have hu:=hu.below hbz;have hv:=hv.below hbz;go_wp2;exact bodyPost_end (results_none rfl _ _ _) rfl ⟨⟨_,rfl⟩,hO,bx,hs,hu,hv⟩
theorem zUI(bw:Nat)(Ah Au Av mv:Value)(n Cs i j:Nat)(bss:List Nat)(S:Nat->Nat->Int)(m0 m1 m2 m3:Int)(w:World)(hbw:Blk w bw tHW #[Ah,Au,Av])(hs:Wri w Ah n Cs bss S)(hu:zFN w Au n)(hv:zFN w Av n)(hi:i<n)(hj:j<n)(hij:i≠j)(hm:M4V w mv m0 m1 m2 m3)
  (hn:n<=1000000) (hCs:Cs<=1000000) (hS:zRa Cs (S i) (S j) m0 m1 m2 m3) (hms:Sm m0/\Sm m1/\Sm m2/\Sm m3):
  CPq 145 #[ptq bw 0,niq i,niq j,mv] w fun e w'=>(∃u,e= .returned u)/\qJ (fun b=>b∈bss) w w'/\Blk w' bw tHW #[Ah,Au,Av]∧
   Wri w' Ah n Cs bss (jE S i j m0 m1 m2 m3)/\zFN w' Au n/\zFN w' Av n:=by
 obtain⟨so,sn,sc,rfl,s1,s2,s3,-⟩:=id (qC.rows hs);have HS:=xgv hS;have HK:=xgv hms;obtain⟨n0,a0,l0,c0,n1,a1,l1,c1,n2,a2,l2,c2,n3,a3,l3,c3,rfl,j0,j1,j2,j3⟩:=id hm;have HM0:=xgv (And.intro j0 (And.intro j1 (And.intro j2 j3)));clear hS hms hm j0 j1 j2 j3;have e1:n=sn:=by rw[<-s1];simp[genM]
 subst e1;clear s1;obtain⟨gs,_,rfl,-⟩:=qC.at_ hs (i:=i) (by rw[hs.len];exact hi);obtain⟨gt,tc,-,rfl,-⟩:=id hu;obtain⟨gi,ic,-,rfl,-⟩:=id hv;have hlt:∀b,b∈bss->b<w.heap.size:=fun b hb=>(hs.blk hb).elim fun r hr=>hr.lt
 go_enter Tryz.func145,Tryz.ntmps145;go_upto_region 1 with(fail)
 refine zD ?_;intro W0 hW0;obtain⟨hB0,bm,hs0⟩:=qL hW0;have bx:=hbw.below hB0;have hs:=hs.below hB0;have hu:=hu.below hB0;have hv:=hv.below hB0;have hO:=qJ.of (fun b=>b∈bss) hB0;have hl2:=zD2 m3 (-m2);have hl3:=zD2 (-m1) m0;have hl4:=zGX m3 (-m2) (-m1) m0;clear hW0 hbw;obtain⟨g1,bi,eg1,hg1,hbi1,hb1,o1,-⟩:=qC.at_ hs (i:=i) (by rw[hs.len];exact hi);obtain⟨g2,bj,eg2,hg2,hbj1,hb2,o2,-⟩:=qC.at_ hs (i:=j) (by rw[hs.len];exact hj);obtain rfl:gs=g1:=by injection eg1 with eg1;injection eg1
 obtain rfl:gs=g2:=by injection eg2 with eg2;injection eg2
 clear eg1 eg2 hb1 hb2;have hm1:=xgd hbi1;have hm2:=xgd hbj1;obtain⟨ri,hri⟩:=hs.blk hm1;obtain⟨rj,hrj⟩:=hs.blk hm2;have x1:=bx.three;obtain⟨k0,k1,k2,k3,k4,k5,k6,k7⟩:=bm.eight;have lbx:=bx.lt;have lm:=bm.lt;have j0:=HM0.out.1.ext hO.lext;have j1:=HM0.out.2.1.ext hO.lext;have j2:=HM0.out.2.2.1.ext hO.lext;have j3:=HM0.out.2.2.2.ext hO.lext;refine yP 15 [] ?_;refine sRd ?_;refine sRf ?_;intro w8 hbw8;have hH8:=hs.below hbw8;have hri8:=hri.below hbw8;have hrj8:=hrj.below hbw8;clear o1 o2 x1 k0 k1 k2 k3 k4 k5 k6 k7;go_wp2_with fail
 refine(zGT hH8 hi hj hij hbi1 hbj1 ⟨_,_,_,_,_,_,_,_,_,_,_,_,_,_,_,_,rfl,j0.ext (lx0 hbw8),j1.ext (lx0 hbw8),j2.ext (lx0 hbw8),j3.ext (lx0 hbw8)⟩ hCs HS.out HK.out).mono ?_;rintro e w9 ⟨⟨u,rfl⟩,ho,hH9⟩;have hk1:w.heap.size≠bi:=by have:=hlt bi (by simp[hm1]);omega
 have hk2:w.heap.size≠bj:=by have:=hlt bj (by simp[hm2]);omega
 have bx:=(bx.below hbw8).row2 ho hri8 hrj8 dE;have bm:Blk w9 w.heap.size 191 #[.bool n0,.slice a0 l0 c0,.bool n1,.slice a1 l1 c1,.bool n2,.slice a2 l2 c2,.bool n3,.slice a3 l3 c3]:=(bm.below hbw8).row2 ho hri8 hrj8 dE;have hO:=(hO.trans (qJ.of _ hbw8)).trans (⟨ho.bel,ho.lext,fun k hk hn=>ho.old k hk (by simp;exact⟨fun e=>hn (by rw[e];simp[hm1]),fun e=>hn (by rw[e];simp[hm2])⟩)⟩:qJ _ w8 w9);have hu:=(hu.below hbw8).row2 ho hri8 hrj8;have hv:=(hv.below hbw8).row2 ho hri8 hrj8;have hs:=hH9;clear ho hri8 hri hrj8 hrj hH8 hH9 hm1 hm2 hk1 hk2 hbi1 hbj1;go_upto_region 2 with(fail)
 obtain⟨g1,kq1,eg1,o1⟩:=hu.at_ hi;obtain⟨g2,kq2,eg2,o2⟩:=hu.at_ hj;obtain⟨rfl,rfl⟩:gt=g1/\tc=kq1:=by simpa using eg1
 obtain⟨rfl,rfl⟩:gt=g2/\tc=kq2:=by simpa using eg2
 have hg1:=yU _ _ o1;clear eg1 eg2;have x1:=bx.three;obtain⟨k0,k1,k2,k3,k4,k5,k6,k7⟩:=bm.eight;have bk:=bm;have j0:=HM0.out.1.ext hO.lext;have j1:=HM0.out.2.1.ext hO.lext;have j2:=HM0.out.2.2.1.ext hO.lext;have j3:=HM0.out.2.2.2.ext hO.lext;have lbx:=bx.lt;have lk:=bk.lt;refine yP 15 [] ?_;refine sRd ?_;refine sRf ?_;intro w10 hbw10;go_wp2_with fail
 refine(zMN _ m0 m1 m2 m3 _ ⟨_,_,_,_,_,_,_,_,_,_,_,_,_,_,_,_,rfl,j0.ext (lx0 hbw10),j1.ext (lx0 hbw10),j2.ext (lx0 hbw10),j3.ext (lx0 hbw10)⟩).mono ?_;rintro e w11 ⟨⟨u,rfl⟩,hbq⟩;have hbz:=nx hbw10 hbq;have bx:=bx.below hbz;have bm:=bm.below hbz;have hO:=hO.trans (qJ.of _ hbz);have hs:=hs.below hbz;have hu:=hu.below hbz;have hv:=hv.below hbz;clear o1 o2 x1 k0 k1 k2 k3 k4 k5 k6 k7 hbz hbq hg1 bk j0 j1 j2 j3;go_upto_region 3 with(fail)
 obtain⟨g1,kq1,eg1,o1⟩:=hv.at_ hi;obtain⟨g2,kq2,eg2,o2⟩:=hv.at_ hj;obtain⟨rfl,rfl⟩:gi=g1/\ic=kq1:=by simpa using eg1
 obtain⟨rfl,rfl⟩:gi=g2/\ic=kq2:=by simpa using eg2
 have hg1:=yU _ _ o1;clear eg1 eg2;have x1:=bx.three;obtain⟨k0,k1,k2,k3,k4,k5,k6,k7⟩:=bm.eight;have bk:=bm;have j0:=HM0.out.1.ext hO.lext;have j1:=HM0.out.2.1.ext hO.lext;have j2:=HM0.out.2.2.1.ext hO.lext;have j3:=HM0.out.2.2.2.ext hO.lext;have lbx:=bx.lt;have lk:=bk.lt;refine yP 31 [pcI 20 (-m2),pcD 21 [20] (M2V m3 (-m2)),pcI 25 (-m1),pcD 29 [25] (M2V (-m1) m0),pcD 30 [21,29] (fun w v=>M4V w v m3 (-m2) (-m1) m0)] ?_;refine sRd ?_;refine sRc (fun wS hI Gk hG=>by go_simp;exact ck hG (zBY _ m2 _ (j2.ext hI.lext).weak HK.out.2.2.1)) (fun vc20 _=>?_);refine sRc (fun wS hI hc20 Gk hG=>?_) (fun vc21 _=>?_)
 ·obtain⟨a16,b16,d16,e16,x16,rfl,y16⟩:=id hc20
  go_simp;exact⟨hG _ _ ⟨_,_,_,_,_,_,_,_,rfl,j3.ext hI.lext,hc20⟩,zA _ _⟩
 refine sRd ?_;refine sRc (fun wS hI Gk hG=>by go_simp;exact ck hG (zBY _ m1 _ (j1.ext hI.lext).weak HK.out.2.1)) (fun vc25 _=>?_);refine sRd ?_;refine sRc (fun wS hI hc25 Gk hG=>?_) (fun vc29 _=>?_)
 ·obtain⟨a21,b21,d21,e21,x21,rfl,y21⟩:=id hc25
  go_simp;exact⟨hG _ _ ⟨_,_,_,_,_,_,_,_,rfl,hc25,j0.ext hI.lext⟩,zA _ _⟩
 refine sRc (fun wS hI hc21 hc29 Gk hG=>?_) (fun vc30 _=>?_)
 ·obtain⟨p0,p1,p2,p3,p4,p5,p6,p7,rfl,p8,p9⟩:=hc21
  obtain⟨q0,q1,q2,q3,q4,q5,q6,q7,rfl,q8,q9⟩:=hc29;go_simp;exact⟨hG _ _ ⟨_,_,_,_,_,_,_,_,_,_,_,_,_,_,_,_,rfl,p8,p9,q8,q9⟩,zA _ _⟩
 refine sRe ?_;intro w12 hbw12 hc20 hc21 hc25 hc29 hc30;have hm4:M4V w12 vc30 m3 (-m2) (-m1) m0:=hc30;obtain⟨p0,p1,p2,p3,p4,p5,p6,p7,p8,p9,p10,p11,p12,p13,p14,p15,rfl,-⟩:=id hm4;go_wp2_with fail
 refine(zMN _ m3 (-m2) (-m1) m0 _ hm4).mono ?_;rintro e w13 ⟨⟨u,rfl⟩,hbq⟩;have hbz:=nx hbw12 hbq;have bx:=bx.below hbz;have bm:=bm.below hbz;have hO:=hO.trans (qJ.of _ hbz);have hs:=hs.below hbz;have hu:=hu.below hbz;have hv:=hv.below hbz;go_wp2;exact bodyPost_end (results_none rfl _ _ _) rfl ⟨⟨_,rfl⟩,hO,bx,hs,hu,hv⟩
theorem zUJ(bw:Nat)(Ah Au Av:Value)(n Cs i:Nat)(bss:List Nat)(FS:Nat->Nat->Int)(w:World)(hbw:Blk w bw tHW #[Ah,Au,Av])(hs:Wri w Ah n Cs bss FS)(hu:zFN w Au n)(hv:zFN w Av n)(hi:i<n)
  (hn:n<=1000000) (hCs:Cs<=1000000) (hS:∀a,a<n->∀b,b<Cs->Sm (FS a b)):
  CPq 146 #[ptq bw 0,niq i] w fun e w'=>(∃u,e= .returned u)/\qJ (fun b=>b∈bss) w w'/\Blk w' bw tHW #[Ah,Au,Av]∧
   Wri w' Ah n Cs bss (zDV FS i)/\zFN w' Au n/\zFN w' Av n:=by
 obtain⟨so,sn,sc,rfl,s1,s2,s3,-⟩:=id (qC.rows hs);have HS:=xgv hS;have e1:n=sn:=by rw[<-s1];simp[genM]
 subst e1;clear s1 hS;obtain⟨gs,bi,rfl,hgs,hbi,-,o1,-⟩:=qC.at_ hs (i:=i) (by rw[hs.len];exact hi);obtain⟨gt,tc,rfl,o2⟩:=hu.at_ hi;obtain⟨gi,ic,rfl,o3⟩:=hv.at_ hi;have hOz:=qJ.refl (fun b=>b∈bss) w;have x1:=hbw.three;have lbw:=hbw.lt;have hgt:=yU _ _ o2;have hgi:=yU _ _ o3;go_enter Tryz.func146,Tryz.ntmps146;go_upto_region 0 with(fail)
 refine zBl [] ?_;refine sRd ?_;refine sRf ?_;intro w0 hbw0;have hOz:=hOz.trans (qJ.of _ hbw0);have bx:=hbw.below hbw0;have hs:=hs.below hbw0;have hu:=hu.below hbw0;have hv:=hv.below hbw0;clear o1 o2 o3 x1 hbw hgs hgt hgi;go_wp2;go_loopw [30] (fun mv wr=>∃m:Nat,m<=3/\mv=niq m/\qJ (fun b=>b∈bss) w wr/\Blk wr bw tHW #[slq gs n sc,slq gt n tc,slq gi n ic]∧
  Wri wr (slq gs n sc) n Cs bss (if 0<m then zDV FS i else FS)/\zFN wr (slq gt n tc) n/\zFN wr (slq gi n ic) n) (fun mv _=>3-(intOf mv).toNat)
 case atStart=>exact⟨0,oM,rfl,hOz,bx,hs,hu,hv⟩
 clear hOz bx hs hu hv;obtain⟨m,hm,rfl,hOz,bx,hs,hu,hv⟩:=hrel;by_cases hm0:m=0
 ·subst hm0
  rw[if_neg oM]at hs;have hmi:=xgd hbi;have hri:=hs.rowAt hi hbi;have hix:=fun W=>zDw 193 3 #[slq bi Cs Cs,.slice none 0 0,.slice none 0 0] 0 0 _ W zBE rfl oM rfl
  have hst:∀F:Nat->Int,qZ Cs F=qZ Cs (yQ (fun t=>-F t) F 0):=fun F=>qY fun t _=>by unfold yQ;rw[if_neg oM]
  rw[hst]at hri;clear hst;go_wp2;go_loopw [35] (fun jv wt=>∃j:Nat,j<=Cs/\jv=niq j/\zB0 [bi] wr wt/\(∃G,G=(fun t=>-FS i t)/\jJ wt bi (qZ Cs (yQ G (FS i) j)))) (fun jv _=>Cs-(intOf jv).toNat)
  case atStart=>exact⟨0,oM,rfl,zB0.refl _ _,_,rfl,hri⟩
  rename World=>wt
  obtain⟨j,hj,rfl,hO,G,hG,hv'⟩:=hrel;have HG:=xgv (congrFun hG);clear hG;have hOs:=hO.bel.size;by_cases hlt:j<Cs
  ·obtain⟨xs,xa,xl,xc,v1,v2,-,-,hx⟩:=hv'.cell (yE hlt)
   have hyf:yQ G (FS i) j j=FS i j:=by unfold yQ;rw[if_neg oM]
   rw[hyf]at hx;have hlv:=hv'.lt;go_upto_region 6 with(fail)
   refine zD ?_;intro W6 hW6;obtain⟨hB6,T7,hs6⟩:=qL hW6;have d1:=T7.two;have hO:=hO.trans (zB0.of [bi] hB6);have hv':=hv'.below hB6;have hx:=hx.ext (lx hB6);have l7:=T7.lt;clear v1 v2 hW6;have HSJ:=xgv (HS.out i hi j hlt);go_wp2_with fail
   refine(zBY _ (FS i j) W6 hx.weak HSJ.out).mono ?_;rintro e w9 ⟨u,rfl,hu,hbw9⟩;obtain⟨pn,pa,pl,pc,px,rfl,hpx⟩:=id hu;have HPX:=xgw hpx;clear hpx;have hv9:=hv'.below hbw9;obtain⟨zs,za,zl,zc,z1,z2,z3,z4,-⟩:=hv9.cell (yE hlt);have hset:=hv9.set (k:=j) (by rw[qA];exact hlt) hu;have hO:=hO.trans (zB0.of [bi] hbw9);go_wp2;go_roundw
   case rel=>
    have hq:(qZ Cs (yQ G (FS i) j)).set j (-(FS i j))=qZ Cs (yQ G (FS i) (j+1)):=by
     rw[zD1];exact qY fun t _=>by
      unfold yQ;by_cases h2:t=j
      ·subst h2
       rw[if_pos rfl,if_pos oM,HG.out]
      rw[if_neg h2];by_cases h1:t<j
      ·rw[if_pos h1,if_pos oM]
      rw[if_neg h1,if_neg oM]
    rw[hq]at hset;refine⟨_,_,_,_,_,_,_,_,_,_,_,_,_,?_,rfl⟩;exact⟨j+1,oM,by simp,hO.trans ⟨yJ (yJ (zA _ _) (zE _) _ _) (zE _) _ _,hset.2,fun i _ hi=>yO _ _ _ _ _ _ _ (by simpa using hi)⟩,_,funext HG.out,hset.1⟩
   case measure=>exact meq
  obtain rfl:j=Cs:=oM;have hq:qZ j (yQ G (FS i) j)=qZ j (fun t=>-FS i t):=qY fun t ht=>by unfold yQ;rw[if_pos ht];exact HG.out t
  rw[hq]at hv';go_wp2;go_roundw
  case measure=>simp[intOf]
  have hri0:=hs.rowAt hi hbi;exact⟨1,oM,by simp,hOz.trans ⟨hO.bel,hO.lext,fun k hk hn=>hO.old k hk (by simp;rintro rfl;exact hn (id hmi))⟩,bx.row hO hri0 dE,by simpa using hs.negRow hi hbi hO hv',hu.row hO hri0,hv.row hO hri0⟩
 by_cases hm1:m=1
 ·subst hm1
  rw[if_pos oM]at hs;have hix:=fun W=>zDw 193 3 #[slq bi Cs Cs,.slice none 0 0,.slice none 0 0] 1 1 _ W zBE rfl oM rfl
  go_wp2;go_loopw [35] (fun jv wt=>jv=niq 0/\wt=wr) (fun _ _=>0)
  case atStart=>exact⟨rfl,rfl⟩
  rename World=>wt
  obtain⟨rfl,hwt⟩:=hrel;have hwt:=hwt.symm;subst hwt;go_wp2;go_roundw
  case measure=>simp[intOf]
  exact⟨2,oM,by simp,hOz,bx,by simpa using hs,hu,hv⟩
 by_cases hm2:m=2
 ·subst hm2
  rw[if_pos oM]at hs;have hix:=fun W=>zDw 193 3 #[slq bi Cs Cs,.slice none 0 0,.slice none 0 0] 2 2 _ W zBE rfl oM rfl
  go_wp2;go_loopw [35] (fun jv wt=>jv=niq 0/\wt=wr) (fun _ _=>0)
  case atStart=>exact⟨rfl,rfl⟩
  rename World=>wt
  obtain⟨rfl,hwt⟩:=hrel;have hwt:=hwt.symm;subst hwt;go_wp2;go_roundw
  case measure=>simp[intOf]
  exact⟨3,oM,by simp,hOz,bx,by simpa using hs,hu,hv⟩
 obtain rfl:m=3:=oM;rw[if_pos oM]at hs;go_wp2;exact bodyPost_end (results_none rfl _ _ _) rfl ⟨⟨_,rfl⟩,hOz,bx,hs,hu,hv⟩
end Go.Proofs.YtkidaebmhlijlaaGreat
