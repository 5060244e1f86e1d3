/- Joined. -/
import Derived.StillTailTactics
import Derived.Test.YtniiekppgdkknaaGreatM06
import Derived.Test.YtniiekppgdkknaaGreatM07
set_option linter.unusedVariables false
set_option linter.unusedSimpArgs false
set_option linter.unusedSectionVars false
set_option maxHeartbeats 16000000
set_option maxRecDepth 100000
variable{C R a y z:Int}{M:List (List Int)}{zs:List Int}{xs:List Nat}{b cap k n q r:Nat}{ao:Option Go.Addr}{v x:Go.Value}{w w':Go.World}
namespace Go.Proofs.YtniiekppgdkknaaGreat
open Go.RowKit
theorem zJH{fn:Func}{a b:Tmp}(h:fn.results=#[.cell a 51,.cell b 51])(tmps:Array Value){W:World}{c d:Nat}{e f:Array Value}
  (l:tmps.getD a undef=ptq c 0) (n:tmps.getD b undef=ptq d 0) (j:Blk W c 51 e) (k:Blk W d 51 f) (g:e.size=2) (i:f.size=2):
  (results fn tmps).run Tryz.prog W= .ok (.tuple #[.agg e,.agg f]) W:=by
 have m:tmps[a]?.getD undef=ptq c 0:=by simpa using l
 have o:tmps[b]?.getD undef=ptq d 0:=by simpa using n
 simp[results,h,m,o,asAddr,zCQ j g,zCQ k i]
theorem zIu{a d:Nat}(h:a=q*d+r)(b:r<d):a/d=q/\a%d=r:=by
 subst h;have hd:0<d:=oM;constructor;rw[zP,Nat.mul_add_div hd,Nat.div_eq_of_lt b,jJ];rw[zP,Nat.mul_add_mod,Nat.mod_eq_of_lt b]
theorem zCe(w:World):yA w (.agg #[.bool false,.slice none 0 0]) 0:=
 ⟨false,none,0,0,[],rfl,rfl,xgf _,oM,qF.nil _ _,zAL.nil,rfl,fun _=>rfl⟩
theorem zTw{A B s g t:Nat}(i:0<s)(h:A*s=q*(B*s)+r)(a:r=g*s+t)(j:t<s)(c:r<B*s):A/B=q/\A%B=g:=by
 have e:A*s=(q*B+g)*s+t:=by
  rw[h,a,zS,zN];omega
 have k:t=0:=by
  have b:(A*s)%s=0:=Nat.mul_mod_left _ _;rw[e,zP,Nat.mul_add_mod,Nat.mod_eq_of_lt j]at b;exact b
 subst k;rw[jJ]at e a;have d:A=q*B+g:=Nat.eq_of_mul_eq_mul_right i e;have f:g<B:=by
  rw[a]at c;exact Nat.lt_of_mul_lt_mul_right c
 exact zIu d f
theorem zVi{ys:List Nat}(a:zAL ys)(lx:zAV xs)(h:nat ys<=nat xs):ys.length<=xs.length:=by
 cases b:ys.length with
 |zero=>omega
 |succ k=>
  have c:=zGM a b;have d:=zCY lx;rcases zJ xs.length (k+1)with h3|h3
  have:=zC0 (show xs.length<=k by omega);omega;omega
def zWN(w:World)(a b:Nat)(e:Ending)(w':World):Prop:=
 ∃v1 v2,e= .returned (.tuple #[v1,v2])/\yA w' v1 ((a/b:Nat):Int)/\yA w' v2 ((a%b:Nat):Int)/\BWq w w'
theorem zK2(a6 g8:Option Addr)(h U i d7:Nat)(xs ys:List Nat)(w:World)(e5:xs.length=h)(Z:ys.length=i+1)
  (r7:h<=U) (p9:U<=9223372036854775807) (r8:i+1<=d7) (r0:d7<=9223372036854775807)
  (e3:h+1<=LIM) (f:i+2<=LIM) (b9:qF w a6 xs) (c0:qF w g8 ys) (x6:zAL xs) (i4:zAL ys):
  CPq 156 #[.slice a6 h U,.slice g8 (i+1) d7] w (zWN w (nat xs) (nat ys)):=by
 have c5:=xgw e5;have c6:=xgw Z;have A0:h<=xs.length:=oM;have A1:i+1<=ys.length:=oM;obtain⟨b2,v9,y,rfl,p7,t0,HY,l0⟩:=c0.limb (k:=i) oM;have n4:0<y:=by have:=i4 i Z;rw[HY.out]at this;omega
 have n5:0<nat ys:=zI (jH dE) (zGM i4 Z);have T:∀s,s<4294967296->Hid (Sm ((nat xs*s:Nat):Int)):=fun s hs=>Sm.of_pow (k:=h+1) (by
  have d:=zCY b9.1;rw[e5]at d;rw[zQ,qE];exact zM (qA _ (zAc hs)) (Nat.mul_lt_mul_of_pos_right d dE)) e3
 have HB:∀s,s<4294967296->Hid (Sm ((nat ys*s:Nat):Int)):=fun s hs=>Sm.of_pow (k:=i+2) (by
  have d:=zCY c0.1;rw[Z]at d;rw[zQ,qE];exact zM (qA _ (zAc hs)) (Nat.mul_lt_mul_of_pos_right d dE)) f
 clear e5 Z;have i0:h<=8*LIM:=oM;have i3:i+1<=8*LIM:=oM;rw[zAd]at e3 f;go_enter Tryz.func156,Tryz.ntmps156;go_upto_region 1 with(fail)
 refine zE ?_;intro W0 i5;obtain⟨M,c8,d0,A4⟩:=jW i5;obtain⟨d1,d2,d3,d4⟩:=c8.two;have e1:=d0.two;have l2:=(M.cell (p:=⟨b2,v9+i,none⟩) p7).trans l0;clear l0;by_cases s4:i=0
 .subst s4
  simp only[Nat.add_zero]at l2;have l3:((0:Nat):Int)+1=1:=rfl;go_wp2_with fail
  refine(zIJ a6 h U xs y W0 c5.out (by rw[zAd];omega) (b9.ext (lx M)) n4 t0).mono ?_;rintro e w1 ⟨p0,qs,r,rfl,k1,k2,k3,k4,k5,k6⟩;have HV:=xgw k5;clear k5;go_wp2_with fail
  refine(zBQ _ h h qs false w1 k3 (xgf _) oM (by rw[zAd];omega) (k1.at_ k2)).mono ?_;rintro e w2 ⟨v,rfl,⟨R,O,Q,P,vx,rfl,a⟩,f⟩;go_wp2_with fail
  refine zDK ?_;intro j a9;obtain⟨t,a8,s7⟩:=qL a9;have a7:zCG j w2.heap.size [r]:=a8;refine(zBQ _ 1 1 [r] false j rfl (xgf _) oM (by rw[zAd];omega) (a7.at_ (fun x hx=>by simp at hx;unfold B32;omega))).mono ?_;rintro e w4 ⟨v2,rfl,⟨un,ua,ul,uc,ux,rfl,hu⟩,b⟩;have c9:=(((c8.I k6).I f).I t).I b;have d5:=(((d0.I k6).I f).I t).I b;have f1:=c9.two;obtain⟨g1,g2,g3,g4⟩:=d5.two;go_wp2_with fail
  refine bodyPost_ret (zJH rfl _ rfl rfl (((c9.put2 _ _).far oM _ _).far oM _ _) (((d5.far oM _ _).far oM _ _).put2 _ _) rfl rfl) rfl ?_;have Y:=(c9.lext2 dE (.bool R) (.slice O Q P)).trans (((d5.far oM 0 (.bool R)).far oM 1 (.slice O Q P)).lext2 dE (.bool un) (.slice ua ul uc));have n3:nat ys=y:=by
   have h7:=yC ys 0;rw[qN _ (by have:=c6.out;omega),HY.out]at h7;simpa using h7
  obtain⟨q1,q2⟩:=zIu HV.out k4;refine⟨_,_,rfl,?_,?_,yM (yM (yM (yM (nx (nx (nx (nx M k6) f) t) b) oM 0 _) oM 1 _) oM 0 _) oM 1 _⟩
  .rw[n3,q1]
   exact yA.ext (yA.ext ⟨R,O,Q,P,vx,rfl,a⟩ (lx (nx t b))) Y
  rw[n3,q2];have e6:nat [r]=r:=by simp[zBR]
  rw[<-e6];exact yA.ext ⟨un,ua,ul,uc,ux,rfl,hu⟩ Y
 go_wp2;go_loopw [8] (fun sv wr=>wr=W0/\∃s:Nat,sv= .int .u32 s/\0<s/\s<4294967296/\y*s<4294967296) (fun sv _=>4294967296-(intOf sv).toNat)
 case atStart=>exact⟨rfl,1,rfl,oM,oM,oM⟩
 obtain⟨f2,s,rfl,a0,e9,s7⟩:=hrel;have f2:=f2.symm;subst f2;have B3:s<=y*s:=jF s n4;have ec:((y*s:Nat):Int)=(y:Int)*(s:Int):=by simp
 have x8:0<=(y:Int)*(s:Int):=oM;have x9:(y:Int)*(s:Int)<4294967296:=oM;by_cases A2:y*s<2147483648
 .have r6:(y:Int)*(s:Int)<2147483648:=oM
  go_wp2;go_roundw
  case rel=>exact⟨trivial,2*s,by simp,oM,oM,by rw[Nat.mul_left_comm];omega⟩
  case measure=>exact meq
 have r6:¬ (y:Int)*(s:Int)<2147483648:=oM;go_wp2_with fail
 refine zDK ?_;intro W1 i6;obtain⟨h8,a8,A5⟩:=qL i6;have a7:zCG W1 W0.heap.size [s]:=a8;refine(zBQ _ 1 1 [s] false W1 rfl (xgf _) oM (by rw[zAd];omega) (a7.at_ (fun x hx=>by simp at hx;unfold B32;omega))).mono ?_;rintro e w2 ⟨v,rfl,⟨R,O,Q,P,vx,rfl,a⟩,f⟩;go_upto_region 8 with(fail)
 refine zE ?_;intro j a9;have HV:=xgw a;clear a d1 d2 d3 d4 e1;obtain⟨t,g9,A6⟩:=qL a9;obtain⟨d1,d2,d3,d4⟩:=g9.two;have N:BWq W0 j:=nx (nx h8 f) t;have m9:=b9.ext (lx (nx M N));have n0:=c0.ext (lx (nx M N));have f0:yA j (.agg #[.bool R,.slice O Q P]) (sgn false (nat [s])):=yA.ext ⟨R,O,Q,P,vx,rfl,HV.out⟩ (lx t);clear i5 i6 a9 h8 f t;have s0:=World.new_ne j _ d1;have s2:=World.new_ne j _ d2;replace T:=T s e9;replace HB:=HB s e9;have eS:nat [s]=s:=by simp[zBR]
 have eA:sgn false (nat xs)*sgn false (nat [s])=((nat xs*s:Nat):Int):=by rw[eS];simp[sgn]
 have eB:sgn false (nat ys)*sgn false (nat [s])=((nat ys*s:Nat):Int):=by rw[eS];simp[sgn]
 have h9:=T.out;have sA:Sm (sgn false (nat xs)):=Sm.mono h9 (by simp[jA];exact qJ _ a0);have d9:=HB.out;have sB:Sm (sgn false (nat ys)):=Sm.mono d9 (by simp[jA];exact qJ _ a0);have sS:Sm (sgn false (nat [s])):=Sm.mono d9 (by simp[jA];rw[eS];exact jF _ n5);clear e3 f h9 d9;refine zBK [pcI 1 (sgn false (nat xs)),pcD 3 [1] (fun w v=>yA w v (((nat xs*s:Nat):Int))),pcI 5 (sgn false (nat ys)),pcD 7 [5] (fun w v=>yA w v (((nat ys*s:Nat):Int))),pcI 8 (0),pbA 9 51 2,pbA 10 51 2,pbA 11 51 2,pbS 12 9 51 2,pbS 13 10 51 2,pbS 14 11 51 2] ?_;refine sRd ?_;refine sRc (fun H hI D c=>by go_simp;exact ck c (zBQ a6 h U xs false _ c5.out r7 p9 i0 (m9.ext hI.lext))) (fun C7 _=>?_);refine sRd ?_;refine sRc (fun H hI e0 D c=>?_) (fun C9 a=>?_)
 .go_simp
  refine(zB8 _ _ (sgn false (nat xs)) (sgn false (nat [s])) _ e0 (f0.ext hI.lext) sA sS).mono ?_;rintro e wa ⟨v,rfl,a,X⟩;rw[eA]at a;exact⟨_,rfl,c _ _ a,X⟩
 obtain⟨g5,g7,rfl,w7⟩:=zNr a;clear a;refine sRd ?_;refine sRc (fun H hI D c=>by go_simp;exact ck c (zBQ _ _ _ ys false _ c6.out r8 r0 i3 (n0.ext hI.lext))) (fun D0 _=>?_);refine sRd ?_;refine sRc (fun H hI e2 D c=>?_) (fun D1 a=>?_)
 .go_simp
  refine(zB8 _ _ (sgn false (nat ys)) (sgn false (nat [s])) _ e2 (f0.ext hI.lext) sB sS).mono ?_;rintro e wa ⟨v,rfl,a,X⟩;rw[eB]at a;exact⟨_,rfl,c _ _ a,X⟩
 obtain⟨o3,o4,rfl,w0⟩:=zNr a;clear a;refine sRc (fun H hI D c=>?_) (fun D2 a=>?_)
 .go_simp
  exact⟨c _ _ (zCe _),zB _ _⟩
 obtain⟨f9,g6,rfl,w3⟩:=zNr a;clear a;refine sRa (cs:=#[.bool false,.slice none 0 0]) fun o h6=>?_
 refine sRa (cs:=#[.bool false,.slice none 0 0]) fun K x5=>?_
 refine sRa (cs:=#[.bool false,.slice none 0 0]) fun l h5=>?_
 refine sRs o (.agg #[g5,g7]) ?_ w7;refine sRs K (.agg #[o3,o4]) ?_ w0;refine sRs l (.agg #[f9,g6]) ?_ w3;refine sRb ?_;simp only[FA,FC,FN,ptr,List.nil_append,List.cons_append,Act.put,xgh,xgi,xgj];intro C p8 e0 i8 e2 i9 k0 f7 f6 c2 f8 n9 v8;replace f7:Blk C o 51 #[g5,g7]:=f7 _ rfl;have v3:=i8;replace f6:Blk C K 51 #[o3,o4]:=f6 _ rfl;have n7:=i9;replace c2:Blk C l 51 #[f9,g6]:=c2 _ rfl;have v1:=k0;have o2:o≠K:=f8 (10,K) sI;have c3:o≠l:=f8 (11,l) sI;have o0:K≠l:=n9 (11,l) sI;clear f8 n9 v8;clear e0 i8 e2 i9 k0 f0 m9 n0 d1 d2 d3 d4 s0 s2 sA sB sS HV g9 eA eB eS a7 a8 i0 i3 c5 c6 b9 c0 l2 HY;have p5:=n7;obtain⟨dn,da,dl,dc,V,b3,e4,l3,r4,l4,l5,l7,x7⟩:=n7;injection b3 with b3
 simp only[Array.mk.injEq,List.cons.injEq,and_true]at b3;obtain⟨rfl,rfl⟩:=b3;have hD:nat V=nat ys*s:=by
  have:=congrArg Int.natAbs l7;rw[jA]at this;omega
 have d8:0<nat ys*s:=zDF n5 a0;obtain⟨L,rfl⟩:∃L,dl=L+1:=by
  cases dl with
  |zero=>rw[List.length_eq_zero_iff.1 e4]at hD;simp[nat]at hD;omega
  |succ k=>exact⟨k,rfl⟩
 have c4:=xgw e4;clear e4 l7;have A9:=N.size;have B5:l≠w.heap.size:=oM;have B6:l≠w.heap.size+1:=oM;have B4:=c2.lt;obtain⟨o9,hf⟩:=zJp;go_wp2;go_loopw [] (fun wr=>∃(q r:Nat) (x1 y1 x3 y3:Value),BWq j wr/\zBC C wr/\C.heap.size<=wr.heap.size/\Blk wr o 51 #[x1,y1]/\yA wr (.agg #[x1,y1]) r/\Blk wr K 51 #[.bool dn,.slice da (L+1) dc]∧
  Blk wr l 51 #[x3,y3]/\yA wr (.agg #[x3,y3]) q/\Hid (nat xs*s=q*(nat ys*s)+r)) (fun wr=>(o9 wr o).toNat)
 case atStart=>
  exact⟨0,nat xs*s,g5,g7,f9,g6,p8,zBC.refl _,xgf _,f7,v3,f6,c2,v1,by rw[jZ,jC];exact xgw rfl⟩
 obtain⟨q,r,C0,C5,C4,C6,B,c1,A8,p1,j1,p2,p3,j3,b4⟩:=hrel;have r5:=hf _ _ _ _ _ p1 j1;obtain⟨rn,ra,F,rc,G,b8,e8,e6,s5,b7,e7,m8,A3⟩:=id j1;injection b8 with b8
 simp only[Array.mk.injEq,List.cons.injEq,and_true]at b8;obtain⟨rfl,rfl⟩:=b8;have hR:nat G=r:=by
  have:=congrArg Int.natAbs m8;rw[jA]at this;omega
 have a4:Hid (Sm (r:Int)):=Sm.mono T.out (by have:=b4.out;simp only[Int.natAbs_natCast];omega);have o5:Hid (Sm (q:Int)):=Sm.mono T.out (by have:=b4.out;have m:q<=q*(nat ys*s):=qJ _ d8;simp only[Int.natAbs_natCast];omega);have m7:F<=4*LIM:=by
  have W:=a4.out;rw[<-hR]at W;have d:Sm (sgn false (nat G)):=W.mono (by simp[jA]);have m:=d.len e7;rw[e8]at m;clear W d;rw[zAd]at m ⊢
  omega
 have a3:=xgw e8;clear e8 m8;have m1:=p1.two;have l1:=p2.two;obtain⟨qn,qa,ql,qc,qx,b6,m0⟩:=id j3;injection b6 with b6
 simp only[Array.mk.injEq,List.cons.injEq,and_true]at b6;obtain⟨rfl,rfl⟩:=b6;have x0:=xgw m0;clear m0;have o1:=p3.two;go_wp2_with fail
 refine(zHZ ra da F rc (L+1) dc G V wr a3.out c4.out e6 l3 s5 r4 b7 (l4.ext c1) e7 l5).mono ?_;rintro e wq ⟨rfl,nq,rfl⟩;by_cases b5:nat G<nat V
 .rw[zT b5]
  go_wp2_with fail
  refine(zIJ ra F rc G s _ a3.out m7 (b7.ext (lx (drN wr nq))) a0 e9).mono ?_;rintro e w4 ⟨p0,qs,rr,rfl,t1,t2,t3,t4,t5,t6⟩;have I:=(p3.drewN nq).I t6;have e1:=I.two;have o6:=xgw t5;clear t5;have B1:=(((c8.I N).I B).drewN nq).I t6;have B2:=(((d0.I N).I B).drewN nq).I t6;have x4:=I.lt;clear m1 l1 o1;go_upto_region 14 with(fail)
  refine yD 3 [pcI 2 (((nat qs:Nat):Int))] ?_;refine sRd ?_;refine sRc (fun H hI D c=>?_) (fun D3 _=>?_)
  .go_simp
   refine(zBQ _ F F qs false _ t3 (xgf _) oM oM ((t1.at_ t2).ext hI.lext)).mono ?_;rintro e wa ⟨v,rfl,a,X⟩;simp only[sgn_false]at a;exact⟨_,rfl,c _ _ a,X⟩
  refine sRe ?_;intro w5 b0 f;obtain⟨fn,fa,fl,fc,fx,rfl,l8⟩:=id f;have w8:=xgw l8;clear l8;have n:=B1.I b0;have S:=B2.I b0;have z1:=n.two;obtain⟨y1,y2,y3,y4⟩:=S.two;go_wp2_with fail
  refine bodyPost_ret (zJH rfl _ rfl rfl (((n.put2 _ _).far oM _ _).far oM _ _) (((S.far oM _ _).far oM _ _).put2 _ _) rfl rfl) rfl ?_;obtain⟨g1,g2⟩:=zTw a0 b4.out (hR ▸ o6.out) t4 (by rw[<-hD,<-hR];exact b5);have Y:=(n.lext2 dE (.bool qn) (.slice qa ql qc)).trans (((S.far oM 0 (.bool qn)).far oM 1 (.slice qa ql qc)).lext2 dE (.bool fn) (.slice fa fl fc));refine⟨_,_,rfl,?_,?_,yM (yM (yM (yM (nx (nx (nx (nx (nx M N) B) (drN wr nq)) t6) b0) oM 0 _) oM 1 _) oM 0 _) oM 1 _⟩
  .rw[g1]
   exact(j3.ext (lx (nx (nx (drN wr nq) t6) b0))).ext Y
  rw[g2];exact f.ext Y
 rw[zR b5];have l6:nat V<=nat G:=Nat.le_of_not_lt b5;have r9:=zVi l5 b7.1 l6;rw[a3.out,c4.out]at r9;obtain⟨rm,rfl⟩:∃rm,F=rm+1:=⟨F-1,oM⟩;go_wp2_with fail
 refine(zQS ra da rm rc L dc G V _ a3.out c4.out m7 (b7.ext (lx (drN wr nq))) (l4.ext (c1.trans (lx (drN wr nq)))) e7 oM l6).mono ?_;rintro e w4 ⟨v,z,rfl,hz,t9,a2,b⟩;obtain⟨zn,za,zl,zc,zx,rfl,t7⟩:=id hz;rw[hD,hR]at a2;have n6:0<z*(nat ys*s):=zDF t9 d8;have o8:Hid (Sm ((z:Int)*((nat ys*s:Nat):Int))):=Sm.mono a4.out (by rw[<-yP,zQ,zQ];exact a2);have SZ:Hid (Sm (z:Int)):=Sm.mono a4.out (by rw[zQ,zQ];exact zF (qJ _ d8) a2);have c7:=xgw a2;have o7:=xgw n6;clear a2 t7 n6;go_upto_region 11 with(fail)
 refine zE ?_;intro W5 i7;obtain⟨g,d6,A7⟩:=qL i7;have P1:=((p1.drewN nq).I b).I g;have P2:=((p2.drewN nq).I b).I g;have I:=((p3.drewN nq).I b).I g;have e1:=I.two;have f1:=d6.two;clear m1 l1 o1;go_wp2_with fail
 refine(zE6 _ _ (q:Int) (z:Int) W5 (j3.ext ((lx (drN wr nq)).trans (lx (nx b g)))) (hz.ext (lx g)) o5.out SZ.out).mono ?_;rintro e w6 ⟨v,rfl,m5,A⟩;obtain⟨D8,C8,D7,D4,D9,rfl,m6⟩:=id m5;have x2:=xgw m6;clear m6;have a5:=I.I A;obtain⟨v4,v5,v6,v7⟩:=a5.two;clear e1 f1;go_upto_region 12 with(fail)
 refine zE ?_;intro J u;have Q3:=qW u (a5.put2 _ _);have Q1:=qW u (((P1.I A).far c3 _ _).far c3 _ _);have Q2:=qW u (((P2.I A).far o0 _ _).far o0 _ _);have n8:w4.heap.size≠l:=by
  have d:=p3.lt;have m:=b.size;have h3:(wr.drewN nq).heap.size=wr.heap.size:=rfl;omega
 have Q5:=qW u (((d6.I A).far n8 _ _).far n8 _ _);have s1:=Q1.two;have a1:=Q2.two;have f1:=Q5.two;have f3:zBC w6 J:=by rw[u.out];exact a5.lext2 dE _ _
 have k7:BWq j J:=by
  rw[u.out];have W:=(((B.trans ((drN wr nq).mono B.size)).trans (b.mono B.size)).trans (g.mono (zF B.size b.size))).trans (A.mono (zF (zF B.size b.size) g.size));exact yM (yM W h5 0 _) h5 1 _
 have f4:zBC wr J:=((lx (drN wr nq)).trans (lx (nx (nx b g) A))).trans f3;have B7:=Q1.lt;have B8:=Q2.lt;have B9:=Q5.lt;have B0:C.heap.size<=J.heap.size:=by
  rw[u.out];have d:=b.size;have m:=g.size;have h3:=A.size;have h4:(wr.drewN nq).heap.size=wr.heap.size:=rfl;simp only[World.size_setCell];omega
 have s6:=j1.ext f4;have p4:yA J (.agg #[.bool dn,.slice da (L+1) dc]) ((nat ys*s:Nat):Int):=p5.ext (c1.trans f4);have v0:yA J (.agg #[.bool zn,.slice za zl zc]) (z:Int):=hz.ext ((lx (nx g A)).trans f3);clear u i7 b g P1 P2 I a5 v4 v5 v6 v7 d6;refine yD 5 [pcI 3 ((z:Int)*((nat ys*s:Nat):Int)),pcD 4 [3] (fun w v=>yA w v ((r:Int)-(z:Int)*((nat ys*s:Nat):Int)))] ?_;refine sRd ?_;refine sRc (fun H hI D c=>by go_simp;exact ck c (zB8 _ _ (z:Int) ((nat ys*s:Nat):Int) _ (v0.ext hI.lext) (p4.ext hI.lext) SZ.out HB.out)) (fun D5 _=>?_);refine sRc (fun H hI k8 D c=>by go_simp;exact ck c (zIK _ _ (r:Int) ((z:Int)*((nat ys*s:Nat):Int)) _ (s6.ext hI.lext) k8 a4.out o8.out)) (fun D6 _=>?_);refine sRe ?_;intro w9 E k8 k9;obtain⟨on,oa,ol,oc,ox,rfl,ho⟩:=id k9;have HO:=xgw ho;clear ho;have n:=Q1.I E;have S:=Q2.I E;have C3:=Q3.I E;have s3:yA w9 (.agg #[.bool on,.slice oa ol oc]) ((r-z*(nat ys*s):Nat):Int):=by
  have d:=c7.out;have m:(r:Int)-(z:Int)*((nat ys*s:Nat):Int)=((r-z*(nat ys*s):Nat):Int):=by
   rw[<-yP];omega
  rw[<-m];exact k9
 have f5:=n.lext2 dE (.bool on) (.slice oa ol oc);have l9:=s3.ext f5;have p6:BWq j w9:=k7.trans (E.mono k7.size);have s9:zBC C w9:=(c1.trans f4).trans (lx E);have s8:C.heap.size<=((w9.setCell ⟨o,0,none⟩ (.bool on)).setCell ⟨o,1,none⟩ (.slice oa ol oc)).heap.size:=by
  have d:=E.size;simp only[World.size_setCell];omega
 have z1:=n.two;go_wp2;go_roundw
 case rel=>
  exact⟨q+z,r-z*(nat ys*s),_,_,_,_,yM (yM p6 h6 0 _) h6 1 _,s9.trans f5,s8,n.put2 _ _,l9,(S.far (zL o2) _ _).far (zL o2) _ _,(C3.far (zL c3) _ _).far (zL c3) _ _,(m5.ext (f3.trans (lx E))).ext f5,by
   have d:=b4.out;have m:=c7.out;refine xgw ?_;rw[zS];omega⟩
 rw[hf _ _ _ _ _ (n.put2 _ _) l9,r5];have d:=c7.out;have m:=o7.out;omega
def zO7:Nat:=1099511627774
theorem zCp:zO7=1099511627774:=rfl
structure Smd(z:Int):Prop where
 lt:z.natAbs<B32^zO7
theorem Smd.sm(h:Smd z):Sm z:=zI h.lt (zC0 (by rw[zCp,zAd];omega))
theorem Smd.mono(h:Smd z)(a:y.natAbs<=z.natAbs):Smd y:=⟨zM a h.lt⟩
theorem zIn(a b:Nat)(h:a+1<=b):B32^a<B32^b:=by
 have c:B32^(a+1)<=B32^b:=zC0 h;rw[qE]at c;have d:0<B32^a:=jH dE;have e:B32^a*2<=B32^a*B32:=qA _ dE;omega
theorem Smd.sm1(h:Smd z)(a:y.natAbs<=z.natAbs+1):Sm y:=
 zM a (zM h.lt (zIn zO7 LIM (by rw[zCp,zAd];omega)))
theorem Smd.len{neg:Bool}(h:Smd (sgn neg (nat xs)))(a:zAL xs):xs.length<=zO7:=by
 have h:=h.lt;rw[jA]at h;cases b:xs.length with
 |zero=>omega
 |succ n=>
  have c:=zGM a b;rcases zJ n zO7 with h2|h2
  omega;have:=zC0 h2;omega
theorem zE7(v1 v2:Value)(S u:Int)(w:World)(h1:yA w v1 S)(h2:yA w v2 u)(s1:Smd S)(s2:Smd u)(hz:u≠0):
  CPq 125 #[v1,v2] w (zRR w S u):=by
 obtain⟨o3,k0,n1,k3,xs,rfl,c9,n6,n4,g6,m5,d6,p9⟩:=h1;obtain⟨o4,k2,n2,k4,ys,rfl,d0,n7,n5,g8,m6,d7,r4⟩:=h2;have l9:n1<=8*LIM:=by
  have:=(d6 ▸ s1).len m5;rw[c9,zCp]at this;clear s1 s2;rw[zAd];omega
 have m0:n2<=8*LIM:=by
  have:=(d7 ▸ s2).len m6;rw[d0,zCp]at this;clear s1 s2;rw[zAd];omega
 have i5:=xgw c9;have i6:=xgw d0;have i7:=xgw d6;have i8:=xgw d7;have e5:=xgw s1;have e6:=xgw s2;have HZ:=xgw hz;clear c9 d0 d6 d7 s1 s2 hz;go_enter Tryz.func125,Tryz.ntmps125;go_upto_region 1 with(fail)
 refine zE ?_;intro W0 f2;obtain⟨c8,X,Y,a9,b0,r5⟩:=zLb f2;obtain⟨g,h,n,o⟩:=X.two;obtain⟨i,j,p,q⟩:=Y.two;have g7:=g6.ext (lx c8);have g9:=g8.ext (lx c8);refine yD 10 [pcI 4 (S),pcI 9 (u)] ?_;refine sRd ?_;refine sRc (fun wS hI T l=>?_) (fun s5 _=>?_)
 .go_simp
  refine(zBQ k0 n1 k3 xs o3 _ i5.out n6 n4 l9 (g7.ext hI.lext)).mono ?_;rintro a3 wa ⟨v,rfl,A,a7⟩;rw[<-i7.out]at A;exact⟨_,rfl,l _ _ A,a7⟩
 refine sRd ?_;refine sRc (fun wS hI T l=>?_) (fun s6 _=>?_)
 .go_simp
  refine(zBQ k2 n2 k4 ys o4 _ i6.out n7 n5 m0 (g9.ext hI.lext)).mono ?_;rintro a3 wa ⟨v,rfl,A,a7⟩;rw[<-i8.out]at A;exact⟨_,rfl,l _ _ A,a7⟩
 refine sRe ?_;intro W1 a6 m7 m8;clear g h n o i j p q g7 g9 g6 g8;obtain⟨an,aa,al,ac,a,rfl,b9,l2,l3,l4,e8,b2,e9⟩:=m7;obtain⟨bn,U,bl,bc,bx,rfl,b3,c5,c6,c7,c0,b4,f0⟩:=m8;have m9:al<=zO7:=by
  have:=(b2 ▸ e5.out).len e8;rwa[b9]at this
 have f8:bl<=zO7:=by
  have:=(b4 ▸ e6.out).len c0;rwa[b3]at this
 have hA:nat a=S.natAbs:=by rw[b2,jA]
 have b5:nat bx=u.natAbs:=by rw[b4,jA]
 obtain⟨V,rfl⟩:∃V,bl=V+1:=by
  cases bl with
  |zero=>rw[List.length_eq_zero_iff.1 b3]at b5;have:=HZ.out;simp[nat]at b5;omega
  |succ k=>exact⟨k,rfl⟩
 have h9:=xgw b9;have b8:=xgw b3;have i0:=xgw b2;have e0:=xgw b4;have h8:=xgw hA;have d9:=xgw b5;have o6:=xgw e9;have i3:=xgw f0;clear b9 b3 b2 b4 hA b5 e9 f0;have X:=X.I a6;have Y:=Y.I a6;have a9:=a9.I a6;have b0:=b0.I a6;obtain⟨g,h,n,o⟩:=X.two;obtain⟨i,j,p,q⟩:=Y.two;go_upto_region 2 with(fail)
 refine zE ?_;intro W2 a0;have X1:=qW a0 (((X.put2 _ _).far oM _ _).far oM _ _);have X2:=qW a0 (((Y.far oM _ _).far oM _ _).put2 _ _);have e:=qW a0 ((((a9.far oM _ _).far oM _ _).far oM _ _).far oM _ _);have d:=qW a0 ((((b0.far oM _ _).far oM _ _).far oM _ _).far oM _ _);have r6:=d.lt;have b6:zBC W1 W2:=by
  rw[a0.out];exact(X.lext2 dE _ _).trans (((Y.far oM _ _).far oM _ _).lext2 dE _ _)
 have l8:BWq w W2:=by
  rw[a0.out];exact yM (yM (yM (yM (nx c8 a6) oM 0 _) oM 1 _) oM 0 _) oM 1 _
 clear a0 X Y a9 b0 g h n o i j p q;obtain⟨g,h,n,o⟩:=X1.two;obtain⟨i,j,p,q⟩:=X2.two;have f1:yA W2 (.agg #[.bool bn,.slice U (V+1) bc]) u:=⟨bn,U,V+1,bc,bx,rfl,b8.out,c5,c6,c7.ext b6,c0,e0.out,i3.out⟩;go_wp2_with fail
 refine(zDA _ u W2 f1).mono ?_;rintro a3 w3 ⟨rfl,r⟩;have f9:zAB u 0≠0:=by have:=HZ.out;unfold zAB;split<;>(try split)<;>omega
 obtain⟨k,hk⟩:∃k,zAB u 0=k:=⟨_,rfl⟩;rw[hk]at f9 ⊢
 have e1:=qK g r;have e2:=qK h r;have e3:=qK i r;have e4:=qK j r;clear g h n o i j p q;go_wp2_with fail
 refine(zK2 aa U al ac V bc a bx w3 h9.out b8.out l2 l3 c5 c6 (by rw[zCp]at m9;rw[zAd];omega) (by rw[zCp]at f8;rw[zAd];omega) (l4.ext (b6.trans (lx r))) (c7.ext (b6.trans (lx r))) e8 c0).mono ?_;rintro a3 w4 ⟨q0,r0,rfl,x,z,C⟩;obtain⟨qn,qa,ql,qc,qx,rfl,g4⟩:=id x;obtain⟨rn,ra,rl,rc,rx,rfl,g5⟩:=id z;have p0:=xgw g4;have p1:=xgw g5;clear g4 g5 e1 e2 e3 e4 hk f9;go_upto_region 5 with(fail)
 refine zE ?_;intro W5 f3;obtain⟨I,b,c,r8⟩:=jW f3;have m:=((X1.I r).I C).I I;have f:=((X2.I r).I C).I I;have e:=((e.I r).I C).I I;have d:=((d.I r).I C).I I;have J:BWq w W5:=nx (nx (nx l8 r) C) I;have r7:w.heap.size+1+1+1<w4.heap.size:=by
  have h3:=r.size;have h4:=C.size;omega
 have f6:0<nat bx:=by have:=HZ.out;have:=d9.out;omega
 obtain⟨B,H⟩:=zPX an bn (nat a) (nat bx) f6;rw[<-i0.out,<-e0.out]at B H;have l5:qF W5 U bx:=c7.ext ((b6.trans (lx r)).trans (lx (nx C I)));have s:=x.ext (lx I);have t:=z.ext (lx I);clear x z f3 I C r X1 X2 f2 f1;have SQ:Sm ((nat a/nat bx+1:Nat):Int):=e5.out.sm1 (by simp only[Int.natAbs_natCast];rw[<-h8.out];have:=zAs (nat a) (nat bx);omega);have F:=xgw SQ;clear SQ;have k1:=m.two;have P:=f.two;obtain⟨g,h,n,o⟩:=b.two;obtain⟨i,j,p,q⟩:=c.two;cases an;case' false=>
  have x:dmQ false (nat a) (nat bx)=nat a/nat bx:=rfl;have z:dmR false (nat a) (nat bx)=nat a%nat bx:=rfl;rw[x]at B;rw[z]at H;have F:=xgw (F.out.mono (y:=((nat a/nat bx:Nat):Int)) (by simp only[Int.natAbs_natCast];omega));clear x z;obtain⟨Q,M⟩:∃Q:Nat,nat a/nat bx=Q:=⟨_,rfl⟩;obtain⟨R,N⟩:∃R:Nat,nat a%nat bx=R:=⟨_,rfl⟩;rw[M]at s B F;rw[N]at t H;clear M N;obtain⟨WX,Z⟩:∃W,W=W5:=⟨_,rfl⟩;subst Z
 case' true=>
  have hm:=yE (nat a) f6;go_wp2_with fail
  refine(zDA _ _ _ t).mono ?_;rintro a3 w6 ⟨rfl,D⟩;have b:=b.I D;have c:=c.I D;have e:=e.I D;have d:=d.I D;have m:=m.I D;have f:=f.I D;have J:=nx J D;have s:=s.ext (lx D);have t:=t.ext (lx D);have l6:qF w6 U bx:=l5.ext (lx D);clear D g h n o i j p q k1 P;have k1:=m.two;have P:=f.two;obtain⟨g,h,n,o⟩:=b.two;obtain⟨i,j,p,q⟩:=c.two;by_cases h0:0<nat a%nat bx;case' pos=>
   have hc:zAB ((nat a%nat bx:Nat):Int) 0=1:=by unfold zAB;rw[zA oM,zC oM]
   have x:dmQ true (nat a) (nat bx)=nat a/nat bx+1:=by unfold dmQ;rw[zC ⟨rfl,h0⟩]
   have z:dmR true (nat a) (nat bx)=nat bx-nat a%nat bx:=by unfold dmR;rw[zC ⟨rfl,h0⟩]
   rw[x]at B;rw[z]at H;rw[hc];clear x z hc;go_upto_region 6 with(fail)
   have r9:w4.heap.size+1<w6.heap.size:=c.lt;have n8:=b.lt;have i9:Hid (Sm ((nat a/nat bx:Nat):Int)):=F.out.mono (by simp only[Int.natAbs_natCast];omega);have SB:Hid (Sm (sgn false (nat bx))):=e6.out.sm.mono (by rw[jA,d9.out];exact xgf _);have SR:Hid (Sm ((nat a%nat bx:Nat):Int)):=SB.out.mono (by rw[jA,zQ];omega);have S1:Hid (Sm 1):=F.out.mono (by rw[zQ];exact Nat.succ_le_succ (zG _));have n3:V+1<=8*LIM:=by rw[zCp]at f8;rw[zAd];omega
   refine yD 3 [pcI 1 (1),pcD 2 [1] (fun w v=>yA w v (((nat a/nat bx+1:Nat):Int)))] ?_;refine sRd ?_;refine sRc (fun wS hI T l=>by go_simp;exact ck l (zC2 1 _ oM oM)) (fun s3 _=>?_);refine sRc (fun wS hI f4 T l=>by go_simp;exact ck l (zE6 _ _ ((nat a/nat bx:Nat):Int) 1 _ (s.ext hI.lext) f4 i9.out S1.out)) (fun s4 _=>?_);refine sRe ?_;intro w7 E f4 f5;have o0:=lx E;obtain⟨qn,qa,ql,qc,px,rfl,g3⟩:=id f5;have o9:=xgw g3;clear g3;have b:=b.I E;have c:=c.I E;have e:=e.I E;have d:=d.I E;have m:=m.I E;have f:=f.I E;clear g h n o i j p q k1 P;obtain⟨g,h,n,o⟩:=b.two;go_upto_region 7 with(fail)
   refine zE ?_;intro W8 K;have a4:=qW K (b.put2 _ _);have c:=qW K ((c.far oM _ _).far oM _ _);have e:=qW K ((e.far oM _ _).far oM _ _);have d:=qW K ((d.far oM _ _).far oM _ _);have m:=qW K ((m.far oM _ _).far oM _ _);have f:=qW K ((f.far oM _ _).far oM _ _);have b7:zBC w7 W8:=by rw[K.out];exact b.lext2 dE _ _
   have J:BWq w W8:=by rw[K.out];exact yM (yM (nx J E) oM 0 _) oM 1 _
   have t:=t.ext ((lx E).trans b7);have s:=f5.ext b7;have l7:qF W8 U bx:=l6.ext ((lx E).trans b7);have b:=a4;clear a4 K b7 E o0 g h n o;have P:=f.two;obtain⟨i,j,p,q⟩:=c.two;have n9:=c.lt;have p7:=f.lt;have o2:sgn false (nat bx)-((nat a%nat bx:Nat):Int)=((nat bx-nat a%nat bx:Nat):Int):=by rw[sgn_false];omega
   refine yD 5 [pcI 2 (sgn false (nat bx)),pcD 4 [2] (fun w v=>yA w v (((nat bx-nat a%nat bx:Nat):Int)))] ?_;refine sRd ?_;refine sRc (fun wS hI T l=>by go_simp;exact ck l (zBQ U (V+1) bc bx false _ b8.out c5 c6 n3 (l7.ext hI.lext))) (fun s7 _=>?_);refine sRd ?_;refine sRc (fun wS hI f7 T l=>?_) (fun s8 _=>?_)
   .go_simp
    refine(zIK _ _ (sgn false (nat bx)) ((nat a%nat bx:Nat):Int) _ f7 (t.ext hI.lext) SB.out SR.out).mono ?_;rintro a3 wa ⟨v,rfl,A,a7⟩;rw[o2]at A;exact⟨_,rfl,l _ _ A,a7⟩
   refine sRe ?_;intro w9 G f7 C;have o1:=lx G;obtain⟨rn,ra,rl,rc,ox,rfl,g2⟩:=id C;have o8:=xgw g2;clear g2;have b:=b.I G;have c:=c.I G;have e:=e.I G;have d:=d.I G;have m:=m.I G;have f:=f.I G;clear i j p q P;obtain⟨i,j,p,q⟩:=c.two;have k1:=m.two;have P:=f.two;go_upto_region 8 with(fail)
   refine zE ?_;intro WA L;have e7:=qW L (c.put2 _ _);have b:=qW L ((b.far oM _ _).far oM _ _);have e:=qW L ((e.far oM _ _).far oM _ _);have d:=qW L ((d.far oM _ _).far oM _ _);have m:=qW L ((m.far oM _ _).far oM _ _);have f:=qW L ((f.far oM _ _).far oM _ _);have d5:zBC w9 WA:=by rw[L.out];exact c.lext2 dE _ _
   have J:BWq w WA:=by rw[L.out];exact yM (yM (nx J G) oM 0 _) oM 1 _
   have t:=C.ext d5;have s:=s.ext ((lx G).trans d5);have c:=e7;clear e7 L d5 G o1 i j p q k1 P;have k1:=m.two;have P:=f.two;obtain⟨g,h,n,o⟩:=b.two;obtain⟨Q,M⟩:∃Q:Nat,nat a/nat bx+1=Q:=⟨_,rfl⟩;obtain⟨R,N⟩:∃R:Nat,nat bx-nat a%nat bx=R:=⟨_,rfl⟩;rw[M]at s B F;rw[N]at t H;clear M N;obtain⟨WX,Z⟩:∃W,W=WA:=⟨_,rfl⟩;subst Z
  case' neg=>
   have hc:zAB ((nat a%nat bx:Nat):Int) 0=0:=by unfold zAB;rw[zA oM,zA oM]
   have x:dmQ true (nat a) (nat bx)=nat a/nat bx:=by unfold dmQ;rw[zA (by simp;omega)]
   have z:dmR true (nat a) (nat bx)=nat a%nat bx:=by unfold dmR;rw[zA (by simp;omega)]
   rw[x]at B;rw[z]at H;rw[hc];have F:=xgw (F.out.mono (y:=((nat a/nat bx:Nat):Int)) (by simp only[Int.natAbs_natCast];omega));clear x z hc;obtain⟨Q,M⟩:∃Q:Nat,nat a/nat bx=Q:=⟨_,rfl⟩;obtain⟨R,N⟩:∃R:Nat,nat a%nat bx=R:=⟨_,rfl⟩;rw[M]at s B F;rw[N]at t H;clear M N;obtain⟨WX,Z⟩:∃W,W=w6:=⟨_,rfl⟩;subst Z
 all_goals
  cases bn;all_goals
   first
    |have a8:Hid (S/u=(Q:Int)):=B
     clear B;go_upto_region 10 with(fail)
     obtain⟨Wn,Z⟩:∃W,W=WX:=⟨_,rfl⟩;subst Z;obtain⟨a2,hF⟩:∃a2,(Q:Int)=a2:=⟨_,rfl⟩;rw[hF]at s a8;clear hF
    |have a8:Hid (S/u=-(Q:Int)):=B
     clear B;go_wp2_with fail
     refine(zE8 _ ((Q:Int)) _ s.J F.out).mono ?_;rintro a3 wn ⟨v,rfl,d8,a1⟩;obtain⟨qn,qa,ql,qc,s0,rfl,g1⟩:=id d8;have o7:=xgw g1;clear g1;have b:=b.I a1;have c:=c.I a1;have e:=e.I a1;have d:=d.I a1;obtain⟨g,h,n,o⟩:=b.two;go_upto_region 10 with(fail)
     refine zE ?_;intro Wn O;have a4:=qW O (b.put2 _ _);have c:=qW O ((c.far oM _ _).far oM _ _);have e:=qW O ((e.far oM _ _).far oM _ _);have d:=qW O ((d.far oM _ _).far oM _ _);have h5:zBC WX Wn:=by rw[O.out];exact(lx a1).trans (b.lext2 dE _ _)
     have J:BWq w Wn:=by rw[O.out];exact yM (yM (nx J a1) oM 0 _) oM 1 _
     have t:=t.ext h5;have s:yA Wn (.agg #[.bool qn,.slice qa ql qc]) (-(Q:Int)):=by rw[O.out];exact d8.ext (b.lext2 dE _ _)
     have b:=a4;clear a4 d8 O h5 a1;obtain⟨a2,hF⟩:∃a2,-(Q:Int)=a2:=⟨_,rfl⟩;rw[hF]at s a8;clear hF
   have i4:Hid (S%u=(R:Int)):=H;clear H;obtain⟨g,h,n,o⟩:=b.two;obtain⟨i,j,p,q⟩:=c.two;have n8:=b.lt;have n9:=c.lt;refine zJS [pcD 0 [] (fun _ v=>v= .agg #[.bool qn,.slice qa ql qc]),pcD 1 [] (fun _ v=>v= .agg #[.bool rn,.slice ra rl rc]),pbE 2 (w.heap.size+1+1) 51 2,pbE 3 (w.heap.size+1+1+1) 51 2] ?_;refine sRg (fun wS hI T l=>?_) (fun _ A=>?_)
   .have k5:=hI.cell g
    have k6:=hI.cell h;go_simp;exact⟨l _ _ rfl,zB _ _⟩
   obtain⟨_,-,rfl⟩:=A;refine sRg (fun wS hI T l=>?_) (fun _ A=>?_)
   .have k5:=hI.cell i
    have k6:=hI.cell j;go_simp;exact⟨l _ _ rfl,zB _ _⟩
   obtain⟨_,-,rfl⟩:=A;refine sRx (.agg #[.bool qn,.slice qa ql qc]) ?_;refine sRx (.agg #[.bool rn,.slice ra rl rc]) ?_;refine sRd ?_;refine sRb ?_;simp only[FA,FC,FN,ptr,List.nil_append,List.cons_append,Act.put,xgh,xgi,xgj];intro We a5 _ _ h6 h7;obtain⟨p2,p4,k7,k9⟩:∃xq yq,Blk We (w.heap.size+1+1) 51 #[xq,yq]/\yA We (.agg #[xq,yq]) (a2):=⟨_,_,h6 _ rfl,yA.ext s a5.lext⟩;obtain⟨p3,p5,k8,l0⟩:∃xq yq,Blk We (w.heap.size+1+1+1) 51 #[xq,yq]/\yA We (.agg #[xq,yq]) ((R:Int)):=⟨_,_,h7 _ rfl,yA.ext t a5.lext⟩;clear h6 h7;have p6:=a5.lext;have n0:=a5.bel (w.heap.size);have p8:∀k,k<Wn.heap.size->(∀o5∈ [((w.heap.size+1+1:Nat),0),((w.heap.size+1+1+1:Nat),0)],o5.1≠k)->We.heap[k]?=Wn.heap[k]?:=fun k hk hn=>a5.old k oM (by simp only[xgm]at hn;repeat' (first|exact trivial|omega|refine⟨?_,?_⟩))
   go_wp2_with fail
   refine bodyPost_ret (zEl rfl _ rfl rfl k7 k8 rfl rfl) rfl ⟨_,_,rfl,?_,?_,J.trans n0⟩;rw[a8.out];exact k9;rw[i4.out];exact l0
theorem zUC(a b:Int):Int.gcd b (a%b)=Int.gcd a b:=by
 have f:∀d:Nat,((d:Int)∣b/\(d:Int)∣a%b)↔((d:Int)∣a/\(d:Int)∣b):=by
  intro d;constructor
  .rintro⟨c,e⟩
   refine⟨?_,c⟩;have:=Int.emod_add_mul_ediv a b;rw[<-this];exact Int.dvd_add e (zB5 c (Int.dvd_mul_right _ _))
  rintro⟨c,e⟩;refine⟨e,?_⟩;have:=Int.emod_def a b;rw[this];exact Int.dvd_sub c (zB5 e (Int.dvd_mul_right _ _))
 apply Nat.dvd_antisymm
 .have h:=(f (Int.gcd b (a%b))).1 ⟨zBN ..,zAH ..⟩
  exact Int.dvd_gcd h.1 h.2
 have h:=(f (Int.gcd a b)).2 ⟨zBN ..,zAH ..⟩;exact Int.dvd_gcd h.1 h.2
theorem zK3(v1 v2:Value)(s t:Int)(w:World)(n:yA w v1 s)(x:yA w v2 t)(s1:Smd s)(s2:Smd t):
  CPq 124 #[v1,v2] w (zBk w ((Int.gcd s t:Nat):Int)):=by
 obtain⟨e0,c0,n1,c3,xs,rfl,i1⟩:=id n;obtain⟨e7,c2,n2,c4,ys,rfl,i2⟩:=id x;have a4:=xgw s1;have a5:=xgw s2;clear s1 s2 i1 i2;go_enter Tryz.func124,Tryz.ntmps124;go_upto_block 0 with(fail)
 refine zE ?_;intro W0 b2;obtain⟨H,a6,a7,br,d8⟩:=zBB b2;have n:=n.ext (lx H);have x:=x.ext (lx H);obtain⟨b0,V⟩:=zJp;go_wp2;go_loopw [] (fun wr=>∃(a b:Int) (J L K M:Value),BWq w wr/\Blk wr w.heap.size 51 #[J,L]/\yA wr (.agg #[J,L]) a/\Blk wr (w.heap.size+1) 51 #[K,M]/\yA wr (.agg #[K,M]) b∧
  Blk wr (w.heap.size+1+1) 51 #[.bool false,.slice none 0 0]/\Hid (Int.gcd a b=Int.gcd s t)/\Smd a/\Smd b) (fun wr=>(b0 wr (w.heap.size+1)).natAbs)
 case atStart=>exact⟨s,t,_,_,_,_,H,a6,n,a7,x,br,xgw rfl,a4.out,a5.out⟩
 obtain⟨a,b,J,L,K,M,m,p,D,g,f,c,W,sa,sb⟩:=hrel;have N:=xgw sa;have E:=xgw sb;clear sa sb;have b5:=V _ _ _ _ _ g f;obtain⟨an,aa,P,ac,ax,y,T⟩:=id D;injection y with y
 simp only[Array.mk.injEq,List.cons.injEq,and_true]at y;obtain⟨rfl,rfl⟩:=y;have HA:=xgw T;clear T;obtain⟨bn,ba,bl,bc,bx,z,U⟩:=id f;injection z with z
 simp only[Array.mk.injEq,List.cons.injEq,and_true]at z;obtain⟨rfl,rfl⟩:=z;have HB:=xgw U;clear U;have u:=g.two;go_wp2_with fail
 refine(zDA _ _ wr f).mono ?_;rintro e w3 ⟨rfl,h⟩;have p:=p.I h;have g:=g.I h;have c:=c.I h;clear u;have c1:=p.two;have u:=g.two;have m:=nx m h;have D:=D.ext (lx h);have f:=f.ext (lx h);by_cases j:b=0
 .have A:zAB b 0=0:=by unfold zAB;rw[zA oM,zA oM]
  rw[A];have d2:=HB;obtain⟨F,e2,e3,e4,e5,G,-⟩:=HA.out;have b3:P<=8*LIM:=by
   have:=(G ▸ N.out).len e5;rw[F,zCp]at this;rw[zAd];omega
  have a2:=xgw F;have a3:=xgw G;clear F G;go_wp2_with fail
  refine(zBQ aa P ac ax false w3 a2.out e2 e3 b3 (e4.ext (lx h))).mono ?_;rintro e w4 ⟨v,rfl,C,d⟩;obtain⟨vn,va,vl,vc,vx,rfl,Z⟩:=id C;have HV:=xgw Z;clear Z;have c:=c.I d;have g1:=c.two;go_wp2_with fail
  refine yS rfl rfl rfl (c.put2 _ _) ?_ (yM (yM (nx m d) oM 0 _) oM 1 _);rw[<-W.out,j,Int.gcd_zero,a3.out,jA,<-sgn_false];exact C.ext (c.lext2 dE _ _)
 have A:zAB b 0≠0:=by unfold zAB;split<;>(try split)<;>omega
 obtain⟨k,I⟩:∃k,zAB b 0=k:=⟨_,rfl⟩;rw[I]at A ⊢
 have d5:=c.lt;go_wp2_with fail
 refine(zE7 _ _ a b w3 D f N.out E.out j).mono ?_;rintro e w4 ⟨q0,r0,rfl,hq,B,d⟩;obtain⟨qn,qa,ql,qc,qx,rfl,X⟩:=id hq;obtain⟨rn,ra,rl,rc,rx,rfl,Y⟩:=id B;have b8:=xgw X;have b9:=xgw Y;clear X Y I A;go_upto_region 3 with(fail)
 refine zE ?_;intro W5 S;obtain⟨l,T5,O,d9⟩:=jW S;have p:=(p.I d).I l;have g:=(g.I d).I l;have c:=(c.I d).I l;have m:=nx (nx m d) l;have f:=(f.ext (lx d)).ext (lx l);have B:=B.ext (lx l);clear c1 u;have u:=g.two;obtain⟨f1,f2,f3,f4⟩:=O.two;have d6:=O.lt;have d3:=c.lt;have d4:w.heap.size+1+1<w4.heap.size:=by have n:=d.size;omega
 clear S;refine zJS [pcD 1 [] (fun _ v=>v= .agg #[.bool rn,.slice ra rl rc]),pbE 2 (w.heap.size) 51 2,pbE 3 (w.heap.size+1) 51 2] ?_;refine sRd ?_;refine sRg (fun wS hI Gk hG=>?_) (fun _ C=>?_)
 .have c5:=hI.cell f1
  have c6:=hI.cell f2;go_simp;exact⟨hG _ _ rfl,zB _ _⟩
 obtain⟨_,-,rfl⟩:=C;refine sRx (.agg #[.bool bn,.slice ba bl bc]) ?_;refine sRx (.agg #[.bool rn,.slice ra rl rc]) ?_;refine sRb ?_;simp only[FA,FC,FN,ptr,List.nil_append,List.cons_append,Act.put,xgh,xgi,xgj];intro i o _ a0 a1;obtain⟨c7,c9,a8,a9⟩:∃q r,Blk i (w.heap.size) 51 #[q,r]/\yA i (.agg #[q,r]) (b):=⟨_,_,a0 _ rfl,yA.ext f o.lext⟩;obtain⟨c8,d0,Q,R⟩:∃q r,Blk i (w.heap.size+1) 51 #[q,r]/\yA i (.agg #[q,r]) ((a%b)):=⟨_,_,a1 _ rfl,yA.ext B o.lext⟩;clear a0 a1;have d7:=o.lext;have b4:=o.bel (w.heap.size);have b6:∀k,k<W5.heap.size->(∀b7∈ [((w.heap.size:Nat),0),((w.heap.size+1:Nat),0)],b7.1≠k)->i.heap[k]?=W5.heap[k]?:=fun k I hn=>o.old k oM (by simp only[xgm]at hn;repeat' (first|exact trivial|omega|refine⟨?_,?_⟩))
 have c:Blk i (w.heap.size+1+1) 51 #[.bool false,.slice none 0 0]:=
  (b6 _ oM aU).trans c
 go_wp2;go_roundw
 case rel=>
  refine⟨b,a%b,_,_,_,_,m.trans b4,a8,a9,Q,R,c,?_,E.out,E.out.mono ?_⟩
  .refine xgw ?_
   rw[zUC,W.out]
  have h5:=zAr a j;have h6:=Int.emod_lt a j;omega
 rw[V _ _ _ _ _ Q R,b5];have h5:=zAr a j;have h6:=Int.emod_lt a j;omega
def zCa(w:World)(b:Nat)(z:Int):Prop:=∃n a l c,Blk w b 51 #[.bool n,.slice a l c]/\yA w (.agg #[.bool n,.slice a l c]) z
theorem zCa.mk{y:Value}(h:Blk w b 51 #[x,y])(hv:yA w (.agg #[x,y]) z):zCa w b z:=by
 obtain⟨n,a,l,c,xs,e,d⟩:=id hv;injection e with e
 simp only[Array.mk.injEq,List.cons.injEq,and_true]at e;obtain⟨rfl,rfl⟩:=e;exact⟨_,_,_,_,h,hv⟩
theorem zCa.old(h:zCa w b z)(e:w'.heap[b]?=w.heap[b]?)(x:zBC w w'):zCa w' b z:=by
 obtain⟨n,a,l,c,d,f⟩:=h;exact⟨n,a,l,c,e.trans d,f.ext x⟩
theorem zCa.lt(h:zCa w b z):b<w.heap.size:=by
 obtain⟨n,a,l,c,d,e⟩:=h;exact d.lt
theorem zCa.I(h:zCa w b z)(a:BWq w w'):zCa w' b z:=h.old (a.block _ h.lt) (lx a)
theorem zCa.far(h:zCa w b z)(a:b≠r){t:TypeId}{cs:Array Value}(c:Blk w r t cs)(d:t≠tU)(x y:Value):zCa ((w.setCell ⟨r,0,none⟩ x).setCell ⟨r,1,none⟩ y) b z:=
 h.old ((qH _ ⟨r,1,none⟩ _ b a).trans (qH _ ⟨r,0,none⟩ _ b a)) (c.lext2 d x y)
theorem zCa.put{b c:Value}(a:Blk w r 51 #[b,c]){y:Value}(hv:yA w (.agg #[x,y]) z):zCa ((w.setCell ⟨r,0,none⟩ x).setCell ⟨r,1,none⟩ y) r z:=
 zCa.mk (a.put2 _ _) (hv.ext (a.lext2 dE _ _))
structure zNn(w wr:World)(a b:Int):Prop where
 a:zCa wr w.heap.size a
 b:zCa wr (w.heap.size+1) b
 r1:Blk wr (w.heap.size+1+1) 51 #[.bool false,.slice none 0 0]
 r2:Blk wr (w.heap.size+1+1+1) 51 #[.bool false,.slice none 0 0]
 r3:Blk wr (w.heap.size+1+1+1+1) 51 #[.bool false,.slice none 0 0]
theorem zNn.old{wr:World}{b:Int}(h:zNn w wr a b)(e:∀k,k<=w.heap.size+1+1+1+1->w'.heap[k]?=wr.heap[k]?)(x:zBC wr w'):zNn w w' a b:=
 ⟨h.a.old (e _ oM) x,h.b.old (e _ oM) x,(e _ oM).trans h.r1,(e _ oM).trans h.r2,(e _ oM).trans h.r3⟩
theorem zNn.I{wr:World}{b:Int}(h:zNn w wr a b)(c:BWq wr w'):zNn w w' a b:=
 h.old (fun k d=>c.block k (by have:=h.r3.lt;omega)) (lx c)
structure zTc(a b:Int)(x y:Nat)(σ:Bool)(p p' r r':Nat):Prop where
 hg:Nat.gcd x y=Int.gcd a b
 hx:(x:Int)=sgn σ p*(a.natAbs:Int)+sgn (!σ) r*(b.natAbs:Int)
 hy:(y:Int)=sgn (!σ) p'*(a.natAbs:Int)+sgn σ r'*(b.natAbs:Int)
 hb:p'*x+p*y=b.natAbs
 ha:r'*x+r*y=a.natAbs
 pb:p<=max 1 b.natAbs
 pb':p'<=max 1 b.natAbs
 rb:r<=max 1 a.natAbs
 rb':r'<=max 1 a.natAbs
 yb:y<=b.natAbs
 xb:x<=max a.natAbs b.natAbs
theorem zTc.start(a b:Int):zTc a b a.natAbs b.natAbs false 1 0 0 1:=
 ⟨rfl,by simp,by simp,by simp,by simp,oM,oM,oM,oM,xgf _,oM⟩
theorem zFT(σ:Bool)(p q a:Nat):sgn σ p-(q:Int)*sgn (!σ) a=sgn σ (p+q*a):=by
 have e:((q*a:Nat):Int)=(q:Int)*(a:Int):=yP _ _;cases σ
 .show(p:Int)-(q:Int)*(-(a:Int))=((p+q*a:Nat):Int)
  rw[zAa,e,zB9];omega
 show-(p:Int)-(q:Int)*((a:Nat):Int)=-((p+q*a:Nat):Int);rw[zAa,e];omega
theorem zTc.step{b:Int}{x y:Nat}{σ:Bool}{p d c:Nat}(h:zTc a b x y σ p d r c)(e:0<y):
  zTc a b y (x%y) (!σ) d (p+x/y*d) c (r+x/y*c):=by
 have hd:=jP x y;have l:=yE x e;have f:(p+x/y*d)*y+d*(x%y)=b.natAbs:=by
  rw[<-h.hb];have:d*x=d*(y*(x/y))+d*(x%y):=by rw[<-jT,hd]
  rw[this,zS,zP (x/y) d,zN,zP (x/y) y];omega
 have g:(r+x/y*c)*y+c*(x%y)=a.natAbs:=by
  rw[<-h.ha];have:c*x=c*(y*(x/y))+c*(x%y):=by rw[<-jT,hd]
  rw[this,zS,zP (x/y) c,zN,zP (x/y) y];omega
 have j:p+x/y*d<=b.natAbs:=by
  have:=qJ (p+x/y*d) e;omega
 have k:r+x/y*c<=a.natAbs:=by
  have:=qJ (r+x/y*c) e;omega
 refine⟨?_,by rw[zBm];exact h.hy,?_,f,g,h.pb',oM,h.rb',oM,?_,by have:=h.yb;omega⟩;rw[<-h.hg,Nat.gcd_comm x y,Nat.gcd_rec y x,Nat.gcd_comm]
 .rw[zBm]
  have i:((x%y:Nat):Int)=(x:Int)-((x/y:Nat):Int)*(y:Int):=by
   have:((y*(x/y)+x%y:Nat):Int)=(x:Int):=by rw[hd]
   rw[zAa,yP,yN]at this;omega
  rw[i,h.hx,h.hy,<-zFT,<-zFT (!σ) r (x/y) c,zBm];simp only[Int.sub_mul,Int.mul_add,Int.mul_assoc];omega
 have:=h.yb;omega
def zVC(w:World)(a b:Int)(e:Ending)(w':World):Prop:=
 ∃v1 v2 v3 s t,e= .returned (.tuple #[v1,v2,v3])/\yA w' v1 ((Int.gcd a b:Nat):Int)/\yA w' v2 s/\yA w' v3 t/\s*a+t*b=((Int.gcd a b:Nat):Int)∧
  s.natAbs<=max 1 b.natAbs/\t.natAbs<=max 1 a.natAbs/\BWq w w'
theorem zT9(v1 v2:Value)(a b:Int)(w:World)(h1:yA w v1 a)(h2:yA w v2 b)(P:Smd a)(s2:Smd b):
  CPq 167 #[v1,v2] w (zVC w a b):=by
 obtain⟨C1,v9,n1,x0,xs,rfl,i1⟩:=id h1;obtain⟨C2,w0,n2,x1,ys,rfl,i2⟩:=id h2;have b6:=xgw P;have a5:=xgw s2;clear P s2 i1 i2;go_enter Tryz.func167,Tryz.ntmps167;go_upto_region 1 with(fail)
 refine zE ?_;intro W0 g9;obtain⟨e9,e7,e8,g4,g5,g6,c8⟩:=zV2 g9;have h1:=h1.ext (lx e9);have h2:=h2.ext (lx e9);have c:zNn w W0 a b:=⟨zCa.mk e7 h1,zCa.mk e8 h2,g4,g5,g6⟩;obtain⟨n,o,p,q⟩:=e7.two;obtain⟨M,N,Q,R⟩:=e8.two;have SA:=b6.out.sm;have SB:=a5.out.sm;refine zBK [pcI 1 (((a.natAbs:Nat):Int)),pcI 3 (((b.natAbs:Nat):Int)),pbA 4 51 2,pbA 5 51 2,pbS 6 4 51 2,pbS 7 5 51 2] ?_;refine sRd ?_;refine sRc (fun wS hI T j=>?_) (fun C6 f=>?_)
 .go_simp
  exact ck j (zPA _ a _ (h1.ext hI.lext).J SA)
 obtain⟨m5,m7,rfl,t3⟩:=zNr f;clear f;refine sRd ?_;refine sRc (fun wS hI T j=>?_) (fun C7 f=>?_)
 .go_simp
  exact ck j (zPA _ b _ (h2.ext hI.lext).J SB)
 obtain⟨m6,m8,rfl,t4⟩:=zNr f;clear f;refine sRa (cs:=#[.bool false,.slice none 0 0]) fun a2 p7=>?_
 refine sRa (cs:=#[.bool false,.slice none 0 0]) fun V p8=>?_
 refine sRs a2 (.agg #[m5,m7]) ?_ t3;refine sRs V (.agg #[m6,m8]) ?_ t4;refine sRb ?_;simp only[FA,FC,FN,ptr,List.nil_append,List.cons_append,Act.put,xgh,xgi,xgj];intro W1 f0 h9 i0 e4 e5 m0 s9;replace e4:Blk W1 a2 51 #[m5,m7]:=e4 _ rfl;have k4:=h9;replace e5:Blk W1 V 51 #[m6,m8]:=e5 _ rfl;have k5:=i0;have C0:a2≠V:=m0 (5,V) sI;clear m0 s9;have c:=c.I f0;have g:=nx e9 f0;have A:=zCa.mk e4 k4;have C:=zCa.mk e5 k5;have l7:=A.lt;have l8:=C.lt;clear n o p q M N Q R SA SB h1 h2 e7 e8 g4 g5 g6 h9 i0 e4 k4 e5 k5 g9;go_wp2_with fail
 refine(zDt 1 W1 oM oM).mono ?_;rintro a1 w2 ⟨v,rfl,f,D⟩;obtain⟨an,aa,al,ac,ax,rfl,ha⟩:=id f;have HA:=xgw ha;clear ha;go_wp2_with fail
 refine(zDt 0 w2 oM oM).mono ?_;rintro a1 G ⟨t7,rfl,hu,u⟩;obtain⟨bn,ba,bl,bc,bx,rfl,d⟩:=id hu;have HB:=xgw d;clear d;go_upto_region 3 with(fail)
 refine zE ?_;intro W4 h3;obtain⟨a6,T9,f9,f5⟩:=jW h3;have c:=((c.I D).I u).I a6;have g:=nx (nx (nx g D) u) a6;have A:=((A.I D).I u).I a6;have C:=((C.I D).I u).I a6;have h:=zCa.mk T9 (f.ext ((lx u).trans (lx a6)));have B:=zCa.mk f9 (hu.ext (lx a6));have r7:=D.size;have r8:=u.size;have r9:=f0.size;clear f hu D u a6 T9 f9 h3;go_wp2_with fail
 refine(zDt 0 W4 oM oM).mono ?_;rintro a1 w5 ⟨v,rfl,f,D⟩;obtain⟨cn,ca,cl,cc,cx,rfl,ha⟩:=id f;have v5:=xgw ha;clear ha;go_wp2_with fail
 refine(zDt 1 w5 oM oM).mono ?_;rintro a1 L ⟨t7,rfl,hu,u⟩;obtain⟨dn,da,dl,dc,dx,rfl,d⟩:=id hu;have v6:=xgw d;clear d;go_upto_block 0 with(fail)
 refine zE ?_;intro W7 h7;obtain⟨a3,g2,g3,B3⟩:=jW h7;have c:=((c.I D).I u).I a3;have g:=nx (nx (nx g D) u) a3;have A:=((A.I D).I u).I a3;have C:=((C.I D).I u).I a3;have h:=((h.I D).I u).I a3;have B:=((B.I D).I u).I a3;have i:=zCa.mk g2 (f.ext ((lx u).trans (lx a3)));have H:=zCa.mk g3 (hu.ext (lx a3));have s3:=D.size;have s4:=u.size;clear f hu D u a3 g2 g3 h7;obtain⟨p6,hf⟩:=zJp;have s8:=C.lt;have s7:=A.lt;have q7:w.heap.size+1+1+1+1<a2:=oM;have q8:w.heap.size+1+1+1+1<V:=oM;have C4:a2<G.heap.size:=oM;have C5:V<G.heap.size:=oM;have C3:G.heap.size+1<L.heap.size:=oM;clear s7 s8 l7 l8 c8 f5 s3 s4 r7 r8 r9 p7 p8;go_wp2;go_loopw [] (fun wr=>∃(x y:Nat) (e:Bool) (a0 O r F:Nat),zTc a b x y e a0 O r F/\BWq w wr/\zNn w wr a b/\zCa wr a2 x/\zCa wr V y/\zCa wr G.heap.size (sgn e a0)/\zCa wr (G.heap.size+1) (sgn (!e) O)∧
  zCa wr L.heap.size (sgn (!e) r)/\zCa wr (L.heap.size+1) (sgn e F)) (fun wr=>(p6 wr V).natAbs)
 case atStart=>exact⟨_,_,_,_,_,_,_,zTc.start a b,g,c,A,C,h,B,i,H⟩
 obtain⟨x,y,e,a0,O,r,F,hN,g,c,A,C,h,B,i,H⟩:=hrel;have U:=xgw hN;clear hN;have l9:=H.lt;obtain⟨yn,ya,yl,yc,Y,X⟩:=C;have i9:=hf _ _ _ _ _ Y X;obtain⟨M,N,Q,R⟩:=Y.two;go_wp2_with fail
 refine(zAn _ _ wr X.J).mono ?_;rintro a1 wa ⟨rfl,W⟩;have Y:=Y.I W;have X:=X.ext (lx W);have c:=c.I W;have g:=nx g W;have A:=A.I W;have h:=h.I W;have B:=B.I W;have i:=i.I W;have H:=H.I W;have k2:=W.size;clear M N Q R W;obtain⟨M,N,Q,R⟩:=Y.two;obtain⟨xn,xa,xl,xc,t,z⟩:=A;obtain⟨n,o,p,q⟩:=t.two;by_cases h0:y=0
 .have s:zAB (y:Int) 0=0:=by subst h0;rfl
  rw[s];have j:(x:Int)=((Int.gcd a b:Nat):Int):=by
   have:=U.out.hg;rw[h0,Nat.gcd_zero_right]at this;rw[this]
  have HG:=xgw j;clear j i9 l9;go_wp2_with fail
  refine(zAn _ _ wa z.J).mono ?_;rintro a1 wb ⟨rfl,d⟩;have t:=t.I d;have z:=z.ext (lx d);have c:=c.I d;have g:=nx g d;have h:=h.I d;have i:=i.I d;clear n o p q M N Q R d B H Y X s k2;by_cases f7:x=0
  .have s:zAB (x:Int) 0=0:=by subst f7;rfl
   rw[s];have e1:=c.r1.two;obtain⟨f1,f2,f3,f4⟩:=c.r2.two;have g1:=c.r3.two;go_wp2_with fail
   refine bodyPost_ret (zIS rfl _ rfl rfl rfl ((((c.r1.put2 _ _).far oM _ _).far oM _ _).far oM _ _|>.far oM _ _) ((((c.r2.far oM _ _).far oM _ _).put2 _ _).far oM _ _|>.far oM _ _) ((((c.r3.far oM _ _).far oM _ _).far oM _ _).far oM _ _|>.put2 _ _) rfl rfl rfl) rfl ?_;refine⟨_,_,_,0,0,rfl,?_,zCe _,zCe _,?_,oM,oM,yM (yM (yM (yM (yM (yM g oM 0 _) oM 1 _) oM 0 _) oM 1 _) oM 0 _) oM 1 _⟩;rw[<-HG.out,f7];exact zCe _;rw[<-HG.out,f7];simp
  have s:zAB (x:Int) 0=1:=by unfold zAB;rw[zA oM,zC oM]
  rw[s];obtain⟨an,aa,al,ac,ka,ia⟩:=c.a;obtain⟨n,o,p,q⟩:=ka.two;go_wp2_with fail
  refine(zAn _ _ wb ia.J).mono ?_;rintro a1 wc ⟨rfl,d⟩;have t:=t.I d;have z:=z.ext (lx d);have c:=c.I d;have g:=nx g d;have h:=h.I d;have i:=i.I d;clear n o p q d ka ia s;have E:sgn e a0*(a.natAbs:Int)+sgn (!e) r*(b.natAbs:Int)=((Int.gcd a b:Nat):Int):=by rw[<-HG.out,U.out.hx]
  have pb:=U.out.pb;have rb:=U.out.rb;have SP:qS (Sm (sgn e a0)):=⟨a5.out.sm1 (by rw[jA];omega)⟩;have SR:qS (Sm (sgn (!e) r)):=⟨b6.out.sm1 (by rw[jA];omega)⟩;obtain⟨s0,c8⟩:∃s0,sgn e a0=s0:=⟨_,rfl⟩;obtain⟨K,f6⟩:∃K,sgn (!e) r=K:=⟨_,rfl⟩;have d7:s0.natAbs<=max 1 b.natAbs:=by rw[<-c8,jA];exact pb
  have d8:K.natAbs<=max 1 a.natAbs:=by rw[<-f6,jA];exact rb
  rw[c8]at h E SP;rw[f6]at i E SR;clear c8 f6 pb rb;by_cases h8:a<0;case' pos=>
   have s:zAB a 0=-1:=by unfold zAB;rw[zC h8]
   have E:-s0*a+K*(b.natAbs:Int)=((Int.gcd a b:Nat):Int):=by
    rw[<-E];have:(a.natAbs:Int)=-a:=oM;rw[this,Int.neg_mul_comm s0 a]
   rw[s];obtain⟨sn,sa,sl,sc,J,is⟩:=h;obtain⟨n,o,p,q⟩:=J.two;go_wp2_with fail
   refine(zCN _ s0 wc is.J SP.out).mono ?_;rintro a1 wd ⟨v,rfl,f,d⟩;obtain⟨vn,va,vl,vc,vx,rfl,d5⟩:=id f;have HV:=xgw d5;clear d5 n o p q;have J:=J.I d;have t:=t.I d;have z:=z.ext (lx d);have c:=c.I d;have g:=nx g d;have i:=i.I d;obtain⟨n,o,p,q⟩:=J.two;go_upto_region 13 with(fail)
   refine zE ?_;intro We a7;have h:zCa We G.heap.size (-s0):=by rw[a7.out];exact zCa.put J f
   have i:zCa We L.heap.size K:=by rw[a7.out];exact i.far oM J dE _ _
   have d6:=qW a7 ((t.far oM _ _).far oM _ _);have b4:zBC wd We:=by rw[a7.out];exact J.lext2 dE _ _
   have z:=z.ext b4;have c:zNn w We a b:=c.old (fun k e2=>by rw[a7.out];exact(qH _ ⟨_,1,none⟩ _ k (by show k≠G.heap.size;omega)).trans (qH _ ⟨_,0,none⟩ _ k (by show k≠G.heap.size;omega))) b4;have t:=d6;have g:BWq w We:=by rw[a7.out];exact yM (yM g oM 0 _) oM 1 _
   clear n o p q a7 d J d6 b4 s is f;have d7:(-s0).natAbs<=max 1 b.natAbs:=by rw[qO];exact d7
   obtain⟨P,c9⟩:∃P,-s0=P:=⟨_,rfl⟩;rw[c9]at h E d7;clear c9
  case' neg=>
   have s:¬ zAB a 0<0:=by unfold zAB;rw[zA h8];split<;>omega
   obtain⟨k,c7⟩:∃k,zAB a 0=k:=⟨_,rfl⟩;rw[c7]at s ⊢
   have E:s0*a+K*(b.natAbs:Int)=((Int.gcd a b:Nat):Int):=by
    rw[<-E];have:(a.natAbs:Int)=a:=oM;rw[this]
   clear c7;go_upto_region 13 with(fail)
   obtain⟨P,c9⟩:∃P,s0=P:=⟨_,rfl⟩;rw[c9]at h E d7;clear c9;obtain⟨We,hE⟩:∃e6,e6=wc:=⟨_,rfl⟩;subst hE
  all_goals
   obtain⟨w9,w1,w8,w7,kb,ib⟩:=c.b;obtain⟨n,o,p,q⟩:=kb.two;go_wp2_with fail
   refine(zAn _ _ We ib.J).mono ?_;rintro a1 wf ⟨rfl,d⟩;have t:=t.I d;have z:=z.ext (lx d);have c:=c.I d;have g:=nx g d;have h:=h.I d;have i:=i.I d;clear n o p q d kb ib;by_cases i3:b<0;case' pos=>
    have s:zAB b 0=-1:=by unfold zAB;rw[zC i3]
    have E:P*a+-K*b=((Int.gcd a b:Nat):Int):=by
     rw[<-E];have:(b.natAbs:Int)=-b:=oM;rw[this,Int.neg_mul_comm K b]
    rw[s];obtain⟨tn,ta,tl,tc,Z,it⟩:=i;obtain⟨n,o,p,q⟩:=Z.two;go_wp2_with fail
    refine(zCN _ K wf it.J SR.out).mono ?_;rintro a1 wg ⟨v,rfl,f,d⟩;obtain⟨un,ua,ul,uc,ux,rfl,d5⟩:=id f;have HU:=xgw d5;clear d5 n o p q;have Z:=Z.I d;have t:=t.I d;have z:=z.ext (lx d);have c:=c.I d;have g:=nx g d;have h:=h.I d;obtain⟨n,o,p,q⟩:=Z.two;go_upto_region 15 with(fail)
    refine zE ?_;intro Wh a8;have i:zCa Wh L.heap.size (-K):=by rw[a8.out];exact zCa.put Z f
    have h:zCa Wh G.heap.size P:=by rw[a8.out];exact h.far oM Z dE _ _
    have d6:=qW a8 ((t.far oM _ _).far oM _ _);have b4:zBC wg Wh:=by rw[a8.out];exact Z.lext2 dE _ _
    have z:=z.ext b4;have c:zNn w Wh a b:=c.old (fun k e2=>by rw[a8.out];exact(qH _ ⟨_,1,none⟩ _ k (by show k≠L.heap.size;omega)).trans (qH _ ⟨_,0,none⟩ _ k (by show k≠L.heap.size;omega))) b4;have t:=d6;have g:BWq w Wh:=by rw[a8.out];exact yM (yM g oM 0 _) oM 1 _
    have d8:(-K).natAbs<=max 1 a.natAbs:=by rw[qO];exact d8
    clear n o p q a8 d Z d6 b4 s it f;obtain⟨t1,d0⟩:∃t1,-K=t1:=⟨_,rfl⟩;rw[d0]at i E d8;clear d0
   case' neg=>
    have s:¬ zAB b 0<0:=by unfold zAB;rw[zA i3];split<;>omega
    obtain⟨k,c7⟩:∃k,zAB b 0=k:=⟨_,rfl⟩;rw[c7]at s ⊢
    have E:P*a+K*b=((Int.gcd a b:Nat):Int):=by
     rw[<-E];have:(b.natAbs:Int)=b:=oM;rw[this]
    clear c7;go_upto_region 15 with(fail)
    obtain⟨t1,d0⟩:∃t1,K=t1:=⟨_,rfl⟩;rw[d0]at i E d8;clear d0;obtain⟨Wh,hE⟩:∃e6,e6=wf:=⟨_,rfl⟩;subst hE
   all_goals
    obtain⟨sn,sa,sl,sc,J,is⟩:=h;obtain⟨tn,ta,tl,tc,Z,it⟩:=i;obtain⟨n,o,p,q⟩:=t.two;obtain⟨M,N,Q,R⟩:=J.two;obtain⟨f1,f2,f3,f4⟩:=Z.two;have B9:=Z.lt;have B5:=c.r1;have B6:=c.r2;have B7:=c.r3;refine zJS [pcD 0 [] (fun _ v=>v= .agg #[.bool xn,.slice xa xl xc]),pcD 1 [] (fun _ v=>v= .agg #[.bool sn,.slice sa sl sc]),pcD 2 [] (fun _ v=>v= .agg #[.bool tn,.slice ta tl tc]),pbE 3 (w.heap.size+1+1) 51 2,pbE 4 (w.heap.size+1+1+1) 51 2,pbE 5 (w.heap.size+1+1+1+1) 51 2] ?_;refine sRg (fun wS hI T j=>?_) (fun _ f=>?_)
    .have c0:=hI.cell n
     have c5:=hI.cell o;go_simp;exact⟨j _ _ rfl,zB _ _⟩
    obtain⟨_,-,rfl⟩:=f;refine sRg (fun wS hI T j=>?_) (fun _ f=>?_)
    .have c0:=hI.cell M
     have c5:=hI.cell N;go_simp;exact⟨j _ _ rfl,zB _ _⟩
    obtain⟨_,-,rfl⟩:=f;refine sRg (fun wS hI T j=>?_) (fun _ f=>?_)
    .have c0:=hI.cell f1
     have c5:=hI.cell f2;go_simp;exact⟨j _ _ rfl,zB _ _⟩
    obtain⟨_,-,rfl⟩:=f;refine sRx (.agg #[.bool xn,.slice xa xl xc]) ?_;refine sRx (.agg #[.bool sn,.slice sa sl sc]) ?_;refine sRx (.agg #[.bool tn,.slice ta tl tc]) ?_;refine sRb ?_;simp only[FA,FC,FN,ptr,List.nil_append,List.cons_append,Act.put,xgh,xgi,xgj];intro Wz b7 _ _ _ l4 l5 l6;obtain⟨x8,A7,o5,p2⟩:∃l m,Blk Wz (w.heap.size+1+1) 51 #[l,m]/\yA Wz (.agg #[l,m]) ((x:Int)):=⟨_,_,l4 _ rfl,yA.ext z b7.lext⟩;obtain⟨x9,A8,o6,p3⟩:∃l m,Blk Wz (w.heap.size+1+1+1) 51 #[l,m]/\yA Wz (.agg #[l,m]) (P):=⟨_,_,l5 _ rfl,yA.ext is b7.lext⟩;obtain⟨A0,A9,o7,p4⟩:∃l m,Blk Wz (w.heap.size+1+1+1+1) 51 #[l,m]/\yA Wz (.agg #[l,m]) (t1):=⟨_,_,l6 _ rfl,yA.ext it b7.lext⟩;clear l4 l5 l6;have B0:=b7.lext;have r5:=b7.bel (w.heap.size);have B1:∀k,k<Wh.heap.size->(∀b5∈ [((w.heap.size+1+1:Nat),0),((w.heap.size+1+1+1:Nat),0),((w.heap.size+1+1+1+1:Nat),0)],b5.1≠k)->Wz.heap[k]?=Wh.heap[k]?:=fun k c hn=>b7.old k oM (by simp only[xgm]at hn;repeat' (first|exact trivial|omega|refine⟨?_,?_⟩))
    go_wp2_with fail
    refine bodyPost_ret (zIS rfl _ rfl rfl rfl o5 o6 o7 rfl rfl rfl) rfl ⟨_,_,_,P,t1,rfl,HG.out ▸ p2,p3,p4,E,d7,d8,g.trans r5⟩
 have s5:0<y:=Nat.pos_of_ne_zero h0;have s:zAB (y:Int) 0=1:=by unfold zAB;rw[zA oM,zC oM]
 rw[s];have k3:(y:Int)≠0:=oM;have SX:Sm (x:Int):=by
  have B4:=U.out.xb;rcases Nat.le_total a.natAbs b.natAbs with hab|hab
  exact a5.out.sm.mono (by rw[zQ];omega);exact b6.out.sm.mono (by rw[zQ];omega)
 have SY:Sm (y:Int):=a5.out.sm.mono (by have:=U.out.yb;rw[zQ];exact this);have f8:=xgv SX;have n6:=xgv SY;clear SX SY;go_wp2_with fail
 refine(zCU _ _ (x:Int) (y:Int) wa z.J X.J f8.out n6.out k3).mono ?_;rintro a1 w4 ⟨q0,r0,rfl,hq,hr,I⟩;obtain⟨qn,qa,ql,qc,qx,rfl,k0⟩:=id hq;obtain⟨rn,ra,rl,rc,rx,rfl,k1⟩:=id hr;have v7:=xgw k0;have v8:=xgw k1;clear k0 k1 s k3;go_upto_region 6 with(fail)
 refine zE ?_;intro W5 h4;obtain⟨S,n7,n8,B2⟩:=jW h4;have t:=(t.I I).I S;have Y:=(Y.I I).I S;have X:=(X.ext (lx I)).ext (lx S);have c:=(c.I I).I S;have h:=(h.I I).I S;have B:=(B.I I).I S;have i:=(i.I I).I S;have H:=(H.I I).I S;have g:=nx (nx g I) S;have hq:=hq.ext (lx S);have hr:=hr.ext (lx S);have f5:=I.size;have B8:L.heap.size+1<w4.heap.size:=oM;clear n o p q M N Q R h4 I S k2 f5 l9;obtain⟨M,N,Q,R⟩:=Y.two;obtain⟨f1,f2,f3,f4⟩:=n8.two;refine zJS [pcD 1 [] (fun _ v=>v= .agg #[.bool rn,.slice ra rl rc]),pbE 2 (a2) 51 2,pbE 3 (V) 51 2] ?_;refine sRd ?_;refine sRg (fun wS hI T j=>?_) (fun _ f=>?_)
 .have c0:=hI.cell f1
  have c5:=hI.cell f2;go_simp;exact⟨j _ _ rfl,zB _ _⟩
 obtain⟨_,-,rfl⟩:=f;refine sRx (.agg #[.bool yn,.slice ya yl yc]) ?_;refine sRx (.agg #[.bool rn,.slice ra rl rc]) ?_;refine sRb ?_;simp only[FA,FC,FN,ptr,List.nil_append,List.cons_append,Act.put,xgh,xgi,xgj];intro W8 c6 _ k6 k9;obtain⟨x2,A1,n9,o8⟩:∃l m,Blk W8 (a2) 51 #[l,m]/\yA W8 (.agg #[l,m]) ((y:Int)):=⟨_,_,k6 _ rfl,yA.ext X c6.lext⟩;obtain⟨x3,A2,o0,o9⟩:∃l m,Blk W8 (V) 51 #[l,m]/\yA W8 (.agg #[l,m]) (((x:Int)%(y:Int))):=⟨_,_,k9 _ rfl,yA.ext hr c6.lext⟩;clear k6 k9;have b8:=c6.lext;have r4:=c6.bel (w.heap.size);have b9:∀k,k<W5.heap.size->(∀b5∈ [((a2:Nat),0),((V:Nat),0)],b5.1≠k)->W8.heap[k]?=W5.heap[k]?:=fun k c hn=>c6.old k oM (by simp only[xgm]at hn;repeat' (first|exact trivial|omega|refine⟨?_,?_⟩))
 have c:zNn w W8 a b:=c.old (fun k e2=>b9 _ oM aU) b8;have h:=h.old (b9 _ oM aU) b8;have B:=B.old (b9 _ oM aU) b8;have i:=i.old (b9 _ oM aU) b8;have H:=H.old (b9 _ oM aU) b8;have a4:=(zCa.mk n7 hq).old (b9 _ oM aU) b8;have A:=zCa.mk n9 o8;have C:=zCa.mk o0 o9;have g:=g.trans r4;have p5:(x:Int)/(y:Int)=((x/y:Nat):Int):=rfl;rw[p5]at a4;have e3:=U.out.step s5;have SP:qS (Sm (sgn e a0)):=⟨a5.out.sm1 (by have:=U.out.pb;rw[jA];omega)⟩;have n0:qS (Sm (sgn (!e) O)):=⟨a5.out.sm1 (by have:=U.out.pb';rw[jA];omega)⟩;have SR:qS (Sm (sgn (!e) r)):=⟨b6.out.sm1 (by have:=U.out.rb;rw[jA];omega)⟩;have n5:qS (Sm (sgn e F)):=⟨b6.out.sm1 (by have:=U.out.rb';rw[jA];omega)⟩;have SQ:qS (Sm ((x/y:Nat):Int)):=⟨f8.out.mono (by simp only[Int.natAbs_natCast];exact zAs _ _)⟩;have n3:qS (Sm (((x/y:Nat):Int)*sgn (!e) O)):=⟨a5.out.sm1 (by have:=e3.pb';rw[qT,jA,zQ];omega)⟩;have n4:qS (Sm (((x/y:Nat):Int)*sgn e F)):=⟨b6.out.sm1 (by have:=e3.rb';rw[qT,jA,zQ];omega)⟩;have m9:=xgw e3;clear e3;go_upto_region 7 with(fail)
 obtain⟨sn,sa,sl,sc,J,is⟩:=h;obtain⟨nn,na,nl,nc,kn,jn⟩:=B;obtain⟨en,ea,el,ec,ke,je⟩:=a4;obtain⟨n,o,p,q⟩:=J.two;obtain⟨M,N,Q,R⟩:=kn.two;obtain⟨f1,f2,f3,f4⟩:=ke.two;have s6:=ke.lt;refine zJS [pcD 2 [] (fun _ v=>v= .agg #[.bool en,.slice ea el ec]),pcI 4 (((x/y:Nat):Int)*(sgn (!e) O)),pcD 5 [4] (fun w v=>yA w v ((sgn e a0)-((x/y:Nat):Int)*(sgn (!e) O))),pbE 6 (G.heap.size) 51 2,pbE 7 (G.heap.size+1) 51 2] ?_;refine sRd ?_;refine sRg (fun wS hI T j=>?_) (fun _ f=>?_)
 .have c0:=hI.cell f1
  have c5:=hI.cell f2;go_simp;exact⟨j _ _ rfl,zB _ _⟩
 obtain⟨_,-,rfl⟩:=f;refine sRd ?_;refine sRg (fun wS hI T j=>by go_simp;exact ck j (zCD _ _ ((x/y:Nat):Int) (sgn (!e) O) _ (je.ext hI.lext).J (jn.ext hI.lext).J SQ.out n0.out)) (fun C8 _=>?_);refine sRg (fun wS hI I T j=>?_) (fun C9 f=>?_)
 .go_simp
  exact ck j (zMu _ _ (sgn e a0) (((x/y:Nat):Int)*(sgn (!e) O)) _ (is.ext hI.lext).J I.J SP.out n3.out)
 obtain⟨t9,v3,rfl,t5⟩:=zNr f;clear f;refine sRx (.agg #[.bool nn,.slice na nl nc]) ?_;refine sRx (.agg #[t9,v3]) ?_ t5;refine sRb ?_;simp only[FA,FC,FN,ptr,List.nil_append,List.cons_append,Act.put,xgh,xgi,xgj];intro W9 d9 _ I p9 l0 l1;obtain⟨x4,A3,o1,p0⟩:∃l m,Blk W9 (G.heap.size) 51 #[l,m]/\yA W9 (.agg #[l,m]) ((sgn (!e) O)):=⟨_,_,l0 _ rfl,yA.ext jn d9.lext⟩;obtain⟨x5,A4,o2,g7⟩:∃l m,Blk W9 (G.heap.size+1) 51 #[l,m]/\yA W9 (.agg #[l,m]) ((sgn e a0)-((x/y:Nat):Int)*(sgn (!e) O)):=⟨_,_,l1 _ rfl,p9⟩;clear l0 l1;have a9:=d9.lext;have i4:=d9.bel (w.heap.size);have b2:∀k,k<W8.heap.size->(∀b5∈ [((G.heap.size:Nat),0),((G.heap.size+1:Nat),0)],b5.1≠k)->W9.heap[k]?=W8.heap[k]?:=fun k c hn=>d9.old k oM (by simp only[xgm]at hn;repeat' (first|exact trivial|omega|refine⟨?_,?_⟩))
 rw[(zFT e a0 (x/y) O)]at g7;have a4:=zCa.mk ke je;have c:zNn w W9 a b:=c.old (fun k e2=>b2 _ oM aU) a9;have A:=A.old (b2 _ oM aU) a9;have C:=C.old (b2 _ oM aU) a9;have a4:=a4.old (b2 _ oM aU) a9;have i:=i.old (b2 _ oM aU) a9;have H:=H.old (b2 _ oM aU) a9;have h:=zCa.mk o1 p0;have B:=zCa.mk o2 g7;have g:=g.trans i4;clear n o p q M N Q R f1 f2 f3 f4 b2 a9 i4;have er:sgn (!e) r-((x/y:Nat):Int)*sgn e F=sgn (!e) (r+x/y*F):=by
  have:=zFT (!e) r (x/y) F;rwa[zBm]at this
 go_upto_region 8 with(fail)
 obtain⟨sn,sa,sl,sc,J,is⟩:=i;obtain⟨nn,na,nl,nc,kn,jn⟩:=H;obtain⟨en,ea,el,ec,ke,je⟩:=a4;obtain⟨n,o,p,q⟩:=J.two;obtain⟨M,N,Q,R⟩:=kn.two;obtain⟨f1,f2,f3,f4⟩:=ke.two;have s6:=ke.lt;refine zJS [pcD 2 [] (fun _ v=>v= .agg #[.bool en,.slice ea el ec]),pcI 4 (((x/y:Nat):Int)*(sgn e F)),pcD 5 [4] (fun w v=>yA w v ((sgn (!e) r)-((x/y:Nat):Int)*(sgn e F))),pbE 6 (L.heap.size) 51 2,pbE 7 (L.heap.size+1) 51 2] ?_;refine sRd ?_;refine sRg (fun wS hI T j=>?_) (fun _ f=>?_)
 .have c0:=hI.cell f1
  have c5:=hI.cell f2;go_simp;exact⟨j _ _ rfl,zB _ _⟩
 obtain⟨_,-,rfl⟩:=f;refine sRd ?_;refine sRg (fun wS hI T j=>by go_simp;exact ck j (zCD _ _ ((x/y:Nat):Int) (sgn e F) _ (je.ext hI.lext).J (jn.ext hI.lext).J SQ.out n5.out)) (fun D0 _=>?_);refine sRg (fun wS hI i6 T j=>?_) (fun D1 f=>?_)
 .go_simp
  exact ck j (zMu _ _ (sgn (!e) r) (((x/y:Nat):Int)*(sgn e F)) _ (is.ext hI.lext).J i6.J SR.out n4.out)
 obtain⟨v0,v4,rfl,t6⟩:=zNr f;clear f;refine sRx (.agg #[.bool nn,.slice na nl nc]) ?_;refine sRx (.agg #[v0,v4]) ?_ t6;refine sRb ?_;simp only[FA,FC,FN,ptr,List.nil_append,List.cons_append,Act.put,xgh,xgi,xgj];intro WA e0 _ i6 r6 l2 l3;obtain⟨x6,A5,o3,p1⟩:∃l m,Blk WA (L.heap.size) 51 #[l,m]/\yA WA (.agg #[l,m]) ((sgn e F)):=⟨_,_,l2 _ rfl,yA.ext jn e0.lext⟩;obtain⟨x7,A6,o4,g8⟩:∃l m,Blk WA (L.heap.size+1) 51 #[l,m]/\yA WA (.agg #[l,m]) ((sgn (!e) r)-((x/y:Nat):Int)*(sgn e F)):=⟨_,_,l3 _ rfl,r6⟩;clear l2 l3;have b0:=e0.lext;have i5:=e0.bel (w.heap.size);have b3:∀k,k<W9.heap.size->(∀b5∈ [((L.heap.size:Nat),0),((L.heap.size+1:Nat),0)],b5.1≠k)->WA.heap[k]?=W9.heap[k]?:=fun k c hn=>e0.old k oM (by simp only[xgm]at hn;repeat' (first|exact trivial|omega|refine⟨?_,?_⟩))
 rw[er]at g8;have a4:=zCa.mk ke je;have c:zNn w WA a b:=c.old (fun k e2=>b3 _ oM aU) b0;have A:=A.old (b3 _ oM aU) b0;have C:=C.old (b3 _ oM aU) b0;have a4:=a4.old (b3 _ oM aU) b0;have h:=h.old (b3 _ oM aU) b0;have B:=B.old (b3 _ oM aU) b0;have i:=zCa.mk o3 p1;have H:=zCa.mk o4 g8;have g:=g.trans i5;clear n o p q M N Q R f1 f2 f3 f4 b3 b0 i5;go_wp2;go_roundw
 case rel=>
  exact⟨y,x%y,!e,O,_,F,_,m9.out,g,c,A,C,h,by rw[zBm];exact B,by rw[zBm];exact i,H⟩
 obtain⟨zn,za,zl,zc,Y,X⟩:=C;rw[hf _ _ _ _ _ Y X,i9];have h5:=zAr (x:Int) (show(y:Int)≠0 by omega);have h6:=Int.emod_lt (x:Int) (show(y:Int)≠0 by omega);omega
abbrev tI:TypeId:=51
def yY(w:World)(b:Nat)(zs:List Int):Prop:=
 ∃cs:Array Value,w.heap[b]?=some (.cells cs tI (0,0))/\∀k z,zs[k]?=some z->∃s a l c,cs[k*2]?=some (.bool s)/\cs[k*2+1]?=some (.slice a l c)/\yA w (.agg #[.bool s,.slice a l c]) z
theorem yY.lt(h:yY w b zs):b<w.heap.size:=by
 obtain⟨c,a,-⟩:=h;exact(Array.getElem?_eq_some_iff.1 a).1
theorem yY.old(h:yY w b zs)(e:w'.heap[b]?=w.heap[b]?)(x:zBC w w'):yY w' b zs:=by
 obtain⟨d,j,m⟩:=h;refine⟨d,e.trans j,fun k z n=>?_⟩;obtain⟨s,a,l,c,f,g,i⟩:=m k z n;exact⟨s,a,l,c,f,g,i.ext x⟩
theorem yY.I(h:yY w b zs)(a:BWq w w'):yY w' b zs:=h.old (a.block _ h.lt) (lx a)
theorem yY.cell(h:yY w b zs)(m:zs[k]?=some z):
  ∃s a l c,w.cell? ⟨b,k*2,none⟩=some (.bool s)/\w.cell? ⟨b,k*2+1,none⟩=some (.slice a l c)/\w.frozen? ⟨b,k*2,none⟩=false/\w.frozen? ⟨b,k*2+1,none⟩=false/\yA w (.agg #[.bool s,.slice a l c]) z:=by
 obtain⟨d,e,j⟩:=h;obtain⟨s,a,l,c,f,g,i⟩:=j k z m;exact⟨s,a,l,c,(cell_of_row w b _ d tI _ e).trans f,(cell_of_row w b _ d tI _ e).trans g,frozen_of_row w b _ d tI e,frozen_of_row w b _ d tI e,i⟩
theorem yO(w:World)(b i k:Nat)(u:Value)(h:k≠b):(w.setCell ⟨b,i,none⟩ u).heap[k]?=w.heap[k]?:=qH w ⟨b,i,none⟩ u k h
theorem yG(w:World)(b i j k:Nat)(u v:Value)(h:k≠b):((w.setCell ⟨b,i,none⟩ u).setCell ⟨b,j,none⟩ v).heap[k]?=w.heap[k]?:=
 (yO _ b j k v h).trans (yO _ b i k u h)
theorem yY.set(h:yY w b zs)(r:k<zs.length){s:Bool}{a:Option Addr}{l c:Nat}(hv:yA w (.agg #[.bool s,.slice a l c]) z):
  yY ((w.setCell ⟨b,k*2,none⟩ (.bool s)).setCell ⟨b,k*2+1,none⟩ (.slice a l c)) b (zs.set k z)/\zBC w ((w.setCell ⟨b,k*2,none⟩ (.bool s)).setCell ⟨b,k*2+1,none⟩ (.slice a l c)):=by
 obtain⟨p,x,q⟩:=h;have i:Blk w b tI p:=x;have m:zBC w ((w.setCell ⟨b,k*2,none⟩ (.bool s)).setCell ⟨b,k*2+1,none⟩ (.slice a l c)):=(i.lext dE _ _).trans ((i.set_ _ _).lext dE _ _);refine⟨⟨(p.setIfInBounds (k*2) (.bool s)).setIfInBounds (k*2+1) (.slice a l c),(i.set_ _ _).set_ _ _,?_⟩,m⟩;intro j y d;by_cases e:j=k
 .subst e
  rw[List.getElem?_set_self r]at d;injection d with d
  subst d;obtain⟨u,n,t,o,f,g,-⟩:=q j zs[j] (xga r);have A:=(Array.getElem?_eq_some_iff.1 f).1;have B:=(Array.getElem?_eq_some_iff.1 g).1;refine⟨s,a,l,c,?_,?_,hv.ext m⟩;rw[xgc oM,Array.getElem?_setIfInBounds_self_of_lt A];rw[Array.getElem?_setIfInBounds_self_of_lt (by simpa using B)]
 rw[List.getElem?_set_ne (zL e)]at d;obtain⟨u,n,t,o,f,g,v⟩:=q j y d;refine⟨u,n,t,o,?_,?_,v.ext m⟩;rw[xgc oM,xgc oM];exact f;rw[xgc oM,xgc oM];exact g
def zAR(w:World)(v:Value)(zs:List Int):Prop:=
 ∃ao n cap,v= .slice ao n cap/\zs.length=n/\n<=cap/\cap<=9223372036854775807/\(zs≠ []->∃b,ao=some ⟨b,0,none⟩/\yY w b zs)
theorem zAR.nil(w:World):zAR w (.slice none 0 0) []:=⟨none,0,0,rfl,rfl,xgf _,oM,fun h=>absurd rfl h⟩
theorem zAR.I(h:zAR w v zs)(g:BWq w w'):zAR w' v zs:=by
 obtain⟨ao,n,cap,a,c,d,e,f⟩:=h;exact⟨ao,n,cap,a,c,d,e,fun i=>(f i).elim fun b h=>⟨b,h.1,h.2.I g⟩⟩
theorem zAR.cell(h:zAR w (.slice ao n cap) zs)(d:k<zs.length):
  ∃b z s a l c,ao=some ⟨b,0,none⟩/\b<w.heap.size/\zs[k]?=some z/\w.cell? ⟨b,k*2,none⟩=some (.bool s)/\w.cell? ⟨b,k*2+1,none⟩=some (.slice a l c)/\yA w (.agg #[.bool s,.slice a l c]) z:=by
 obtain⟨q,A,r,o,v,x,y,p⟩:=h;injection o with m t u
 subst m;obtain⟨b,e,f⟩:=p (by rintro rfl;simp at d);obtain⟨s,a,l,c,g,i,-,-,j⟩:=f.cell (xga d);exact⟨b,_,s,a,l,c,e,f.lt,xga d,g,i,j⟩
theorem zAR.len(h:zAR w (.slice ao n cap) zs):zs.length=n/\n<=cap/\cap<=9223372036854775807:=by
 obtain⟨b,l,c,a,g,i,j,k⟩:=h;injection a with d e f
 omega
def zBl(w:World)(v:Value)(M:List (List Int)):Prop:=
 ∃ao n cap,v= .slice ao n cap/\M.length=n/\n<=cap/\cap<=9223372036854775807/\(M≠ []->∃(b:Nat) (cs:Array Value),ao=some ⟨b,0,none⟩/\w.heap[b]?=some (.cells cs 31 (0,0))/\∀(k:Nat) (zs:List Int),M[k]?=some zs->∃rv,cs[k]?=some rv/\zAR w rv zs)
theorem zBl.nil(w:World):zBl w (.slice none 0 0) []:=⟨none,0,0,rfl,rfl,xgf _,oM,fun h=>absurd rfl h⟩
theorem zBl.I(h:zBl w v M)(c:BWq w w'):zBl w' v M:=by
 obtain⟨ao,n,cap,j,l,m,o,p⟩:=h;refine⟨ao,n,cap,j,l,m,o,fun r=>?_⟩;obtain⟨b,d,e,a,f⟩:=p r;refine⟨b,d,e,(c.block _ (Array.getElem?_eq_some_iff.1 a).1).trans a,fun k zs q=>?_⟩;obtain⟨s,g,i⟩:=f k zs q;exact⟨s,g,i.I c⟩
theorem zBl.row(h:zBl w (.slice ao n cap) M)(f:k<M.length):
  ∃b a d c zs,ao=some ⟨b,0,none⟩/\b<w.heap.size/\M[k]?=some zs/\w.cell? ⟨b,k,none⟩=some (.slice a d c)/\zAR w (.slice a d c) zs:=by
 obtain⟨r,A,t,o,x,y,z,p⟩:=h;injection o with m u v
 subst m;obtain⟨b,l,e,i,q⟩:=p (by rintro rfl;simp at f);obtain⟨B,j,g⟩:=q k _ (xga f);obtain⟨a,d,c,rfl,s⟩:=id g;exact⟨b,a,d,c,_,e,(Array.getElem?_eq_some_iff.1 i).1,xga f,(cell_of_row w b k l _ _ i).trans j,g⟩
def zAo(w:World)(v:Value)(R C:Int)(M:List (List Int)):Prop:=∃A,v= .agg #[niq R,niq C,A]/\zBl w A M
theorem zAo.I(h:zAo w v R C M)(c:BWq w w'):zAo w' v R C M:=by
 obtain⟨A,a,b⟩:=h;exact⟨A,a,b.I c⟩
def zBe(R C:Nat)(M:List (List Int)):Prop:=M.length=R/\∀r∈M,r.length=C
theorem zDx(v:Value)(zs:List Int)(w:World)(h:zAR w v zs):
  CPq 47 #[v] w fun e w'=>e= .returned (.bool true)/\BWq w w':=by
 obtain⟨ao,n,cap,rfl,f,t,u,j⟩:=id h;have g:=xgw f;clear f j;go_enter Tryz.func47,Tryz.ntmps47;go_wp2;go_loopw [3] (fun i wr=>∃k:Nat,k<=n/\i=niq k/\BWq w wr) (fun i _=>n-(intOf i).toNat)
 case atStart=>exact⟨0,oM,rfl,zB _ _⟩
 obtain⟨k,y,rfl,d⟩:=hrel;by_cases o:k<n
 .obtain⟨b,z,s,a,l,c,rfl,x,-,q,r,p⟩:=(h.I d).cell (k:=k) (by rw[g.out];exact o)
  go_wp2_with fail
  refine(zF6 _ _ wr p).mono ?_;rintro e A ⟨rfl,m⟩;go_wp2;go_roundw
  case rel=>exact⟨k+1,oM,by simp,nx d m⟩
  case measure=>exact meq
 obtain rfl:k=n:=oM;go_wp2;go_ret;exact⟨rfl,d⟩
theorem zLN{a:Type}{xs ys:List a}{x y:a}(h:xs.take k=ys.take k)(b:xs[k]?=some x)(c:ys[k]?=some y)(e:x=y):xs.take (k+1)=ys.take (k+1):=by
 rw[zAK,zAK,b,c,h,e]
theorem zIY{b:Type}{xs ys:List b}{x y:b}(c:xs[k]?=some x)(a:ys[k]?=some y)(e:x≠y):xs≠ys:=by
 rintro rfl;rw[c]at a;injection a with a
 exact e a
theorem zIU(A B:Value)(xs ys:List Int)(w:World)(q:zAR w A xs)(r:zAR w B ys):
  CPq 20 #[A,B] w fun e w'=>e= .returned (.bool (decide (xs=ys)))/\BWq w w':=by
 obtain⟨ao,n,cap,rfl,o,V,W,H⟩:=id q;obtain⟨P,m,O,rfl,p,X,Y,I⟩:=id r;have f:=xgw o;have h:=xgw p;clear o H p I;by_cases t:n=m
 .subst t
  go_enter Tryz.func20,Tryz.ntmps20;go_wp2;go_loopw [5] (fun i wr=>∃k:Nat,k<=n/\i=niq k/\BWq w wr/\Hid (xs.take k=ys.take k)) (fun i _=>n-(intOf i).toNat)
  case atStart=>exact⟨0,oM,rfl,zB _ _,by rw[zAW,zAW];exact xgw rfl⟩
  obtain⟨k,hk,rfl,d,v⟩:=hrel;by_cases u:k<n
  .obtain⟨b,z,a2,a,a1,c,rfl,Z,x,D,E,K⟩:=(q.I d).cell (k:=k) (by rw[f.out];exact u)
   obtain⟨N,C,s',M,l',Q,rfl,a0,y,F,G,L⟩:=(r.I d).cell (k:=k) (by rw[h.out];exact u);have j:=xgw x;have l:=xgw y;clear x y;have R:=zBr D;have S:=zBr E;have T:=zBr F;have U:=zBr G;go_upto_region 6 with(fail)
   go_still_tail 8,kR;change wpList _ _ _ _ _ wr.drew;go_wp2_with fail
   refine(zOO _ _ z C _ (K.ext (lx (dr _))) (L.ext (lx (dr _)))).mono ?_;rintro e w1 ⟨rfl,s⟩;by_cases g:z=C
   .rw[zT g]
    go_wp2;go_roundw
    case rel=>exact⟨k+1,oM,by simp,nx (nx d (dr _)) s,xgw (zLN v.out j.out l.out g)⟩
    case measure=>exact meq
   rw[zR g];go_wp2;go_ret;exact⟨by rw[zR (zIY j.out l.out g)];rfl,nx (nx d (dr _)) s⟩
  obtain rfl:k=n:=oM;go_wp2;go_ret;refine⟨?_,d⟩;have:=v.out;rw[<-f.out,zAG,f.out,<-h.out,zAG]at this;rw[zT this];rfl
 have J:xs≠ys:=by rintro rfl;exact t (f.out.symm.trans h.out)
 have hd:=zR J;rw[hd];have hi:¬ (n:Int)=(m:Int):=oM;go_enter Tryz.func20,Tryz.ntmps20;go_wp2;go_ret;exact⟨rfl,zB _ _⟩
def zKP(w:World)(v:Value)(M:List (List Int)):Prop:=
 ∃ao n cap,v= .slice ao n cap/\M.length=n/\n<=cap/\cap<=9223372036854775807/\(M≠ []->∃(b o:Nat) (cs:Array Value),ao=some ⟨b,o,none⟩/\w.heap[b]?=some (.cells cs 31 (0,0))/\∀(k:Nat) (zs:List Int),M[k]?=some zs->∃rv,cs[o+k]?=some rv/\zAR w rv zs)
theorem zBl.off0(h:zBl w v M):zKP w v M:=by
 obtain⟨ao,n,cap,f,g,i,j,l⟩:=h;refine⟨ao,n,cap,f,g,i,j,fun o=>?_⟩;obtain⟨b,a,c,d,e⟩:=l o;exact⟨b,0,a,c,d,fun k zs m=>by rw[jC];exact e k zs m⟩
theorem zKP.I(h:zKP w v M)(c:BWq w w'):zKP w' v M:=by
 obtain⟨ao,n,cap,j,l,m,p,q⟩:=h;refine⟨ao,n,cap,j,l,m,p,fun s=>?_⟩;obtain⟨b,o,d,e,a,f⟩:=q s;refine⟨b,o,d,e,(c.block _ (Array.getElem?_eq_some_iff.1 a).1).trans a,fun k zs r=>?_⟩;obtain⟨t,g,i⟩:=f k zs r;exact⟨t,g,i.I c⟩
theorem zKP.row(h:zKP w (.slice ao n cap) M)(f:k<M.length):
  ∃b o a d c zs,ao=some ⟨b,o,none⟩/\b<w.heap.size/\M[k]?=some zs/\w.cell? ⟨b,o+k,none⟩=some (.slice a d c)/\zAR w (.slice a d c) zs:=by
 obtain⟨s,B,u,p,y,z,A,q⟩:=h;injection p with m v x
 subst m;obtain⟨b,o,l,e,i,r⟩:=q (by rintro rfl;simp at f);obtain⟨C,j,g⟩:=r k _ (xga f);obtain⟨a,d,c,rfl,t⟩:=id g;exact⟨b,o,a,d,c,_,e,(Array.getElem?_eq_some_iff.1 i).1,xga f,(cell_of_row w b _ l _ _ i).trans j,g⟩
def zLq(w:World)(v:Value)(R C:Int)(M:List (List Int)):Prop:=∃A,v= .agg #[niq R,niq C,A]/\zKP w A M
theorem zAo.off(h:zAo w v R C M):zLq w v R C M:=by
 obtain⟨A,a,b⟩:=h;exact⟨A,a,b.off0⟩
theorem zLq.I(h:zLq w v R C M)(c:BWq w w'):zLq w' v R C M:=by
 obtain⟨A,a,b⟩:=h;exact⟨A,a,b.I c⟩
def zAq(R C:Int)(M:List (List Int)):Prop:=0<=R/\0<=C/\(M.length:Int)=R/\∀r∈M,(r.length:Int)=C
instance (R C:Int) (M:List (List Int)):Decidable (zAq R C M):=inferInstanceAs (Decidable (_/\_))
theorem zMd(v:Value)(R C:Int)(M:List (List Int))(w:World)(h:zLq w v R C M):
  CPq 46 #[v] w fun e w'=>e= .returned (.bool (decide (zAq R C M)))/\BWq w w':=by
 obtain⟨A,rfl,h⟩:=h;obtain⟨ao,n,cap,rfl,E,Z,e4,-⟩:=id h;have t:=xgw E;clear E;by_cases f:0<=R/\0<=C/\(n:Int)=R
 .obtain⟨K,L,rfl⟩:=f
  have hd:decide (zAq n C M)=decide (∀r∈M,(r.length:Int)=C):=decide_eq_decide.2 ⟨fun h=>h.2.2.2,fun h=>⟨K,L,by rw[t.out],h⟩⟩;rw[hd];clear hd;go_enter Tryz.func46,Tryz.ntmps46;go_upto_region 1 with(fail)
  refine zE ?_;intro u j;obtain⟨g,d,z⟩:=qL j;obtain⟨o,l,m,p,q,s⟩:=d.three;have h:=h.I g;go_wp2;go_loopw [3] (fun i wr=>∃k:Nat,k<=n/\i=niq k/\BWq w wr/\BWq u wr/\Hid (∀r∈M.take k,(r.length:Int)=C)) (fun i _=>n-(intOf i).toNat)
  case atStart=>exact⟨0,oM,rfl,g,zB _ _,by rw[zAW];exact xgw (fun r hr=>by cases hr)⟩
  obtain⟨k,hk,rfl,x,y,f⟩:=hrel;have d:=d.I y;clear o l m p q s;obtain⟨o,l,m,p,q,s⟩:=d.three;by_cases U:k<n
  .obtain⟨b,a1,ra,W,rc,zs,rfl,a0,J,V,I⟩:=(h.I y).row (k:=k) (by rw[t.out];exact U)
   have D:=xgw J;have B:=xgw I.len.1;clear J;have X:=zBr l;have Y:=zBr m;have a2:=zBr V;go_upto_region 6 with(fail)
   by_cases H:(W:Int)=C
   .go_still_tail 15,kR
    change wpList _ _ _ _ _ wr.drew;go_wp2_with fail
    refine(zDx _ zs _ (I.I (dr _))).mono ?_;rintro e w1 ⟨rfl,F⟩;go_wp2;go_roundw
    case rel=>
     refine⟨k+1,oM,by simp,nx (nx x (dr _)) F,nx (nx y (dr _)) F,xgw ?_⟩;rw[zAK,D.out];intro r hr;rcases List.mem_append.1 hr with hr|hr
     exact f.out r hr;simp at hr;rw[hr,B.out,H]
    case measure=>exact meq
   go_quiet (fail);go_wp2;go_ret;refine⟨?_,nx x (drN _ _)⟩;have S:¬ ∀r∈M,(r.length:Int)=C:=fun T=>H (by rw[<-B.out];exact T zs (xgd D.out))
   rw[zR S];rfl
  obtain rfl:k=n:=oM;go_wp2;go_ret;refine⟨?_,x⟩;have:=f.out;rw[<-t.out,zAG]at this;rw[zT this];rfl
 have G:¬ zAq R C M:=by
  rintro⟨a,b,c,-⟩;exact f ⟨a,b,by rw[<-t.out];exact c⟩
 rw[zR G];clear G;by_cases P:0<=R
 .have Q:¬ R<0:=oM
  by_cases N:0<=C
  .have hn:¬ (n:Int)=R:=fun h=>f ⟨P,N,h⟩
   have O:¬ C<0:=oM;clear f;go_enter Tryz.func46,Tryz.ntmps46;go_upto_region 1 with(fail)
   refine zE ?_;intro u j;obtain⟨g,d,z⟩:=qL j;obtain⟨o,l,m,p,q,s⟩:=d.three;go_wp2;go_ret;exact⟨rfl,g⟩
  have O:C<0:=oM;clear f;go_enter Tryz.func46,Tryz.ntmps46;go_upto_region 1 with(fail)
  refine zE ?_;intro u j;obtain⟨g,d,z⟩:=qL j;obtain⟨o,l,m,p,q,s⟩:=d.three;go_wp2;go_ret;exact⟨rfl,g⟩
 have Q:R<0:=oM;clear f;go_enter Tryz.func46,Tryz.ntmps46;go_upto_region 1 with(fail)
 refine zE ?_;intro u j;obtain⟨g,d,z⟩:=qL j;obtain⟨o,l,m,p,q,s⟩:=d.three;go_wp2;go_ret;exact⟨rfl,g⟩
theorem zMc(v:Value)(R C:Int)(M:List (List Int))(w:World)(h:zAo w v R C M):
  CPq 46 #[v] w fun e w'=>e= .returned (.bool (decide (zAq R C M)))/\BWq w w':=zMd v R C M w h.off
theorem zDi(h:z=0):zAB z 0=0:=by subst h;rfl
theorem zFq(h:z≠0):zAB z 0≠0:=by unfold zAB;split<;>(try split)<;>omega
def zLr(i C:Nat)(r:List Int):Prop:=∀k,k<C->k≠i->r.getD k 0=0
instance (i C:Nat) (r:List Int):Decidable (zLr i C r):=inferInstanceAs (Decidable (∀k,k<C->_))
def zWX(C:Nat):Nat->Int->List (List Int)->Bool
 |_,_,[]=>true
 |i,last,r::rs=>decide (zLr i C r) && (if i<C then decide (0<=r.getD i 0) && decide (last∣r.getD i 0) && zWX C (i+1) (r.getD i 0) rs else zWX C (i+1) last rs)
def IsM(R C:Int)(M:List (List Int)):Bool:=decide (zAq R C M) && zWX C.toNat 0 1 M
theorem zKh{a:Type}{l:List a}{x:a}(h:l[k]?=some x):l.drop k=x::l.drop (k+1):=by
 obtain⟨b,c⟩:=xge.1 h;rw[yX b,c]
theorem zD2{a:Type}{l:List a}{x d:a}(h:l[k]?=some x):l.getD k d=x:=by simp[xgb,h]
theorem Smd.one{z:Int}(h:z.natAbs<=1):Smd z:=⟨zM h (by
 have a:=zIn 0 zO7 (by rw[zCp];omega)
 rw[zBq]at a
 exact a)⟩

abbrev zFG:=@Smd.one
end Go.Proofs.YtniiekppgdkknaaGreat
