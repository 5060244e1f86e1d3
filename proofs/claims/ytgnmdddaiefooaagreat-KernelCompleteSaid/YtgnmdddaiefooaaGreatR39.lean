/- hermite.Check. torsionref12: the work of a run, as a value. torsionref12: Work.AddTo (printed by genK.py). -/
import Derived.Test.YtgnmdddaiefooaaGreatR22
import Derived.Test.YtgnmdddaiefooaaGreatR29
import Derived.Test.YtgnmdddaiefooaaGreatR34
import Derived.Test.YtgnmdddaiefooaaGreatR38
set_option linter.unusedVariables false
set_option linter.unusedSimpArgs false
set_option linter.unusedSectionVars false
set_option maxHeartbeats 16000000
set_option maxRecDepth 100000
namespace Go.Proofs.YtgnmdddaiefooaaGreat
open Go.RowKit
theorem Blk.nine{w:World}{g:Nat}{t:TypeId}{c0 c1 c2 c3 c4 c5 c6 c7 c8:Value}(h:Blk w g t #[c0,c1,c2,c3,c4,c5,c6,c7,c8]):
  w.cell? ⟨g,0,none⟩=some c0/\w.cell? ⟨g,1,none⟩=some c1/\w.cell? ⟨g,2,none⟩=some c2/\w.cell? ⟨g,3,none⟩=some c3/\w.cell? ⟨g,4,none⟩=some c4/\w.cell? ⟨g,5,none⟩=some c5/\w.cell? ⟨g,6,none⟩=some c6/\w.cell? ⟨g,7,none⟩=some c7/\w.cell? ⟨g,8,none⟩=some c8:=
 ⟨h.cell 0,h.cell 1,h.cell 2,h.cell 3,h.cell 4,h.cell 5,h.cell 6,h.cell 7,h.cell 8⟩
structure zNJ(w:World)(f:Value)(hr hc:Int)(H:List (List Int))(ur uc:Int)(U:List (List Int))(vr vc:Int)(V:List (List Int)):Prop where
 ex:∃h u v,f= .agg #[.int .i64 hr,.int .i64 hc,h,.int .i64 ur,.int .i64 uc,u,.int .i64 vr,.int .i64 vc,v]/\qX w h H/\qX w u U/\qX w v V
theorem zNJ.below{w w':World}{f:Value}{hr hc ur uc vr vc:Int}{H U V:List (List Int)}(h:zNJ w f hr hc H ur uc U vr vc V)(hb:Below w.heap.size w w'):zNJ w' f hr hc H ur uc U vr vc V:=by
 obtain⟨a,b,c,h1,h2,h3,h4⟩:=h.ex;exact⟨a,b,c,h1,h2.below hb,h3.below hb,h4.below hb⟩
structure zP3(R C:Nat)(A:List (List Int))(hr hc:Int)(H:List (List Int))(ur uc:Int)(U:List (List Int))(vr vc:Int)(V:List (List Int)):Prop where
 is:zLl hr hc H
 er:hr=R
 ec:hc=C
 u:ur=R/\uc=R/\qR ur uc U
 v:vr=R/\vc=R/\qR vr vc V
 mul:genM R C (zAT U A R)=H
 inv:genM R R (zAT U V R)=genM R R idf
abbrev tWk:TypeId:=102
def upR(F G:Nat->Nat->Int)(i c:Nat):Nat->Nat->Int:=fun a b=>if a=i/\b<c then G a b else F a b
def upC(F G:Nat->Nat->Int)(j r:Nat):Nat->Nat->Int:=fun a b=>if b=j/\a<r then G a b else F a b
def zKy(F:Nat->Nat->Int)(i c:Nat)(z:Int):Nat->Nat->Int:=fun a b=>if a=i/\b=c then z else F a b
theorem zED(F G:Nat->Nat->Int)(i:Nat):upR F G i 0=F:=by funext a b;unfold upR;rw[if_neg oM]
theorem zIm(F G:Nat->Nat->Int)(j:Nat):upC F G j 0=F:=by funext a b;unfold upC;rw[if_neg oM]
theorem zF8{F G:Nat->Nat->Int}{i c:Nat}{z:Int}(hz:z=G i c):zKy (upR F G i c) i c z=upR F G i (c+1):=by
 subst hz
 funext a b
 unfold zKy upR;by_cases h1:a=i/\b=c
 ·obtain⟨rfl,rfl⟩:=h1
  rw[if_pos ⟨rfl,rfl⟩,if_pos ⟨rfl,by omega⟩]
 ·rw[if_neg h1]
  by_cases h2:a=i/\b<c
  ·rw[if_pos h2,if_pos ⟨h2.1,by omega⟩]
  ·rw[if_neg h2,if_neg (fun h=>h2 ⟨h.1,by omega⟩)]
theorem zLb{F G:Nat->Nat->Int}{j r:Nat}{z:Int}(hz:z=G r j):zKy (upC F G j r) r j z=upC F G j (r+1):=by
 subst hz
 funext a b
 unfold zKy upC;by_cases h1:a=r/\b=j
 ·obtain⟨rfl,rfl⟩:=h1
  rw[if_pos ⟨rfl,rfl⟩,if_pos ⟨rfl,by omega⟩]
 ·rw[if_neg h1]
  by_cases h2:b=j/\a<r
  ·rw[if_pos h2,if_pos ⟨h2.1,by omega⟩]
  ·rw[if_neg h2,if_neg (fun h=>h2 ⟨h.1,by omega⟩)]
theorem zIn(F G:Nat->Nat->Int)(i c:Nat):upR F G i c i c=F i c:=by unfold upR;rw[if_neg oM]
theorem zNC{F G:Nat->Nat->Int}{i j:Nat}(c b:Nat)(h:i≠j):upR F G i c j b=F j b:=by unfold upR;rw[if_neg (fun e=>h e.1.symm)]
theorem zNB(F G:Nat->Nat->Int)(j r:Nat):upC F G j r r j=F r j:=by unfold upC;rw[if_neg oM]
theorem zPA{F G:Nat->Nat->Int}{i j:Nat}(r b:Nat)(h:j≠i):upC F G j r b i=F b i:=by unfold upC;rw[if_neg (fun e=>h e.1.symm)]
theorem oz2{w:World}{b i j:Nat}{u v:Value}(hx:yI w ((w.setCell ⟨b,i,none⟩ u).setCell ⟨b,j,none⟩ v)):zM (fun k=>k=b) w ((w.setCell ⟨b,i,none⟩ u).setCell ⟨b,j,none⟩ v):=
 ⟨zP (zP (Below.refl _ _) (Nat.zero_le _) _ _) (Nat.zero_le _) _ _,hx,fun k _ hk=>qH _ _ _ _ _ _ _ hk⟩
section
variable {w:World} {A:Value} {g n cap R C:Nat} {bs:List Nat} {F:Nat->Nat->Int}
theorem Wri.congr{G:Nat->Nat->Int}(h:Wri w A R C bs F)(e:∀a,a<R->∀b,b<C->F a b=G a b):Wri w A R C bs G:=by
 unfold Wri at h ⊢
 rwa[<-zS e]
theorem Wri.base(h:Wri w A R C bs F)(hR:0<R):∃g cap,A= .slice (some ⟨g,0,none⟩) R cap:=by
 obtain⟨ao,n,cap,rfl,-⟩:=id (zJ.rows h);obtain⟨g,b,rfl,-,-,-,-,e⟩:=zJ.at_ h (i:=0) (by rw[h.len];exact hR);rw[h.len]at e;subst e;exact⟨g,cap,rfl⟩
theorem Wri.rowc(h:Wri w (.slice (some ⟨g,0,none⟩) n cap) R C bs F){i b:Nat}(hi:i<R)(hb:bs[i]?=some b):w.cell? ⟨g,i,none⟩=some (.slice (some ⟨b,0,none⟩) C C):=by
 obtain⟨g',b',e,-,hb',-,o,-⟩:=zJ.at_ h (i:=i) (by rw[h.len];exact hi);obtain rfl:g=g':=by injection e with e;injection e
 rw[hb]at hb';injection hb' with hb'
 subst hb';exact o
theorem Wri.bex(h:Wri w A R C bs F){i:Nat}(hi:i<R):∃b,bs[i]?=some b:=⟨_,xga (by rw[h.len];exact hi)⟩
theorem Wri.elem(h:Wri w A R C bs F){i b c:Nat}(hi:i<R)(hb:bs[i]?=some b)(hc:c<C):
  ∃s a l k,w.cell? ⟨b,c*2,none⟩=some (.bool s)/\w.cell? ⟨b,c*2+1,none⟩=some (.slice a l k)/\w.frozen? ⟨b,c*2,none⟩=false/\w.frozen? ⟨b,c*2+1,none⟩=false/\zR w (.agg #[.bool s,.slice a l k]) (F i c):=by
 have:=zJ.cellAt h hb hc;rwa[qG hi hc]at this
theorem Wri.putc(h:Wri w A R C bs F){i b c:Nat}(hi:i<R)(hb:bs[i]?=some b)(hc:c<C){s:Bool}{a:Option Addr}{l k:Nat}{z:Int}(hv:zR w (.agg #[.bool s,.slice a l k]) z):
  Wri ((w.setCell ⟨b,c*2,none⟩ (.bool s)).setCell ⟨b,c*2+1,none⟩ (.slice a l k)) A R C bs (zKy F i c z)/\zM (fun k=>k=b) w ((w.setCell ⟨b,c*2,none⟩ (.bool s)).setCell ⟨b,c*2+1,none⟩ (.slice a l k)):=by
 obtain⟨h1,h2,-⟩:=zJ.set h hb hc hv;rw[zBV z hi hc]at h1;exact⟨h1,oz2 h2⟩
theorem Wri.keep1(h:Wri w A R C bs F){w':World}{b:Nat}(ho:zM (fun k=>k=b) w w')(hb:¬ Zn A bs b):Wri w' A R C bs F:=h.keepZ ho fun k hk e=>hb (by rw[<-e];exact hk)
end
structure K9(w:World)(bw:Nat)(AM AU AV:Value)(R C:Nat)(bm bu bv:List Nat)(S T V:Nat->Nat->Int):Prop where
 blk:Blk w bw tWk #[.int .i64 R,.int .i64 C,AM,.int .i64 R,.int .i64 R,AU,.int .i64 R,.int .i64 R,AV]
 m:Wri w AM R C bm S
 u:Wri w AU R R bu T
 v:Wri w AV R R bv V
 mu:Ap AM bm AU bu
 mv:Ap AM bm AV bv
 uv:Ap AU bu AV bv
section
variable {w w':World} {bw:Nat} {AM AU AV:Value} {R C:Nat} {bm bu bv:List Nat} {S T V:Nat->Nat->Int}
theorem K9.below(h:K9 w bw AM AU AV R C bm bu bv S T V)(hb:Below w.heap.size w w'):K9 w' bw AM AU AV R C bm bu bv S T V:=⟨h.blk.below hb,h.m.below hb,h.u.below hb,h.v.below hb,h.mu,h.mv,h.uv⟩
theorem K9.nm(h:K9 w bw AM AU AV R C bm bu bv S T V):¬ Zn AM bm bw:=h.m.nzb h.blk dE dE
theorem K9.nu(h:K9 w bw AM AU AV R C bm bu bv S T V):¬ Zn AU bu bw:=h.u.nzb h.blk dE dE
theorem K9.nv(h:K9 w bw AM AU AV R C bm bu bv S T V):¬ Zn AV bv bw:=h.v.nzb h.blk dE dE
theorem K9.putM(h:K9 w bw AM AU AV R C bm bu bv S T V){i b c:Nat}(hi:i<R)(hb:bm[i]?=some b)(hc:c<C){s:Bool}{a:Option Addr}{l k:Nat}{z:Int}(hv:zR w (.agg #[.bool s,.slice a l k]) z):
  K9 ((w.setCell ⟨b,c*2,none⟩ (.bool s)).setCell ⟨b,c*2+1,none⟩ (.slice a l k)) bw AM AU AV R C bm bu bv (zKy S i c z) T V/\zM (fun k=>k=b) w ((w.setCell ⟨b,c*2,none⟩ (.bool s)).setCell ⟨b,c*2+1,none⟩ (.slice a l k)):=by
 obtain⟨h1,h2⟩:=h.m.putc hi hb hc hv;have hz:Zn AM bm b:=.inl (xgd hb);exact⟨⟨h2.blk h.blk (fun e=>h.nm (by rw[e];exact hz)),h1,h.u.keep1 h2 (h.mu b hz),h.v.keep1 h2 (h.mv b hz),h.mu,h.mv,h.uv⟩,h2⟩
theorem K9.putU(h:K9 w bw AM AU AV R C bm bu bv S T V){i b c:Nat}(hi:i<R)(hb:bu[i]?=some b)(hc:c<R){s:Bool}{a:Option Addr}{l k:Nat}{z:Int}(hv:zR w (.agg #[.bool s,.slice a l k]) z):
  K9 ((w.setCell ⟨b,c*2,none⟩ (.bool s)).setCell ⟨b,c*2+1,none⟩ (.slice a l k)) bw AM AU AV R C bm bu bv S (zKy T i c z) V/\zM (fun k=>k=b) w ((w.setCell ⟨b,c*2,none⟩ (.bool s)).setCell ⟨b,c*2+1,none⟩ (.slice a l k)):=by
 obtain⟨h1,h2⟩:=h.u.putc hi hb hc hv;have hz:Zn AU bu b:=.inl (xgd hb);exact⟨⟨h2.blk h.blk (fun e=>h.nu (by rw[e];exact hz)),h.m.keep1 h2 (fun hh=>h.mu b hh hz),h1,h.v.keep1 h2 (h.uv b hz),h.mu,h.mv,h.uv⟩,h2⟩
theorem K9.putV(h:K9 w bw AM AU AV R C bm bu bv S T V){i b c:Nat}(hi:i<R)(hb:bv[i]?=some b)(hc:c<R){s:Bool}{a:Option Addr}{l k:Nat}{z:Int}(hv:zR w (.agg #[.bool s,.slice a l k]) z):
  K9 ((w.setCell ⟨b,c*2,none⟩ (.bool s)).setCell ⟨b,c*2+1,none⟩ (.slice a l k)) bw AM AU AV R C bm bu bv S T (zKy V i c z)/\zM (fun k=>k=b) w ((w.setCell ⟨b,c*2,none⟩ (.bool s)).setCell ⟨b,c*2+1,none⟩ (.slice a l k)):=by
 obtain⟨h1,h2⟩:=h.v.putc hi hb hc hv;have hz:Zn AV bv b:=.inl (xgd hb);exact⟨⟨h2.blk h.blk (fun e=>h.nv (by rw[e];exact hz)),h.m.keep1 h2 (fun hh=>h.mv b hh hz),h.u.keep1 h2 (fun hh=>h.uv b hh hz),h1,h.mu,h.mv,h.uv⟩,h2⟩
theorem K9.congr{S' T' V':Nat->Nat->Int}(h:K9 w bw AM AU AV R C bm bu bv S T V)(e1:∀a,a<R->∀b,b<C->S a b=S' a b)(e2:∀a,a<R->∀b,b<R->T a b=T' a b)(e3:∀a,a<R->∀b,b<R->V a b=V' a b):K9 w bw AM AU AV R C bm bu bv S' T' V':=
 ⟨h.blk,h.m.congr e1,h.u.congr e2,h.v.congr e3,h.mu,h.mv,h.uv⟩
def Z3(AM AU AV:Value)(bm bu bv:List Nat)(b:Nat):Prop:=Zn AM bm b∨Zn AU bu b∨Zn AV bv b
theorem K9.zlt(h:K9 w bw AM AU AV R C bm bu bv S T V){b:Nat}(hb:Z3 AM AU AV bm bu bv b):b<w.heap.size:=by
 rcases hb with hb|hb|hb
 ·exact h.m.zlt hb
 ·exact h.u.zlt hb
 ·exact h.v.zlt hb
end
def KW(Z:Nat->Prop)(w:World)(bw R C:Nat)(x:Bst):Prop:=∃AM AU AV bm bu bv,K9 w bw AM AU AV R C bm bu bv x.s x.t (fun a b=>x.i b a)/\∀b,Z3 AM AU AV bm bu bv b->Z b
theorem KW.below{Z:Nat->Prop}{w w':World}{bw R C:Nat}{x:Bst}(h:KW Z w bw R C x)(hb:Below w.heap.size w w'):KW Z w' bw R C x:=by
 obtain⟨a,b,c,d,e,f,h1,h2⟩:=h;exact⟨a,b,c,d,e,f,h1.below hb,h2⟩
theorem zJK(bw:Nat)(AM AU AV:Value)(R C i j:Nat)(bm bu bv:List Nat)(x:Bst)(kv:Value)(k:Int)(w:World)(h:K9 w bw AM AU AV R C bm bu bv x.s x.t (fun a b=>x.i b a))(hi:i<R)(hj:j<R)(hij:i≠j)(hk:zR w kv k)(hks:Sm k)(hR:R<=1000000)(hC:C<=1000000)
  (hS:∀t,t<C->Sm (x.s i t)/\Sm (x.s j t)/\Sm (k*x.s j t)) (hT:∀t,t<R->Sm (x.t i t)/\Sm (x.t j t)/\Sm (k*x.t j t)) (hV:∀t,t<R->Sm (x.i j t)/\Sm (x.i i t)/\Sm (k*x.i i t)):
  Calls Tryz.prog 82 #[.pointer (some ⟨bw,0,none⟩),.int .i64 i,.int .i64 j,kv] w fun e w'=>(∃u,e= .returned u)/\zM (Z3 AM AU AV bm bu bv) w w'/\K9 w' bw AM AU AV R C bm bu bv (x.add i j k).s (x.add i j k).t (fun a b=>(x.add i j k).i b a):=by
 have HSM:=xgv hS;have HSU:=xgv hT;have HSV:=xgv hV;obtain⟨gm,cm,rfl⟩:=h.m.base oM;obtain⟨gu,cu,rfl⟩:=h.u.base oM;obtain⟨gv,cv,rfl⟩:=h.v.base oM;obtain⟨bMi,hbmi⟩:=h.m.bex hi;obtain⟨bUi,hbui⟩:=h.u.bex hi;obtain⟨bMj,hbmj⟩:=h.m.bex hj;obtain⟨bUj,hbuj⟩:=h.u.bex hj;have HKS:=xgv hks;have HIJ:=xgv hij;obtain⟨kn,ka,kl,kc,kx,rfl,hkx⟩:=id hk;have HKX:=xgw hkx;have hzl:=fun b hb=>h.zlt (b:=b) hb
 clear hS hT hV hks hij hkx;go_enter Tryz.func82,Tryz.ntmps82;go_upto_region 1 with(fail)
 refine zC ?_;intro W0 hW0;obtain⟨hB0,hbk,hs0⟩:=zN hW0;have hK:=h.below hB0;have hkw:=hk.ext (lx hB0);have hO:=zM.of (Z3 (.slice (some ⟨gm,0,none⟩) R cm) (.slice (some ⟨gu,0,none⟩) R cu) (.slice (some ⟨gv,0,none⟩) R cv) bm bu bv) hB0;clear hW0 h;go_wp2;go_loopw [8] (fun jv wr=>∃c:Nat,c<=C/\jv= .int .i64 c/\zM (Z3 (.slice (some ⟨gm,0,none⟩) R cm) (.slice (some ⟨gu,0,none⟩) R cu) (.slice (some ⟨gv,0,none⟩) R cv) bm bu bv) w wr/\Blk wr w.heap.size 51 #[.bool kn,.slice ka kl kc]/\zR wr (.agg #[.bool kn,.slice ka kl kc]) k/\K9 wr bw (.slice (some ⟨gm,0,none⟩) R cm) (.slice (some ⟨gu,0,none⟩) R cu) (.slice (some ⟨gv,0,none⟩) R cv) R C bm bu bv (upR x.s (x.add i j k).s i c) x.t (fun a b=>x.i b a)) (fun jv _=>C-(intOf jv).toNat)
 case atStart=>exact⟨0,by omega,rfl,hO,hbk,hkw,by rw[zED];exact hK⟩
 case round=>
  clear hK hO hbk hkw;obtain⟨c,hc,rfl,hO,hbk,hkw,hK⟩:=hrel;obtain⟨q0,q1,q2,q3,q4,q5,q6,q7,q8⟩:=hK.blk.nine;have lbw:=hK.blk.lt;obtain⟨k1,k2,k3,k4⟩:=hbk.two;have lbk:=hbk.lt;by_cases hlt:c<C
  ·have lg:=hK.zlt (b:=gm) (.inl (.inr rfl))
   have lb:=hK.zlt (b:=bMi) (.inl (.inl (xgd hbmi)));have lb2:=hK.zlt (b:=bMj) (.inl (.inl (xgd hbmj)));have o1:=hK.m.rowc hi hbmi;obtain⟨xs,xa,xl,xc,p1,p2,-,-,hx⟩:=hK.m.elem hi hbmi hlt;rw[zIn]at hx;have o2:=hK.m.rowc hj hbmj;obtain⟨ys,ya,yl,yc,z1,z2,-,-,hy⟩:=hK.m.elem hj hbmj hlt;rw[zNC _ _ HIJ.out]at hy;obtain⟨s1,s2,s3⟩:=HSM.out c hlt;have T1:=xgv s1;have T2:=xgv s2;have T3:=xgv s3;clear s1 s2 s3;go_upto_region 4 with(fail)
   refine zB 35 rfl (RI wr (wr.heap.size) _ 51
     [VP 0 20 bw 0,VP 1 21 bw 0,VP 2 22 bw 0,VP 3 23 bw 2,VSl 4 24 gm R cm,VN 5 25 i,VP 6 26 gm i,VSl 7 27 bMi C C,VN 8 28 c,VP 9 29 bw 0,VP 10 30 bw 0,VP 11 31 bw 0,VP 12 32 bw 2,VSl 13 33 gm R cm,VN 14 34 i,VP 15 35 gm i,VSl 16 36 bMi C C,VN 17 37 c,VP 18 38 bMi (c*2),E 19 39 (.agg #[.bool xs,.slice xa xl xc]),E 20 40 (.agg #[.bool kn,.slice ka kl kc]),VP 21 41 bw 0,VP 22 42 bw 0,VP 23 43 bw 0,VP 24 44 bw 2,VSl 25 45 gm R cm,VN 26 46 j,VP 27 47 gm j,VSl 28 48 bMj C C,VN 29 49 c,VP 30 50 bMj (c*2),E 31 51 (.agg #[.bool ys,.slice ya yl yc]),EI 32 52 (k*x.s j c),EI 33 53 (x.s i c+k*x.s j c),VP 34 54 bMi (c*2)] [] []) kR RI.start (RI.fin kR ?fin1) ?steps1
   case steps1=>
    refine⟨?_,?_,?_,?_,?_,?_,?_,?_,?_,?_,?_,?_,?_,?_,?_,?_,?_,?_,?_,?_,?_,?_,?_,?_,?_,?_,?_,?_,?_,?_,?_,?_,?_,?_,?_,trivial⟩<;>(intro L T wS hL hd hcl hI K hK;try refine zA rfl ?_)
    ·exact xgs (hI.k 0 rfl kR)
    ·exact xgs (hI.e mm0 (hd 0))
    ·exact xgs (hI.e mm1 (hd 1))
    ·exact xgs (hI.e mm2 (hd 2))
    ·have zt3:=hI.e mm3 (hd 3)
     have cc0:=hI.cell q2 oM nom;exact xgu
    ·exact xgs (hI.k 1 rfl kR)
    ·exact xgt (hI.e mm4 (hd 4)) (hI.e mm5 (hd 5))
    ·have zt6:=hI.e mm6 (hd 6)
     have cc0:=hI.cell o1 oM nom;exact xgu
    ·exact xgs (hI.k 8 rfl kR)
    ·exact xgs (hI.k 0 rfl kR)
    ·exact xgs (hI.e mm9 (hd 9))
    ·exact xgs (hI.e yD (hd 10))
    ·exact xgs (hI.e zAB (hd 11))
    ·have zt12:=hI.e zAh (hd 12)
     have cc0:=hI.cell q2 oM nom;exact xgu
    ·exact xgs (hI.k 1 rfl kR)
    ·exact xgt (hI.e zBv (hd 13)) (hI.e zBF (hd 14))
    ·have zt15:=hI.e zCN (hd 15)
     have cc0:=hI.cell o1 oM nom;exact xgu
    ·exact xgs (hI.k 8 rfl kR)
    ·exact xgt (hI.e zCf (hd 16)) (hI.e zCg (hd 17))
    ·have zt18:=hI.e zCh (hd 18)
     have cc0:=hI.cell p1 oM nom;have cc1:=hI.cell p2 oM nom;exact xgu
    ·have zt:=hI.k 7 rfl kR
     have cc0:=hI.cell k1 oM nom;have cc1:=hI.cell k2 oM nom;exact xgu
    ·exact xgs (hI.k 0 rfl kR)
    ·exact xgs (hI.e zEf (hd 21))
    ·exact xgs (hI.e zEg (hd 22))
    ·exact xgs (hI.e zEh (hd 23))
    ·have zt24:=hI.e zGC (hd 24)
     have cc0:=hI.cell q2 oM nom;exact xgu
    ·exact xgs (hI.k 2 rfl kR)
    ·exact xgt (hI.e zGD (hd 25)) (hI.e zHd (hd 26))
    ·have zt27:=hI.e zGE (hd 27)
     have cc0:=hI.cell o2 oM nom;exact xgu
    ·exact xgs (hI.k 8 rfl kR)
    ·exact xgt (hI.e zIS (hd 28)) (hI.e zIT (hd 29))
    ·have zt30:=hI.e zJD (hd 30)
     have cc0:=hI.cell z1 oM nom;have cc1:=hI.cell z2 oM nom;exact xgu
    ·have zt20:=hI.e zD6 (hd 20)
     have zt31:=hI.e zMG (hd 31);go_simp;refine(zAQ _ _ k (x.s j c) _ (hkw.ext hI.lext) (hy.ext hI.lext) HKS.out T2.out).mono ?_;exact xgo
    ·have zt19:=hI.e zDW (hd 19)
     obtain⟨v32,zt32,h32⟩:=hI.vi zKe (hd 32);go_simp;refine(zBR _ _ (x.s i c) (k*x.s j c) _ (hx.ext hI.lext) h32 T1.out T3.out).mono ?_;exact xgo
    ·exact xgt (hI.e mm7 (hd 7)) (hI.e mm8 (hd 8))
   intro w9 hlw9 hbw9 holdw9 T hT;simp only[Fin,E,EI,VP,VSl,VN,xgg,xgh,xgi,xgj]at hT;obtain⟨va32,ha32,va33,ha33,rfl⟩:=hT;simp only[xgl,xgk];obtain⟨pn,pa,pl,pc,px,rfl,hpx⟩:=id ha33;have HPX:=xgw hpx;clear hpx;have hK9:=hK.below hbw9;have hbk9:=hbk.below hbw9;have hkw9:=hkw.ext (lx hbw9);obtain⟨sn,sa,sl,sc,y1,y2,y3,y4,-⟩:=hK9.m.elem hi hbmi hlt;obtain⟨hP,hOP⟩:=hK9.putM hi hbmi hlt ha33;rw[zF8 (by show _=jL x.s i j k i c;unfold jL;rw[if_pos rfl])]at hP;have hO9:=hO.trans (zM.of _ hbw9);have hZ:Z3 (.slice (some ⟨gm,0,none⟩) R cm) (.slice (some ⟨gu,0,none⟩) R cu) (.slice (some ⟨gv,0,none⟩) R cv) bm bu bv bMi:=.inl (.inl (xgd hbmi));have hne:w.heap.size≠bMi:=by have:=hzl _ hZ;omega
   clear o1 o2 p1 p2 z1 z2 k1 k2 k3 k4;go_wp2;go_roundw
   case rel=>exact⟨c+1,by omega,by simp,hO9.trans (hOP.mono fun k _ hk=>by rw[hk];exact hZ),hOP.blk hbk9 hne,hkw9.ext hOP.lext,hP⟩
   case measure=>simp[intOf];omega
  ·have hcC:c=C:=by omega
   replace hK:K9 wr bw (.slice (some ⟨gm,0,none⟩) R cm) (.slice (some ⟨gu,0,none⟩) R cu) (.slice (some ⟨gv,0,none⟩) R cv) R C bm bu bv (x.add i j k).s x.t (fun a b=>x.i b a):=hK.congr (fun a _ b hb=>by
      show upR _ _ i c a b=_;unfold upR;by_cases h1:a=i
      ·rw[if_pos ⟨h1,by omega⟩]
      ·rw[if_neg (fun h=>h1 h.1)]
       show _=jL x.s i j k a b;unfold jL;rw[if_neg h1]) (fun _ _ _ _=>rfl) (fun _ _ _ _=>rfl)
   go_wp2;go_loopw [9] (fun jv wr=>∃c:Nat,c<=R/\jv= .int .i64 c/\zM (Z3 (.slice (some ⟨gm,0,none⟩) R cm) (.slice (some ⟨gu,0,none⟩) R cu) (.slice (some ⟨gv,0,none⟩) R cv) bm bu bv) w wr/\Blk wr w.heap.size 51 #[.bool kn,.slice ka kl kc]/\zR wr (.agg #[.bool kn,.slice ka kl kc]) k/\K9 wr bw (.slice (some ⟨gm,0,none⟩) R cm) (.slice (some ⟨gu,0,none⟩) R cu) (.slice (some ⟨gv,0,none⟩) R cv) R C bm bu bv (x.add i j k).s (upR x.t (x.add i j k).t i c) (fun a b=>x.i b a)) (fun jv _=>R-(intOf jv).toNat)
   case atStart=>exact⟨0,by omega,rfl,hO,hbk,hkw,by rw[zED];exact hK⟩
   case round=>
    clear hK hO hbk hkw;obtain⟨c,hc,rfl,hO,hbk,hkw,hK⟩:=hrel;obtain⟨q0,q1,q2,q3,q4,q5,q6,q7,q8⟩:=hK.blk.nine;have lbw:=hK.blk.lt;obtain⟨k1,k2,k3,k4⟩:=hbk.two;have lbk:=hbk.lt;by_cases hlt:c<R
    ·have lg:=hK.zlt (b:=gu) (.inr (.inl (.inr rfl)))
     have lb:=hK.zlt (b:=bUi) (.inr (.inl (.inl (xgd hbui))));have lb2:=hK.zlt (b:=bUj) (.inr (.inl (.inl (xgd hbuj))));have o1:=hK.u.rowc hi hbui;obtain⟨xs,xa,xl,xc,p1,p2,-,-,hx⟩:=hK.u.elem hi hbui hlt;rw[zIn]at hx;have o2:=hK.u.rowc hj hbuj;obtain⟨ys,ya,yl,yc,z1,z2,-,-,hy⟩:=hK.u.elem hj hbuj hlt;rw[zNC _ _ HIJ.out]at hy;obtain⟨s1,s2,s3⟩:=HSU.out c hlt;have T1:=xgv s1;have T2:=xgv s2;have T3:=xgv s3;clear s1 s2 s3;go_upto_region 8 with(fail)
     refine zB 35 rfl (RI wr (wr.heap.size) _ 51
       [VP 0 64 bw 0,VP 1 65 bw 0,VP 2 66 bw 3,VP 3 67 bw 5,VSl 4 68 gu R cu,VN 5 69 i,VP 6 70 gu i,VSl 7 71 bUi R R,VN 8 72 c,VP 9 73 bw 0,VP 10 74 bw 0,VP 11 75 bw 3,VP 12 76 bw 5,VSl 13 77 gu R cu,VN 14 78 i,VP 15 79 gu i,VSl 16 80 bUi R R,VN 17 81 c,VP 18 82 bUi (c*2),E 19 83 (.agg #[.bool xs,.slice xa xl xc]),E 20 84 (.agg #[.bool kn,.slice ka kl kc]),VP 21 85 bw 0,VP 22 86 bw 0,VP 23 87 bw 3,VP 24 88 bw 5,VSl 25 89 gu R cu,VN 26 90 j,VP 27 91 gu j,VSl 28 92 bUj R R,VN 29 93 c,VP 30 94 bUj (c*2),E 31 95 (.agg #[.bool ys,.slice ya yl yc]),EI 32 96 (k*x.t j c),EI 33 97 (x.t i c+k*x.t j c),VP 34 98 bUi (c*2)] [] []) kR RI.start (RI.fin kR ?fin2) ?steps2
     case steps2=>
      refine⟨?_,?_,?_,?_,?_,?_,?_,?_,?_,?_,?_,?_,?_,?_,?_,?_,?_,?_,?_,?_,?_,?_,?_,?_,?_,?_,?_,?_,?_,?_,?_,?_,?_,?_,?_,trivial⟩<;>(intro L T wS hL hd hcl hI K hK;try refine zA rfl ?_)
      ·exact xgs (hI.k 0 rfl kR)
      ·exact xgs (hI.e mm0 (hd 0))
      ·exact xgs (hI.e mm1 (hd 1))
      ·exact xgs (hI.e mm2 (hd 2))
      ·have zt3:=hI.e mm3 (hd 3)
       have cc0:=hI.cell q5 oM nom;exact xgu
      ·exact xgs (hI.k 1 rfl kR)
      ·exact xgt (hI.e mm4 (hd 4)) (hI.e mm5 (hd 5))
      ·have zt6:=hI.e mm6 (hd 6)
       have cc0:=hI.cell o1 oM nom;exact xgu
      ·exact xgs (hI.k 9 rfl kR)
      ·exact xgs (hI.k 0 rfl kR)
      ·exact xgs (hI.e mm9 (hd 9))
      ·exact xgs (hI.e yD (hd 10))
      ·exact xgs (hI.e zAB (hd 11))
      ·have zt12:=hI.e zAh (hd 12)
       have cc0:=hI.cell q5 oM nom;exact xgu
      ·exact xgs (hI.k 1 rfl kR)
      ·exact xgt (hI.e zBv (hd 13)) (hI.e zBF (hd 14))
      ·have zt15:=hI.e zCN (hd 15)
       have cc0:=hI.cell o1 oM nom;exact xgu
      ·exact xgs (hI.k 9 rfl kR)
      ·exact xgt (hI.e zCf (hd 16)) (hI.e zCg (hd 17))
      ·have zt18:=hI.e zCh (hd 18)
       have cc0:=hI.cell p1 oM nom;have cc1:=hI.cell p2 oM nom;exact xgu
      ·have zt:=hI.k 7 rfl kR
       have cc0:=hI.cell k1 oM nom;have cc1:=hI.cell k2 oM nom;exact xgu
      ·exact xgs (hI.k 0 rfl kR)
      ·exact xgs (hI.e zEf (hd 21))
      ·exact xgs (hI.e zEg (hd 22))
      ·exact xgs (hI.e zEh (hd 23))
      ·have zt24:=hI.e zGC (hd 24)
       have cc0:=hI.cell q5 oM nom;exact xgu
      ·exact xgs (hI.k 2 rfl kR)
      ·exact xgt (hI.e zGD (hd 25)) (hI.e zHd (hd 26))
      ·have zt27:=hI.e zGE (hd 27)
       have cc0:=hI.cell o2 oM nom;exact xgu
      ·exact xgs (hI.k 9 rfl kR)
      ·exact xgt (hI.e zIS (hd 28)) (hI.e zIT (hd 29))
      ·have zt30:=hI.e zJD (hd 30)
       have cc0:=hI.cell z1 oM nom;have cc1:=hI.cell z2 oM nom;exact xgu
      ·have zt20:=hI.e zD6 (hd 20)
       have zt31:=hI.e zMG (hd 31);go_simp;refine(zAQ _ _ k (x.t j c) _ (hkw.ext hI.lext) (hy.ext hI.lext) HKS.out T2.out).mono ?_;exact xgo
      ·have zt19:=hI.e zDW (hd 19)
       obtain⟨v32,zt32,h32⟩:=hI.vi zKe (hd 32);go_simp;refine(zBR _ _ (x.t i c) (k*x.t j c) _ (hx.ext hI.lext) h32 T1.out T3.out).mono ?_;exact xgo
      ·exact xgt (hI.e mm7 (hd 7)) (hI.e mm8 (hd 8))
     intro w9 hlw9 hbw9 holdw9 T hT;simp only[Fin,E,EI,VP,VSl,VN,xgg,xgh,xgi,xgj]at hT;obtain⟨va32,ha32,va33,ha33,rfl⟩:=hT;simp only[xgl,xgk];obtain⟨pn,pa,pl,pc,px,rfl,hpx⟩:=id ha33;have HPX:=xgw hpx;clear hpx;have hK9:=hK.below hbw9;have hbk9:=hbk.below hbw9;have hkw9:=hkw.ext (lx hbw9);obtain⟨sn,sa,sl,sc,y1,y2,y3,y4,-⟩:=hK9.u.elem hi hbui hlt;obtain⟨hP,hOP⟩:=hK9.putU hi hbui hlt ha33;rw[zF8 (by show _=jL x.t i j k i c;unfold jL;rw[if_pos rfl])]at hP;have hO9:=hO.trans (zM.of _ hbw9);have hZ:Z3 (.slice (some ⟨gm,0,none⟩) R cm) (.slice (some ⟨gu,0,none⟩) R cu) (.slice (some ⟨gv,0,none⟩) R cv) bm bu bv bUi:=.inr (.inl (.inl (xgd hbui)));have hne:w.heap.size≠bUi:=by have:=hzl _ hZ;omega
     clear o1 o2 p1 p2 z1 z2 k1 k2 k3 k4;go_wp2;go_roundw
     case rel=>exact⟨c+1,by omega,by simp,hO9.trans (hOP.mono fun k _ hk=>by rw[hk];exact hZ),hOP.blk hbk9 hne,hkw9.ext hOP.lext,hP⟩
     case measure=>simp[intOf];omega
    ·have hcC:c=R:=by omega
     replace hK:K9 wr bw (.slice (some ⟨gm,0,none⟩) R cm) (.slice (some ⟨gu,0,none⟩) R cu) (.slice (some ⟨gv,0,none⟩) R cv) R C bm bu bv (x.add i j k).s (x.add i j k).t (fun a b=>x.i b a):=hK.congr (fun _ _ _ _=>rfl) (fun a _ b hb=>by
        show upR _ _ i c a b=_;unfold upR;by_cases h1:a=i
        ·rw[if_pos ⟨h1,by omega⟩]
        ·rw[if_neg (fun h=>h1 h.1)]
         show _=jL x.t i j k a b;unfold jL;rw[if_neg h1]) (fun _ _ _ _=>rfl)
     go_wp2;go_loopw [10] (fun jv wr=>∃c:Nat,c<=R/\jv= .int .i64 c/\zM (Z3 (.slice (some ⟨gm,0,none⟩) R cm) (.slice (some ⟨gu,0,none⟩) R cu) (.slice (some ⟨gv,0,none⟩) R cv) bm bu bv) w wr/\Blk wr w.heap.size 51 #[.bool kn,.slice ka kl kc]/\zR wr (.agg #[.bool kn,.slice ka kl kc]) k/\K9 wr bw (.slice (some ⟨gm,0,none⟩) R cm) (.slice (some ⟨gu,0,none⟩) R cu) (.slice (some ⟨gv,0,none⟩) R cv) R C bm bu bv (x.add i j k).s (x.add i j k).t (upC (fun a b=>x.i b a) (fun a b=>(x.add i j k).i b a) j c)) (fun jv _=>R-(intOf jv).toNat)
     case atStart=>exact⟨0,by omega,rfl,hO,hbk,hkw,by rw[zIm];exact hK⟩
     case round=>
      clear hK hO hbk hkw;obtain⟨c,hc,rfl,hO,hbk,hkw,hK⟩:=hrel;obtain⟨q0,q1,q2,q3,q4,q5,q6,q7,q8⟩:=hK.blk.nine;have lbw:=hK.blk.lt;obtain⟨k1,k2,k3,k4⟩:=hbk.two;have lbk:=hbk.lt;by_cases hlt:c<R
      ·have lg:=hK.zlt (b:=gv) (.inr (.inr (.inr rfl)))
       obtain⟨bVr,hbvr⟩:=hK.v.bex hlt;have lb:=hK.zlt (b:=bVr) (.inr (.inr (.inl (xgd hbvr))));have o1:=hK.v.rowc hlt hbvr;obtain⟨xs,xa,xl,xc,p1,p2,-,-,hx⟩:=hK.v.elem hlt hbvr hj;rw[zNB]at hx;obtain⟨ys,ya,yl,yc,z1,z2,-,-,hy⟩:=hK.v.elem hlt hbvr hi;rw[zPA _ _ (Ne.symm HIJ.out)]at hy;obtain⟨s1,s2,s3⟩:=HSV.out c hlt;have T1:=xgv s1;have T2:=xgv s2;have T3:=xgv s3;clear s1 s2 s3;go_upto_region 12 with(fail)
       refine zB 35 rfl (RI wr (wr.heap.size) _ 51
         [VP 0 108 bw 0,VP 1 109 bw 0,VP 2 110 bw 6,VP 3 111 bw 8,VSl 4 112 gv R cv,VN 5 113 c,VP 6 114 gv c,VSl 7 115 bVr R R,VN 8 116 j,VP 9 117 bw 0,VP 10 118 bw 0,VP 11 119 bw 6,VP 12 120 bw 8,VSl 13 121 gv R cv,VN 14 122 c,VP 15 123 gv c,VSl 16 124 bVr R R,VN 17 125 j,VP 18 126 bVr (j*2),E 19 127 (.agg #[.bool xs,.slice xa xl xc]),E 20 128 (.agg #[.bool kn,.slice ka kl kc]),VP 21 129 bw 0,VP 22 130 bw 0,VP 23 131 bw 6,VP 24 132 bw 8,VSl 25 133 gv R cv,VN 26 134 c,VP 27 135 gv c,VSl 28 136 bVr R R,VN 29 137 i,VP 30 138 bVr (i*2),E 31 139 (.agg #[.bool ys,.slice ya yl yc]),EI 32 140 (k*x.i i c),EI 33 141 (x.i j c-k*x.i i c),VP 34 142 bVr (j*2)] [] []) kR RI.start (RI.fin kR ?fin3) ?steps3
       case steps3=>
        refine⟨?_,?_,?_,?_,?_,?_,?_,?_,?_,?_,?_,?_,?_,?_,?_,?_,?_,?_,?_,?_,?_,?_,?_,?_,?_,?_,?_,?_,?_,?_,?_,?_,?_,?_,?_,trivial⟩<;>(intro L T wS hL hd hcl hI K hK;try refine zA rfl ?_)
        ·exact xgs (hI.k 0 rfl kR)
        ·exact xgs (hI.e mm0 (hd 0))
        ·exact xgs (hI.e mm1 (hd 1))
        ·exact xgs (hI.e mm2 (hd 2))
        ·have zt3:=hI.e mm3 (hd 3)
         have cc0:=hI.cell q8 oM nom;exact xgu
        ·exact xgs (hI.k 10 rfl kR)
        ·exact xgt (hI.e mm4 (hd 4)) (hI.e mm5 (hd 5))
        ·have zt6:=hI.e mm6 (hd 6)
         have cc0:=hI.cell o1 oM nom;exact xgu
        ·exact xgs (hI.k 2 rfl kR)
        ·exact xgs (hI.k 0 rfl kR)
        ·exact xgs (hI.e mm9 (hd 9))
        ·exact xgs (hI.e yD (hd 10))
        ·exact xgs (hI.e zAB (hd 11))
        ·have zt12:=hI.e zAh (hd 12)
         have cc0:=hI.cell q8 oM nom;exact xgu
        ·exact xgs (hI.k 10 rfl kR)
        ·exact xgt (hI.e zBv (hd 13)) (hI.e zBF (hd 14))
        ·have zt15:=hI.e zCN (hd 15)
         have cc0:=hI.cell o1 oM nom;exact xgu
        ·exact xgs (hI.k 2 rfl kR)
        ·exact xgt (hI.e zCf (hd 16)) (hI.e zCg (hd 17))
        ·have zt18:=hI.e zCh (hd 18)
         have cc0:=hI.cell p1 oM nom;have cc1:=hI.cell p2 oM nom;exact xgu
        ·have zt:=hI.k 7 rfl kR
         have cc0:=hI.cell k1 oM nom;have cc1:=hI.cell k2 oM nom;exact xgu
        ·exact xgs (hI.k 0 rfl kR)
        ·exact xgs (hI.e zEf (hd 21))
        ·exact xgs (hI.e zEg (hd 22))
        ·exact xgs (hI.e zEh (hd 23))
        ·have zt24:=hI.e zGC (hd 24)
         have cc0:=hI.cell q8 oM nom;exact xgu
        ·exact xgs (hI.k 10 rfl kR)
        ·exact xgt (hI.e zGD (hd 25)) (hI.e zHd (hd 26))
        ·have zt27:=hI.e zGE (hd 27)
         have cc0:=hI.cell o1 oM nom;exact xgu
        ·exact xgs (hI.k 1 rfl kR)
        ·exact xgt (hI.e zIS (hd 28)) (hI.e zIT (hd 29))
        ·have zt30:=hI.e zJD (hd 30)
         have cc0:=hI.cell z1 oM nom;have cc1:=hI.cell z2 oM nom;exact xgu
        ·have zt20:=hI.e zD6 (hd 20)
         have zt31:=hI.e zMG (hd 31);go_simp;refine(zAQ _ _ k (x.i i c) _ (hkw.ext hI.lext) (hy.ext hI.lext) HKS.out T2.out).mono ?_;exact xgo
        ·have zt19:=hI.e zDW (hd 19)
         obtain⟨v32,zt32,h32⟩:=hI.vi zKe (hd 32);go_simp;refine(zB0 _ _ (x.i j c) (k*x.i i c) _ (hx.ext hI.lext) h32 T1.out T3.out).mono ?_;exact xgo
        ·exact xgt (hI.e mm7 (hd 7)) (hI.e mm8 (hd 8))
       intro w9 hlw9 hbw9 holdw9 T hT;simp only[Fin,E,EI,VP,VSl,VN,xgg,xgh,xgi,xgj]at hT;obtain⟨va32,ha32,va33,ha33,rfl⟩:=hT;simp only[xgl,xgk];obtain⟨pn,pa,pl,pc,px,rfl,hpx⟩:=id ha33;have HPX:=xgw hpx;clear hpx;have hK9:=hK.below hbw9;have hbk9:=hbk.below hbw9;have hkw9:=hkw.ext (lx hbw9);obtain⟨sn,sa,sl,sc,y1,y2,y3,y4,-⟩:=hK9.v.elem hlt hbvr hj;obtain⟨hP,hOP⟩:=hK9.putV hlt hbvr hj ha33;rw[zLb (by show _=jL x.i j i (-k) j c;unfold jL;rw[if_pos rfl,Int.neg_mul,Int.sub_eq_add_neg])]at hP;have hO9:=hO.trans (zM.of _ hbw9);have hZ:Z3 (.slice (some ⟨gm,0,none⟩) R cm) (.slice (some ⟨gu,0,none⟩) R cu) (.slice (some ⟨gv,0,none⟩) R cv) bm bu bv bVr:=.inr (.inr (.inl (xgd hbvr)));have hne:w.heap.size≠bVr:=by have:=hzl _ hZ;omega
       clear o1 p1 p2 z1 z2 k1 k2 k3 k4;go_wp2;go_roundw
       case rel=>exact⟨c+1,by omega,by simp,hO9.trans (hOP.mono fun k _ hk=>by rw[hk];exact hZ),hOP.blk hbk9 hne,hkw9.ext hOP.lext,hP⟩
       case measure=>simp[intOf];omega
      ·have hcC:c=R:=by omega
       replace hK:K9 wr bw (.slice (some ⟨gm,0,none⟩) R cm) (.slice (some ⟨gu,0,none⟩) R cu) (.slice (some ⟨gv,0,none⟩) R cv) R C bm bu bv (x.add i j k).s (x.add i j k).t (fun a b=>(x.add i j k).i b a):=hK.congr (fun _ _ _ _=>rfl) (fun _ _ _ _=>rfl) (fun a ha b _=>by
          show upC _ _ j c a b=_;unfold upC;by_cases h1:b=j
          ·rw[if_pos ⟨h1,by omega⟩]
          ·rw[if_neg (fun h=>h1 h.1)]
           show _=jL x.i j i (-k) b a;unfold jL;rw[if_neg h1])
       go_wp2;exact bodyPost_end (results_none rfl _ _ _) rfl ⟨⟨_,rfl⟩,hO,hK⟩
end Go.Proofs.YtgnmdddaiefooaaGreat
