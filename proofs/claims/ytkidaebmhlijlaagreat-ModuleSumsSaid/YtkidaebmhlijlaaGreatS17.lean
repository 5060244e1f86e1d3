/- Joined. -/
import Derived.Lib.AppendZeros
import Derived.Lib.AppendZerosOnto
import Derived.Lib.Overlaps
import Derived.Laws.CopyRow
import Derived.Laws.Externs
import Derived.Test.YtkidaebmhlijlaaGreatS14
import Derived.Test.YtkidaebmhlijlaaGreatS15
set_option linter.unusedVariables false
set_option linter.unusedSimpArgs false
set_option linter.unusedSectionVars false
set_option maxHeartbeats 16000000
set_option maxRecDepth 100000
variable{cs:Array Go.Value}{e e0:Bool}{B Cs Ct b base bw cap g i j k n o r:Nat}{κ ρ:Nat->Nat}{Z:Nat->Prop}{t:Go.TypeId}{Ah v:Go.Value}{w w':Go.World}
namespace Go.Proofs.YtkidaebmhlijlaaGreat
open Go.RowKit
def zD7(e:Bool)(Z:Nat->Prop)(w:World)(bw:Nat)(Ah:Value)(n Cs Ct:Nat)(x:Bst):Prop:=
 if e=true then ∃Au Av bss bst bsi,Blk w bw tHW #[Ah,Au,Av]/\zFS w Ah Au Av n Cs Ct bss bst bsi x.s x.t x.i/\∀b,b∈bss∨b∈bst∨b∈bsi->Z b
 else Ct=0/\∃Au Av bss,Blk w bw tHW #[Ah,Au,Av]/\Wri w Ah n Cs bss x.s/\zE2 w Au n/\zE2 w Av n/\∀b,b∈bss->Z b
theorem zFS.below{As At Ai:Value}{bss bst bsi:List Nat}{S T I:Nat->Nat->Int}(h:zFS w As At Ai n Cs Ct bss bst bsi S T I)(hb:Below w.heap.size w w'):zFS w' As At Ai n Cs Ct bss bst bsi S T I:=
 ⟨h.s.below hb,h.t.below hb,h.i.below hb,h.st,h.si,h.ti,h.ast,h.asi,h.ati⟩
section
variable {e:Bool} {Z:Nat->Prop} {w w':World} {bw:Nat} {Ah:Value} {n Cs Ct:Nat} {x:Bst}
theorem zD7.below(h:zD7 e Z w bw Ah n Cs Ct x)(hb:Below w.heap.size w w'):zD7 e Z w' bw Ah n Cs Ct x:=by
 unfold zD7 at h ⊢
 split at h
 ·rename_i he
  rw[if_pos he];obtain⟨Au,Av,b1,b2,b3,h1,h2,h3⟩:=h;exact⟨Au,Av,b1,b2,b3,h1.below hb,h2.below hb,h3⟩
 rename_i he;rw[if_neg he];obtain⟨h0,Au,Av,b1,h1,h2,h3,h4,h5⟩:=h;exact⟨h0,Au,Av,b1,h1.below hb,h2.below hb,h3.below hb,h4.below hb,h5⟩
theorem zD7.wri(h:zD7 e Z w bw Ah n Cs Ct x):∃bss,Wri w Ah n Cs bss x.s/\∀b,b∈bss->Z b:=by
 unfold zD7 at h;split at h
 ·obtain⟨Au,Av,b1,b2,b3,h1,h2,h3⟩:=h
  exact⟨b1,h2.s,fun b hb=>h3 b (.inl hb)⟩
 obtain⟨h0,Au,Av,b1,h1,h2,h3,h4,h5⟩:=h;exact⟨b1,h2,h5⟩
theorem zD7.blk(h:zD7 e Z w bw Ah n Cs Ct x):∃Au Av,Blk w bw tHW #[Ah,Au,Av]:=by
 unfold zD7 at h;split at h
 ·obtain⟨Au,Av,b1,b2,b3,h1,-⟩:=h
  exact⟨Au,Av,h1⟩
 obtain⟨h0,Au,Av,b1,h1,-⟩:=h;exact⟨Au,Av,h1⟩
theorem qG.widen{Z':Nat->Prop}(h:qG Z w w')(hz:∀k,Z k->Z' k):qG Z' w w':=h.mono fun k _ hk=>hz k hk
theorem zYQ(hB:BSm B){kv:Value}{k:Int}(h:zD7 e Z w bw Ah n Cs Ct x)(hok:okB B n Cs Ct x)(hi:i<n)(hj:j<n)(hij:i≠j)(hk:jT w kv k)
  (hn:n<=1000000) (hCs:Cs<=1000000) (hCt:Ct<=1000000) (ha:zFI B n Cs Ct x i j k):
  Calls Tryz.prog 144 #[.pointer (some ⟨bw,0,none⟩),.int .i64 i,.int .i64 j,kv] w fun r w'=>(∃u,r= .returned u)/\qG Z w w'/\zD7 e Z w' bw Ah n Cs Ct (x.add i j k):=by
 obtain⟨a1,a2,a3,a4⟩:=ha;obtain⟨o1,o2,o3⟩:=hok;have hS:zLI Cs x.s i j k:=fun t ht=>⟨hB.sm _ (o1 i hi t ht),hB.sm _ (o1 j hj t ht),hB.sm _ (a2 t ht)⟩
 unfold zD7 at h ⊢
 split at h
 ·rename_i he
  obtain⟨Au,Av,b1,b2,b3,h1,h2,h3⟩:=h;refine(zUb bw Ah Au Av n Cs Ct i j b1 b2 b3 x.s x.t x.i kv k w h1 h2 hi hj hij hk hn hCs hCt hS (fun t ht=>⟨hB.sm _ (o2 i hi t ht),hB.sm _ (o2 j hj t ht),hB.sm _ (a3 t ht).1⟩)
   (fun t ht=>⟨hB.sm _ (o3 j hj t ht),hB.sm _ (o3 i hi t ht),hB.sm _ (by rw[yD,zT];exact(a3 t ht).2)⟩) (hB.sm _ a1)).mono ?_
  rintro r w' ⟨hu,k1,k2,k3⟩;rw[if_pos he];exact⟨hu,k1.widen h3,Au,Av,b1,b2,b3,k2,k3,h3⟩
 rename_i he;obtain⟨h0,Au,Av,b1,h1,h2,h3,h4,h5⟩:=h;refine(zSs bw Ah Au Av n Cs i j b1 x.s kv k w h1 h2 h3 h4 hi hj hij hk hn hCs hS (hB.sm _ a1)).mono ?_;rintro r w' ⟨hu,k1,k2,k3,k4,k5⟩;rw[if_neg he];exact⟨hu,k1.widen h5,h0,Au,Av,b1,k2,k3,k4,k5,h5⟩
theorem zYV(hB:BSm B)(h:zD7 e Z w bw Ah n Cs Ct x)(hok:okB B n Cs Ct x)(hi:i<n)(hn:n<=1000000)(hCs:Cs<=1000000)(hCt:Ct<=1000000):
  Calls Tryz.prog 146 #[.pointer (some ⟨bw,0,none⟩),.int .i64 i] w fun r w'=>(∃u,r= .returned u)/\qG Z w w'/\zD7 e Z w' bw Ah n Cs Ct (x.neg i):=by
 obtain⟨o1,o2,o3⟩:=hok;unfold zD7 at h ⊢
 split at h
 ·rename_i he
  obtain⟨Au,Av,b1,b2,b3,h1,h2,h3⟩:=h;refine(zUd bw Ah Au Av n Cs Ct i b1 b2 b3 x.s x.t x.i w h1 h2 hi hn hCs hCt (fun a ha b hb=>hB.sm _ (o1 a ha b hb)) (fun a ha b hb=>hB.sm _ (o2 a ha b hb)) (fun a ha b hb=>hB.sm _ (o3 a ha b hb))).mono ?_;rintro r w' ⟨hu,k1,k2,k3⟩;rw[if_pos he];exact⟨hu,k1.widen h3,Au,Av,b1,b2,b3,k2,k3,h3⟩
 rename_i he;obtain⟨h0,Au,Av,b1,h1,h2,h3,h4,h5⟩:=h;refine(zSu bw Ah Au Av n Cs i b1 x.s w h1 h2 h3 h4 hi hn hCs (fun a ha b hb=>hB.sm _ (o1 a ha b hb))).mono ?_;rintro r w' ⟨hu,k1,k2,k3,k4,k5⟩;rw[if_neg he];exact⟨hu,k1.widen h5,h0,Au,Av,b1,k2,k3,k4,k5,h5⟩
structure zRp(B n Cs Ct:Nat)(x:Bst)(i j:Nat)(a b c d:Int):Prop where
 kk:a.natAbs<B/\b.natAbs<B/\c.natAbs<B/\d.natAbs<B
 ss:∀t,t<Cs->(a*x.s i t).natAbs<B/\(b*x.s j t).natAbs<B/\(c*x.s i t).natAbs<B/\(d*x.s j t).natAbs<B
 tt:∀t,t<Ct->(a*x.t i t).natAbs<B/\(b*x.t j t).natAbs<B/\(c*x.t i t).natAbs<B/\(d*x.t j t).natAbs<B
 ii:∀t,t<Ct->(d*x.i i t).natAbs<B/\(c*x.i j t).natAbs<B/\(b*x.i i t).natAbs<B/\(a*x.i j t).natAbs<B
 oo:okB B n Cs Ct (x.mix i j a b c d)
theorem zYr(hB:BSm B){mv:Value}{a b c d:Int}(h:zD7 e Z w bw Ah n Cs Ct x)(hok:okB B n Cs Ct x)(hi:i<n)(hj:j<n)(hij:i≠j)(hm:M4V w mv a b c d)
  (hn:n<=1000000) (hCs:Cs<=1000000) (hCt:Ct<=1000000) (ha:zRp B n Cs Ct x i j a b c d):
  Calls Tryz.prog 145 #[.pointer (some ⟨bw,0,none⟩),.int .i64 i,.int .i64 j,mv] w fun r w'=>(∃u,r= .returned u)/\qG Z w w'/\zD7 e Z w' bw Ah n Cs Ct (x.mix i j a b c d):=by
 obtain⟨⟨a1,a2,a3,a4⟩,a_s,at_,ai,ao⟩:=ha;obtain⟨o1,o2,o3⟩:=hok;have hK:Sm a/\Sm b/\Sm c/\Sm d:=⟨hB.sm _ a1,hB.sm _ a2,hB.sm _ a3,hB.sm _ a4⟩;have hS:zQQ Cs (x.s i) (x.s j) a b c d:=fun t ht=>by
  obtain⟨q1,q2,q3,q4⟩:=a_s t ht;exact⟨hB.sm _ (o1 i hi t ht),hB.sm _ (o1 j hj t ht),hB.sm _ q1,hB.sm _ q2,hB.sm _ q3,hB.sm _ q4⟩
 unfold zD7 at h ⊢
 split at h
 ·rename_i he
  obtain⟨Au,Av,b1,b2,b3,h1,h2,h3⟩:=h;refine(zUc bw Ah Au Av mv n Cs Ct i j b1 b2 b3 x.s x.t x.i a b c d w h1 h2 hi hj hij hm hn hCs hCt hS (fun t ht=>by
   obtain⟨q1,q2,q3,q4⟩:=at_ t ht;exact⟨hB.sm _ (o2 i hi t ht),hB.sm _ (o2 j hj t ht),hB.sm _ q1,hB.sm _ q2,hB.sm _ q3,hB.sm _ q4⟩) (fun t ht=>by
   obtain⟨q1,q2,q3,q4⟩:=ai t ht;exact⟨hB.sm _ (o3 i hi t ht),hB.sm _ (o3 j hj t ht),hB.sm _ q1,hB.sm _ (by rw[yD,zT];exact q2),hB.sm _ (by rw[yD,zT];exact q3),hB.sm _ q4⟩) hK).mono ?_
  rintro r w' ⟨hu,k1,k2,k3⟩;rw[if_pos he];exact⟨hu,k1.widen h3,Au,Av,b1,b2,b3,k2,k3,h3⟩
 rename_i he;obtain⟨h0,Au,Av,b1,h1,h2,h3,h4,h5⟩:=h;refine(zSt bw Ah Au Av mv n Cs i j b1 x.s a b c d w h1 h2 h3 h4 hi hj hij hm hn hCs hS hK).mono ?_;rintro r w' ⟨hu,k1,k2,k3,k4,k5⟩;rw[if_neg he];exact⟨hu,k1.widen h5,h0,Au,Av,b1,k2,k3,k4,k5,h5⟩
end
def zEg(bw:Nat):Array Value:=#[.func (.func 144) #[.pointer (some ⟨bw,0,none⟩)] #[],.func (.func 145) #[.pointer (some ⟨bw,0,none⟩)] #[],.func (.func 146) #[.pointer (some ⟨bw,0,none⟩)] #[]]
inductive zOq (x:Bst) (r m c:Nat):Bst->Prop
 |add:x.s m c%x.s r c=0->zOq x r m c (x.add m r (-(x.s m c/x.s r c)))
 |mix (s t:Int):¬ x.s m c%x.s r c=0->Bez (x.s r c) (x.s m c) s t->zOq x r m c (x.mix r m s t (-(x.s m c/((Int.gcd (x.s r c) (x.s m c):Nat):Int))) (x.s r c/((Int.gcd (x.s r c) (x.s m c):Nat):Int)))
abbrev zDy:TypeId:=169
theorem zD7.row{a:Nat}{x:Bst}(h:zD7 e Z w bw (.slice (some ⟨g,0,none⟩) a cap) n Cs Ct x)(hi:i<n):
  ∃b,w.cell? ⟨g,i,none⟩=some (.slice (some ⟨b,0,none⟩) Cs Cs)/\jQ w b (yL Cs (x.s i))/\g<w.heap.size:=by
 obtain⟨bss,hw,-⟩:=h.wri;obtain⟨g1,b,eg,hg,hb,-,o1,-⟩:=qA.at_ hw (i:=i) (by rw[hw.len];exact hi);obtain rfl:g=g1:=by injection eg with eg;injection eg
 exact⟨b,o1,hw.rowAt hi hb,hg⟩
theorem zD7.only{x:Bst}(h:zD7 e Z w bw Ah n Cs Ct x)(ho:zBr [b] w w')(hz:¬ Z b)(hb:Blk w b 43 cs):zD7 e Z w' bw Ah n Cs Ct x:=by
 have hr:jQ w b []:=⟨cs,hb,fun k z hk=>by simp at hk⟩;unfold zD7 at h ⊢
 split at h
 ·rename_i he
  rw[if_pos he];obtain⟨Au,Av,b1,b2,b3,h1,h2,h3⟩:=h;exact⟨Au,Av,b1,b2,b3,h1.row ho hr dE,⟨h2.s.only ho (fun hm=>hz (h3 _ (.inl hm))) hr,h2.t.only ho (fun hm=>hz (h3 _ (.inr (.inl hm)))) hr,h2.i.only ho (fun hm=>hz (h3 _ (.inr (.inr hm)))) hr,h2.st,h2.si,h2.ti,h2.ast,h2.asi,h2.ati⟩,h3⟩
 rename_i he;rw[if_neg he];obtain⟨h0,Au,Av,b1,h1,h2,h3,h4,h5⟩:=h;exact⟨h0,Au,Av,b1,h1.row ho hr dE,h2.only ho (fun hm=>hz (h5 _ hm)) hr,h3.row ho hr,h4.row ho hr,h5⟩
theorem zON{x y c0 c1:Value}(hb:Blk w b 43 #[c0,c1]):zBr [b] w ((w.setCell ⟨b,0,none⟩ x).setCell ⟨b,1,none⟩ y):=
 ⟨yJ (yJ (zA 0 _) (zE _) _ _) (zE _) _ _,hb.lext2 dE _ _,fun k _ hk=>yS _ _ _ _ _ _ _ (by simpa using hk)⟩
theorem qG.new{w1 w2:World}(h:qG Z w w1)(ho:zBr [b] w1 w2)(hb:w.heap.size<=b):qG Z w w2:=
 ⟨h.bel.trans ho.bel,h.lext.trans ho.lext,fun k hk hn=>(ho.old k (zH hk h.bel.size) (by simp;omega)).trans (h.old k hk hn)⟩
theorem zTi(hB:BSd B){m c:Nat}{x:Bst}(h:zD7 e0 Z w bw Ah n Cs Ct x)(hok:okB B n Cs Ct x)(hr:r<n)(hm:m<n)(hrm:r≠m)(hc:c<Cs)(h0:x.s r c≠0)
  (hn:n<=1000000) (hCs:Cs<=1000000) (hCt:Ct<=1000000) (hZ:∀b,Z b->b<w.heap.size)
  (ha:x.s m c%x.s r c=0->zFI B n Cs Ct x m r (-(x.s m c/x.s r c)))
  (hx:∀s t,Bez (x.s r c) (x.s m c) s t->zRp B n Cs Ct x r m s t (-(x.s m c/((Int.gcd (x.s r c) (x.s m c):Nat):Int))) (x.s r c/((Int.gcd (x.s r c) (x.s m c):Nat):Int))):
  Calls Tryz.prog 176 #[Ah,.agg #[.int .i64 r,.int .i64 c],.int .i64 m,.agg (zEg bw)] w fun e w'=>(∃u,e= .returned u)/\qG Z w w'/\∃y,zOq x r m c y/\zD7 e0 Z w' bw Ah n Cs Ct y:=by
 obtain⟨bss0,hw0,-⟩:=h.wri;obtain⟨so,sn,cap,rfl,s1,-⟩:=id (qA.rows hw0);have e2:n=sn:=by rw[<-s1];simp[genM]
 subst e2;obtain⟨g,_,rfl,-⟩:=qA.at_ hw0 (i:=r) (by rw[hw0.len];exact hr);clear s1 hw0 bss0;have HOK:=xgv hok;have HAD:=xgv ha;have HMX:=xgv hx;obtain⟨X,hX⟩:∃X,x.s r c=X:=⟨_,rfl⟩;obtain⟨Y,hY⟩:∃Y,x.s m c=Y:=⟨_,rfl⟩;have HXV:=xgw hX;have HYV:=xgw hY;have SX:zAN (Smd X):=⟨by rw[<-hX];exact hB.smd _ (hok.1 r hr c hc)⟩;have SY:zAN (Smd Y):=⟨by rw[<-hY];exact hB.smd _ (hok.1 m hm c hc)⟩;rw[hX]at h0 HAD HMX;rw[hY]at HAD HMX;have HH:=xgv h;obtain⟨br,o1,r1,hg⟩:=h.row hr;obtain⟨bm,o2,r2,-⟩:=h.row hm;obtain⟨xn,xa,xl,xc,q1,q2,-,-,hxv⟩:=r1.cell (yE hc);obtain⟨yn,ya,yl,yc,q3,q4,-,-,hyv⟩:=r2.cell (yE hc);rw[hX]at hxv;rw[hY]at hyv;have lr1:=r1.lt;have lr2:=r2.lt;clear hok ha hx hX hY h r1 r2;go_enter Tryz.func176,Tryz.ntmps176;go_upto_region 1 with(fail)
 refine zD ?_;intro W0 hW0;obtain⟨hB0,T5,T7,hs0⟩:=zAd hW0;have T7:Blk W0 (w.heap.size+1) 167 (zEg bw):=T7;have hO:=qG.of Z hB0;have HH:=xgv (HH.out.below hB0);have o1:=jF o1 hB0;have o2:=jF o2 hB0;have q1:=jF q1 hB0;have q2:=jF q2 hB0;have q3:=jF q3 hB0;have q4:=jF q4 hB0;have hxv:=hxv.ext (lx hB0);have hyv:=hyv.ext (lx hB0);obtain⟨p1,p2,p3,p4⟩:=T5.two;have l5:=T5.lt;have lz:=hB0.size;clear hW0;refine zCn [pcI 8 (X),pcI 16 (Y),pbA 17 43 2,pbA 18 43 2,pbS 19 17 43 2,pbS 20 18 43 2] ?_;refine sRd ?_;refine sRc (fun wS hI Gk hG=>?_) (fun va8 hv=>?_)
 ·have cc0:=hI.cell q1
  have cc1:=hI.cell q2;go_simp;exact⟨hG _ _ (hxv.ext hI.lext),zA _ _⟩
 obtain⟨xa17,ya17,rfl,qa17⟩:=zLF hv;clear hv;refine sRd ?_;refine sRc (fun wS hI Gk hG=>?_) (fun va16 hv=>?_)
 ·have cc0:=hI.cell q3
  have cc1:=hI.cell q4;go_simp;exact⟨hG _ _ (hyv.ext hI.lext),zA _ _⟩
 obtain⟨xa18,ya18,rfl,qa18⟩:=zLF hv;clear hv;refine sRa (cs:=#[.bool false,.slice none 0 0]) fun ca17 ga17=>?_
 refine sRa (cs:=#[.bool false,.slice none 0 0]) fun ca18 ga18=>?_
 refine sRs ca17 (.agg #[xa17,ya17]) ?_ qa17;refine sRs ca18 (.agg #[xa18,ya18]) ?_ qa18;refine sRb ?_;simp only[FA,FC,FN,ptr,List.nil_append,List.cons_append,Act.put,xgh,xgi,xgj];intro w3 hbw3 ha8 ha16 ka17 ka18 na17 na18;replace ka17:Blk w3 ca17 43 #[xa17,ya17]:=ka17 _ rfl;have ia17:=ha8;replace ka18:Blk w3 ca18 43 #[xa18,ya18]:=ka18 _ rfl;have ia18:=ha16;have na17_18:ca17≠ca18:=na17 (18,ca18) sI;clear na17 na18;have hO:=hO.trans (qG.of Z hbw3);have HH:=xgv (HH.out.below hbw3);have T5:=T5.below hbw3;have T7:=T7.below hbw3;have z8:=zCM.mk ka17 ia17;have z9:=zCM.mk ka18 ia18;have q3z:=hbw3.size;clear o1 o2 q1 q2 q3 q4 hxv hyv p1 p2 p3 p4 ka17 ka18 ia17 ia18 ha8 ha16;obtain⟨n8,a8,l8,c8,k8,i8⟩:=id z8;obtain⟨n9,a9,l9,c9,k9,i9⟩:=id z9;obtain⟨e1,e2,e3,e4⟩:=k8.two;obtain⟨f1,f2,f3,f4⟩:=k9.two;go_wp2_with fail
 refine(zDj _ _ Y X w3 i9.weak i8.weak SY.out.sm SX.out.sm h0).mono ?_;rintro e w4 ⟨q0,r0,rfl,hq,hrr,hb4⟩;obtain⟨qn,qa,ql,qc,qx,rfl,hq'⟩:=id hq;obtain⟨rn,ra,rl,rc,rx,rfl,hr'⟩:=id hrr;have HQ':=xgw hq';have HR':=xgw hr';clear hq' hr' e1 e2 e3 e4 f1 f2 f3 f4 k8 k9 i8 i9;go_upto_region 3 with(fail)
 refine zD ?_;intro W5 hW5;obtain⟨hB5,T10,T11,hs5⟩:=zAd hW5;have hb45:=nx hb4 hB5;have hO:=hO.trans (qG.of Z hb45);have HH:=xgv (HH.out.below hb45);have T5:=T5.below hb45;have T7:=T7.below hb45;have z8:=z8.below hb45;have z9:=z9.below hb45;have hq:=hq.ext (lx hB5);have hrr:=hrr.ext (lx hB5);have q5z:=hb45.size;clear hW5 hb45;obtain⟨e1,e2,e3,e4⟩:=T11.two;go_wp2_with fail
 refine(zAa _ (Y%X) W5 hrr.weak).mono ?_;rintro e w6 ⟨rfl,hb6⟩;have hO:=hO.trans (qG.of Z hb6);have HH:=xgv (HH.out.below hb6);have T5:=T5.below hb6;have T7:=T7.below hb6;have T10:=T10.below hb6;have z8:=z8.below hb6;have z9:=z9.below hb6;have hq:=hq.ext (lx hb6);have q6z:=hb6.size;have q4z:=hb4.size;clear e1 e2 e3 e4 T11 hrr;by_cases hdiv:Y%X=0
 ·rw[zBX hdiv]
  obtain⟨x1,x2,x3,x4,x5,x6⟩:=T7.three;obtain⟨p1,p2,p3,p4⟩:=T5.two;obtain⟨d1,d2,d3,d4⟩:=T10.two;have l5:=T5.lt;have l7:=T7.lt;have l10:=T10.lt;have hqs:zAN (Sm (Y/X)):=⟨SY.out.sm.mono (zBg Y X)⟩;go_upto_region 4 with(fail)
  refine yX 7 [pcI 6 (-(Y/X))] ?_;refine sRd ?_;refine sRc (fun wS hI Gk hG=>by go_simp;exact ck hG (zBS _ (Y/X) _ (hq.ext hI.lext).weak hqs.out)) (fun vb6 _=>?_);refine sRe ?_;intro w7 hbw7 hb6;have hb6':jT w7 vb6 (-(Y/X)):=hb6;have hO:=hO.trans (qG.of Z hbw7);have HH:=xgv (HH.out.below hbw7);have HAD':=xgv (HAD.out hdiv);clear x1 x2 x3 x4 x5 x6 p1 p2 p3 p4 d1 d2 d3 d4;go_wp2_with fail
  refine(zYQ hB.bsm HH.out HOK.out hm hr (zP hrm) hb6' hn hCs hCt HAD'.out).mono ?_;rintro e w8 ⟨⟨uu,rfl⟩,ho8,hH8⟩;go_wp2;have hJ:zOq x r m c (x.add m r (-(Y/X))):=by
   rw[<-HXV.out,<-HYV.out];exact .add (by rw[HXV.out,HYV.out];exact hdiv)
  exact bodyPost_ret (results_none rfl _ _ _) rfl ⟨⟨_,rfl⟩,hO.trans ho8,_,hJ,hH8⟩
 have hcne:=zCi hdiv;obtain⟨k0,hk0⟩:∃k0,zAp (Y%X) 0=k0:=⟨_,rfl⟩;rw[hk0]at hcne ⊢
 have hcb:(k0==0)=false:=by simpa using hcne
 obtain⟨G,hG⟩:∃G:Int,((Int.gcd X Y:Nat):Int)=G:=⟨_,rfl⟩;have hG0:G≠0:=by
  rw[<-hG];intro hh;have:Int.gcd X Y=0:=by omega
  exact h0 (Int.eq_zero_of_gcd_eq_zero_left this)
 have SG:zAN (Smd G):=⟨SX.out.mono (by rw[<-hG];exact zC0 oM (by have:=zBQ X Y;exact Int.natAbs_dvd_natAbs.2 this))⟩;have HG:=xgw hG;rw[hG]at HMX;clear hG T10 hq;have lz8:=z8.lt;have lz9:=z9.lt;obtain⟨n8,a8,l8,c8,k8,i8⟩:=id z8;obtain⟨n9,a9,l9,c9,k9,i9⟩:=id z9;obtain⟨e1,e2,e3,e4⟩:=k8.two;obtain⟨f1,f2,f3,f4⟩:=k9.two;go_wp2_with fail
 refine(zQ7 _ _ X Y w6 i8 i9 SX.out SY.out).mono ?_;rintro e w7 ⟨v1,v2,v3,s,t,rfl,hgv,hsv,htv,hbez,hsb,htb,hb7⟩;have HBZ:zAN (Bez X Y s t):=⟨⟨hbez,hsb,htb⟩⟩;have HMM:=xgv (HMX.out s t HBZ.out);rw[HG.out]at hgv;obtain⟨gn,ga,gl,gc,gx,rfl,hg'⟩:=id hgv;obtain⟨sn,sa,sl,sc',sx,rfl,hs'⟩:=id hsv;obtain⟨tn,ta,tl,tc,tx,rfl,ht'⟩:=id htv;have HG':=xgw hg';have HS':=xgw hs';have HT':=xgw ht';clear hg' hs' ht' hbez hsb htb e1 e2 e3 e4 f1 f2 f3 f4 k8 k9 i8 i9;go_upto_region 6 with(fail)
 refine zD ?_;intro W8 hW8;obtain⟨hB8,T13,T14,T15,hs8⟩:=zCH hW8;have hb78:=nx hb7 hB8;have hO:=hO.trans (qG.of Z hb78);have HH:=xgv (HH.out.below hb78);have T5:=T5.below hb78;have T7:=T7.below hb78;have z8:=z8.below hb78;have z9:=z9.below hb78;have z13:=zCM.mk T13 (hgv.ext (lx hB8));have z14:=zCM.mk T14 (hsv.ext (lx hB8));have z15:=zCM.mk T15 (htv.ext (lx hB8));have q8z:=hb78.size;have q7z:=hb7.size;clear hW8 T13 T14 T15 hgv hsv htv;obtain⟨n8,a8,l8,c8,k8,i8⟩:=id z8;obtain⟨n13,a13,l13,c13,k13,i13⟩:=id z13;obtain⟨e1,e2,e3,e4⟩:=k8.two;obtain⟨f1,f2,f3,f4⟩:=k13.two;have lk8:=k8.lt;go_wp2_with fail
 refine(zDj _ _ X G W8 i8.weak i13.weak SX.out.sm SG.out.sm hG0).mono ?_;rintro e w9 ⟨q0,r0,rfl,hq,hrr,hb9⟩;obtain⟨qn,qa,ql,qc,qx,rfl,hq'⟩:=id hq;have HQ':=xgw hq';clear hq' e1 e2 e3 e4 f1 f2 f3 f4 k13 i13;have k8:=k8.below hb9;obtain⟨e1,e2,e3,e4⟩:=k8.two;go_upto_region 7 with(fail)
 refine zD ?_;intro W10 hW10;have hon:zBr [ca17] w9 W10:=by rw[hW10.out];exact zON k8
 have hnz:¬ Z ca17:=fun h=>by have:=hZ _ h;omega
 have hO:=(hO.trans (qG.of Z hb9)).new hon oM;have HH:=xgv ((HH.out.below hb9).only hon hnz k8);have z8:zCM W10 ca17 (X/G):=by rw[hW10.out];exact zCM.put k8 hq
 have T5:Blk W10 w.heap.size zDy #[.int .i64 r,.int .i64 c]:=(hon.old _ (T5.below hb9).lt (by simp;omega)).trans (T5.below hb9);have T7:Blk W10 (w.heap.size+1) 167 (zEg bw):=(hon.old _ (T7.below hb9).lt (by simp;omega)).trans (T7.below hb9);have z9:=(z9.below hb9).old (hon.old _ (z9.below hb9).lt (by simpa using zP na17_18)) hon.lext;have z13:=(z13.below hb9).old (hon.old _ (z13.below hb9).lt (by simp;omega)) hon.lext;have z14:=(z14.below hb9).old (hon.old _ (z14.below hb9).lt (by simp;omega)) hon.lext;have z15:=(z15.below hb9).old (hon.old _ (z15.below hb9).lt (by simp;omega)) hon.lext;have q10z:=hon.bel.size;have q9z:=hb9.size;clear hW10 hon e1 e2 e3 e4 k8 hq hrr i8;obtain⟨n9,a9,l9,c9,k9,i9⟩:=id z9;obtain⟨n13,a13,l13,c13,k13,i13⟩:=id z13;obtain⟨e1,e2,e3,e4⟩:=k9.two;obtain⟨f1,f2,f3,f4⟩:=k13.two;have lk9:=k9.lt;go_wp2_with fail
 refine(zDj _ _ Y G W10 i9.weak i13.weak SY.out.sm SG.out.sm hG0).mono ?_;rintro e w11 ⟨q0,r0,rfl,hq,hrr,hb11⟩;obtain⟨qn,qa,ql,qc,qx,rfl,hq'⟩:=id hq;have HQ':=xgw hq';clear hq' e1 e2 e3 e4 f1 f2 f3 f4 k13 i13;have k9:=k9.below hb11;obtain⟨e1,e2,e3,e4⟩:=k9.two;go_upto_region 8 with(fail)
 refine zD ?_;intro W12 hW12;have hon:zBr [ca18] w11 W12:=by rw[hW12.out];exact zON k9
 have hnz:¬ Z ca18:=fun h=>by have:=hZ _ h;omega
 have hO:=(hO.trans (qG.of Z hb11)).new hon oM;have HH:=xgv ((HH.out.below hb11).only hon hnz k9);have z9:zCM W12 ca18 (Y/G):=by rw[hW12.out];exact zCM.put k9 hq
 have T5:Blk W12 w.heap.size zDy #[.int .i64 r,.int .i64 c]:=(hon.old _ (T5.below hb11).lt (by simp;omega)).trans (T5.below hb11);have T7:Blk W12 (w.heap.size+1) 167 (zEg bw):=(hon.old _ (T7.below hb11).lt (by simp;omega)).trans (T7.below hb11);have z8:=(z8.below hb11).old (hon.old _ (z8.below hb11).lt (by simpa using na17_18)) hon.lext;have z14:=(z14.below hb11).old (hon.old _ (z14.below hb11).lt (by simp;omega)) hon.lext;have z15:=(z15.below hb11).old (hon.old _ (z15.below hb11).lt (by simp;omega)) hon.lext;clear hW12 hon e1 e2 e3 e4 k9 hq hrr i9 z13;have SYG:zAN (Sm (Y/G)):=⟨SY.out.sm.mono (zBg Y G)⟩;obtain⟨n8,a8,l8,c8,k8,i8⟩:=id z8;obtain⟨n9,a9,l9,c9,k9,i9⟩:=id z9;obtain⟨n14,a14,l14,c14,k14,i14⟩:=id z14;obtain⟨n15,a15,l15,c15,k15,i15⟩:=id z15;obtain⟨e1,e2,e3,e4⟩:=k8.two;obtain⟨f1,f2,f3,f4⟩:=k9.two;obtain⟨u1,u2,u3,u4⟩:=k14.two;obtain⟨v1,v2,v3,v4⟩:=k15.two;obtain⟨x1,x2,x3,x4,x5,x6⟩:=T7.three;obtain⟨p1,p2,p3,p4⟩:=T5.two;have l5:=T5.lt;have l7:=T7.lt;have l8':=k8.lt;have l9':=k9.lt;have l14':=k14.lt;have l15':=k15.lt;have hl2:=zDt s t;have hl3:=zDt (-(Y/G)) (X/G);have hl4:=zFv s t (-(Y/G)) (X/G);refine yX 13 [pcD 7 [] (M2V s t),pcI 9 (-(Y/G)),pcD 11 [9] (M2V (-(Y/G)) (X/G)),pcD 12 [7,11] (fun w v=>M4V w v s t (-(Y/G)) (X/G))] ?_;refine sRd ?_;refine sRc (fun wS hI Gk hG=>?_) (fun vb7 _=>?_)
 ·skip
  go_simp;exact⟨hG _ _ ⟨_,_,_,_,_,_,_,_,rfl,i14.ext hI.lext,i15.ext hI.lext⟩,zA _ _⟩
 refine sRd ?_;refine sRc (fun wS hI Gk hG=>by go_simp;exact ck hG (zBS _ (Y/G) _ (i9.ext hI.lext).weak SYG.out)) (fun vb9 _=>?_);refine sRd ?_;refine sRc (fun wS hI hb9 Gk hG=>?_) (fun vb11 _=>?_)
 ·obtain⟨a19,b19,d19,e19,x19,rfl,y19⟩:=id hb9
  go_simp;exact⟨hG _ _ ⟨_,_,_,_,_,_,_,_,rfl,hb9,i8.ext hI.lext⟩,zA _ _⟩
 refine sRc (fun wS hI hb7 hb11 Gk hG=>?_) (fun vb12 _=>?_)
 ·obtain⟨p0,p1,p2,p3,p4,p5,p6,p7,rfl,p8,p9⟩:=hb7
  obtain⟨q0,q1,q2,q3,q4,q5,q6,q7,rfl,q8,q9⟩:=hb11;go_simp;exact⟨hG _ _ ⟨_,_,_,_,_,_,_,_,_,_,_,_,_,_,_,_,rfl,p8,p9,q8,q9⟩,zA _ _⟩
 refine sRe ?_;intro w13 hbw13 hb7 hb9 hb11 hb12;have hm4:M4V w13 vb12 s t (-(Y/G)) (X/G):=hb12;have hO:=hO.trans (qG.of Z hbw13);have HH:=xgv (HH.out.below hbw13);clear e1 e2 e3 e4 f1 f2 f3 f4 u1 u2 u3 u4 v1 v2 v3 v4 x1 x2 x3 x4 x5 x6 p1 p2 p3 p4;go_wp2_with fail
 refine(zYr hB.bsm HH.out HOK.out hr hm hrm hm4 hn hCs hCt HMM.out).mono ?_;rintro e w14 ⟨⟨uu,rfl⟩,ho14,hH14⟩;go_wp2;have hJ:zOq x r m c (x.mix r m s t (-(Y/G)) (X/G)):=by
  rw[<-HG.out,<-HXV.out,<-HYV.out];exact .mix s t (by rw[HXV.out,HYV.out];exact hdiv) (by rw[HXV.out,HYV.out];exact HBZ.out)
 exact bodyPost_end (results_none rfl _ _ _) rfl ⟨⟨_,rfl⟩,hO.trans ho14,_,hJ,hH14⟩
def zMj(w:World)(v:Value)(r:Nat)(ρ κ:Nat->Nat):Prop:=
 ∃ao cap,v= .slice ao r cap/\r<=cap/\cap<=9223372036854775807/\(0<r->∃b cs,ao=some ⟨b,0,none⟩/\Blk w b zDy cs/\∀k,k<r->cs[k*2]?=some (.int .i64 (ρ k))/\cs[k*2+1]?=some (.int .i64 (κ k)))
theorem zMj.old(h:zMj w v r ρ κ)(ho:∀b,v.ownBlock=some b->b<w.heap.size->w'.heap[b]?=w.heap[b]?):zMj w' v r ρ κ:=by
 obtain⟨ao,cap,rfl,h2,h3,h4⟩:=h;refine⟨ao,cap,rfl,h2,h3,fun hr=>?_⟩;obtain⟨b,cs,rfl,h5,h6⟩:=h4 hr;exact⟨b,cs,rfl,(ho b rfl h5.lt).trans h5,h6⟩
theorem zMj.below(h:zMj w v r ρ κ)(hb:Below w.heap.size w w'):zMj w' v r ρ κ:=h.old fun b _ hl=>hb.block b hl
theorem zMj.onlyZ(h:zMj w v r ρ κ)(ho:qG Z w w')(hz:∀b,v.ownBlock=some b->¬ Z b):zMj w' v r ρ κ:=h.old fun b hb hl=>ho.old b hl (hz b hb)
theorem zMj.cell(h:zMj w (.slice (some ⟨b,o,none⟩) r cap) r ρ κ)(hk:k<r):o=0/\b<w.heap.size/\w.cell? ⟨b,k*2,none⟩=some (.int .i64 (ρ k))/\w.cell? ⟨b,k*2+1,none⟩=some (.int .i64 (κ k)):=by
 obtain⟨ao,cap',e,h2,h3,h4⟩:=h;obtain⟨b',cs,e1,h5,h6⟩:=h4 oM;injection e with e2 e3 e4
 rw[e1]at e2;injection e2 with e2
 injection e2 with e5 e6
 subst e5;obtain⟨c1,c2⟩:=h6 k hk;exact⟨e6,h5.lt,h5.cell _ ▸ c1,h5.cell _ ▸ c2⟩
def zHW(B n Cs Ct:Nat)(ρ κ:Nat->Nat)(i:Nat):Nat->Nat->Bst->Option Bst
 |0,_,x=>some x
 |m+1,j,x=>
  if x.s (ρ i) (κ j)=0 then zHW B n Cs Ct ρ κ i m (j+1) x
  else if x.s (ρ j) (κ j)=0 then none
  else if x.s (ρ i) (κ j)/x.s (ρ j) (κ j)=0 then zHW B n Cs Ct ρ κ i m (j+1) x
  else if zFI B n Cs Ct x (ρ i) (ρ j) (-(x.s (ρ i) (κ j)/x.s (ρ j) (κ j)))then zHW B n Cs Ct ρ κ i m (j+1) (x.add (ρ i) (ρ j) (-(x.s (ρ i) (κ j)/x.s (ρ j) (κ j))))
  else none
def zJR(B n Cs Ct:Nat)(ρ κ:Nat->Nat)(r:Nat):Nat->Bst->Option Bst
 |0,x=>some x
 |i+1,x=>(zHW B n Cs Ct ρ κ i (r-(i+1)) (i+1) x).bind (zJR B n Cs Ct ρ κ r i)
theorem zEN(hB:BSd B){pv:Value}{x y:Bst}(h:zD7 e0 Z w bw Ah n Cs Ct x)(hok:okB B n Cs Ct x)(hp:zMj w pv r ρ κ)(hpz:∀b,pv.ownBlock=some b->¬ Z b)
  (hρ:∀k,k<r->ρ k<n) (hinj:∀i j,i<j->j<r->ρ i≠ρ j) (hκ:∀k,k<r->κ k<Cs) (hn:n<=1000000) (hCs:Cs<=1000000) (hCt:Ct<=1000000) (hrn:r<=n) (hZ:∀b,Z b->b<w.heap.size) (hn0:0<n)
  (hy:zJR B n Cs Ct ρ κ r r x=some y):
  Calls Tryz.prog 178 #[Ah,pv,.agg (zEg bw)] w fun e w'=>(∃u,e= .returned u)/\qG Z w w'/\zD7 e0 Z w' bw Ah n Cs Ct y/\okB B n Cs Ct y:=by
 obtain⟨bss0,hw0,-⟩:=h.wri;obtain⟨so,sn,scap,rfl,s1,-⟩:=id (qA.rows hw0);have e2:n=sn:=by rw[<-s1];simp[genM]
 subst e2;obtain⟨g,_,rfl,-⟩:=qA.at_ hw0 (i:=0) (by rw[hw0.len];exact hn0);obtain⟨ao,cap,rfl,hrc,hrc2,-⟩:=id hp;have HY:=xgv (And.intro hok hy);have HP:=xgv hp;have HPZ:=xgv hpz;have HRO:=xgv hρ;have HIN:=xgv hinj;have HKA:=xgv hκ;have hsh:0<r->∃pb,ao=some ⟨pb,0,none⟩:=fun hr=>by
  obtain⟨ao',cap',e,-,-,h4⟩:=hp;obtain⟨b,cs,e1,-⟩:=h4 hr;injection e with e2
  exact⟨b,e2.trans e1⟩
 clear s1 hw0 bss0 hok hy hp hpz hρ hinj hκ;go_enter Tryz.func178,Tryz.ntmps178;go_upto_region 1 with(fail)
 refine zD ?_;intro W0 hW0;obtain⟨hB0,T5,hs0⟩:=qM hW0;have T5:Blk W0 w.heap.size 167 (zEg bw):=T5;have hO:=qG.of Z hB0;have hz:=h.below hB0;have HP:=xgv (HP.out.below hB0);clear hW0 h;go_wp2;go_loopw [6] (fun tv wr=>∃(i:Nat) (z:Int) (xi:Bst),tv= .int .i64 z/\z=(i:Int)-1/\i<=r/\qG Z w wr/\Blk wr w.heap.size 167 (zEg bw)/\zAN (zMj wr (.slice ao r cap) r ρ κ)/\zD7 e0 Z wr bw (.slice (some ⟨g,0,none⟩) n scap) n Cs Ct xi/\zAN (okB B n Cs Ct xi/\zJR B n Cs Ct ρ κ r i xi=some y)) (fun tv _=>(intOf tv+1).toNat)
 case atStart=>exact⟨r,(r:Int)-1,x,by simp,rfl,xgf _,hO,T5,HP,hz,HY⟩
 obtain⟨i,z,xi,rfl,hzi,hi,hO,T5,HP,hz,hx⟩:=hrel;cases i with
 |zero=>
  obtain rfl:z=-1:=by omega
  clear hzi;have h3:=hx.out.2;unfold zJR at h3;injection h3 with h3
  have H3:=xgv h3;clear h3;go_wp2;exact bodyPost_end (results_none rfl _ _ _) rfl ⟨⟨_,rfl⟩,hO,by rw[<-H3.out];exact hz,by rw[<-H3.out];exact hx.out.1⟩
 | succ i=>
  obtain rfl:z=(i:Int):=by omega
  clear hzi;have h3:=hx.out.2;unfold zJR at h3;rw[jY]at h3;obtain⟨y1,h4,h5⟩:=h3;have HR:=xgv h5;have HJ:=xgv (And.intro hx.out.1 h4);clear h4 h5 hx;obtain⟨pb,rfl⟩:=hsh oM;obtain⟨-,lpb,k1,-⟩:=HP.out.cell (k:=i) oM;have hwi:IntKind.i64.wrap ((i:Int)+1)=(i:Int)+1:=yR _ oM;obtain⟨M,hM⟩:∃M,r-(i+1)=M:=⟨_,rfl⟩;by_cases hce:cap=i+1
  ·have hM0:M=0:=by omega
   have hir:(i:Int)+1<=(r:Int):=by omega
   subst hM0;go_wp2;try rw[hM]
   go_loopw [30] (fun uv wt=>uv= .int .i64 0/\wt=wr) (fun _ _=>0)
   case atStart=>exact⟨rfl,rfl⟩
   rename World=>wt
   obtain⟨rfl,hwt⟩:=hrel;have hwt:=hwt.symm;subst hwt;have h3:=HJ.out.2;rw[hM]at h3;unfold zHW at h3;injection h3 with h3
   have H3:=xgv h3;clear h3;go_wp2;go_roundw
   case rel=>exact⟨i,(i:Int)-1,xi,by simp,rfl,by omega,hO,T5,HP,hz,⟨⟨HJ.out.1,by rw[H3.out];exact HR.out⟩⟩⟩
   case measure=>simp[intOf]
  go_wp2;try rw[hM]
  go_loopw [30] (fun uv wt=>∃(u:Nat) (xt:Bst),uv= .int .i64 u/\u<=M/\qG Z w wt/\Blk wt w.heap.size 167 (zEg bw)/\zAN (zMj wt (.slice (some ⟨pb,0,none⟩) r cap) r ρ κ)/\zD7 e0 Z wt bw (.slice (some ⟨g,0,none⟩) n scap) n Cs Ct xt/\zAN (okB B n Cs Ct xt/\zHW B n Cs Ct ρ κ i (M-u) (i+1+u) xt=some y1)) (fun uv _=>M-(intOf uv).toNat)
  case atStart=>exact⟨0,xi,rfl,by omega,hO,T5,HP,hz,⟨⟨HJ.out.1,by rw[<-hM];exact HJ.out.2⟩⟩⟩
  rename World=>wt
  clear hO T5 HP hz HJ k1 lpb;obtain⟨u,xt,rfl,huM,hO,T5,HP,hz,hx⟩:=hrel;by_cases hlt2:u<M
  ·obtain⟨j,hj⟩:∃j,j=i+1+u:=⟨_,rfl⟩
   obtain⟨m,hm⟩:∃m,M-u=m+1:=⟨M-u-1,by omega⟩;have hm2:M-(u+1)=m:=by omega
   have hj1:i+1+(u+1)=j+1:=by omega
   have h3:=hx.out.2;rw[hm,<-hj]at h3;unfold zHW at h3;have HOK:=xgv hx.out.1;have H3:=xgv h3;obtain⟨-,lpb,p1,p2⟩:=HP.out.cell (k:=j) oM;have hjo:j*2=(i+1)*2+u*2:=by omega
   rw[hjo]at p1 p2;have hjr:j<r:=by omega
   have hir:i<r:=by omega
   have hcC:=HKA.out j hjr;have hin:=HRO.out i hir;have htn:=HRO.out j hjr;have hne:=HIN.out i j oM hjr;obtain⟨ri,hri⟩:∃ri,ρ i=ri:=⟨_,rfl⟩;obtain⟨rj,hrj⟩:∃rj,ρ j=rj:=⟨_,rfl⟩;obtain⟨c,hc⟩:∃c,κ j=c:=⟨_,rfl⟩;rw[hri]at hin hne H3 ⊢
   rw[hrj]at htn hne H3 p1;rw[hc]at hcC H3 p2;clear h3 hx hj hjo hri hrj hc;go_upto_region 8 with(fail)
   refine zD ?_;intro W7 hW7;obtain⟨hB7,T9,hs7⟩:=qM hW7;have T9:Blk W7 wt.heap.size zDy #[.int .i64 rj,.int .i64 c]:=T9;have hO:=hO.trans (qG.of Z hB7);have T5:=T5.below hB7;have HP:=xgv (HP.out.below hB7);have hz:=hz.below hB7;have lt9:=hO.bel.size;have lwt:=T5.lt;clear hW7 p1 p2;obtain⟨bi,o1,hrow,lg⟩:=hz.row (i:=ri) hin;obtain⟨xs,xa,xl,xc,v1,v2,-,-,hx⟩:=hrow.cell (yE hcC);obtain⟨p1,p2,p3,p4⟩:=T9.two;have l1:=hrow.lt;have l9:=T9.lt;refine yX 8 [] ?_;refine sRd ?_;refine sRf ?_;intro w8 hbw8;go_wp2_with fail
   refine(zAa _ (xt.s ri c) _ (hx.ext (lx hbw8)).weak).mono ?_;rintro e w1 ⟨rfl,hb1⟩;have hb81:=nx hbw8 hb1;have hz:=hz.below hb81;have T5:=T5.below hb81;have T9:=T9.below hb81;have HP:=xgv (HP.out.below hb81);have hO:=hO.trans (qG.of Z hb81);have h3:=H3.out;clear o1 hrow v1 v2 hx H3 p1 p2 p3 p4;by_cases hs0:xt.s ri c=0
   ·rw[if_pos hs0]at h3
    rw[zBX hs0];have H3:=xgv h3;clear h3 hs0;go_wp2;go_roundw
    case rel=>exact⟨u+1,xt,by simp,by omega,hO,T5,HP,hz,⟨⟨HOK.out,by rw[hm2,hj1];exact H3.out⟩⟩⟩
    case measure=>simp[intOf];omega
   rw[if_neg hs0]at h3;by_cases hne0:xt.s rj c=0
   ·rw[if_pos hne0]at h3
    cases h3
   rw[if_neg hne0]at h3;have hcn:=zCi hs0;obtain⟨k0,hk0⟩:∃k0,zAp (xt.s ri c) 0=k0:=⟨_,rfl⟩;rw[hk0]at hcn ⊢
   have HNE:=xgv hne0;have H3:=xgv h3;have SX:zAN (Sm (xt.s ri c)):=⟨hB.bsm.sm _ (HOK.out.1 ri hin c hcC)⟩;have SY:zAN (Sm (xt.s rj c)):=⟨hB.bsm.sm _ (HOK.out.1 rj htn c hcC)⟩;clear h3 hne0 hs0 hk0;obtain⟨bi,o1,hrow,lg⟩:=hz.row (i:=ri) hin;obtain⟨bk,o2,hrowk,-⟩:=hz.row (i:=rj) htn;obtain⟨xs,xa,xl,xc,v1,v2,-,-,hx⟩:=hrow.cell (yE hcC);obtain⟨ys,ya,yl,yc,r1,r2,-,-,hy⟩:=hrowk.cell (yE hcC);obtain⟨p1,p2,p3,p4⟩:=T9.two;have hlast:=zKh (xt.s ri c) (xt.s rj c);have l9:=T9.lt;have l5:=T5.lt;have l1:=hrow.lt;have l2:=hrowk.lt;go_upto_region 9 with(fail)
   refine zCn [pcD 17 [] (DMV (xt.s ri c) (xt.s rj c)),pcD 18 [17] (DMV (xt.s ri c) (xt.s rj c)),pcD 19 [18] (fun w v=>jT w v (xt.s ri c/xt.s rj c)),pcD 20 [18] (fun w v=>jT w v (xt.s ri c%xt.s rj c)),pcD 21 [18] (fun _ v=>v= .int .i64 0),pbA 22 43 2,pbA 23 43 2,pbS 24 22 43 2,pbS 25 23 43 2] ?_;refine sRd ?_;refine sRc (fun wS hI Gk hG=>by go_simp;exact ck hG (zKX _ _ (xt.s ri c) (xt.s rj c) _ (hx.ext hI.lext).weak (hy.ext hI.lext).weak SX.out SY.out HNE.out)) (fun vb17 _=>?_);refine sRc (fun wS hI hb17 Gk hG=>?_) (fun vb18 _=>?_)
   ·go_simp
    exact⟨hG _ _ hb17,zA _ _⟩
   refine sRc (fun wS hI hb18 Gk hG=>?_) (fun vb19 hv=>?_)
   ·obtain⟨q,r,rfl,hq,hr⟩:=hb18
    go_simp;exact⟨hG _ _ hq,zA _ _⟩
   obtain⟨xb22,yb22,rfl,qb22⟩:=zLF hv;clear hv;refine sRc (fun wS hI hb18 Gk hG=>?_) (fun vb20 hv=>?_)
   ·obtain⟨q,r,rfl,hq,hr⟩:=hb18
    go_simp;exact⟨hG _ _ hr,zA _ _⟩
   obtain⟨xb23,yb23,rfl,qb23⟩:=zLF hv;clear hv;refine sRc (fun wS hI hb18 Gk hG=>?_) (fun _ hv=>?_)
   ·obtain⟨q,r,rfl,hq,hr⟩:=hb18
    go_simp;exact⟨hG _ _ rfl,zA _ _⟩
   obtain⟨_,-,rfl⟩:=hv;refine sRa (cs:=#[.bool false,.slice none 0 0]) fun cb22 gb22=>?_
   refine sRa (cs:=#[.bool false,.slice none 0 0]) fun cb23 gb23=>?_
   refine sRs cb22 (.agg #[xb22,yb22]) ?_ qb22;refine sRs cb23 (.agg #[xb23,yb23]) ?_ qb23;refine sRd ?_;refine sRb ?_;simp only[FA,FC,FN,ptr,List.nil_append,List.cons_append,Act.put,xgh,xgi,xgj];intro w9 hbw9 hb17 hb18 hb19 hb20 _ kb22 kb23 nb22 nb23;replace kb22:Blk w9 cb22 43 #[xb22,yb22]:=kb22 _ rfl;have ib22:=hb19;replace kb23:Blk w9 cb23 43 #[xb23,yb23]:=kb23 _ rfl;have ib23:=hb20;have nb22_23:cb22≠cb23:=nb22 (23,cb23) sI;clear nb22 nb23;obtain⟨qs,qa,ql,qc,rfl,rfl⟩:=ib22.two;have hz:=hz.below hbw9;have T5:=T5.below hbw9;have T9:=T9.below hbw9;have HP:=xgv (HP.out.below hbw9);have hO:=hO.trans (qG.of Z hbw9);have lq:=kb22.lt;clear o1 o2 v1 v2 r1 r2 p1 p2 p3 p4;obtain⟨d1,d2,d3,d4⟩:=kb22.two;go_wp2_with fail
   refine(zAa _ (xt.s ri c/xt.s rj c) _ ib22.weak).mono ?_;rintro e w10 ⟨rfl,hb10⟩;have hz:=hz.below hb10;have T5:=T5.below hb10;have T9:=T9.below hb10;have HP:=xgv (HP.out.below hb10);have hO:=hO.trans (qG.of Z hb10);have kq:=kb22.below hb10;have iq:=ib22.ext (lx hb10);have h3:=H3.out;clear d1 d2 d3 d4 H3 kb22 ib22;by_cases hq0:xt.s ri c/xt.s rj c=0
   ·rw[if_pos hq0]at h3
    rw[zBX hq0];have H3:=xgv h3;clear h3 hq0;go_wp2;go_roundw
    case rel=>exact⟨u+1,xt,by simp,by omega,hO,T5,HP,hz,⟨⟨HOK.out,by rw[hm2,hj1];exact H3.out⟩⟩⟩
    case measure=>simp[intOf];omega
   rw[if_neg hq0]at h3;by_cases hadd:zFI B n Cs Ct xt ri rj (-(xt.s ri c/xt.s rj c))
   ·rw[if_pos hadd]at h3
    have hcq:=zCi hq0;obtain⟨k1,hk1⟩:∃k1,zAp (xt.s ri c/xt.s rj c) 0=k1:=⟨_,rfl⟩;rw[hk1]at hcq ⊢
    have H3:=xgv h3;have HADD:=xgv hadd;have SQ:zAN (Sm (xt.s ri c/xt.s rj c)):=⟨hB.bsm.sm _ (by have:=hadd.1;rwa[zT]at this)⟩;clear h3 hadd hq0 hk1;obtain⟨c1,c2,c3,c4,c5,c6⟩:=T5.three;obtain⟨d1,d2,d3,d4⟩:=kq.two;obtain⟨p1,p2,p3,p4⟩:=T9.two;have lq:=kq.lt;have l0:=T5.lt;have l9:=T9.lt;go_upto_region 11 with(fail)
    refine yX 7 [pcI 6 (-(xt.s ri c/xt.s rj c))] ?_;refine sRd ?_;refine sRc (fun wS hI Gk hG=>by go_simp;exact ck hG (zBS _ (xt.s ri c/xt.s rj c) _ (iq.ext hI.lext).weak SQ.out)) (fun vy6 _=>?_);refine sRe ?_;intro w11 hbw11 hy6;have hz:=hz.below hbw11;have T5:=T5.below hbw11;have HP:=xgv (HP.out.below hbw11);have hO:=hO.trans (qG.of Z hbw11);clear c1 c2 c3 c4 c5 c6 d1 d2 d3 d4 p1 p2 p3 p4;go_wp2_with fail
    refine(zYQ hB.bsm hz HOK.out hin htn hne hy6 hn hCs hCt HADD.out).mono ?_;rintro e w12 ⟨⟨uu12,rfl⟩,hO12,hz⟩;have hok:=HADD.out.ok;have hO:=hO.trans hO12;have T5:=hO12.blk T5 (fun hh=>by have:=hZ _ hh;omega);have HP:=xgv (HP.out.onlyZ hO12 HPZ.out);have HOK2:=xgv hok;clear hok;go_wp2;go_roundw
    case rel=>exact⟨u+1,_,by simp,by omega,hO,T5,HP,hz,⟨⟨HOK2.out,by rw[hm2,hj1];exact H3.out⟩⟩⟩
    case measure=>simp[intOf];omega
   rw[if_neg hadd]at h3;cases h3
  obtain rfl:u=M:=by omega
  have h3:=hx.out.2;rw[jP]at h3;unfold zHW at h3;injection h3 with h3
  have H3:=xgv h3;have HOK:=xgv hx.out.1;clear h3 hx;go_wp2;go_roundw
  case rel=>exact⟨i,(i:Int)-1,xt,by simp,rfl,by omega,hO,T5,HP,hz,⟨⟨HOK.out,by rw[H3.out];exact HR.out⟩⟩⟩
  case measure=>simp[intOf]
theorem Tryz.infoPiv:(Tryz.prog.info? zDy).map (fun i=>(i.zero,i.size,i.bytes))=some (some (.agg #[.int .i64 0,.int .i64 0]),2,16):=by kernel_rfl
def pc(L:List (Nat × Nat)):List Value:=L.flatMap fun p=>[.int .i64 (p.1:Nat),.int .i64 (p.2:Nat)]
theorem zRw:pc []= []:=rfl
theorem zHS(p:Nat × Nat)(L:List (Nat × Nat)):pc (p::L)= .int .i64 (p.1:Nat):: .int .i64 (p.2:Nat)::pc L:=rfl
theorem zRu(L M:List (Nat × Nat)):pc (L++M)=pc L++pc M:=by unfold pc;rw[List.flatMap_append]
theorem zIo(L:List (Nat × Nat)):(pc L).length=L.length*2:=by
 induction L with
 |nil=>rfl
 |cons p L ih=>rw[zHS];simp[ih];omega
theorem zRx(L:List (Nat × Nat))(k:Nat):(pc L).take (k*2)=pc (L.take k):=by
 induction L generalizing k with
 |nil=>simp[zRw]
 |cons p L ih=>
  cases k with
  |zero=>simp[zRw]
  |succ k=>rw[zCX,zHS,zHS,show(k+1)*2=k*2+1+1 by omega,zCX,zCX,ih]
theorem zRv(L:List (Nat × Nat))(k:Nat):(pc L).drop (k*2)=pc (L.drop k):=by
 induction L generalizing k with
 |nil=>simp[zRw]
 |cons p L ih=>
  cases k with
  |zero=>simp
  |succ k=>rw[xgl,zHS,show(k+1)*2=k*2+1+1 by omega,xgl,xgl,ih]
theorem zXJ{L:List (Nat × Nat)}{p:Nat × Nat}(h:L[k]?=some p):(pc L)[k*2]?=some (.int .i64 (p.1:Nat))/\(pc L)[k*2+1]?=some (.int .i64 (p.2:Nat)):=by
 induction L generalizing k with
 |nil=>simp at h
 | cons q L ih=>
  cases k with
  |zero=>simp at h;subst h;exact⟨rfl,rfl⟩
  |succ k=>
   rw[List.getElem?_cons_succ]at h;obtain⟨h1,h2⟩:=ih h;rw[zHS,show(k+1)*2=k*2+1+1 by omega];exact⟨h1,h2⟩
theorem zOS(L:List (Nat × Nat)):∀u∈pc L,u.oneCell'=true:=by
 induction L with
 |nil=>intro u hu;cases hu
 |cons p L ih=>
  intro u hu;rw[zHS]at hu;rcases List.mem_cons.1 hu with rfl|hu
  rfl;rcases List.mem_cons.1 hu with rfl|hu
  rfl;exact ih u hu
def zHi(w:World)(base:Nat)(v:Value)(L:List (Nat × Nat)):Prop:=w.ownsRow base zDy 2 v L.length (pc L)
theorem zHi.piv{L:List (Nat × Nat)}(h:zHi w base v L):zMj w v L.length (fun k=>(L.getD k (0,0)).1) (fun k=>(L.getD k (0,0)).2):=by
 rcases h.2 with⟨rfl,h0⟩|⟨g,cap,cur,rfl,k1,k2,k3,k4,k5,k6⟩
 exact⟨none,0,by rw[h0],by omega,by omega,fun h=>by omega⟩;refine⟨_,cap,rfl,k3,k4,fun _=>⟨g,cur,rfl,k2,fun k hk=>?_⟩⟩;have hx:=xga hk;obtain⟨c1,c2⟩:=zXJ hx;have hg:L.getD k (0,0)=L[k]:=by rw[xgb,hx];rfl
 show cur[k*2]?=some (Value.int .i64 (((L.getD k (0,0)).1:Nat):Int))/\cur[k*2+1]?=some (Value.int .i64 (((L.getD k (0,0)).2:Nat):Int));rw[hg];rw[<-k6,List.getElem?_take]at c1 c2;constructor
 ·split at c1
  ·simpa using c1
  cases c1
 split at c2;simpa using c2;cases c2
theorem zHi.below{L:List (Nat × Nat)}(h:zHi w base v L)(hb:Below w.heap.size w w'):zHi w' base v L:=
 World.ownsRow.kept h (row:=none) ⟨hb.os,hb.tape,hb.output,hb.size,fun k hk _=>hb.block k hk⟩ (by cases hv:v.ownBlock<;>simp)
theorem zHi.own{L:List (Nat × Nat)}(h:zHi w base v L):∀g,v.ownBlock=some g->base<=g/\g<w.heap.size:=zDA h
theorem zHi.old{L:List (Nat × Nat)}(h:zHi w base v L)(ho:∀g,v.ownBlock=some g->w'.heap[g]?=w.heap[g]?):zHi w' base v L:=by
 obtain⟨h1,h2⟩:=h;refine⟨h1,?_⟩;rcases h2 with h2|⟨g,cap,cur,rfl,k1,k2,r⟩
 exact .inl h2;exact .inr ⟨g,cap,cur,rfl,k1,(ho g rfl).trans k2,r⟩
theorem zHi.nil(w:World)(base:Nat):zHi w base (.slice none 0 0) []:=⟨rfl,.inl ⟨rfl,rfl⟩⟩
theorem zF7{w:World}{ops:Array Oper}{rest:List Oper}{o:Oper}{a:Act}{Q:Exit->Act->World->Prop}(hgd:o.guard=none)(d s:Operand)(t t':TypeId)
  (ho:o.op= .call {callee:=.builtin .copy,args:=#[d,s],argTypes:=#[t,t']}) (v u:Value) (hd:a.eval d=v) (hs:a.eval s=u) {v':Value} {w':World}
  (hr:(Builtin.copy_ #[t,t'] o.type #[v,u]).run Tryz.prog w= .ok v' w') (h:wpList Tryz.prog ops Q rest (a.put o.dst v') w'):wpList Tryz.prog ops Q (o::rest) a w:=by
 refine wpList_plain hgd fun K hK=>?_
 unfold Oper.wp execOp;simp only[ho,resolve,invoke,builtin,Sem.run_bind,Sem.run_pure,Result.andThen_ok,List.map_toArray,List.map_cons,List.map_nil,hd,hs,hr];exact hK _ _ h
theorem zG6(w:World)(ty:TypeId)(g o dLen dCap:Nat)(a:Addr)(sLen sCap:Nat)(cur:Array Value)(t:TypeId)(cs:List Value)
  (hg:w.heap[g]?=some (.cells cur t (0,0))) (hn:cs.length=Nat.min sLen dLen*2)
  (hsrc:∀j v,cs[j]?=some v->w.cell? (a.add j)=some v) (hfit:o+cs.length<=cur.size) (h1:∀v∈cs,v.oneCell'=true):
  ∃v,(Builtin.copy_ #[163,163] ty #[.slice (some ⟨g,o,none⟩) dLen dCap,.slice (some a) sLen sCap]).run Tryz.prog w=
   .ok v (w.setRow g (cur.toList.take o++cs++cur.toList.drop (o+cs.length)).toArray):=by
 obtain⟨i0,hi,hz0,hz1,hz2⟩:=info_parts Tryz.infoPiv;have hl:=run_loadCells_list (P:=Tryz.prog) w a cs hsrc;have hst:=run_storeCells_at Tryz.prog g o t cs 0 cur w hg (by simpa using hfit) h1;have hu:=zBV;refine⟨goInt (Nat.min sLen dLen),?_⟩;simp[Builtin.copy_,run_underlying hu,Builtin.lenOf,Builtin.firstCells,sizeOf,typeInfo,hi,hz1,<-hn,hl,hst]
theorem zTz(hb:Blk w g t cs)(ht:t≠tU)(hbel:Below 0 w w')(ho:∀k,k≠g->w'.heap[k]?=w.heap[k]?):zBr [g] w w':=
 ⟨hbel,fun b cs' fz hh=>(ho b (by
  rintro rfl
  have h1:w.heap[b]?=some (.cells cs t (0,0)):=hb
  rw[h1]at hh
  injection hh with hh
  injection hh with _ e
  exact ht e)).trans hh,fun k _ hk=>ho k (by simpa using hk)⟩
theorem zEZ(w:World)(g:Nat)(cs:Array Value):Below 0 w (w.setRow g cs):=⟨rfl,rfl,rfl,by unfold World.setRow;simp,fun k hk=>by omega⟩
theorem zMD(h:Blk w g t cs):w.shape? g=some (t,cs.size):=by
 have h1:w.heap[g]?=some (.cells cs t (0,0)):=h;unfold World.shape?;rw[h1]
theorem zJi(h:Blk w g t cs):w.frozen? ⟨g,o,none⟩=false:=by
 have h1:w.heap[g]?=some (.cells cs t (0,0)):=h;unfold World.frozen?;rw[h1];simp
theorem zRP{cur:List Value}{L:List (Nat × Nat)}(hn:L.length=n)(hk:k<=n)(hc:cur.take (n*2)=pc L)(hs:n*2+2<=cur.length)(r c:Nat):
  (((cur.take ((k+1)*2)++pc (L.drop k)++cur.drop ((k+1)*2+(pc (L.drop k)).length)).take (k*2)++pc [(r,c)]++(cur.take ((k+1)*2)++pc (L.drop k)++cur.drop ((k+1)*2+(pc (L.drop k)).length)).drop (k*2+(pc [(r,c)]).length)).take ((n+1)*2))=pc (L.take k++(r,c)::L.drop k):=by
 have l1:(pc (L.drop k)).length=(n-k)*2:=by rw[zIo,zBR,hn]
 have l2:(pc [(r,c)]).length=2:=rfl;have l3:(cur.take ((k+1)*2)).length=(k+1)*2:=by rw[qD];omega
 have t1:(cur.take ((k+1)*2)++pc (L.drop k)++cur.drop ((k+1)*2+(pc (L.drop k)).length)).take (k*2)=pc (L.take k):=by
  rw[zAZ,zAI oM,zDg,zBH oM,<-zRx,<-hc,zDg,zBH oM]
 have t2:(cur.take ((k+1)*2)++pc (L.drop k)++cur.drop ((k+1)*2+(pc (L.drop k)).length)).drop (k*2+(pc [(r,c)]).length)=pc (L.drop k)++cur.drop ((k+1)*2+(pc (L.drop k)).length):=by
  rw[zAZ,List.drop_append_of_le_length oM,l2,qJ oM,zBv]
 rw[t1,t2,zRu,show pc ((r,c)::L.drop k)=pc [(r,c)]++pc (L.drop k) from rfl,<-zAZ,<-zAZ];have l4:(pc (L.take k)++pc [(r,c)]++pc (L.drop k)).length=(n+1)*2:=by
  rw[zAA,zAA,l1,l2,zIo,qD];omega
 rw[<-l4,zCk]
theorem zFt(base:Nat)(v:Value)(L:List (Nat × Nat))(k r c xb:Nat)(w:World)(h:zHi w base v L)(hk:k<=L.length)(hx:Blk w xb zDy #[.int .i64 r,.int .i64 c])(hne:∀g,v.ownBlock=some g->g≠xb)(hb:base<=w.heap.size)(hL:L.length<=1000000):
  Calls Tryz.prog 177 #[v,.int .i64 k,.slice (some ⟨xb,0,none⟩) 1 1] w fun e w'=>∃v',e= .returned v'/\zHi w' base v' (L.take k++(r,c)::L.drop k)/\zBr v.ownBlock.toList w w':=by
 obtain⟨i0,hi,hz0,hz1,hz2⟩:=info_parts Tryz.infoPiv;have hown:=h;obtain⟨c0,c1,-,-⟩:=hx.two;have hnews:∀(j:Nat) (u:Value),[Value.int .i64 (r:Nat),Value.int .i64 (c:Nat)][j]?=some u->w.cell? ((⟨xb,0,none⟩:Addr).add j)=some u:=by
  intro j u hj;rw[zAJ];match j with
  |0=>simp at hj;subst hj;exact c0
  |1=>simp at hj;subst hj;exact c1
  |j+2=>simp at hj
 have hone:∀u∈ [Value.int .i64 (r:Nat),Value.int .i64 (c:Nat)],u.oneCell'=true:=by
  intro u hu;simp at hu;rcases hu with rfl|rfl<;>rfl
 have hend:∀v' w',w'.ownsRow base zDy 2 v' (L.length+1) (pc L++ [.int .i64 (r:Nat),.int .i64 (c:Nat)])->w.grownBy w' v.ownBlock->k=L.length->zHi w' base v' (L.take k++(r,c)::L.drop k)/\zBr v.ownBlock.toList w w':=fun v' w' h1 h2 hkn=>by
  subst hkn;refine⟨?_,zPm h2 (zEF hown dE h2)⟩;unfold zHi;rw[yU,List.drop_length,zRu,zAA];exact h1
 rcases h.2 with⟨rfl,h0⟩|⟨g,cap,cur,rfl,k1,k2,k3,k4,k5,k6⟩
 ·obtain rfl:k=0:=by omega
  have hl0:L= []:=qB h0;subst hl0;go_enter Tryz.func177,Tryz.ntmps177;go_wp2_with (at_builtin;refine wpList_append_own w rfl _ _ 163 rfl base zDy i0 _ 2 16 zBV hi hz0 hz1 hz2 rfl oM (.slice none 0 0) 0 (pc []) rfl hown ⟨xb,0,none⟩ 1 1 [.int .i64 (r:Nat),.int .i64 (c:Nat)] rfl rfl hnews hone (by simp[maxLen]) oM hb ?_;intro v' w' h1 h2 _)
  go_ret;exact⟨_,rfl,hend _ _ h1 h2 rfl⟩
 have hcap63:cap<=9223372036854775807:=k4;by_cases hkn:k=L.length
 ·obtain⟨n,hn⟩:∃n,L.length=n:=⟨_,rfl⟩
  rw[hn]at hkn hk hL hown k3 k6 ⊢
  subst hkn;by_cases hck:cap=k;all_goals
   go_enter Tryz.func177,Tryz.ntmps177;go_wp2_with (at_builtin;refine wpList_append_own w rfl _ _ 163 rfl base zDy i0 _ 2 16 zBV hi hz0 hz1 hz2 rfl oM (.slice (some ⟨g,0,none⟩) k cap) k (pc L) rfl (hn ▸ h) ⟨xb,0,none⟩ 1 1 [.int .i64 (r:Nat),.int .i64 (c:Nat)] rfl rfl hnews hone (by simp[maxLen];omega) oM hb ?_;intro v' w' h1 h2 _)
   go_ret;exact⟨_,rfl,hend _ _ (hn ▸ h1) h2 hn.symm⟩
 have hkl:k<L.length:=by omega
 obtain⟨n,hn⟩:∃n,L.length=n:=⟨_,rfl⟩;have HN:=xgw hn;rw[hn]at hkn hk hL k3 k6 hkl ⊢
 have hck:¬ cap=k:=by omega
 have hkn':((k:Int)==(n:Int))=false:=by simp;omega
 have hw1:IntKind.i64.wrap ((n:Int)+1)=(n:Int)+1:=yR _ oM;have hw2:IntKind.i64.wrap ((k:Int)+1)=(k:Int)+1:=yR _ oM;have hcs:(pc (L.drop k)).length=(n-k)*2:=by rw[zIo,zBR,HN.out]
 by_cases hroom:n+1<=cap
 ·have hck1:¬ cap=k+1:=by omega
  have hnr:¬ ((cap:Int)<(n:Int)+1):=by omega
  have hkn1:(k:Int)<=(n:Int)+1:=by omega
  have hgx:g≠xb:=hne g rfl;have hG:Blk w g zDy cur:=k2;have hsz:∀w:World,(sizeOf zDy).run Tryz.prog w= .ok 2 w:=fun w=>by simp[sizeOf,typeInfo,hi,hz1]
  have hov:∀lb cb,(callFunc 197 #[.slice (some ⟨xb,0,none⟩) 1 1,.slice (some ⟨g,(k+1)*2,none⟩) lb cb]).run Tryz.prog w= .ok (.value (.bool false)) w:=fun lb cb=>by
   rw[run_callFunc_extern Tryz.func197 kR kR kR (e:=Extern.SlicesOverlaps.overlaps #[163,163] #[4]) kR,
    Lib.run_overlaps_apart w 163 4 zDy zBV 2 hsz ⟨xb,0,none⟩ ⟨g,(k+1)*2,none⟩ 1 1 lb cb (zP hgx) zDy zDy 2 cur.size (zMD hx) (zMD hG) oM (zJi hx) (zJi hx)]
   rfl
  go_enter Tryz.func177,Tryz.ntmps177;go_upto_region 15 with(simp only[hov])
  refine zBM 8 rfl (RV w _ [E 0 69 (.slice (some ⟨g,0,none⟩) (n+1) cap),VN 1 70 k,VN 2 71 1,E 3 72 (.int .i64 (k+1)),E 4 73 (.slice (some ⟨g,(k+1)*2,none⟩) (n-k) (cap-(k+1))),E 5 74 (.slice (some ⟨g,0,none⟩) (n+1) cap),VN 6 75 k,E 7 76 (.slice (some ⟨g,k*2,none⟩) (n+1-k) (cap-k))]) kR zE4 (zIQ kR ?fin1) ?steps1
  case steps1=>
   (repeat' constructor)<;>(intro L T wS hL hd hcl hI K hK;try refine zK rfl ?_)
   ·exact xgs (hI.k 0 rfl kR)
   exact xgs (hI.k 1 rfl kR);exact xgs (hI.k 7 rfl kR);exact xgt (hI.e mm1 (hd 1)) (hI.e mm2 (hd 2));exact xgt (hI.e mm0 (hd 0)) (hI.e mm3 (hd 3));exact xgs (hI.k 0 rfl kR);exact xgs (hI.k 1 rfl kR);exact xgt (hI.e mm5 (hd 5)) (hI.e mm6 (hd 6))
  intro w1 hbw1 T hT;simp only[Fin,E,EI,VP,VSl,VN,xgg,xgh,xgi,xgj]at hT;subst hT;simp only[xgl,xgk];have hG1:=hG.below hbw1;have hX1:=hx.below hbw1;obtain⟨v1,hr1⟩:=zG6 w1 3 g ((k+1)*2) (n-k) (cap-(k+1)) ⟨g,k*2,none⟩ (n+1-k) (cap-k) cur zDy (pc (L.drop k)) hG1 (by rw[hcs];congr 1;simp only[Nat.min_def];split<;>omega)
   (fun j u hj=>by
    rw[zAJ,hG1.cell];rw[<-zRv,<-k6,List.getElem?_drop,List.getElem?_take]at hj;split at hj;rw[<-hj,Array.getElem?_toList];cases hj) (by rw[hcs];omega) (zOS _)
  obtain⟨R1,hR1⟩:∃R1:Array Value,(cur.toList.take ((k+1)*2)++pc (L.drop k)++cur.toList.drop ((k+1)*2+(pc (L.drop k)).length)).toArray=R1:=⟨_,rfl⟩;rw[hR1]at hr1;have hR1s:R1.size=cap*2:=by
   rw[<-hR1];simp[hcs];omega
  have hG2:Blk (w1.setRow g R1) g zDy R1:=setRow_heap w1 g cur R1 zDy (0,0) hG1;have hX2:Blk (w1.setRow g R1) xb zDy #[.int .i64 r,.int .i64 c]:=(setRow_other w1 g xb R1 (zP hgx)).trans hX1;obtain⟨d0,d1,-,-⟩:=hX2.two;obtain⟨v2,hr2⟩:=zG6 (w1.setRow g R1) 3 g (k*2) (n+1-k) (cap-k) ⟨xb,0,none⟩ 1 1 R1 zDy (pc [(r,c)]) hG2 (by show 2=_;simp only[Nat.min_def];split<;>omega)
   (fun j u hj=>by
    rw[zAJ];match j with
    |0=>simp[pc]at hj;subst hj;exact d0
    |1=>simp[pc]at hj;subst hj;exact d1
    |j+2=>simp[pc]at hj) (by show k*2+2<=_;omega) (zOS _)
  obtain⟨R2,hR2⟩:∃R2:Array Value,(R1.toList.take (k*2)++pc [(r,c)]++R1.toList.drop (k*2+(pc [(r,c)]).length)).toArray=R2:=⟨_,rfl⟩;rw[hR2]at hr2;have hfin:zHi ((w1.setRow g R1).setRow g R2) base (.slice (some ⟨g,0,none⟩) (n+1) cap) (L.take k++(r,c)::L.drop k)/\zBr [g] w ((w1.setRow g R1).setRow g R2):=by
   have hl:(L.take k++(r,c)::L.drop k).length=n+1:=by simp[HN.out];omega
   refine⟨⟨zIo _,.inr ⟨g,cap,R2,by rw[hl],k1,setRow_heap _ g R1 R2 zDy (0,0) hG2,by omega,k4,?_,?_⟩⟩,?_⟩
   ·rw[<-hR2]
    have:(pc [(r,c)]).length=2:=rfl;simp[this];omega
   ·rw[hl,<-hR2,<-hR1]
    exact zRP HN.out oM (HN.out ▸ k6) (by simp;omega) r c
   refine(zBr.of [g] hbw1).trans (zTz hG1 dE ((zEZ _ _ _).trans (zEZ _ _ _)) fun k hk=>(setRow_other _ g k R2 hk).trans (setRow_other _ g k R1 hk))
  clear hR1 hR2;go_wp2_with (first
   |(at_builtin;refine zF7 rfl _ _ 163 163 rfl _ _ rfl rfl hr1 ?_)
   |(at_builtin;refine zF7 rfl _ _ 163 163 rfl _ _ rfl rfl hr2 ?_))
  go_ret;exact⟨_,rfl,hfin⟩
 obtain rfl:cap=n:=by omega
 have hnr:((cap:Int)<(cap:Int)+1):=by omega
 have hG:Blk w g zDy cur:=k2;have hgx:g≠xb:=hne g rfl;have lg:=hG.lt;have lxb:=hx.lt;obtain⟨N,hN⟩:∃N,w.heap.size=N:=⟨_,rfl⟩;have hold:(Builtin.firstCells i0.size k (.slice (some ⟨g,0,none⟩) k cap)).run Tryz.prog w.drew= .ok (pc (L.take k)).toArray w.drew:=by
  rw[hz1];exact run_firstCells_some w.drew 2 k ⟨g,0,none⟩ k cap (pc (L.take k)) (by rw[zIo,qD,HN.out];omega) (fun j u hj=>by
   rw[zAJ];show w.cell? _=_;rw[hG.cell,zAX];rw[<-zRx,<-k6,List.getElem?_take,List.getElem?_take]at hj;split at hj
   ·split at hj
    ·rw[<-hj,Array.getElem?_toList]
    cases hj
   cases hj)
 have hik:k+(cap+1-k)=cap+1:=by omega
 obtain⟨G,hGc⟩:∃G,grownCap w (cap+1) cap zDy=G:=⟨_,rfl⟩;have hGn:cap+1<=G:=by rw[<-hGc];exact grownCap_ge w _ _ _
 have hG63:G<=9223372036854775807:=by
  have:=grownCap_le_maxLen w (cap+1) cap zDy (by unfold maxLen;omega);rw[hGc]at this;unfold maxLen at this;omega
 obtain⟨ROW,hROW⟩:∃ROW:Array Value,(pc (L.take k)).toArray++Builtin.zeroCells (Value.agg #[.int .i64 0,.int .i64 0]).cells (cap+1-k)++Builtin.zeroCells (Value.agg #[.int .i64 0,.int .i64 0]).cells (G-(cap+1))=ROW:=⟨_,rfl⟩;have hrz:∀ty,(Builtin.append_ #[163,3] ty #[.slice (some ⟨g,0,none⟩) k cap,.int .i64 ((cap:Int)+1-(k:Int))]).run Tryz.prog w= .ok (.slice (some ⟨N,0,none⟩) (cap+1) G) (w.drew.alloc (.cells ROW zDy)):=fun ty=>by
  have h:=Lib.run_append_grow_zeros w 163 3 ty zDy i0 _ .i64 .i64 zBV zC8 hi hz0 (some ⟨g,0,none⟩) k cap (pc (L.take k)) hold (cap+1-k) oM oM oM oM (by rw[hz2];omega) (by rw[hz2,hik];exact growslice_fits oM oM);rw[hik,hGc,hROW,hN]at h;rw[show(cap:Int)+1-(k:Int)=((cap+1-k:Nat):Int) by omega];exact h
 have hlt:(pc (L.take k)).length=k*2:=by rw[zIo,qD,HN.out];omega
 have hRs:ROW.size=G*2:=by
  rw[<-hROW];simp[Builtin.zeroCells,Value.cells,hlt];omega
 have hRt:ROW.toList.take (k*2)=pc (L.take k):=by
  rw[<-hROW];simp only[Array.toList_append,List.append_assoc];rw[<-hlt,zCk]
 have hG1:Blk ((w.alloc (.cells ROW zDy)).drew) N zDy ROW:=by rw[<-hN];exact qQ w.drew zDy ROW
 have hBa:Below w.heap.size w ((w.alloc (.cells ROW zDy)).drew):=((zA _ _).alloc (xgf _) _).drew;have hX1:=hx.below hBa;obtain⟨d0,d1,-,-⟩:=hX1.two;obtain⟨v2,hr2⟩:=zG6 ((w.alloc (.cells ROW zDy)).drew) 3 N (k*2) (cap+1-k) (G-k) ⟨xb,0,none⟩ 1 1 ROW zDy (pc [(r,c)]) hG1 (by show 2=_;simp only[Nat.min_def];split<;>omega)
  (fun j u hj=>by
   rw[zAJ];match j with
   |0=>simp[pc]at hj;subst hj;exact d0
   |1=>simp[pc]at hj;subst hj;exact d1
   |j+2=>simp[pc]at hj) (by show k*2+2<=_;omega) (zOS _)
 obtain⟨R1,hR1⟩:∃R1:Array Value,(ROW.toList.take (k*2)++pc [(r,c)]++ROW.toList.drop (k*2+(pc [(r,c)]).length)).toArray=R1:=⟨_,rfl⟩;rw[hR1]at hr2;have l2:(pc [(r,c)]).length=2:=rfl;have hR1s:R1.size=G*2:=by
  rw[<-hR1];simp[l2];omega
 have hR1t:R1.toList.take ((k+1)*2)=pc (L.take k)++pc [(r,c)]:=by
  rw[<-hR1];show List.take _ (_++_++_)=_;rw[hRt,<-(show(pc (L.take k)++pc [(r,c)]).length=(k+1)*2 by rw[zAA,hlt,l2];omega),zCk]
 obtain⟨W2,hW2⟩:∃W2,((w.alloc (.cells ROW zDy)).drew).setRow N R1=W2:=⟨_,rfl⟩;have hG2:Blk W2 N zDy R1:=by rw[<-hW2];exact setRow_heap _ N ROW R1 zDy (0,0) hG1
 have hB2:Below w.heap.size w W2:=by
  rw[<-hW2];exact⟨hBa.os,hBa.tape,hBa.output,by have:=(zEZ ((w.alloc (.cells ROW zDy)).drew) N R1).size;have:=hBa.size;omega,fun k hk=>(setRow_other _ N k R1 oM).trans (hBa.block k hk)⟩
 rw[hW2]at hr2;have hck1:¬ G=k+1:=by omega
 have hck2:¬ G=k:=by omega
 have hkn1:(k:Int)<=(cap:Int)+1:=by omega
 go_enter Tryz.func177,Tryz.ntmps177;go_upto_region 11 with(first
  |(at_builtin;refine Lib.wpList_append_run _ rfl _ _ _ _ rfl _ _ rfl rfl _ _ (hrz _) ?_)
  |(at_builtin;refine zF7 rfl _ _ 163 163 rfl _ _ rfl rfl hr2 ?_))
 refine zBM 8 rfl (RV W2 _ [E 0 46 (.slice (some ⟨N,0,none⟩) (cap+1) G),VN 1 47 k,VN 2 48 1,E 3 49 (.int .i64 (k+1)),E 4 50 (.slice (some ⟨N,(k+1)*2,none⟩) (cap-k) (G-(k+1))),VSl 5 51 g cap cap,VN 6 52 k,E 7 53 (.slice (some ⟨g,k*2,none⟩) (cap-k) (cap-k))]) kR zE4 (zIQ kR ?fin2) ?steps2
 case steps2=>
  (repeat' constructor)<;>(intro L T wS hL hd hcl hI K hK;try refine zK rfl ?_)
  ·exact xgs (hI.k 9 rfl kR)
  exact xgs (hI.k 1 rfl kR);exact xgs (hI.k 7 rfl kR);exact xgt (hI.e mm1 (hd 1)) (hI.e mm2 (hd 2));exact xgt (hI.e mm0 (hd 0)) (hI.e mm3 (hd 3));exact xgs (hI.k 0 rfl kR);exact xgs (hI.k 1 rfl kR);exact xgt (hI.e mm5 (hd 5)) (hI.e mm6 (hd 6))
 intro w3 hbw3 T hT;simp only[Fin,E,EI,VP,VSl,VN,xgg,xgh,xgi,xgj]at hT;subst hT;simp only[xgl,xgk];have hG3:=hG2.below hbw3;have hO3:=(hG.below hB2).below hbw3;obtain⟨v3,hr3⟩:=zG6 w3 3 N ((k+1)*2) (cap-k) (G-(k+1)) ⟨g,k*2,none⟩ (cap-k) (cap-k) R1 zDy (pc (L.drop k)) hG3 (by rw[hcs];congr 1;simp only[Nat.min_def];split<;>omega)
  (fun j u hj=>by
   rw[zAJ,hO3.cell];rw[<-zRv,<-k6,List.getElem?_drop,List.getElem?_take]at hj;split at hj;rw[<-hj,Array.getElem?_toList];cases hj) (by rw[hcs];omega) (zOS _)
 obtain⟨R2,hR2⟩:∃R2:Array Value,(R1.toList.take ((k+1)*2)++pc (L.drop k)++R1.toList.drop ((k+1)*2+(pc (L.drop k)).length)).toArray=R2:=⟨_,rfl⟩;rw[hR2]at hr3;have hfin:zHi (w3.setRow N R2) base (.slice (some ⟨N,0,none⟩) (cap+1) G) (L.take k++(r,c)::L.drop k)/\zBr [g] w (w3.setRow N R2):=by
  have hl:(L.take k++(r,c)::L.drop k).length=cap+1:=by simp[HN.out];omega
  refine⟨⟨zIo _,.inr ⟨N,G,R2,by rw[hl],by omega,setRow_heap _ N R1 R2 zDy (0,0) hG3,by omega,hG63,?_,?_⟩⟩,?_⟩
  ·rw[<-hR2]
   simp[hcs];omega
  ·rw[hl,<-hR2]
   show List.take _ (_++_++_)=_;rw[hR1t,zRu,show pc ((r,c)::L.drop k)=pc [(r,c)]++pc (L.drop k) from rfl,<-zAZ];rw[<-(show(pc (L.take k)++pc [(r,c)]++pc (L.drop k)).length=(cap+1)*2 by rw[zAA,zAA,hcs,hlt,l2];omega),zCk]
  refine zBr.of [g] ?_;have hb3:=hB2.trans (hbw3.mono hB2.size);exact⟨hb3.os,hb3.tape,hb3.output,by have:=(zEZ w3 N R2).size;have:=hb3.size;omega,fun k hk=>(setRow_other _ N k R2 oM).trans (hb3.block k hk)⟩
 clear hR1 hR2;go_wp2_with (at_builtin;refine zF7 rfl _ _ 163 163 rfl _ _ rfl rfl hr3 ?_)
 go_ret;exact⟨_,rfl,hfin⟩
end Go.Proofs.YtkidaebmhlijlaaGreat
