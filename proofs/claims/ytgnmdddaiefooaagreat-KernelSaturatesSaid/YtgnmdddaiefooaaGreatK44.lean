/- hermite.Form at matrices of one digit: what Check asks for; the fixed examples of torsionlaw12.sanity. torsionref12: operations on the work; Moved. -/
import Derived.Test.YtgnmdddaiefooaaGreatK34
import Derived.Test.YtgnmdddaiefooaaGreatK38
import Derived.Test.YtgnmdddaiefooaaGreatK39
import Derived.Test.YtgnmdddaiefooaaGreatK40
import Derived.Test.YtgnmdddaiefooaaGreatK42
import Derived.Test.YtgnmdddaiefooaaGreatK43
set_option linter.unusedVariables false
set_option linter.unusedSimpArgs false
set_option linter.unusedSectionVars false
set_option maxHeartbeats 16000000
set_option maxRecDepth 100000
namespace Go.Proofs.YtgnmdddaiefooaaGreat
open Go.RowKit
theorem zBP{z:Int}(h:z.natAbs<BD):Sm z:=zHv.bsm.sm z h
structure zMm(R C:Nat)(A H U V:List (List Int)):Prop where
 fh:yI R C H
 fu:yI R R U
 fv:yI R R V
 chk:zPV R C A R C H R R U R R V
 lat:∃r c G,zDD R C r c (ent A) G/\H=genM R C G
 sh:∀r∈H,∀z∈r,Sm z
 m1:zD6 U A R R C
 m2:zD6 U V R R R
theorem zCr{R C:Nat}{F:Nat->Nat->Int}{P:Int->Prop}(h:∀a,a<R->∀b,b<C->P (F a b)):∀r∈genM R C F,∀z∈r,P z:=by
 intro r hr z hz;unfold genM at hr;obtain⟨i,hi,rfl⟩:=List.mem_map.1 hr;obtain⟨j,hj,rfl⟩:=List.mem_map.1 hz;exact h i (List.mem_range.1 hi) j (List.mem_range.1 hj)
theorem jH.chk{R C r:Nat}{c:Nat->Nat}{A:List (List Int)}{H U V:Nat->Nat->Int}(h:jH R C r c (ent A) H U V)(hA:yI R C A):zPV R C A R C (genM R C H) R R (genM R R U) R R (genM R R V):=by
 refine⟨zGe.2 ⟨r,c,h.hnf⟩,rfl,rfl,⟨rfl,rfl,(zX _ _ _).valid⟩,⟨rfl,rfl,(zX _ _ _).valid⟩,?_,?_⟩
 ·refine zR fun i hi j hj=>?_
  conv=>lhs;rw[jR hA]
  rw[zBH hi hj,h.mul i hi j hj]
 ·exact zR fun i hi j hj=>by rw[zBH hi hj,h.inv i hi j hj]
theorem zMm.eq{R C:Nat}{A H U V W:List (List Int)}(h:zMm R C A H U V)(hW:yI R C W)(hl:∃r c,zDD R C r c (ent A) (ent W)):H=W:=by
 obtain⟨r,c,G,h1,rfl⟩:=h.lat;obtain⟨r',c',h2⟩:=hl;rw[jR hW];exact(h1.eq h2).2
instance (C:Nat) (F:Nat->Nat->Int) (i:Nat):Decidable (zBL C F i):=
 decidable_of_iff (lead C F i<0∨(¬ lead C F i<0/\(∀k,k<i->0<=lead C F k/\lead C F k<lead C F i)/\0<F i (lead C F i).toNat/\∀k,k<i->0<=F k (lead C F i).toNat/\F k (lead C F i).toNat<F i (lead C F i).toNat)) (by
  unfold zBL
  constructor
  ·rintro(h|⟨h1,h2,h3⟩)
   ·exact .inl h
   ·exact .inr ⟨(lead C F i).toNat,by omega,fun k hk=>by have:=h2 k hk;omega,h3⟩
  ·rintro(h|⟨c,h1,h2,h3⟩)
   ·exact .inl h
   ·refine .inr ⟨by omega,fun k hk=>by rw[h1];exact h2 k hk,?_⟩
    rw[h1,Int.toNat_natCast]
    exact h3)
instance (R C:Int) (M:List (List Int)):Decidable (zLM R C M):=inferInstanceAs (Decidable (_/\_))
def zOr(R C:Nat)(A W X Y:List (List Int)):Prop:=zLM R C W/\(∀a,a<R->∀b,b<C->ent A a b=zI R fun t=>ent X a t*ent W t b)/\∀a,a<R->∀b,b<C->ent W a b=zI R fun t=>ent Y a t*ent A t b
instance (R C:Nat) (A W X Y:List (List Int)):Decidable (zOr R C A W X Y):=inferInstanceAs (Decidable (_/\_))
theorem zOr.lat{R C:Nat}{A W X Y:List (List Int)}(h:zOr R C A W X Y)(hW:yI R C W):∃r c,zDD R C r c (ent A) (ent W):=by
 obtain⟨r,c,h1⟩:=(zLf hW).1 h.1;exact⟨r,c,h1,⟨ent X,h.2.1⟩,⟨ent Y,h.2.2⟩⟩
theorem zNK{M0 R C:Nat}{M:List (List Int)}(h:zOI (M0+1) M=true)(hF:yI R C M):leM M0 R C (ent M):=fun a ha b hb=>by
 have hl:a<M.length:=by rw[hF.1];exact ha
 have hr:=hF.2 M[a] (List.getElem_mem _);have hb':b<M[a].length:=by omega
 have e:ent M a b=M[a][b]:=zBj (xga hl) (xga hb');have:=of_decide_eq_true (List.all_eq_true.1 (List.all_eq_true.1 h M[a] (List.getElem_mem _)) M[a][b] (List.getElem_mem _));rw[e];omega
/- The calls of sanity. -/
theorem zJ.to{Z Z':Nat->Prop}{w w':World}(h:zJ Z w w')(hz:∀b,Z b->Z' b):zJ Z' w w':=h.mono fun b _ hb=>hz b hb
section
variable {Z:Nat->Prop} {w:World} {bw R C:Nat} {x:Bst}
theorem zIG(h:KW Z w bw R C x){i j:Nat}(hi:i<R)(hj:j<R)(hij:i≠j){kv:Value}{k:Int}(hk:zQ w kv k)(hob:okB BD R C R x)(hok:zBo BD R C R x i j k)(hR:R<=1000000)(hC:C<=1000000):
  Calls Tryz.prog 82 #[.pointer (some ⟨bw,0,none⟩),.int .i64 i,.int .i64 j,kv] w fun e w'=>(∃u,e= .returned u)/\zJ Z w w'/\KW Z w' bw R C (x.add i j k):=by
 obtain⟨AM,AU,AV,bm,bu,bv,h1,h2⟩:=h;obtain⟨o1,o2,o3⟩:=hob;obtain⟨k1,k2,k3,k4⟩:=hok;refine(zJD bw AM AU AV R C i j bm bu bv x kv k w h1 hi hj hij hk (zBP k1) hR hC (fun t ht=>⟨zBP (o1 i hi t ht),zBP (o1 j hj t ht),zBP (k2 t ht)⟩) (fun t ht=>⟨zBP (o2 i hi t ht),zBP (o2 j hj t ht),zBP (k3 t ht).1⟩)
  (fun t ht=>⟨zBP (o3 j hj t ht),zBP (o3 i hi t ht),zBP (k3 t ht).2⟩)).mono ?_
 rintro e w' ⟨hu,ho,hk'⟩;exact⟨hu,ho.to h2,AM,AU,AV,bm,bu,bv,hk',h2⟩
theorem zMX(h:KW Z w bw R C x){i:Nat}(hi:i<R)(hob:okB BD R C R x)(hR:R<=1000000)(hC:C<=1000000):
  Calls Tryz.prog 81 #[.pointer (some ⟨bw,0,none⟩),.int .i64 i] w fun e w'=>(∃u,e= .returned u)/\zJ Z w w'/\KW Z w' bw R C (x.neg i):=by
 obtain⟨AM,AU,AV,bm,bu,bv,h1,h2⟩:=h;obtain⟨o1,o2,o3⟩:=hob;refine(zJE bw AM AU AV R C i bm bu bv x w h1 hi hR hC (fun t ht=>zBP (o1 i hi t ht)) (fun t ht=>zBP (o2 i hi t ht)) (fun t ht=>zBP (o3 i hi t ht))).mono ?_;rintro e w' ⟨hu,ho,hk'⟩;exact⟨hu,ho.to h2,AM,AU,AV,bm,bu,bv,hk',h2⟩
theorem zHL(h:KW Z w bw R C x){i j:Nat}(hi:i<R)(hj:j<R)(hR:R<=1000000)(hC:C<=1000000):
  Calls Tryz.prog 80 #[.pointer (some ⟨bw,0,none⟩),.int .i64 i,.int .i64 j] w fun e w'=>(∃u,e= .returned u)/\zJ Z w w'/\KW Z w' bw R C (x.swap i j):=by
 obtain⟨AM,AU,AV,bm,bu,bv,h1,h2⟩:=h;refine(zHh bw AM AU AV R C i j bm bu bv x w h1 hi hj hR hC).mono ?_;rintro e w' ⟨hu,ho,hk'⟩;have l1:=h1.m.len;have l2:=h1.u.len;exact⟨hu,ho.to h2,AM,AU,AV,zHq bm i j,zHq bu i j,bv,hk',fun b hb=>h2 b (hb.imp (zDY oM oM) (Or.imp (zDY oM oM) id))⟩
theorem KW.blk(h:KW Z w bw R C x):∃m1 m2 m3 cs,Blk w bw tWk cs/\w.cell? ⟨bw,0,none⟩=some (.int .i64 R)/\w.cell? ⟨bw,1,none⟩=some (.int .i64 C)/\w.cell? ⟨bw,2,none⟩=some m1/\cs=#[.int .i64 R,.int .i64 C,m1,.int .i64 R,.int .i64 R,m2,.int .i64 R,.int .i64 R,m3]:=by
 obtain⟨AM,AU,AV,bm,bu,bv,h1,h2⟩:=h;obtain⟨q0,q1,q2,-⟩:=h1.blk.nine;exact⟨AM,AU,AV,_,h1.blk,q0,q1,q2,rfl⟩
end
structure MvI(R C M0 i:Nat)(x0 x:Bst):Prop where
 ops:∃l,qJ R l/\x=zA1 l x0
 bd:leB (M0*4^i) R C R x
section
variable {R C M0 i:Nat} {x0 x:Bst}
theorem MvI.op(h:MvI R C M0 i x0 x){o:Op}(ho:o.ok R)(hg:o.g<=4):MvI R C M0 (i+1) x0 (o.b x):=by
 obtain⟨l,l1,l2⟩:=h.ops;refine⟨zDQ l1 l2 (qJ.cons ho qJ.nil) rfl,(zGi h.bd ho).mono ?_⟩;rw[Nat.pow_succ,<-Nat.mul_assoc];exact Nat.mul_le_mul_left _ hg
theorem MvI.same(h:MvI R C M0 i x0 x):MvI R C M0 (i+1) x0 x:=⟨h.ops,h.bd.mono (Nat.mul_le_mul_left _ (zCZ oM oM))⟩
theorem MvI.last(h:MvI R C M0 i x0 x)(hi:i<=12):leB (M0*4^12) R C R x:=h.bd.mono (Nat.mul_le_mul_left _ (zCZ oM hi))
end
theorem qX.keep3{w:World}{v:Value}{R C:Int}{M:List (List Int)}{b:Nat}{cs:Array Value}(h:qX w v R C M)(hb:Blk w b 28 cs)(x y z:Value):qX (((w.setCell ⟨b,0,none⟩ x).setCell ⟨b,1,none⟩ y).setCell ⟨b,2,none⟩ z) v R C M:=by
 obtain⟨A,rfl,h⟩:=h;exact⟨A,rfl,h.off hb dE dE (fun k hk=>qQ _ _ k _ _ _ hk) (hb.lext3 dE _ _ _)⟩
theorem zPU{z:Int}:(Int.tmod z 4).natAbs<=3:=by
 rcases Int.le_total 0 z with h|h
 ·rw[Int.tmod_eq_emod_of_nonneg h];omega
 ·have:Int.tmod z 4=-(Int.tmod (-z) 4):=by rw[Int.neg_tmod];omega
  rw[this,Int.tmod_eq_emod_of_nonneg oM];omega
theorem zPw{a:Nat}(h:a<=2^90):a<BD:=by
 rw[zLR];have h1:2^91<=B32^zG6:=zDT (by rw[yP];omega);have h2:(2:Nat)^90<2^91:=by decide
 exact Nat.lt_of_le_of_lt h (Nat.lt_of_lt_of_le h2 h1)
theorem zOJ(v lv:Value)(R C:Nat)(L:List (List Int))(ls:List (Nat × Nat × Nat × Int))(M0:Nat)(w:World)(h:qX w v R C L)(hF:yI R C L)(hR:R<=16)(hC:C<=16)(hst:StV w lv ls)(hM1:1<=M0)(hM:M0<=2^60)(hL:leM M0 R C (ent L)):
  Calls Tryz.prog 37 #[v,lv] w fun e w'=>∃v' l,e= .returned v'/\qJ R l/\qX w' v' R C (genM R C (zA2 l (ent L)))/\leM (M0*4^12) R C (zA2 l (ent L))/\Below w.heap.size w w':=by
 have h0:=h;obtain⟨A,rfl,h⟩:=h;obtain⟨ao,n,cap,rfl,e2,e3,e4,-⟩:=id h;obtain⟨so,sn,sc,rfl,hsl,hsn,hsc,-,-⟩:=id hst;have HSL:=xgw hsl;have HF:=xgv hF;have hM12:M0*4^12<BD:=zPw (Nat.le_trans (Nat.mul_le_mul_right _ hM) dE);have HM12:=xgv hM12;have HS0:qL (∀r∈L,∀z∈r,Sm z):=⟨fun r hr z hz=>by
  obtain⟨i,hi,rfl⟩:=List.getElem_of_mem hr;obtain⟨j,hj,rfl⟩:=List.getElem_of_mem hz;have hl:=hF.2 _ (List.getElem_mem hi);have:=hL i (by rw[<-hF.1];exact hi) j oM;have e:ent L i j=L[i][j]:=zBj (xga hi) (xga hj);rw[e]at this;refine zBP (Nat.lt_of_le_of_lt (Nat.le_trans this ?_) hM12);exact Nat.le_mul_of_pos_right _ (Nat.pow_pos oM)⟩
 have hmv0:MvI R C M0 0 ⟨ent L,idf,idf⟩ ⟨ent L,idf,idf⟩:=⟨⟨[],qJ.nil,rfl⟩,by
  rw[Nat.pow_zero,Nat.mul_one];exact⟨hL,zDK R M0 hM1,zDK R M0 hM1⟩⟩
 have HMV:=xgv hmv0;have HM1:=xgv hM1;clear hF hsl hM hL e2 hM12 hmv0 hM1;go_enter Tryz.func37,Tryz.ntmps37;go_upto_region 1 with(fail)
 refine zB ?_;intro W0 hW0;obtain⟨hB0,bx,br,hs0⟩:=qI hW0;obtain⟨c1,c2,c3,c4,c5,c6⟩:=bx.three;clear hW0;go_wp2_with fail
 refine(zDl _ L R C W0 (h0.below hB0).off HF.out oM oM HS0.out).mono ?_;rintro e w2 ⟨v,rfl,hkn,hb2⟩;obtain⟨bw,AM,AU,AV,bm,bu,bv,rfl,k1,k2,k3⟩:=hkn.ex;have hkw:KW (fun b=>W0.heap.size<=b) w2 bw R C ⟨ent L,idf,idf⟩:=⟨_,_,_,_,_,_,k2.congr (fun _ _ _ _=>rfl) (fun _ _ _ _=>rfl) (fun a _ b _=>zBX a b),k3⟩;have bx:=bx.below hb2;have br:=br.below hb2;have hB2:=nx hB0 hb2;have q1:=hB0.size;have q2:=hb2.size;have lbx:=bx.lt;have lbr:=br.lt;clear c1 c2 c3 c4 c5 c6 hkn k2 k3 h;go_wp2;go_loopw [6] (fun iv wr=>∃(i:Nat) (x:Bst),iv= .int .i64 i/\i<=12/\Below w.heap.size w wr/\Blk wr w.heap.size 28 #[.int .i64 R,.int .i64 C,.slice ao n cap]/\Blk wr (w.heap.size+1) 28 #[.int .i64 0,.int .i64 0,.slice none 0 0]/\KW (fun b=>W0.heap.size<=b) wr bw R C x/\qL (MvI R C M0 i ⟨ent L,idf,idf⟩ x)) (fun iv _=>12-(intOf iv).toNat)
 case atStart=>exact⟨0,_,rfl,by omega,hB2,bx,br,hkw,HMV⟩
 case round=>
  clear hkw bx br hB2;obtain⟨i,x,rfl,hi,hb,bx,br,hkw,hmv⟩:=hrel;obtain⟨c1,c2,c3,c4,c5,c6⟩:=bx.three;have lbx:=bx.lt;by_cases hgo:(i<sn/\i<12)/\0<R
  ·obtain⟨⟨hl,hlm⟩,hR0⟩:=hgo
   obtain⟨b0,off,p,q,r,z,rfl,hb0,hp,hq,hr,hz1,hz2,d1,d2,d3,d4⟩:=hst.cell (k:=i) (by rw[HSL.out];exact hl);have d1:=(hb.cell (p:=⟨b0,off+i*4,none⟩) hb0).trans d1;have d2:=(hb.cell (p:=⟨b0,off+i*4+1,none⟩) hb0).trans d2;have d3:=(hb.cell (p:=⟨b0,off+i*4+2,none⟩) hb0).trans d3;have d4:=(hb.cell (p:=⟨b0,off+i*4+3,none⟩) hb0).trans d4;have hb0r:b0<wr.heap.size:=Nat.lt_of_lt_of_le hb0 hb.size;obtain⟨op,hop⟩:∃op:Nat,op=p%3:=⟨_,rfl⟩;have hop4:op<3:=by omega
   have hpo:(p:Int)%3=(op:Int):=by omega
   have ht9:(Int.tmod z 4).natAbs<=3:=zPU;obtain⟨t,ht⟩:∃t,Int.tmod z 4=t:=⟨_,rfl⟩;rw[ht]at ht9;have HT:=xgv ht;obtain⟨a,ha⟩:∃a:Nat,a=q%R:=⟨_,rfl⟩;obtain⟨c,hc⟩:∃c:Nat,c=r%R:=⟨_,rfl⟩;have haR:a<R:=by rw[ha];exact Nat.mod_lt _ hR0
   have hcR:c<R:=by rw[hc];exact Nat.mod_lt _ hR0
   have HA:qL ((q:Int)%(R:Int)=(a:Int)):=⟨by rw[ha];rfl⟩;have HCC:qL ((r:Int)%(R:Int)=(c:Int)):=⟨by rw[hc];rfl⟩;have HBD:qL (okB BD R C R x):=⟨(hmv.out.last hi).ok HM12.out⟩;clear hop ht ha hc;go_upto_region 5 with(fail)
   refine zE rfl (RV wr _ [E 0 26 (.slice (some ⟨b0,off,none⟩) sn sc),VN 1 27 i,VP 2 28 b0 (off+i*4),VP 3 29 b0 (off+i*4+1),E 4 30 (.int .u8 q),VN 5 31 q,VP 6 32 w.heap.size 0,VN 7 33 R,VN 8 34 a,VN 9 7 a]) kR RV.start (RV.fin kR ?fin1) ?steps1
   case steps1=>
    refine⟨?_,?_,?_,?_,?_,?_,?_,?_,?_,?_,trivial⟩<;>(intro L T wS hL hd hcl hI K hK;try refine zA rfl ?_)
    ·exact xgs (hI.k 1 rfl kR)
    ·exact xgs (hI.k 6 rfl kR)
    ·exact xgt (hI.e mm0 (hd 0)) (hI.e mm1 (hd 1))
    ·exact xgs (hI.e mm2 (hd 2))
    ·have zt3:=hI.e mm3 (hd 3)
     have cc0:=hI.cell d2;exact xgu
    ·have zt4:=hI.e mm4 (hd 4)
     go_simp;exact hK _ _ (hI.y mm5 (congrArg (Value.int .i64) (IntWalk.i64_in _ oM)))
    ·exact xgs (hI.k 2 rfl kR)
    ·have zt6:=hI.e mm6 (hd 6)
     have cc0:=hI.cell c1;exact xgu
    ·obtain⟨_,zt5,rfl⟩:=hI.v mm5 (hd 5)
     obtain⟨_,zt7,rfl⟩:=hI.v mm7 (hd 7);go_simp;rw[if_neg oM];exact hK _ _ (hI.y mm8 (congrArg (Value.int .i64) HA.out))
    ·exact xgs (hI.e mm8 (hd 8))
   intro w5 hbw5 T hT;simp only[Fin,E,EI,VP,VSl,VN,xgg,xgh,xgi,xgj]at hT;subst hT;have bx:=bx.below hbw5;have br:=br.below hbw5;have hkw:=hkw.below hbw5;have hb:=nx hb hbw5;have d1:=(hbw5.cell (p:=⟨b0,off+i*4,none⟩) hb0r).trans d1;have d3:=(hbw5.cell (p:=⟨b0,off+i*4+2,none⟩) hb0r).trans d3;have d4:=(hbw5.cell (p:=⟨b0,off+i*4+3,none⟩) hb0r).trans d4;have hb0r5:b0<w5.heap.size:=Nat.lt_of_lt_of_le hb0r hbw5.size;clear d2 c1 c2 c3 c4 c5 c6;obtain⟨c1,c2,c3,c4,c5,c6⟩:=bx.three;go_upto_region 6 with(fail)
   refine zE rfl (RV w5 _ [E 0 35 (.slice (some ⟨b0,off,none⟩) sn sc),VN 1 36 i,VP 2 37 b0 (off+i*4),VP 3 38 b0 (off+i*4+2),E 4 39 (.int .u8 r),VN 5 40 r,VP 6 41 w.heap.size 0,VN 7 42 R,VN 8 43 c,VN 9 8 c]) kR RV.start (RV.fin kR ?fin2) ?steps2
   case steps2=>
    refine⟨?_,?_,?_,?_,?_,?_,?_,?_,?_,?_,trivial⟩<;>(intro L T wS hL hd hcl hI K hK;try refine zA rfl ?_)
    ·exact xgs (hI.k 1 rfl kR)
    ·exact xgs (hI.k 6 rfl kR)
    ·exact xgt (hI.e mm0 (hd 0)) (hI.e mm1 (hd 1))
    ·exact xgs (hI.e mm2 (hd 2))
    ·have zt3:=hI.e mm3 (hd 3)
     have cc0:=hI.cell d3;exact xgu
    ·have zt4:=hI.e mm4 (hd 4)
     go_simp;exact hK _ _ (hI.y mm5 (congrArg (Value.int .i64) (IntWalk.i64_in _ oM)))
    ·exact xgs (hI.k 2 rfl kR)
    ·have zt6:=hI.e mm6 (hd 6)
     have cc0:=hI.cell c1;exact xgu
    ·obtain⟨_,zt5,rfl⟩:=hI.v mm5 (hd 5)
     obtain⟨_,zt7,rfl⟩:=hI.v mm7 (hd 7);go_simp;rw[if_neg oM];exact hK _ _ (hI.y mm8 (congrArg (Value.int .i64) HCC.out))
    ·exact xgs (hI.e mm8 (hd 8))
   intro w6 hbw6 T hT;simp only[Fin,E,EI,VP,VSl,VN,xgg,xgh,xgi,xgj]at hT;subst hT;have bx:=bx.below hbw6;have br:=br.below hbw6;have hkw:=hkw.below hbw6;have hb:=nx hb hbw6;have d1:=(hbw6.cell (p:=⟨b0,off+i*4,none⟩) hb0r5).trans d1;have d4:=(hbw6.cell (p:=⟨b0,off+i*4+3,none⟩) hb0r5).trans d4;clear d3 c1 c2 c3 c4 c5 c6;by_cases hop0:op=0
   ·subst hop0
    go_wp2_with fail
    refine(zHL hkw haR hcR oM oM).mono ?_;rintro e wa ⟨⟨uu,rfl⟩,hon,hkw'⟩;have bx:=hon.blk bx oM;have br:=hon.blk br oM;have hbN:=yG hb hon oM hb.size;have hmv':qL (MvI R C M0 (i+1) ⟨ent L,idf,idf⟩ (x.swap a c)):=⟨hmv.out.op (o:=.swap a c) ⟨haR,hcR⟩ (by show 1<=4;omega)⟩;clear d1 d4;go_wp2;go_roundw
    case rel=>exact⟨i+1,_,by simp,by omega,hbN,bx,br,hkw',hmv'⟩
    case measure=>simp[intOf];omega
   ·by_cases hop1:op=1
    ·subst hop1
     go_wp2_with fail
     refine(zMX hkw haR HBD.out oM oM).mono ?_;rintro e wa ⟨⟨uu,rfl⟩,hon,hkw'⟩;have bx:=hon.blk bx oM;have br:=hon.blk br oM;have hbN:=yG hb hon oM hb.size;have hmv':qL (MvI R C M0 (i+1) ⟨ent L,idf,idf⟩ (x.neg a)):=⟨hmv.out.op (o:=.neg a) haR (by show 1<=4;omega)⟩;clear d1 d4;go_wp2;go_roundw
     case rel=>exact⟨i+1,_,by simp,by omega,hbN,bx,br,hkw',hmv'⟩
     case measure=>simp[intOf];omega
    ·obtain rfl:op=2:=by omega
     by_cases hac:a=c
     ·have hmv':=xgv hmv.out.same
      subst hac;go_wp2;go_roundw
      case rel=>exact⟨i+1,_,by simp,by omega,hb,bx,br,hkw,hmv'⟩
      case measure=>simp[intOf];omega
     ·have HAC:=xgv hac
      have hg4:(Op.add a c t).g<=4:=by show 1+t.natAbs<=4;omega
      have hmv':qL (MvI R C M0 (i+1) ⟨ent L,idf,idf⟩ (x.add a c t)):=⟨hmv.out.op (o:=.add a c t) ⟨haR,hcR,hac⟩ hg4⟩;have HOK:qL (zBo BD R C R x a c t):=⟨zC0 (hmv.out.bd) haR hcR hac (Nat.mul_pos HM1.out (Nat.pow_pos oM)) (Nat.lt_of_le_of_lt (Nat.le_trans (Nat.mul_le_mul_left _ hg4) (by
       rw[Nat.mul_assoc,<-Nat.pow_succ];exact Nat.mul_le_mul_left _ (zCZ oM oM))) HM12.out)⟩
      have htm:=HT.out;have hww:IntKind.i64.wrap t=t:=IntWalk.i64_in _ oM;go_wp2_with fail
      refine(zBd t _ oM oM).mono ?_;rintro e w7 ⟨kv,rfl,hkv,hb7⟩;obtain⟨pn,pa,pl,pc,px,rfl,hpx⟩:=id hkv;have HPX:=xgw hpx;have bx:=bx.below hb7;have br:=br.below hb7;have hkw:=hkw.below hb7;have hb:=nx hb hb7;clear d1 d4 hpx htm hww;go_wp2_with fail
      refine(zIG hkw haR hcR HAC.out hkv HBD.out HOK.out oM oM).mono ?_;rintro e wa ⟨⟨uu,rfl⟩,hon,hkw'⟩;have bx:=hon.blk bx oM;have br:=hon.blk br oM;have hbN:=yG hb hon oM hb.size;go_wp2;go_roundw
      case rel=>exact⟨i+1,_,by simp,by omega,hbN,bx,br,hkw',hmv'⟩
      case measure=>simp[intOf];omega
  ·have HGO:qL (∀K:Prop,(i<sn->i<12->¬ 0<R->K)->(i<sn->¬ i<12->K)->(¬ i<sn->K)->K):=⟨fun K h1 h2 h3=>by
    by_cases hs:i<sn
    ·by_cases h12:i<12
     ·exact h1 hs h12 (fun hl=>hgo ⟨⟨hs,h12⟩,hl⟩)
     ·exact h2 hs h12
    ·exact h3 hs⟩
   obtain⟨AM',AU',AV',bm',bu',bv',hk9,hz9⟩:=hkw;obtain⟨l,hl1,hl2⟩:=hmv.out.ops;rw[zFu]at hl2;have hxs:x.s=zA2 l (ent L):=by rw[hl2]
   have hle:=(hmv.out.last hi).1;have hm9:=hk9.m.mat;rw[hxs]at hle hm9;obtain⟨mo,mc,rfl⟩:=hk9.m.shape;obtain⟨q0,q1',q2',-⟩:=hk9.blk.nine;have HFIN:=xgv (And.intro hl1 (And.intro hm9 hle));obtain⟨r1,r2,r3,r4,r5,r6⟩:=br.three;have hnb:bw≠w.heap.size+1:=by omega
   clear hgo hl1 hl2 hxs hle hm9;refine HGO.out _ ?_ ?_ ?_
   ·intro hl hlm hR0
    obtain rfl:R=0:=by omega
    go_wp2;obtain⟨f1,f2,f3⟩:=HFIN.out;refine zP rfl rfl rfl (br.put3 _ _ _) ⟨_,rfl,l,f1,f2.keep3 br _ _ _,f3,zN (zN (zN hb oM 0 _) oM 1 _) oM 2 _⟩
   ·intro hl hlm
    go_wp2;obtain⟨f1,f2,f3⟩:=HFIN.out;refine zP rfl rfl rfl (br.put3 _ _ _) ⟨_,rfl,l,f1,f2.keep3 br _ _ _,f3,zN (zN (zN hb oM 0 _) oM 1 _) oM 2 _⟩
   ·intro hl
    go_wp2;obtain⟨f1,f2,f3⟩:=HFIN.out;refine zP rfl rfl rfl (br.put3 _ _ _) ⟨_,rfl,l,f1,f2.keep3 br _ _ _,f3,zN (zN (zN hb oM 0 _) oM 1 _) oM 2 _⟩
end Go.Proofs.YtgnmdddaiefooaaGreat
