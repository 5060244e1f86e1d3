/- torsionref05.Filled. torsionref05: Made, Square. torsionlaw13.sanity. What the Checks ask for; Invariants of a small matrix as a list. hermite.Form at matrices of one digit: what Check asks for; the fixed examples of torsionlaw12.sanity. -/
import Derived.Test.YtgnmdddaiefooaaGreatF37
import Derived.Test.YtgnmdddaiefooaaGreatF38
import Derived.Test.YtgnmdddaiefooaaGreatF39
set_option linter.unusedVariables false
set_option linter.unusedSimpArgs false
set_option linter.unusedSectionVars false
set_option maxHeartbeats 16000000
set_option maxRecDepth 100000
namespace Go.Proofs.YtgnmdddaiefooaaGreat
open Go.RowKit
def I8V(w:World)(v:Value)(ls:List Int):Prop:=
 ∃ao n cap,v= .slice ao n cap/\ls.length=n/\n<=cap/\cap<=9223372036854775807/\(∀z∈ls,-128<=z/\z<=127)∧
  (ls≠ []->∃b off,ao=some ⟨b,off,none⟩/\b<w.heap.size/\∀(k:Nat) (z:Int),ls[k]?=some z->w.cell? ⟨b,off+k,none⟩=some (.int .i8 z))
theorem I8V.cell{w:World}{ao:Option Addr}{n cap:Nat}{ls:List Int}(h:I8V w (.slice ao n cap) ls){k:Nat}(hk:k<ls.length):
  ∃b off z,ao=some ⟨b,off,none⟩/\b<w.heap.size/\ls[k]?=some z/\w.cell? ⟨b,off+k,none⟩=some (.int .i8 z)/\-128<=z/\z<=127:=by
 obtain⟨ao',n',cap',h1,h2,h3,h4,h5,h6⟩:=h;injection h1 with e1 e2 e3
 subst e1;obtain⟨b,off,e,hb,hc⟩:=h6 (by rintro rfl;simp at hk);have hz:=xga hk;have:=h5 _ (xgd hz);exact⟨b,off,_,e,hb,hz,hc _ _ hz,this.1,this.2⟩
theorem I8V.below{w w':World}{v:Value}{ls:List Int}(h:I8V w v ls)(hb:Below w.heap.size w w'):I8V w' v ls:=by
 obtain⟨ao,n,cap,h1,h2,h3,h4,h5,h6⟩:=h;refine⟨ao,n,cap,h1,h2,h3,h4,h5,fun hne=>?_⟩;obtain⟨b,off,e,hlt,hc⟩:=h6 hne;exact⟨b,off,e,Nat.lt_of_lt_of_le hlt hb.size,fun k z hz=>(hb.cell (p:=⟨b,off+k,none⟩) hlt).trans (hc k z hz)⟩
def zJp(C:Nat)(ls:List Int):Nat->Nat->Int:=fun i j=>(ls.getD (i*C+j) 0).tmod 10
theorem zJx{C:Nat}{ls:List Int}{i j:Nat}(h:ls.length<=i*C+j):zJp C ls i j=0:=by
 unfold zJp;rw[xgb,List.getElem?_eq_none h];rfl
theorem zLB{z:Int}:(Int.tmod z 10).natAbs<=9:=by
 rcases Int.le_total 0 z with h|h
 ·rw[Int.tmod_eq_emod_of_nonneg h];omega
 ·have:Int.tmod z 10=-(Int.tmod (-z) 10):=by rw[Int.neg_tmod];omega
  rw[this,Int.tmod_eq_emod_of_nonneg oM];omega
theorem zLN(C:Nat)(ls:List Int)(i j:Nat):(zJp C ls i j).natAbs<=9:=zLB
theorem zJf{R C:Nat}{f:Nat->Nat->Int}{i j:Nat}(h:∀b,j<=b->f i b=0):zS R C (zCy f i j)=zS R C (zCy f (i+1) 0):=
 zT fun a _ b _=>by
  unfold zCy;by_cases e:a<i∨(a=i/\b<j)
  ·rw[if_pos e,if_pos oM]
  ·rw[if_neg e]
   by_cases e2:a<i+1∨a=i+1/\b<0
   ·rw[if_pos e2]
    obtain rfl:a=i:=by omega
    exact(h b oM).symm
   ·rw[if_neg e2]
theorem zHU(v:Value)(R C:Nat)(ls:List Int)(w:World)(h:I8V w v ls)(hR:R<=16)(hC:C<=16):
  Calls Tryz.prog 60 #[.int .i64 R,.int .i64 C,v] w (zAd w R C (zS R C (zJp C ls))):=by
 obtain⟨ao,n,cap,rfl,h2,h3,h4,-,-⟩:=id h;have HL:=xgw h2;obtain⟨f,hf⟩:∃f:Nat->Nat->Int,zJp C ls=f:=⟨_,rfl⟩;rw[hf];have HFE:qW (∀i j,f i j=zJp C ls i j):=⟨fun i j=>by rw[<-hf]⟩;clear hf h2;go_enter Tryz.func60,Tryz.ntmps60;go_upto_region 1 with(fail)
 refine zB ?_;intro W0 hW0;obtain⟨hB0,br,hs0⟩:=zM hW0;have e1:min (R:Int) 16=R:=by omega
 have e2:min (C:Int) 16=C:=by omega
 go_wp2_with fail
 refine(zCI R C W0 oM oM).mono ?_;rintro e w2 ⟨u,bs,rfl,⟨hbl,A2,rfl,ho⟩,hb2⟩;obtain⟨oo,on,oc,rfl,-,-,-,-⟩:=id ho.rows;have hlts:=ho.lts;go_upto_region 2 with(fail)
 refine zB ?_;intro W3 hW3;obtain⟨hB3,T7,hs3⟩:=zM hW3;have br:=(br.below hb2).below hB3;have ho:=ho.below hB3;rw[zCk R C f]at ho;have hBt:=nx (nx hB0 hb2) hB3;have q2:=hb2.size;clear hW3 hW0 e1 e2;go_wp2;go_loopw [8] (fun iv wr=>∃i:Nat,i<=R/\iv= .int .i64 i/\Below w.heap.size w wr/\Blk wr w.heap.size 28 #[.int .i64 0,.int .i64 0,.slice none 0 0]/\Blk wr w2.heap.size 28 #[.int .i64 R,.int .i64 C,.slice oo on oc]/\zK wr W0.heap.size (.slice oo on oc) C bs (zS R C (zCy f i 0))) (fun iv _=>R-(intOf iv).toNat)
 case atStart=>exact⟨0,by omega,rfl,hBt,br,T7,ho⟩
 case round=>
  obtain⟨i,hi,rfl,hb,br,T7,ho⟩:=hrel;obtain⟨f1,f2,f3,f4,f5,f6⟩:=T7.three;by_cases hlt:i<R
  ·go_wp2
   clear f1 f2 f3 f4 f5 f6;go_loopw [9] (fun jv wr=>∃j:Nat,j<=C/\jv= .int .i64 j/\Below w.heap.size w wr/\Blk wr w.heap.size 28 #[.int .i64 0,.int .i64 0,.slice none 0 0]/\Blk wr w2.heap.size 28 #[.int .i64 R,.int .i64 C,.slice oo on oc]/\zK wr W0.heap.size (.slice oo on oc) C bs (zS R C (zCy f i j))) (fun jv _=>C-(intOf jv).toNat)
   case atStart=>exact⟨0,by omega,rfl,hb,br,T7,ho⟩
   case round=>
    obtain⟨j,hj,rfl,hb,br,T7,ho⟩:=hrel;obtain⟨f1,f2,f3,f4,f5,f6⟩:=T7.three;obtain⟨m,hm⟩:∃m,i*C+j=m:=⟨_,rfl⟩;have hmi:(i:Int)*(C:Int)+(j:Int)=(m:Int):=by rw[<-hm,Int.natCast_add,Int.natCast_mul]
    have hiC:i*C<=16*16:=Nat.mul_le_mul oM hC;have hp0:0<=(i:Int)*(C:Int):=by rw[<-Int.natCast_mul];omega
    have hp1:(i:Int)*(C:Int)<=1000000:=by rw[<-Int.natCast_mul];omega
    have hw1:IntKind.i64.wrap ((i:Int)*(C:Int))=(i:Int)*(C:Int):=IntWalk.i64_in _ oM;have hw2:IntKind.i64.wrap (m:Int)=(m:Int):=IntWalk.i64_in _ oM;have hmm:IntKind.i64.wrap ((i:Int)*(C:Int)+(j:Int))=(m:Int):=by rw[hmi,hw2]
    by_cases hjc:j<C
    ·by_cases hmn:m<n
     ·obtain⟨b,off,z,rfl,hbl1,hz,c1,z1,z2⟩:=h.cell (k:=m) (by rw[HL.out];exact hmn)
      have hcell:=(hb.cell (p:=⟨b,off+m,none⟩) hbl1).trans c1;have hent:Hid (f i j=Int.tmod z 10):=xgw (by rw[HFE.out];unfold zJp;rw[hm,yU hz]);have ht9:(Int.tmod z 10).natAbs<=9:=zLB;obtain⟨t,ht⟩:∃t,Int.tmod z 10=t:=⟨_,rfl⟩;rw[ht]at hent ht9;obtain⟨g,bo,rfl,hg,hbo,hbo2,o1,ho3⟩:=ho.at_ (i:=i) oM;have hio:i<on:=by omega
      have HO3:=xgw ho3;have HM:=xgw hm;have HT:=xgv ht;have lt7:=T7.lt;clear ho3 hm hz hiC c1 ht;go_upto_region 8 with(fail)
      refine zD 19 rfl (RI wr (wr.heap.size) _ 51
        [VP 0 40 w2.heap.size 2,VSl 1 41 g on oc,VN 2 42 i,VP 3 43 g i,VSl 4 44 bo C C,VN 5 45 j,E 6 46 (.slice (some ⟨b,off,none⟩) n cap),VN 7 47 i,VP 8 48 w2.heap.size 1,VN 9 49 C,E 10 50 (.int .i64 ((i:Int)*(C:Int))),VN 11 51 j,VN 12 52 m,VP 13 53 b (off+m),E 14 54 (.int .i8 z),E 15 55 (.int .i8 t),VN 16 56 t,EI 17 57 (t),VP 18 58 bo (j*2)] [] []) kR RI.start (RI.fin kR ?fin1) ?steps1
      case steps1=>
       refine⟨?_,?_,?_,?_,?_,?_,?_,?_,?_,?_,?_,?_,?_,?_,?_,?_,?_,?_,?_,trivial⟩<;>(intro L T wS hL hd hcl hI K hK;try refine zA rfl ?_)
       ·exact xgs (hI.k 7 rfl kR)
       ·have zt0:=hI.e mm0 (hd 0)
        have cc0:=hI.cell f3 oM nom;exact xgu
       ·exact xgs (hI.k 8 rfl kR)
       ·exact xgt (hI.e mm1 (hd 1)) (hI.e mm2 (hd 2))
       ·have zt3:=hI.e mm3 (hd 3)
        have cc0:=hI.cell o1 oM nom;exact xgu
       ·exact xgs (hI.k 9 rfl kR)
       ·exact xgs (hI.k 2 rfl kR)
       ·exact xgs (hI.k 8 rfl kR)
       ·exact xgs (hI.k 7 rfl kR)
       ·have zt8:=hI.e mm8 (hd 8)
        have cc0:=hI.cell f2 oM nom;exact xgu
       ·exact xgt (hI.e mm7 (hd 7)) (hI.e mm9 (hd 9))
       ·exact xgs (hI.k 9 rfl kR)
       ·exact xgt (hI.e yD (hd 10)) (hI.e zAH (hd 11))
       ·exact xgt (hI.e mm6 (hd 6)) (hI.e zAb (hd 12))
       ·have zt13:=hI.e jK (hd 13)
        have cc0:=hI.cell hcell oM nom;exact xgu
       ·have zt14:=hI.e zCP (hd 14)
        go_simp;exact hK _ _ (hI.y zB8 (congrArg (Value.int .i8) HT.out))
       ·have zt15:=hI.e zB8 (hd 15)
        go_simp;exact hK _ _ (hI.y zCx (congrArg (Value.int .i64) (IntWalk.i64_in _ oM)))
       ·have zt16:=hI.e zCx (hd 16)
        go_simp;refine(zBf t _ oM oM).mono ?_;exact xgo
       ·exact xgt (hI.e mm4 (hd 4)) (hI.e mm5 (hd 5))
      intro w9 hlw9 hbw9 holdw9 T hT;simp only[Fin,E,EI,VP,VSl,VN,xgg,xgh,xgi,xgj]at hT;obtain⟨va17,ha17,rfl⟩:=hT;simp only[xgl,xgk];obtain⟨pn,pa,pl,pc,px,rfl,hpx⟩:=id ha17;have HPX:=xgw hpx;clear hpx;have ho9:=ho.below hbw9;obtain⟨sn,sa,sl,sc,y1,y2,y3,y4,-⟩:=ho9.cellAt hbo hjc;have hbolt:=hlts i bo hbo;have hset:=ho9.set hbo hjc ha17;clear hw1 hw2 hmi hp0 hp1 hmm ht9;go_wp2;go_roundw
      case rel=>
       rw[<-hent.out,zFw hlt hjc]at hset;exact⟨j+1,by omega,by simp,qC (qC (nx hb hbw9) oM _ _) oM _ _,(qA _ _ _ _ _ _ _ oM).trans (br.below hbw9),(qA _ _ _ _ _ _ _ oM).trans (T7.below hbw9),hset.1⟩
      case measure=>simp[intOf];omega
     ·have hrest:∀b,j<=b->f i b=0:=fun b hb=>by
       rw[HFE.out];exact zJx (by rw[HL.out];omega)
      rw[zJf hrest]at ho;clear hmi hp0 hp1 hiC hm;go_wp2;go_roundw
      case rel=>exact⟨i+1,by omega,by simp,hb,br,T7,ho⟩
      case measure=>simp[intOf];omega
    ·obtain rfl:j=C:=by omega
     rw[zE3]at ho;clear hmi hp0 hp1 hmm hw1 hw2;go_wp2;go_roundw
     case rel=>exact⟨i+1,by omega,by simp,hb,br,T7,ho⟩
     case measure=>simp[intOf];omega
  ·obtain rfl:i=R:=by omega
   rw[zE2]at ho;obtain⟨r1,r2,r3,r4,r5,r6⟩:=br.three;have q1:=hB0.size;go_wp2;refine qS rfl rfl rfl (br.put3 _ _ _) ⟨_,bs,rfl,⟨hbl,_,rfl,?_⟩,qC (qC (qC hb oM 0 _) oM 1 _) oM 2 _⟩;exact(ho.keep (fun k hk=>yB _ _ k _ _ _ oM) (br.lext3 dE _ _ _)).mono q1
theorem zEy(v:Value)(r c:Nat)(ls:List Int)(w:World)(h:I8V w v ls)(hr:r<=255)(hc:c<=255)(R:Nat)(hR:R=r%5)(_hc:c<=255):
  Calls Tryz.prog 54 #[.agg #[.int .u8 r,.int .u8 c,v]] w (zAd w R R (zS R R (zJp R ls))):=by
 obtain⟨ao,n,cap,rfl,-,-,-,-,-⟩:=id h;go_enter Tryz.func54,Tryz.ntmps54;go_upto_region 1 with(fail)
 refine zB ?_;intro W0 hW0;obtain⟨hB0,bx1,br,hs0⟩:=qV hW0;obtain⟨c1,c2,c3,c4,c5,c6⟩:=bx1.three;have e1:(r:Int)%5=(R:Int):=by omega
 skip;have hR4:R<=4:=by omega
 have hC4:R<=4:=by omega
 clear hR;go_wp2_with fail
 refine(zHU _ R R ls W0 (h.below hB0) oM oM).mono ?_;rintro e w2 ⟨u,bs,rfl,⟨hbl,A2,rfl,ho⟩,hb2⟩;obtain⟨oo,on,oc,rfl,-,-,-,-⟩:=id ho.rows;have br:=br.below hb2;obtain⟨r1,r2,r3,r4,r5,r6⟩:=br.three;have hBt:=nx hB0 hb2;have q1:=hB0.size;clear c1 c2 c3 c4 c5 c6;go_wp2;refine qS rfl rfl rfl (br.put3 _ _ _) ⟨_,bs,rfl,⟨hbl,_,rfl,?_⟩,qC (qC (qC hBt oM 0 _) oM 1 _) oM 2 _⟩;exact(ho.keep (fun k hk=>yB _ _ k _ _ _ oM) (br.lext3 dE _ _ _)).mono q1
theorem nxa{w W W':World}{o:Obj}(h:Below w.heap.size w W)(hb:Below (W.alloc o).heap.size (W.alloc o) W'):Below w.heap.size w W':=nx (h.alloc h.size o) hb
def zGp(ls:List Int):Array Value:=(ls.map (Value.int .i64)).toArray
theorem zDm.new(W:World)(ls:List Int)(hb:(ls.all fun z=>decide (-9223372036854775808<=z/\z<=9223372036854775807))=true)(hl:ls.length<=1000):
  zDm (W.alloc (.cells (zGp ls) 2)) (.slice (some ⟨W.heap.size,0,none⟩) ls.length ls.length) ls:=by
 refine⟨_,_,_,rfl,rfl,xgf _,by omega,fun z hz=>of_decide_eq_true (List.all_eq_true.1 hb z hz),fun _=>⟨W.heap.size,_,rfl,heap_alloc_new W _,fun k z hk=>?_⟩⟩;simp[zGp,hk]
theorem zCW(ls:List Int):qQ (fun w v=>zDm w v ls):=fun _ _ _ x h=>h.below x
theorem zEj(v:Value)(ls:List Int)(R C:Nat)(r c:Int)(M:List (List Int))(w:World)(h:zDm w v ls)(hr:r=R)(hc:c=C)(hl:ls.length=R*C)(hR:R<=1000)(hC:C<=1000)(hM:zS R C (fun i j=>ls.getD (i*C+j) 0)=M):
  Calls Tryz.prog 34 #[.int .i64 r,.int .i64 c,v] w fun e w'=>∃v,e= .returned v/\yG w' v R C M/\Below w.heap.size w w':=by
 subst hr;subst hc;subst hM;exact(zJ8 v R C ls w h hl hR hC).mono fun e w' ⟨v,bs,he,hm,hb⟩=>⟨v,he,hm.mat.1,hb⟩
theorem yG.agg{w:World}{v:Value}{R C:Int}{M:List (List Int)}(h:yG w v R C M):∃o n k,v= .agg #[.int .i64 R,.int .i64 C,.slice o n k]:=by
 obtain⟨A,rfl,ao,n,cap,rfl,-⟩:=h;exact⟨_,_,_,rfl⟩
theorem zIF.below{w w':World}{f:Value}{R C:Nat}{S U V W X:List (List Int)}(h:zIF w f R C S U V W X)(hb:Below w.heap.size w w'):zIF w' f R C S U V W X:=by
 obtain⟨s,u,v,x,y,e,h1,h2,h3,h4,h5⟩:=h.ex;exact⟨s,u,v,x,y,e,h1.below hb,h2.below hb,h3.below hb,h4.below hb,h5.below hb⟩
theorem zL0(v1 v2:Value)(R C:Int)(M:List (List Int))(w:World)(h1:yG w v1 R C M)(h2:yG w v2 R C M):
  Calls Tryz.prog 17 #[v1,v2] w fun e w'=>∃v,e= .returned v/\v= .bool true/\Below w.heap.size w w':=
 (zG8 v1 v2 R C R C M M w h1 h2).mono fun e w' ⟨h,hb⟩=>⟨_,h,by rw[decide_eq_true ⟨rfl,rfl,rfl⟩],hb⟩
theorem zCh(f:Nat->Int)(n:Nat):zJZ f n=zW n f:=by
 induction n with
 |zero=>rfl
 |succ n ih=>unfold zJZ zW;rw[ih]
theorem zAv{R m C:Nat}{F G:Nat->Nat->Int}{i j:Nat}(hi:i<R)(hj:j<C):zBP (zS R m F) (zS m C G) m i j=zW m fun t=>F i t*G t j:=by
 unfold zBP;rw[zCh];exact zE fun t ht=>by rw[yA hi ht,yA ht hj]
theorem zGd{z:Int}(h:z.natAbs<=BB^3*16):Sm z:=Nat.lt_of_le_of_lt h (Nat.lt_of_le_of_lt zKr (zBU zHK LIM (by rw[zAM,yT];omega)))
theorem zCz{R m C a b:Nat}{F G:Nat->Nat->Int}(hF:leM a R m F)(hG:leM b m C G)(hm:m<=4)(ha:a<=BB^3*16)(hb:b<=BB^3*16)(hab:4*(a*b)<=BB^3*16):zAo (zS R m F) (zS m C G) R m C:=by
 intro i hi j hj k hk;rw[yA hi hk,yA hk hj];have h1:=hF i hi k hk;have h2:=hG k hk j hj;have h3:=zAq h1 h2;refine⟨zGd oM,zGd oM,zGd oM,zGd ?_⟩;unfold zBP;rw[zCh];have h4:=zAY (n:=k) (f:=fun t=>ent (zS R m F) i t*ent (zS m C G) t j) (B:=a*b) fun t ht=>by
  rw[yA hi oM,yA oM hj];exact zAq (hF i hi t oM) (hG t oM j hj)
 have h5:k*(a*b)<=4*(a*b):=Nat.mul_le_mul_right _ oM;omega
theorem zAU{B R C:Nat}{F:Nat->Nat->Int}(h:okF B R C F):leM B R C F:=fun a ha b hb=>Nat.le_of_lt (h a ha b hb)
theorem zLI{h:Nat}(hh:h<=1048576):BB<=BB^3*16/\h<=BB/\4*(BB*BB)<=BB^3*16/\4*(BB*h)<=BB^3*16/\4*(BB*BB)*4*BB<=BB^3*16/\4*(4*(BB*h)*BB)<=BB^3*16/\4*(BB*h)<=BB^3*16:=by
 have h0:1048576<=BB:=Nat.le_trans dE zMx;have h1:=zKq;generalize BB=B at*;have e3:B^3*16=16*(B*(B*B)):=by
  rw[show(3:Nat)=2+1 from rfl,Nat.pow_succ,Nat.pow_two,Nat.mul_comm,Nat.mul_comm (B*B)]
 have q1:B<=B*B:=Nat.le_mul_of_pos_left _ h1;have q2:B*B<=B*(B*B):=Nat.mul_le_mul_left _ q1;have q3:B*h<=B*B:=Nat.mul_le_mul_left _ oM;have q4:B*h*B<=B*(B*B):=by
  rw[Nat.mul_assoc];exact Nat.mul_le_mul_left _ (Nat.mul_le_mul_right _ oM)
 have q5:4*(4*(B*h)*B)=16*(B*h*B):=by rw[Nat.mul_assoc 4,<-Nat.mul_assoc 4 4]
 have q6:4*(B*B)*4*B=16*(B*(B*B)):=by
  rw[Nat.mul_comm (4*(B*B)) 4,<-Nat.mul_assoc,Nat.mul_assoc,Nat.mul_comm (B*B) B]
 rw[e3,q5,q6];refine⟨by omega,by omega,by omega,by omega,by omega,by omega,by omega⟩
structure Chk(R C:Nat)(A S U V W X:List (List Int)):Prop where
 fs:yM R C S
 fu:yM R R U
 fv:yM R R V
 fw:yM C C W
 fx:yM C C X
 is:zMy R C S=true
 i1:zS R R (zBP U V R)=zS R R idf
 i2:zS C C (zBP W X C)=zS C C idf
 ss:∀r∈S,∀z∈r,Smd z
 m1:zAo U V R R R
 m2:zAo W X C C C
 m3:zAo U A R R C
 m4:zAo (zS R C (zBP U A R)) W R C C
 p:zS R C (zBP (zS R C (zBP U A R)) W C)=S
theorem zJ1{R C:Nat}{F:Nat->Nat->Int}(h:okF BB R C F):∀r∈zS R C F,∀z∈r,Smd z:=by
 intro r hr z hz;unfold zS at hr;obtain⟨i,hi,rfl⟩:=List.mem_map.1 hr;obtain⟨j,hj,rfl⟩:=List.mem_map.1 hz;exact zME (h i (List.mem_range.1 hi) j (List.mem_range.1 hj))
theorem Chk.of{R C r:Nat}{M:List (List Int)}{y:W5}(hR:R<=4)(hC:C<=4)(hF:yM R C M)(hA:leM 1048576 R C (ent M))(hr:Rel R C (ent M) y)(hI:Inv R C r (ent M) y.s)(hok:okW BB R C R C y):
  Chk R C M (zS R C y.s) (zS R R y.u) (zS R R (trF y.v)) (zS C C (trF y.w)) (zS C C y.x):=by
 obtain⟨o1,o2,o3,o4,o5⟩:=hok;obtain⟨b1,b2,b3,b4,b5,b6,b7⟩:=zLI (h:=1048576) (xgf _);have eM:M=zS R C (ent M):=zBK hF;have eUA:zS R C (zBP (zS R R y.u) M R)=zS R C fun i t=>zW R fun s=>y.u i s*ent M s t:=zT fun i hi j hj=>by
  conv=>lhs;rw[eM]
  rw[zAv hi hj]
 have hUA:leM (4*(BB*1048576)) R C fun i t=>zW R fun s=>y.u i s*ent M s t:=fun i hi j hj=>by
  have h1:=zAY (n:=R) (f:=fun s=>y.u i s*ent M s j) (B:=BB*1048576) fun t ht=>zAq (zAU o2 i hi t ht) (hA t ht j hj)
  exact Nat.le_trans h1 (Nat.mul_le_mul_right _ hR)
 refine⟨qL _ _ _,qL _ _ _,qL _ _ _,qL _ _ _,qL _ _ _,zLL hI.dg hI.chn,zT fun i hi j hj=>?_,zT fun i hi j hj=>?_,zJ1 o1,?_,?_,?_,?_,?_⟩
 ·rw[zAv hi hj]
  exact hr.uv i hi j hj
 ·rw[zAv hi hj]
  have:=hr.xw j hj i hi;rw[zB5 i j,<-this];exact zE fun t ht=>Int.mul_comm _ _
 ·exact zCz (zAU o2) (zIs (zAU o3)) hR b1 b1 b3
 ·exact zCz (zIs (zAU o4)) (zAU o5) hC b1 b1 b3
 ·conv=>arg 2;rw[eM]
  exact zCz (zAU o2) hA hR b1 (Nat.le_trans b2 b1) b4
 ·rw[eUA]
  exact zCz hUA (zIs (zAU o4)) hC b7 b1 b6
 ·rw[eUA]
  refine zT fun i hi j hj=>?_
  rw[zAv hi hj,hr.s i hi j hj];simp only[<-qE,<-zAI];rw[yO];refine zE fun s hs=>zE fun t ht=>?_
  show y.u i s*ent M s t*y.w j t=y.u i s*(ent M s t*y.w j t);rw[Int.mul_assoc]
theorem zJw(R C D:Nat)(ls:List Int):leM 9 R C (zJp D ls):=fun a _ b _=>zLN D ls a b
theorem zLS{n R C:Nat}{F:Nat->Nat->Int}(h:leM n R C F):leM n R C (ent (zS R C F)):=fun a ha b hb=>by rw[yA ha hb];exact h a ha b hb
theorem zHJ{z:Int}(h:z.natAbs<BD):Sm z:=zIA.bsm.sm z h
theorem zFa{R m C a b:Nat}{F G:Nat->Nat->Int}(hF:leM a R m F)(hG:leM b m C G)(hm:m<=4)(ha:a<BD)(hb:b<BD)(hab:4*(a*b)<BD):zAo (zS R m F) (zS m C G) R m C:=by
 intro i hi j hj k hk;rw[yA hi hk,yA hk hj];have h1:=hF i hi k hk;have h2:=hG k hk j hj;have h3:=zAq h1 h2;refine⟨zHJ oM,zHJ oM,zHJ oM,zHJ ?_⟩;unfold zBP;rw[zCh];have h4:=zAY (n:=k) (f:=fun t=>ent (zS R m F) i t*ent (zS m C G) t j) (B:=a*b) fun t ht=>by
  rw[yA hi oM,yA oM hj];exact zAq (hF i hi t oM) (hG t oM j hj)
 have h5:k*(a*b)<=4*(a*b):=Nat.mul_le_mul_right _ oM;omega
theorem zMT{e M0:Nat}(hM1:1<=M0)(hM:2*M0<=2^e)(he:e<=15):4*(gk 40 M0*gk 40 M0)<BD:=by
 have h1:=zMU (xgf 40) hM1 hM;obtain⟨g,hg⟩:∃g,gk 40 M0=g:=⟨_,rfl⟩;rw[hg]at h1 ⊢
 obtain⟨X,hX⟩:∃X,2^(e*E40)=X:=⟨_,rfl⟩;have h2:4*(X*X)=2^(2+(e*E40+e*E40)):=by rw[Nat.pow_add,Nat.pow_add,hX]
 rw[hX]at h1;have h3:g*g<X*X:=Nat.mul_lt_mul_of_lt_of_le h1 (Nat.le_of_lt h1) oM;have h4:2^(2+(e*E40+e*E40))<=B32^zHK:=zBe (by
  rw[zAM];have:e*E40<=15*E40:=Nat.mul_le_mul_right _ he;rw[zIC]at this ⊢
  omega)
 rw[zIB];omega
theorem zMF:24*(8*32768)^4*(24*(8*32768)^4)<BD:=by
 have h1:2^200<=B32^zHK:=zBe (by rw[zAM];omega);rw[zIB];refine Nat.lt_of_lt_of_le ?_ h1;decide
structure zE7(R C:Nat)(A H U V:List (List Int)):Prop where
 fh:yM R C H
 fu:yM R R U
 fv:yM R R V
 chk:zMr R C A R C H R R U R R V
 lat:∃r c G,zGg R C r c (ent A) G/\H=zS R C G
 sh:∀r∈H,∀z∈r,Sm z
 m1:zAo U A R R C
 m2:zAo U V R R R
theorem zGm{R C:Nat}{F:Nat->Nat->Int}{P:Int->Prop}(h:∀a,a<R->∀b,b<C->P (F a b)):∀r∈zS R C F,∀z∈r,P z:=by
 intro r hr z hz;unfold zS at hr;obtain⟨i,hi,rfl⟩:=List.mem_map.1 hr;obtain⟨j,hj,rfl⟩:=List.mem_map.1 hz;exact h i (List.mem_range.1 hi) j (List.mem_range.1 hj)
theorem zBj.chk{R C r:Nat}{c:Nat->Nat}{A:List (List Int)}{H U V:Nat->Nat->Int}(h:zBj R C r c (ent A) H U V)(hA:yM R C A):zMr R C A R C (zS R C H) R R (zS R R U) R R (zS R R V):=by
 refine⟨zDS.2 ⟨r,c,h.hnf⟩,rfl,rfl,⟨rfl,rfl,(qL _ _ _).valid⟩,⟨rfl,rfl,(qL _ _ _).valid⟩,?_,?_⟩
 ·refine zT fun i hi j hj=>?_
  conv=>lhs;rw[zBK hA]
  rw[zAv hi hj,h.mul i hi j hj]
 ·exact zT fun i hi j hj=>by rw[zAv hi hj,h.inv i hi j hj]
theorem zBj.good{R C r M0 e:Nat}{c:Nat->Nat}{A:List (List Int)}{H U V:Nat->Nat->Int}(h:zBj R C r c (ent A) H U V)(hA:yM R C A)(hR:R<=4)(hM1:1<=M0)(hM:2*M0<=2^e)(he:e<=15)(hb:leM M0 R C (ent A))(hH:leM (24*(8*M0)^4) R C H)(hU:leM (gk 40 M0) R R U)(hV:leM (gk 40 M0) R R V):
  zE7 R C A (zS R C H) (zS R R U) (zS R R V):=by
 have hM2:M0<=gk 40 M0:=zEh 40 hM1;have hg:=zMT hM1 hM he;have hg1:gk 40 M0<=gk 40 M0*gk 40 M0:=Nat.le_mul_of_pos_left _ oM;have hg2:gk 40 M0*M0<=gk 40 M0*gk 40 M0:=Nat.mul_le_mul_left _ hM2;refine⟨qL _ _ _,qL _ _ _,qL _ _ _,h.chk hA,⟨r,c,H,h.lat,rfl⟩,zGm fun a ha b hb=>zHJ ?_,?_,zFa hU hV hR oM oM hg⟩
 ·have h1:=hH a ha b hb
  have h2:M0<=32768:=Nat.le_trans (Nat.le_trans (show M0<=2*M0 by omega) hM) (Nat.le_trans (Nat.pow_le_pow_right oM he) (by decide:2^15<=32768));have h3:24*(8*M0)^4<=24*(8*32768)^4:=Nat.mul_le_mul_left _ (Nat.pow_le_pow_left oM _);have h4:24*(8*32768)^4*1<=24*(8*32768)^4*(24*(8*32768)^4):=Nat.mul_le_mul_left _ dE;have h5:=zMF;omega
 ·rw[zBK hA]
  exact zFa hU hb hR oM oM oM
theorem zEC{M0 e:Nat}(hM1:1<=M0)(hM:2*M0<=2^e)(he:e<=15)(v:Value)(M:List (List Int))(R C:Nat)(w:World)(h:yG w v R C M)(hF:yM R C M)(hR:R<=4)(hC:C<=4)(hA:leM M0 R C (ent M)):
  Calls Tryz.prog 41 #[v] w fun e w'=>∃v H U V,e= .returned v/\zBq w' v R C H U V/\zE7 R C M H U V/\Below w.heap.size w w':=by
 refine(zDQ hM1 hM oM v M R C w h hF hR hC hA).mono ?_;rintro ee w' ⟨v,r,c,H,U,V,rfl,hf,b1,b2,b3,hv,hb⟩;exact⟨v,_,_,_,rfl,hv,hf.good hF hR hM1 hM he hA b1 b2 b3,hb⟩
theorem zE7.eq{R C:Nat}{A H U V W:List (List Int)}(h:zE7 R C A H U V)(hW:yM R C W)(hl:∃r c,zGg R C r c (ent A) (ent W)):H=W:=by
 obtain⟨r,c,G,h1,rfl⟩:=h.lat;obtain⟨r',c',h2⟩:=hl;rw[zBK hW];exact(h1.eq h2).2
instance (C:Nat) (F:Nat->Nat->Int) (i:Nat):Decidable (zAc C F i):=
 decidable_of_iff (lead C F i<0∨(¬ lead C F i<0/\(∀k,k<i->0<=lead C F k/\lead C F k<lead C F i)/\0<F i (lead C F i).toNat/\∀k,k<i->0<=F k (lead C F i).toNat/\F k (lead C F i).toNat<F i (lead C F i).toNat)) (by
  unfold zAc
  constructor
  ·rintro(h|⟨h1,h2,h3⟩)
   ·exact .inl h
   ·exact .inr ⟨(lead C F i).toNat,by omega,fun k hk=>by have:=h2 k hk;omega,h3⟩
  ·rintro(h|⟨c,h1,h2,h3⟩)
   ·exact .inl h
   ·refine .inr ⟨by omega,fun k hk=>by rw[h1];exact h2 k hk,?_⟩
    rw[h1,Int.toNat_natCast]
    exact h3)
instance (R C:Int) (M:List (List Int)):Decidable (zF0 R C M):=inferInstanceAs (Decidable (_/\_))
def zMJ(R C:Nat)(A W X Y:List (List Int)):Prop:=zF0 R C W/\(∀a,a<R->∀b,b<C->ent A a b=zW R fun t=>ent X a t*ent W t b)/\∀a,a<R->∀b,b<C->ent W a b=zW R fun t=>ent Y a t*ent A t b
instance (R C:Nat) (A W X Y:List (List Int)):Decidable (zMJ R C A W X Y):=inferInstanceAs (Decidable (_/\_))
theorem zMJ.lat{R C:Nat}{A W X Y:List (List Int)}(h:zMJ R C A W X Y)(hW:yM R C W):∃r c,zGg R C r c (ent A) (ent W):=by
 obtain⟨r,c,h1⟩:=(zJ9 hW).1 h.1;exact⟨r,c,h1,⟨ent X,h.2.1⟩,⟨ent Y,h.2.2⟩⟩
theorem zIq{M0 R C:Nat}{M:List (List Int)}(h:zLd (M0+1) M=true)(hF:yM R C M):leM M0 R C (ent M):=fun a ha b hb=>by
 have hl:a<M.length:=by rw[hF.1];exact ha
 have hr:=hF.2 M[a] (List.getElem_mem _);have hb':b<M[a].length:=by omega
 have e:ent M a b=M[a][b]:=zAf (xga hl) (xga hb');have:=of_decide_eq_true (List.all_eq_true.1 (List.all_eq_true.1 h M[a] (List.getElem_mem _)) M[a][b] (List.getElem_mem _));rw[e];omega
/- The calls of sanity. -/
theorem zED(v:Value)(M W X Y:List (List Int))(R C:Nat)(w:World)(h:yG w v R C M)(hF:yM R C M)(hR:R<=4)(hC:C<=4)(h9:zLd 10 M=true)(hW:yM R C W)(hd:zMJ R C M W X Y):
  Calls Tryz.prog 41 #[v] w fun e w'=>∃v U V,e= .returned v/\zBq w' v R C W U V/\zE7 R C M W U V/\Below w.heap.size w w':=by
 refine(zEC (M0:=9) (e:=5) dE dE dE v M R C w h hF hR hC (zIq h9 hF)).mono ?_;rintro ee w' ⟨v,H,U,V,rfl,hv,hg,hb⟩;obtain rfl:=hg.eq hW (hd.lat hW);exact⟨v,U,V,rfl,hv,hg,hb⟩
theorem zGI(v:Value)(M W X Y Z:List (List Int))(R C r:Nat)(w:World)(h:yG w v R C M)(hF:yM R C M)(hR:R<=4)(hC:C<=4)(h9:zLd 10 M=true)(hW:yM R C W)(hd:zMJ R C M W X Y)(hr:∀k,k<R->(0<=lead C (ent W) k↔k<r))(hrR:r<=R)(hZ:zS r C (ent W)=Z):
  Calls Tryz.prog 44 #[v] w fun e w'=>∃v,e= .returned v/\yG w' v r C Z/\Below w.heap.size w w':=by
 refine(zFT (M0:=9) (e:=5) dE dE dE v M R C w h hF hR hC (zIq h9 hF)).mono ?_;rintro ee w' ⟨v,r1,c,H,rfl,hl,-,hv,hb⟩;obtain⟨r2,c2,h2⟩:=hd.lat hW;obtain⟨rfl,-,e2⟩:=zEE hl.hnf h2.hnf (hl.sp.trans h2.sp') (h2.sp.trans hl.sp');have e3:r1=r:=by
  have h3:=h2.hnf.le;rcases Nat.lt_trichotomy r1 r with g|g|g
  ·have:=(hr r1 oM).2 g
   rw[h2.hnf.lead_hi (xgf _) oM]at this;omega
  ·exact g
  ·have:=(hr r oM).1 (by rw[h2.hnf.lead_lo g];omega)
   omega
 subst e3;refine⟨v,rfl,?_,hb⟩;rw[<-hZ,zT (g:=H) fun i hi j hj=>e2 i oM j hj];exact hv
theorem zMu(v:Value)(R C:Int)(M:List (List Int))(b:Bool)(w:World)(h:yG w v R C M)(hb:decide (zF0 R C M)=b):
  Calls Tryz.prog 53 #[v] w fun e w'=>∃v,e= .returned v/\v= .bool b/\Below w.heap.size w w':=by
 refine(zIh v R C M w h).mono ?_;rintro e w' ⟨d,rfl,hd,hb'⟩;refine⟨_,rfl,?_,hb'⟩;have:d=b:=by
  rw[<-hb];cases d
  ·exact(decide_eq_false fun hp=>Bool.false_ne_true (hd.2 hp)).symm
  ·exact(decide_eq_true (hd.1 rfl)).symm
 rw[this]
theorem zIf(av fv:Value)(R C:Nat)(A H U V:List (List Int))(w:World)(ha:yG w av R C A)(hA:yM R C A)(hf:zBq w fv R C H U V)(hR:R<=4)(hC:C<=4)(hg:zE7 R C A H U V):
  Calls Tryz.prog 45 #[av,fv] w fun e w'=>∃v,e= .returned v/\v= .bool true/\Below w.heap.size w w':=by
 refine(zEB av fv R C A H U V _ _ _ _ _ _ w ha hA hf.told oM oM (fun _=>hg.m1) (fun _ _=>hg.m2)).mono ?_;rintro e w' ⟨d,rfl,hd,hb'⟩;exact⟨_,rfl,by rw[hd.2 hg.chk],hb'⟩
theorem zJJ(av fv:Value)(R C:Nat)(A H U V:List (List Int))(w:World)(ha:yG w av R C A)(hA:yM R C A)(hf:zBq w fv R C H U V)(hR:R<=4)(hC:C<=4)(hg:zE7 R C A H U V):
  Calls Tryz.prog 42 #[av,fv] w fun e w'=>∃v,e= .returned v/\v= .bool true/\Below w.heap.size w w':=by
 refine(zFf av fv R C A H U V _ _ _ _ _ _ w ha hA hf.told oM oM hg.sh (fun _=>hg.m1) (fun _ _=>hg.m2)).mono ?_;rintro e w' ⟨d,rfl,hd,hb'⟩;exact⟨_,rfl,by rw[hd.2 hg.chk],hb'⟩
theorem zLX(av:Value)(R C:Nat)(A:List (List Int))(w:World)(ha:yG w av R C A)(hA:yM R C A)(hR:R<=4)(hC:C<=4)(h0:0<R):
  Calls Tryz.prog 45 #[av,.agg #[.int .i64 0,.int .i64 0,.slice none 0 0,.int .i64 0,.int .i64 0,.slice none 0 0,.int .i64 0,.int .i64 0,.slice none 0 0]] w fun e w'=>∃v,e= .returned v/\v= .bool false/\Below w.heap.size w w':=by
 have hne:∀{n:Nat},0<n->¬ yM n n []:=fun hn h=>by have:=h.1;simp at this;omega
 refine(zEB av _ R C A [] [] [] 0 0 0 0 0 0 w ha hA ⟨_,_,_,rfl,qT.nil _,qT.nil _,qT.nil _⟩ oM oM (fun h=>absurd h (hne h0)) (fun h=>absurd h (hne h0))).mono ?_;rintro e w' ⟨d,rfl,hd,hb'⟩;refine⟨_,rfl,?_,hb'⟩;cases d
 ·rfl
 ·have:=(hd.1 rfl).er
  omega
end Go.Proofs.YtgnmdddaiefooaaGreat
