/- Joined. -/
import Derived.Lib.AppendZeros
import Derived.Lib.AppendZerosOnto
import Derived.Lib.Overlaps
import Derived.Laws.CopyRow
import Derived.Laws.Externs
import Derived.ChangeKeysEq
import Derived.Laws.StructEq
import Derived.Test.YtkidaebmhlijlaaGreatD14
import Derived.Test.YtkidaebmhlijlaaGreatD16
import Derived.Test.YtkidaebmhlijlaaGreatD17
set_option linter.unusedVariables false
set_option linter.unusedSimpArgs false
set_option linter.unusedSectionVars false
set_option maxHeartbeats 16000000
set_option maxRecDepth 100000
variable{cs:Array Go.Value}{e e0:Bool}{B Cs Ct b base bw cap g i j k n r:Nat}{κ ρ:Nat->Nat}{Z:Nat->Prop}{o:Go.Oper}{t:Go.TypeId}{Ah c0 c1 v:Go.Value}{w w':Go.World}
namespace Go.Proofs.YtkidaebmhlijlaaGreat
open Go.RowKit
theorem qC.ofPart{C:Nat}{bs:List Nat}{M:List (List Int)}(hb:Blk w g tR (zBJ n C bs))(hl:bs.length=n)(hnd:bs.Nodup)(hr:∀(t b:Nat),bs[t]?=some b->base<=b/\∃r:List Int,M[t]?=some r/\r.length=C/\jJ w b r)
  (hM:M.length=n) (hg:base<=g) (hC:C<=1000000) (hn:n<=1000000):qC w base (slq g n n) C bs M:=by
 have hpr:(zBJ n C bs).toList=zBP C bs:=by simp[zBJ,hl]
 refine⟨⟨by simp[zBP],.inr ⟨g,n,zBJ n C bs,by rw[hl],hg,hb,oM,by simp[maxLen];omega,by rw[zCw oM];omega,?_⟩⟩,by rw[hM,hl],?_,hnd,oM⟩;rw[hpr,hl,zAr,jK (by simp[zBP,hl])];intro t b r ht hr';obtain⟨h1,r2,h2,h3,h4⟩:=hr t b ht;rw[h2]at hr';injection hr' with hr'
 subst hr';exact⟨h1,h3,h4⟩
theorem zR4(A:Value)(M:List (List Int))(R C:Nat)(k:Int)(fb kb:Nat)(x y:Value)(w:World)(h:zHA w A M)(hF:zBU R C M)(hR:R<=1000000)(hC:C<=1000000)
  (hf:Blk w fb tF #[.func (.func 157) #[] #[.pointer (some ⟨kb,0,none⟩)]]) (hk:Blk w kb tI #[x,y]) (hkv:jY w (.agg #[x,y]) k) (hS:∀r∈M,∀z∈r,Sm z) (s2:Sm k):
  CPq 182 #[A,A,.func (.func 183) #[] #[.pointer (some ⟨fb,0,none⟩)]] w fun e w'=>
   e= .returned (.slice (some ⟨w.heap.size,0,none⟩) R R)/\(∃bs,bs.length=R/\qC w' w.heap.size (.slice (some ⟨w.heap.size,0,none⟩) R R) C bs (genM R C (fun i j=>k*ent M i j)))/\BWq w w':=by
 obtain⟨ao,n,cap,rfl,e1,e3,e4,-⟩:=id h;obtain rfl:R=n:=by rw[<-e1,hF.1]
 have hmk:=fun W=>mkR (R:Int) R rfl oM W
 have HF:=xgv hF;have HS:=xgv hS;have HK:=xgv s2;obtain⟨G,hG⟩:∃G:Nat->Nat->Int,(fun i j=>k*ent M i j)=G:=⟨_,rfl⟩;rw[hG];have HG:jZ (∀i j,G i j=k*ent M i j):=⟨fun i j=>by rw[<-hG]⟩;clear hF hS s2 hG e1;go_enter Tryz.func182,Tryz.ntmps182;go_upto_region 2 with(fail)
 refine zD ?_;intro W0 hW0;obtain⟨hB0,bA,hs0⟩:=qL hW0;rw[zE0 R C]at bA;clear hW0 hmk;go_wp2;go_loopw [14] (fun iv wr=>∃(i:Nat) (bs:List Nat),i<=R/\iv= .int .i64 i/\bs.length=i/\BWq w wr/\Blk wr w.heap.size tR (zBJ R C bs)/\jZ (bs.Nodup/\∀t b,bs[t]?=some b->w.heap.size<b/\jJ wr b (qZ C (G t)))) (fun iv _=>R-(intOf iv).toNat)
 case atStart=>exact⟨0,[],oM,rfl,rfl,hB0,bA,⟨⟨by simp,fun t b ht=>by simp at ht⟩⟩⟩
 obtain⟨i,bs,hi,rfl,hbl,hb,bA,hH⟩:=hrel;by_cases hlt:i<R
 ·obtain⟨b1,o1,ra,rn,rc,zs,rfl,hbl1,hz,p1,hv⟩:=(h.below hb).row (k:=i) (by rw[HF.out.1];exact hlt)
  have hzl:=HF.out.2 zs (xgd hz);have hrow:jZ (qZ C (fun j=>k*zs.getD j 0)=qZ C (G i)):=⟨qY fun j hj=>by rw[HG.out];unfold ent;rw[zBz hz]⟩;have SZ:jZ (∀z∈zs,Sm z):=⟨HS.out _ (xgd hz)⟩;have HZL:=xgv hzl;have hkr:=hk.below hb;have hkvr:=hkv.ext (lx hb);have hfr:=hf.below hb;have lA:=bA.lt;have hlast:=zKi wr.heap.size C (qZ C (G i));have hsz:=hb.size;clear hz hzl;go_upto_region 5 with(fail)
  refine yP 13 [pcD 11 [] (zHU wr.heap.size C (qZ C (G i)))] ?_;refine sRd ?_;refine sRc (fun wS hI Gk hG=>?_) (fun va11 _=>?_)
  ·go_simp
   refine(zSE _ _ zs zs k fb kb C x y _ (hv.below hI.bel) (hv.below hI.bel) HZL.out HZL.out hC (hfr.below hI.bel) (hkr.below hI.bel) (hkvr.ext (lx hI.bel)) SZ.out HK.out).mono ?_
   (rintro e wa ⟨v,rfl,⟨g,e1,e2,e3⟩,hba⟩;rw[hrow.out]at e3;have hv:zHU wr.heap.size C (qZ C (G i)) wa v:=⟨g,e1,zB hI.bel.size e2,e3⟩)
   exact⟨_,rfl,hG _ _ hv,hba⟩
  refine sRd ?_;refine sRe ?_;intro w9 hbw9 ha11;obtain⟨g,rfl,hg1,hg2⟩:zHU wr.heap.size C (qZ C (G i)) w9 va11:=ha11;have bA:=bA.below hbw9;have f1:=bA.frozen i;obtain⟨u,f2⟩:∃u,w9.cell? ⟨w.heap.size,i,none⟩=some u:=by
   rw[bA.cell i];exact⟨_,Array.getElem?_eq_getElem (by rw[zCw oM];exact hlt)⟩
  have hset:=bA.set_ i (.slice (some ⟨g,0,none⟩) C C);rw[<-hbl,zGB oM,hbl]at hset;have hx1:=bA.lext dE i (.slice (some ⟨g,0,none⟩) C C);have HG2:=xgv hg2;have HH:=xgv hH.out;clear p1 hg2;go_wp2;go_roundw
  case rel=>
   refine⟨i+1,bs++ [g],oM,by simp,by simp[hbl],yJ (nx hb hbw9) (xgf _) _ _,hset,⟨⟨?_,?_⟩⟩⟩
   ·rw[yT]
    refine⟨HH.out.1,by simp,fun x hx y hy=>?_⟩;simp at hy;subst hy;obtain⟨t,ht,e⟩:=qW hx;have:=(HH.out.2 t x (by rw[xga ht,e])).2.lt;omega
   intro t b ht;by_cases e:t=i
   ·subst e
    rw[List.getElem?_append_right oM,hbl]at ht;simp at ht;subst ht;exact⟨oM,HG2.out.old (zY _ _ _ _ _ oM) hx1⟩
   have htl:t<bs.length:=by
    have h5:=(xge.1 ht).1;simp at h5;omega
   rw[List.getElem?_append_left htl]at ht;obtain⟨h6,h7⟩:=HH.out.2 t b ht;exact⟨h6,(h7.below hbw9).old (zY _ _ _ _ _ oM) hx1⟩
  case measure=>exact meq
 obtain rfl:i=R:=oM;have HH:=xgv hH.out;go_wp2;go_ret;refine⟨rfl,⟨bs,hbl,?_⟩,hb⟩;exact qC.ofPart bA hbl HH.out.1 (fun t b ht=>by
  obtain⟨h6,h7⟩:=HH.out.2 t b ht;have hti:t<i:=by have:=(xge.1 ht).1;omega
  exact⟨oM,_,zDF i C G hti,by simp,h7⟩) (by simp[genM]) (xgf _) hC hR
abbrev tM:TypeId:=32
theorem Blk.six{c2 c3 c4 c5:Value}(h:Blk w g t #[c0,c1,c2,c3,c4,c5]):
  w.cell? ⟨g,0,none⟩=some c0/\w.cell? ⟨g,1,none⟩=some c1/\w.cell? ⟨g,2,none⟩=some c2/\w.cell? ⟨g,3,none⟩=some c3/\w.cell? ⟨g,4,none⟩=some c4/\w.cell? ⟨g,5,none⟩=some c5:=
 ⟨h.cell 0,h.cell 1,h.cell 2,h.cell 3,h.cell 4,h.cell 5⟩
theorem zIV(b:Nat)(c:Nat)(R1 C1 R2 C2:Int)(A1 A2:Value)(M1 M2:List (List Int))(w:World)(hb0:Blk w b tM #[niq R1,niq C1,A1,niq R2,niq C2,A2])(hc:2<=c)(hc2:c<=9223372036854775807)
  (h1:zIw w (.agg #[niq R1,niq C1,A1]) R1 C1 M1) (h2:zIw w (.agg #[niq R2,niq C2,A2]) R2 C2 M2):
  CPq 97 #[slq b 2 c] w fun e w'=>e= .returned (.bool (decide (zBS R1 C1 M1/\zBS R2 C2 M2)))/\BWq w w':=by
 obtain⟨ans,hans⟩:∃ans:Bool,decide (zBS R1 C1 M1/\zBS R2 C2 M2)=ans:=⟨_,rfl⟩;rw[hans];have HA:=xgv hans;obtain⟨o1,n1,k1,rfl⟩:∃o n k,A1= .slice o n k:=by
  obtain⟨A,e,ao,n,cap,rfl,-⟩:=h1;injection e with e
  simp only[Array.mk.injEq,List.cons.injEq]at e;exact⟨_,_,_,e.2.2.1⟩
 obtain⟨o2,n2,k2,rfl⟩:∃o n k,A2= .slice o n k:=by
  obtain⟨A,e,ao,n,cap,rfl,-⟩:=h2;injection e with e
  simp only[Array.mk.injEq,List.cons.injEq]at e;exact⟨_,_,_,e.2.2.1⟩
 clear hans;go_enter Tryz.func97,Tryz.ntmps97;go_wp2;go_loopw [7] (fun iv wr=>∃k:Nat,k<=2/\iv=niq k/\BWq w wr/\jZ ((0<k->zBS R1 C1 M1)/\(1<k->zBS R2 C2 M2))) (fun iv _=>2-(intOf iv).toNat)
 case atStart=>exact⟨0,oM,rfl,zA _ _,⟨⟨fun h=>oM,fun h=>oM⟩⟩⟩
 obtain⟨k,hk,rfl,hb,hall⟩:=hrel;obtain⟨c1,c2,c3,c4,c5,c6⟩:=(hb0.below hb).six;by_cases hk0:k=0
 ·subst hk0
  go_upto_region 4 with(fail)
  refine zD ?_;intro W6 hW6;obtain⟨hB6,T7,hs6⟩:=qL hW6;have d1:=T7.three;clear c1 c2 c3 c4 c5 c6 hW6;go_wp2_with fail
  refine(zGb _ R1 C1 M1 W6 ((h1.below hb).below hB6)).mono ?_;rintro e w7 ⟨rfl,hb7⟩;by_cases hv:zBS R1 C1 M1
  ·rw[decide_eq_true hv]
   have HV:=xgv hv;clear hv d1;go_wp2;go_roundw
   case rel=>exact⟨1,oM,by simp,nx (nx hb hB6) hb7,⟨⟨fun _=>HV.out,fun h=>oM⟩⟩⟩
   case measure=>simp[intOf]
  rw[decide_eq_false hv];have HV:=xgv hv;clear hv d1;go_wp2;go_ret;refine⟨?_,nx (nx hb hB6) hb7⟩;have h3:ans=false:=by rw[<-HA.out];exact decide_eq_false (fun hh=>HV.out (by first|exact hh.1|exact hh.2))
  rw[h3];rfl
 by_cases hk1:k=1
 ·subst hk1
  go_upto_region 4 with(fail)
  refine zD ?_;intro W6 hW6;obtain⟨hB6,T7,hs6⟩:=qL hW6;have d1:=T7.three;clear c1 c2 c3 c4 c5 c6 hW6;go_wp2_with fail
  refine(zGb _ R2 C2 M2 W6 ((h2.below hb).below hB6)).mono ?_;rintro e w7 ⟨rfl,hb7⟩;by_cases hv:zBS R2 C2 M2
  ·rw[decide_eq_true hv]
   have HV:=xgv hv;clear hv d1;go_wp2;go_roundw
   case rel=>exact⟨2,oM,by simp,nx (nx hb hB6) hb7,⟨⟨fun _=>hall.out.1 oM,fun _=>HV.out⟩⟩⟩
   case measure=>simp[intOf]
  rw[decide_eq_false hv];have HV:=xgv hv;clear hv d1;go_wp2;go_ret;refine⟨?_,nx (nx hb hB6) hb7⟩;have h3:ans=false:=by rw[<-HA.out];exact decide_eq_false (fun hh=>HV.out (by first|exact hh.1|exact hh.2))
  rw[h3];rfl
 obtain rfl:k=2:=oM;go_wp2;go_ret;refine⟨?_,hb⟩;have h3:ans=true:=by rw[<-HA.out];exact decide_eq_true ⟨hall.out.1 oM,hall.out.2 oM⟩
 rw[h3];rfl
abbrev tP:TypeId:=146
theorem Tryz.infoP:(Tryz.prog.info? tP).map (fun i=>(i.zero,i.size,i.bytes))=some (some (.agg #[niq 0,niq 0]),2,16):=by kernel_rfl
theorem qAP{w:World}{ops:Array Oper}{rest:List Oper}{a:Act}{Q:Exit->Act->World->Prop}(hgd:o.guard=none)(s x:Operand)
  (ho:o.op= .call {callee:=.builtin .append,args:=#[s,x],argTypes:=#[145,145]})
  (base:Nat) (v:Value) (n:Nat) (xs:List Value) (hs:a.eval s=v) (hown:w.ownsRow base tP 2 v n xs) (b c:Nat) (z1 z2:Int) (hx:a.eval x=slq b 1 c)
  (hb:Blk w b tP #[niq z1,niq z2]) (hlen:n+1<=1099511627776) (hbase:base<=w.heap.size)
  (h:∀v' w',w'.ownsRow base tP 2 v' (n+1) (xs++ [niq z1,niq z2])->w.grownBy w' v.ownBlock->wpList Tryz.prog ops Q rest (a.put o.dst v') w'):wpList Tryz.prog ops Q (o::rest) a w:=by
 obtain⟨i0,hi,hz0,hz1,hz2⟩:=info_parts Tryz.infoP;obtain⟨c1,c2,-,-⟩:=hb.two;refine wpList_append_own w hgd s x 145 ho base tP i0 _ 2 16 Tryz.underlying145 hi hz0 hz1 hz2 rfl oM v n xs hs hown ⟨b,0,none⟩ 1 c [niq z1,niq z2] hx rfl ?_ ?_ (by simp[maxLen];omega) oM hbase ?_
 ·intro j u hj
  rw[zAL];match j with
  |0=>simp at hj;subst hj;exact c1
  |1=>simp at hj;subst hj;exact c2
  |j+2=>simp at hj
 ·intro u hu
  simp at hu;rcases hu with rfl|rfl<;>rfl
 intro v' w' h1 h2 _;exact h v' w' h1 h2
def zEn(z1 z2:Int):World->Value->Prop:=fun w v=>∃g cap cs,v=slq g 1 cap/\1<=cap/\cap<=9223372036854775807/\Blk w g tP cs/\cs[0]?=some (niq z1)/\cs[1]?=some (niq z2)
theorem zEu(z1 z2:Int):zAK (zEn z1 z2):=fun _ _ _ e ⟨g,cap,cs,h1,h2,h3,h4,h5⟩=>⟨g,cap,cs,h1,h2,h3,h4.below e,h5⟩
theorem zFH(b c:Nat)(R C:Int)(A:Value)(w:World)(hb0:Blk w b tM #[niq R,niq C,A])(hA:∃o n k,A= .slice o n k)(hc:1<=c)(hc2:c<=9223372036854775807):
  CPq 126 #[slq b 1 c] w fun e w'=>∃v,e= .returned v/\zEn R C w' v/\BWq w w':=by
 obtain⟨o1,n1,k1,rfl⟩:=hA;go_enter Tryz.func126,Tryz.ntmps126;go_wp2;go_loopw [3,8] (fun u iv wr=>∃k:Nat,k<=1/\iv=niq k/\BWq w wr/\wr.ownsRow w.heap.size tP 2 u k (if k=0 then []else [niq R,niq C])) (fun _ iv _=>1-(intOf iv).toNat)
 case atStart=>exact⟨0,oM,rfl,zA _ _,zCC _ _ _ _⟩
 obtain⟨k,hk,rfl,hb,hown⟩:=hrel;by_cases hk0:k=0
 ·subst hk0
  rw[if_pos rfl]at hown;obtain⟨c1,c2,c3,c4,c5,c6⟩:=(hb0.below hb).three;go_upto_region 5 with(fail)
  refine zD ?_;intro W6 hW6;obtain⟨hB6,T7,hs6⟩:=qL hW6;have d1:=T7.three;have hown6:=hown.kept (row:=none) ⟨hB6.os,hB6.tape,hB6.output,hB6.size,fun k hk _=>hB6.block k hk⟩ (by cases hv:u3.ownBlock<;>simp);have hbs:=(nx hb hB6).size;clear c1 c2 c3 c4 c5 c6 hW6;have hown7:=hown6.kept (row:=none) (w':=W6.alloc (.cells #[niq R,niq C] tP)) (by
   have hB7:BWq W6 (W6.alloc (.cells #[niq R,niq C] tP)):=(zA _ _).alloc (xgf _) _;exact⟨hB7.os,hB7.tape,hB7.output,hB7.size,fun k hk _=>hB7.block k hk⟩) (by cases hv:u3.ownBlock<;>simp)
  go_wp2_with (at_builtin;refine qAP rfl _ _ rfl w.heap.size u3 0 [] rfl hown7 W6.heap.size 1 R C rfl (qX _ _ _) oM (by simp;omega) ?_;intro v' w' hown8 hgr)
  have hgr:World.grownBy (W6.alloc (.cells #[niq R,niq C] tP)) w' (Value.ownBlock u3):=hgr;have hB9:BWq w w':=((nx hb hB6).alloc oM _).grown hgr (by simp;omega) (fun g hg=>by
   rcases hown.2 with⟨rfl,-⟩|⟨g',cap,cur,rfl,h1,-⟩
   cases hg;simp only[Value.ownBlock,Option.some.injEq]at hg;omega)
  go_roundw
  case rel=>exact⟨1,oM,by simp,hB9,by rw[if_neg oM];simpa using hown8⟩
  case measure=>simp[intOf]
 obtain rfl:k=1:=oM;rw[if_neg oM]at hown;go_wp2;go_ret;refine⟨_,rfl,?_,hb⟩;rcases hown.2 with⟨-,h0⟩|⟨g,cap,cur,rfl,h1,h2,h3,h4,h5,h6⟩
 omega;refine⟨g,cap,cur,rfl,h3,h4,h2,?_,?_⟩
 ·have:(cur.toList.take 2)[0]?=some (niq R):=by rw[h6];rfl
  rw[List.getElem?_take_of_lt oM]at this;simpa using this
 have:(cur.toList.take 2)[1]?=some (niq C):=by rw[h6];rfl
 rw[List.getElem?_take_of_lt oM]at this;simpa using this
def zEM(e:Bool)(Z:Nat->Prop)(w:World)(bw:Nat)(Ah:Value)(n Cs Ct:Nat)(x:Bst):Prop:=
 if e=true then ∃Au Av bss bst bsi,Blk w bw tHW #[Ah,Au,Av]/\zFo w Ah Au Av n Cs Ct bss bst bsi x.s x.t x.i/\∀b,b∈bss∨b∈bst∨b∈bsi->Z b
 else Ct=0/\∃Au Av bss,Blk w bw tHW #[Ah,Au,Av]/\Wri w Ah n Cs bss x.s/\zFN w Au n/\zFN w Av n/\∀b,b∈bss->Z b
theorem zFo.below{As At Ai:Value}{bss bst bsi:List Nat}{S T I:Nat->Nat->Int}(h:zFo w As At Ai n Cs Ct bss bst bsi S T I)(hb:BWq w w'):zFo w' As At Ai n Cs Ct bss bst bsi S T I:=
 ⟨h.s.below hb,h.t.below hb,h.i.below hb,h.st,h.si,h.ti,h.ast,h.asi,h.ati⟩
section
variable {e:Bool} {Z:Nat->Prop} {w w':World} {bw:Nat} {Ah:Value} {n Cs Ct:Nat} {x:Bst}
theorem zEM.below(h:zEM e Z w bw Ah n Cs Ct x)(hb:BWq w w'):zEM e Z w' bw Ah n Cs Ct x:=by
 unfold zEM at h ⊢
 split at h
 ·rename_i he
  rw[if_pos he];obtain⟨Au,Av,b1,b2,b3,h1,h2,h3⟩:=h;exact⟨Au,Av,b1,b2,b3,h1.below hb,h2.below hb,h3⟩
 rename_i he;rw[if_neg he];obtain⟨h0,Au,Av,b1,h1,h2,h3,h4,h5⟩:=h;exact⟨h0,Au,Av,b1,h1.below hb,h2.below hb,h3.below hb,h4.below hb,h5⟩
theorem zEM.wri(h:zEM e Z w bw Ah n Cs Ct x):∃bss,Wri w Ah n Cs bss x.s/\∀b,b∈bss->Z b:=by
 unfold zEM at h;split at h
 ·obtain⟨Au,Av,b1,b2,b3,h1,h2,h3⟩:=h
  exact⟨b1,h2.s,fun b hb=>h3 b (.inl hb)⟩
 obtain⟨h0,Au,Av,b1,h1,h2,h3,h4,h5⟩:=h;exact⟨b1,h2,h5⟩
theorem zEM.blk(h:zEM e Z w bw Ah n Cs Ct x):∃Au Av,Blk w bw tHW #[Ah,Au,Av]:=by
 unfold zEM at h;split at h
 ·obtain⟨Au,Av,b1,b2,b3,h1,-⟩:=h
  exact⟨Au,Av,h1⟩
 obtain⟨h0,Au,Av,b1,h1,-⟩:=h;exact⟨Au,Av,h1⟩
theorem qJ.widen{Z':Nat->Prop}(h:qJ Z w w')(hz:∀k,Z k->Z' k):qJ Z' w w':=h.mono fun k _ hk=>hz k hk
theorem zZz(hB:BSm B){kv:Value}{k:Int}(h:zEM e Z w bw Ah n Cs Ct x)(hok:okB B n Cs Ct x)(hi:i<n)(hj:j<n)(hij:i≠j)(hk:jY w kv k)
  (hn:n<=1000000) (hCs:Cs<=1000000) (hCt:Ct<=1000000) (ha:zFd B n Cs Ct x i j k):
  CPq 144 #[ptq bw 0,niq i,niq j,kv] w fun r w'=>(∃u,r= .returned u)/\qJ Z w w'/\zEM e Z w' bw Ah n Cs Ct (x.add i j k):=by
 obtain⟨a1,a2,a3,a4⟩:=ha;obtain⟨o1,o2,o3⟩:=hok;have hS:zMC Cs x.s i j k:=fun t ht=>⟨hB.sm _ (o1 i hi t ht),hB.sm _ (o1 j hj t ht),hB.sm _ (a2 t ht)⟩
 unfold zEM at h ⊢
 split at h
 ·rename_i he
  obtain⟨Au,Av,b1,b2,b3,h1,h2,h3⟩:=h;refine(zVz bw Ah Au Av n Cs Ct i j b1 b2 b3 x.s x.t x.i kv k w h1 h2 hi hj hij hk hn hCs hCt hS (fun t ht=>⟨hB.sm _ (o2 i hi t ht),hB.sm _ (o2 j hj t ht),hB.sm _ (a3 t ht).1⟩)
   (fun t ht=>⟨hB.sm _ (o3 j hj t ht),hB.sm _ (o3 i hi t ht),hB.sm _ (by rw[yA,zR];exact(a3 t ht).2)⟩) (hB.sm _ a1)).mono ?_
  rintro r w' ⟨hu,k1,k2,k3⟩;rw[if_pos he];exact⟨hu,k1.widen h3,Au,Av,b1,b2,b3,k2,k3,h3⟩
 rename_i he;obtain⟨h0,Au,Av,b1,h1,h2,h3,h4,h5⟩:=h;refine(zUH bw Ah Au Av n Cs i j b1 x.s kv k w h1 h2 h3 h4 hi hj hij hk hn hCs hS (hB.sm _ a1)).mono ?_;rintro r w' ⟨hu,k1,k2,k3,k4,k5⟩;rw[if_neg he];exact⟨hu,k1.widen h5,h0,Au,Av,b1,k2,k3,k4,k5,h5⟩
theorem zZ5(hB:BSm B)(h:zEM e Z w bw Ah n Cs Ct x)(hok:okB B n Cs Ct x)(hi:i<n)(hn:n<=1000000)(hCs:Cs<=1000000)(hCt:Ct<=1000000):
  CPq 146 #[ptq bw 0,niq i] w fun r w'=>(∃u,r= .returned u)/\qJ Z w w'/\zEM e Z w' bw Ah n Cs Ct (x.neg i):=by
 obtain⟨o1,o2,o3⟩:=hok;unfold zEM at h ⊢
 split at h
 ·rename_i he
  obtain⟨Au,Av,b1,b2,b3,h1,h2,h3⟩:=h;refine(zV1 bw Ah Au Av n Cs Ct i b1 b2 b3 x.s x.t x.i w h1 h2 hi hn hCs hCt (fun a ha b hb=>hB.sm _ (o1 a ha b hb)) (fun a ha b hb=>hB.sm _ (o2 a ha b hb)) (fun a ha b hb=>hB.sm _ (o3 a ha b hb))).mono ?_;rintro r w' ⟨hu,k1,k2,k3⟩;rw[if_pos he];exact⟨hu,k1.widen h3,Au,Av,b1,b2,b3,k2,k3,h3⟩
 rename_i he;obtain⟨h0,Au,Av,b1,h1,h2,h3,h4,h5⟩:=h;refine(zUJ bw Ah Au Av n Cs i b1 x.s w h1 h2 h3 h4 hi hn hCs (fun a ha b hb=>hB.sm _ (o1 a ha b hb))).mono ?_;rintro r w' ⟨hu,k1,k2,k3,k4,k5⟩;rw[if_neg he];exact⟨hu,k1.widen h5,h0,Au,Av,b1,k2,k3,k4,k5,h5⟩
structure zS4(B n Cs Ct:Nat)(x:Bst)(i j:Nat)(a b c d:Int):Prop where
 kk:a.natAbs<B/\b.natAbs<B/\c.natAbs<B/\d.natAbs<B
 ss:∀t,t<Cs->(a*x.s i t).natAbs<B/\(b*x.s j t).natAbs<B/\(c*x.s i t).natAbs<B/\(d*x.s j t).natAbs<B
 tt:∀t,t<Ct->(a*x.t i t).natAbs<B/\(b*x.t j t).natAbs<B/\(c*x.t i t).natAbs<B/\(d*x.t j t).natAbs<B
 ii:∀t,t<Ct->(d*x.i i t).natAbs<B/\(c*x.i j t).natAbs<B/\(b*x.i i t).natAbs<B/\(a*x.i j t).natAbs<B
 oo:okB B n Cs Ct (x.mix i j a b c d)
theorem qAT(hB:BSm B){mv:Value}{a b c d:Int}(h:zEM e Z w bw Ah n Cs Ct x)(hok:okB B n Cs Ct x)(hi:i<n)(hj:j<n)(hij:i≠j)(hm:M4V w mv a b c d)
  (hn:n<=1000000) (hCs:Cs<=1000000) (hCt:Ct<=1000000) (ha:zS4 B n Cs Ct x i j a b c d):
  CPq 145 #[ptq bw 0,niq i,niq j,mv] w fun r w'=>(∃u,r= .returned u)/\qJ Z w w'/\zEM e Z w' bw Ah n Cs Ct (x.mix i j a b c d):=by
 obtain⟨⟨a1,a2,a3,a4⟩,a_s,at_,ai,ao⟩:=ha;obtain⟨o1,o2,o3⟩:=hok;have hK:Sm a/\Sm b/\Sm c/\Sm d:=⟨hB.sm _ a1,hB.sm _ a2,hB.sm _ a3,hB.sm _ a4⟩;have hS:zRa Cs (x.s i) (x.s j) a b c d:=fun t ht=>by
  obtain⟨q1,q2,q3,q4⟩:=a_s t ht;exact⟨hB.sm _ (o1 i hi t ht),hB.sm _ (o1 j hj t ht),hB.sm _ q1,hB.sm _ q2,hB.sm _ q3,hB.sm _ q4⟩
 unfold zEM at h ⊢
 split at h
 ·rename_i he
  obtain⟨Au,Av,b1,b2,b3,h1,h2,h3⟩:=h;refine(zV0 bw Ah Au Av mv n Cs Ct i j b1 b2 b3 x.s x.t x.i a b c d w h1 h2 hi hj hij hm hn hCs hCt hS (fun t ht=>by
   obtain⟨q1,q2,q3,q4⟩:=at_ t ht;exact⟨hB.sm _ (o2 i hi t ht),hB.sm _ (o2 j hj t ht),hB.sm _ q1,hB.sm _ q2,hB.sm _ q3,hB.sm _ q4⟩) (fun t ht=>by
   obtain⟨q1,q2,q3,q4⟩:=ai t ht;exact⟨hB.sm _ (o3 i hi t ht),hB.sm _ (o3 j hj t ht),hB.sm _ q1,hB.sm _ (by rw[yA,zR];exact q2),hB.sm _ (by rw[yA,zR];exact q3),hB.sm _ q4⟩) hK).mono ?_
  rintro r w' ⟨hu,k1,k2,k3⟩;rw[if_pos he];exact⟨hu,k1.widen h3,Au,Av,b1,b2,b3,k2,k3,h3⟩
 rename_i he;obtain⟨h0,Au,Av,b1,h1,h2,h3,h4,h5⟩:=h;refine(zUI bw Ah Au Av mv n Cs i j b1 x.s a b c d w h1 h2 h3 h4 hi hj hij hm hn hCs hS hK).mono ?_;rintro r w' ⟨hu,k1,k2,k3,k4,k5⟩;rw[if_neg he];exact⟨hu,k1.widen h5,h0,Au,Av,b1,k2,k3,k4,k5,h5⟩
end
def zEx(bw:Nat):Array Value:=#[.func (.func 144) #[ptq bw 0] #[],.func (.func 145) #[ptq bw 0] #[],.func (.func 146) #[ptq bw 0] #[]]
inductive zP1 (x:Bst) (r m c:Nat):Bst->Prop
 |add:x.s m c%x.s r c=0->zP1 x r m c (x.add m r (-(x.s m c/x.s r c)))
 |mix (s t:Int):¬ x.s m c%x.s r c=0->Bez (x.s r c) (x.s m c) s t->zP1 x r m c (x.mix r m s t (-(x.s m c/((Int.gcd (x.s r c) (x.s m c):Nat):Int))) (x.s r c/((Int.gcd (x.s r c) (x.s m c):Nat):Int)))
abbrev zD9:TypeId:=169
theorem zEM.row{a:Nat}{x:Bst}(h:zEM e Z w bw (slq g a cap) n Cs Ct x)(hi:i<n):
  ∃b,w.cell? ⟨g,i,none⟩=some (slq b Cs Cs)/\jJ w b (qZ Cs (x.s i))/\g<w.heap.size:=by
 obtain⟨bss,hw,-⟩:=h.wri;obtain⟨g1,b,eg,hg,hb,-,o1,-⟩:=qC.at_ hw (i:=i) (by rw[hw.len];exact hi);obtain rfl:g=g1:=by injection eg with eg;injection eg
 exact⟨b,o1,hw.rowAt hi hb,hg⟩
theorem zEM.only{x:Bst}(h:zEM e Z w bw Ah n Cs Ct x)(ho:zB0 [b] w w')(hz:¬ Z b)(hb:Blk w b 43 cs):zEM e Z w' bw Ah n Cs Ct x:=by
 have hr:jJ w b []:=⟨cs,hb,fun k z hk=>by simp at hk⟩;unfold zEM at h ⊢
 split at h
 ·rename_i he
  rw[if_pos he];obtain⟨Au,Av,b1,b2,b3,h1,h2,h3⟩:=h;exact⟨Au,Av,b1,b2,b3,h1.row ho hr dE,⟨h2.s.only ho (fun hm=>hz (h3 _ (.inl hm))) hr,h2.t.only ho (fun hm=>hz (h3 _ (.inr (.inl hm)))) hr,h2.i.only ho (fun hm=>hz (h3 _ (.inr (.inr hm)))) hr,h2.st,h2.si,h2.ti,h2.ast,h2.asi,h2.ati⟩,h3⟩
 rename_i he;rw[if_neg he];obtain⟨h0,Au,Av,b1,h1,h2,h3,h4,h5⟩:=h;exact⟨h0,Au,Av,b1,h1.row ho hr dE,h2.only ho (fun hm=>hz (h5 _ hm)) hr,h3.row ho hr,h4.row ho hr,h5⟩
theorem zPT{x y:Value}(hb:Blk w b 43 #[c0,c1]):zB0 [b] w ((w.setCell ⟨b,0,none⟩ x).setCell ⟨b,1,none⟩ y):=
 ⟨yJ (yJ (zA 0 _) (zE _) _ _) (zE _) _ _,hb.lext2 dE _ _,fun k _ hk=>yO _ _ _ _ _ _ _ (by simpa using hk)⟩
theorem qJ.new{w1 w2:World}(h:qJ Z w w1)(ho:zB0 [b] w1 w2)(hb:w.heap.size<=b):qJ Z w w2:=
 ⟨h.bel.trans ho.bel,h.lext.trans ho.lext,fun k hk hn=>(ho.old k (zJ hk h.bel.size) (by simp;omega)).trans (h.old k hk hn)⟩
theorem zU5(hB:BSd B){m c:Nat}{x:Bst}(h:zEM e0 Z w bw Ah n Cs Ct x)(hok:okB B n Cs Ct x)(hr:r<n)(hm:m<n)(hrm:r≠m)(hc:c<Cs)(h0:x.s r c≠0)
  (hn:n<=1000000) (hCs:Cs<=1000000) (hCt:Ct<=1000000) (hZ:∀b,Z b->b<w.heap.size)
  (ha:x.s m c%x.s r c=0->zFd B n Cs Ct x m r (-(x.s m c/x.s r c)))
  (hx:∀s t,Bez (x.s r c) (x.s m c) s t->zS4 B n Cs Ct x r m s t (-(x.s m c/((Int.gcd (x.s r c) (x.s m c):Nat):Int))) (x.s r c/((Int.gcd (x.s r c) (x.s m c):Nat):Int))):
  CPq 176 #[Ah,.agg #[niq r,niq c],niq m,.agg (zEx bw)] w fun e w'=>(∃u,e= .returned u)/\qJ Z w w'/\∃y,zP1 x r m c y/\zEM e0 Z w' bw Ah n Cs Ct y:=by
 obtain⟨bss0,hw0,-⟩:=h.wri;obtain⟨so,sn,cap,rfl,s1,-⟩:=id (qC.rows hw0);have e2:n=sn:=by rw[<-s1];simp[genM]
 subst e2;obtain⟨g,_,rfl,-⟩:=qC.at_ hw0 (i:=r) (by rw[hw0.len];exact hr);clear s1 hw0 bss0;have HOK:=xgv hok;have HAD:=xgv ha;have HMX:=xgv hx;obtain⟨X,hX⟩:∃X,x.s r c=X:=⟨_,rfl⟩;obtain⟨Y,hY⟩:∃Y,x.s m c=Y:=⟨_,rfl⟩;have HXV:=xgw hX;have HYV:=xgw hY;have SX:jZ (Smd X):=⟨by rw[<-hX];exact hB.smd _ (hok.1 r hr c hc)⟩;have SY:jZ (Smd Y):=⟨by rw[<-hY];exact hB.smd _ (hok.1 m hm c hc)⟩;rw[hX]at h0 HAD HMX;rw[hY]at HAD HMX;have HH:=xgv h;obtain⟨br,o1,r1,hg⟩:=h.row hr;obtain⟨bm,o2,r2,-⟩:=h.row hm;obtain⟨xn,xa,xl,xc,q1,q2,-,-,hxv⟩:=r1.cell (yE hc);obtain⟨yn,ya,yl,yc,q3,q4,-,-,hyv⟩:=r2.cell (yE hc);rw[hX]at hxv;rw[hY]at hyv;have lr1:=r1.lt;have lr2:=r2.lt;clear hok ha hx hX hY h r1 r2;go_enter Tryz.func176,Tryz.ntmps176;go_upto_region 1 with(fail)
 refine zD ?_;intro W0 hW0;obtain⟨hB0,T5,T7,hs0⟩:=zAj hW0;have T7:Blk W0 (w.heap.size+1) 167 (zEx bw):=T7;have hO:=qJ.of Z hB0;have HH:=xgv (HH.out.below hB0);have o1:=jL o1 hB0;have o2:=jL o2 hB0;have q1:=jL q1 hB0;have q2:=jL q2 hB0;have q3:=jL q3 hB0;have q4:=jL q4 hB0;have hxv:=hxv.ext (lx hB0);have hyv:=hyv.ext (lx hB0);obtain⟨p1,p2,p3,p4⟩:=T5.two;have l5:=T5.lt;have lz:=hB0.size;clear hW0;refine zBl [pcI 8 (X),pcI 16 (Y),pbA 17 43 2,pbA 18 43 2,pbS 19 17 43 2,pbS 20 18 43 2] ?_;refine sRd ?_;refine sRc (fun wS hI Gk hG=>?_) (fun va8 hv=>?_)
 ·have cc0:=hI.cell q1
  have cc1:=hI.cell q2;go_simp;exact⟨hG _ _ (hxv.ext hI.lext),zA _ _⟩
 obtain⟨xa17,ya17,rfl,qa17⟩:=zL7 hv;clear hv;refine sRd ?_;refine sRc (fun wS hI Gk hG=>?_) (fun va16 hv=>?_)
 ·have cc0:=hI.cell q3
  have cc1:=hI.cell q4;go_simp;exact⟨hG _ _ (hyv.ext hI.lext),zA _ _⟩
 obtain⟨xa18,ya18,rfl,qa18⟩:=zL7 hv;clear hv;refine sRa (cs:=#[.bool false,.slice none 0 0]) fun ca17 ga17=>?_
 refine sRa (cs:=#[.bool false,.slice none 0 0]) fun ca18 ga18=>?_
 refine sRs ca17 (.agg #[xa17,ya17]) ?_ qa17;refine sRs ca18 (.agg #[xa18,ya18]) ?_ qa18;refine sRb ?_;simp only[FA,FC,FN,ptr,List.nil_append,List.cons_append,Act.put,xgh,xgi,xgj];intro w3 hbw3 ha8 ha16 ka17 ka18 na17 na18;replace ka17:Blk w3 ca17 43 #[xa17,ya17]:=ka17 _ rfl;have ia17:=ha8;replace ka18:Blk w3 ca18 43 #[xa18,ya18]:=ka18 _ rfl;have ia18:=ha16;have na17_18:ca17≠ca18:=na17 (18,ca18) sI;clear na17 na18;have hO:=hO.trans (qJ.of Z hbw3);have HH:=xgv (HH.out.below hbw3);have T5:=T5.below hbw3;have T7:=T7.below hbw3;have z8:=zCQ.mk ka17 ia17;have z9:=zCQ.mk ka18 ia18;have q3z:=hbw3.size;clear o1 o2 q1 q2 q3 q4 hxv hyv p1 p2 p3 p4 ka17 ka18 ia17 ia18 ha8 ha16;obtain⟨n8,a8,l8,c8,k8,i8⟩:=id z8;obtain⟨n9,a9,l9,c9,k9,i9⟩:=id z9;obtain⟨e1,e2,e3,e4⟩:=k8.two;have f1:=k9.two;go_wp2_with fail
 refine(zDt _ _ Y X w3 i9.weak i8.weak SY.out.sm SX.out.sm h0).mono ?_;rintro e w4 ⟨q0,r0,rfl,hq,hrr,hb4⟩;obtain⟨qn,qa,ql,qc,qx,rfl,hq'⟩:=id hq;obtain⟨rn,ra,rl,rc,rx,rfl,hr'⟩:=id hrr;have HQ':=xgw hq';have HR':=xgw hr';clear hq' hr' e1 e2 e3 e4 f1 k8 k9 i8 i9;go_upto_region 3 with(fail)
 refine zD ?_;intro W5 hW5;obtain⟨hB5,T10,T11,hs5⟩:=zAj hW5;have hb45:=nx hb4 hB5;have hO:=hO.trans (qJ.of Z hb45);have HH:=xgv (HH.out.below hb45);have T5:=T5.below hb45;have T7:=T7.below hb45;have z8:=z8.below hb45;have z9:=z9.below hb45;have hq:=hq.ext (lx hB5);have hrr:=hrr.ext (lx hB5);have q5z:=hb45.size;clear hW5 hb45;obtain⟨e1,e2,e3,e4⟩:=T11.two;go_wp2_with fail
 refine(zAi _ (Y%X) W5 hrr.weak).mono ?_;rintro e w6 ⟨rfl,hb6⟩;have hO:=hO.trans (qJ.of Z hb6);have HH:=xgv (HH.out.below hb6);have T5:=T5.below hb6;have T7:=T7.below hb6;have T10:=T10.below hb6;have z8:=z8.below hb6;have z9:=z9.below hb6;have hq:=hq.ext (lx hb6);have q6z:=hb6.size;have q4z:=hb4.size;clear e1 e2 e3 e4 T11 hrr;by_cases hdiv:Y%X=0
 ·rw[zBd hdiv]
  have x1:=T7.three;obtain⟨p1,p2,p3,p4⟩:=T5.two;have d1:=T10.two;have l5:=T5.lt;have l7:=T7.lt;have l10:=T10.lt;have hqs:jZ (Sm (Y/X)):=⟨SY.out.sm.mono (zBm Y X)⟩;go_upto_region 4 with(fail)
  refine yP 7 [pcI 6 (-(Y/X))] ?_;refine sRd ?_;refine sRc (fun wS hI Gk hG=>by go_simp;exact ck hG (zBY _ (Y/X) _ (hq.ext hI.lext).weak hqs.out)) (fun vb6 _=>?_);refine sRe ?_;intro w7 hbw7 hb6;have hb6':jY w7 vb6 (-(Y/X)):=hb6;have hO:=hO.trans (qJ.of Z hbw7);have HH:=xgv (HH.out.below hbw7);have HAD':=xgv (HAD.out hdiv);clear x1 p1 p2 p3 p4 d1;go_wp2_with fail
  refine(zZz hB.bsm HH.out HOK.out hm hr (qD hrm) hb6' hn hCs hCt HAD'.out).mono ?_;rintro e w8 ⟨⟨uu,rfl⟩,ho8,hH8⟩;go_wp2;have hJ:zP1 x r m c (x.add m r (-(Y/X))):=by
   rw[<-HXV.out,<-HYV.out];exact .add (by rw[HXV.out,HYV.out];exact hdiv)
  exact bodyPost_ret (results_none rfl _ _ _) rfl ⟨⟨_,rfl⟩,hO.trans ho8,_,hJ,hH8⟩
 have hcne:=zCr hdiv;obtain⟨k0,hk0⟩:∃k0,zAt (Y%X) 0=k0:=⟨_,rfl⟩;rw[hk0]at hcne ⊢
 have hcb:(k0==0)=false:=by simpa using hcne
 obtain⟨G,hG⟩:∃G:Int,((Int.gcd X Y:Nat):Int)=G:=⟨_,rfl⟩;have hG0:G≠0:=by
  rw[<-hG];intro hh;have:Int.gcd X Y=0:=oM;exact h0 (Int.eq_zero_of_gcd_eq_zero_left this)
 have SG:jZ (Smd G):=⟨SX.out.mono (by rw[<-hG];exact zDE oM (by have:=zBW X Y;exact Int.natAbs_dvd_natAbs.2 this))⟩;have HG:=xgw hG;rw[hG]at HMX;clear hG T10 hq;have lz8:=z8.lt;have lz9:=z9.lt;obtain⟨n8,a8,l8,c8,k8,i8⟩:=id z8;obtain⟨n9,a9,l9,c9,k9,i9⟩:=id z9;obtain⟨e1,e2,e3,e4⟩:=k8.two;have f1:=k9.two;go_wp2_with fail
 refine(zSK _ _ X Y w6 i8 i9 SX.out SY.out).mono ?_;rintro e w7 ⟨v1,v2,v3,s,t,rfl,hgv,hsv,htv,hbez,hsb,htb,hb7⟩;have HBZ:jZ (Bez X Y s t):=⟨⟨hbez,hsb,htb⟩⟩;have HMM:=xgv (HMX.out s t HBZ.out);rw[HG.out]at hgv;obtain⟨gn,ga,gl,gc,gx,rfl,hg'⟩:=id hgv;obtain⟨sn,sa,sl,sc',sx,rfl,hs'⟩:=id hsv;obtain⟨tn,ta,tl,tc,tx,rfl,ht'⟩:=id htv;have HG':=xgw hg';have HS':=xgw hs';have HT':=xgw ht';clear hg' hs' ht' hbez hsb htb e1 e2 e3 e4 f1 k8 k9 i8 i9;go_upto_region 6 with(fail)
 refine zD ?_;intro W8 hW8;obtain⟨hB8,T13,T14,T15,hs8⟩:=zBk hW8;have hb78:=nx hb7 hB8;have hO:=hO.trans (qJ.of Z hb78);have HH:=xgv (HH.out.below hb78);have T5:=T5.below hb78;have T7:=T7.below hb78;have z8:=z8.below hb78;have z9:=z9.below hb78;have z13:=zCQ.mk T13 (hgv.ext (lx hB8));have z14:=zCQ.mk T14 (hsv.ext (lx hB8));have z15:=zCQ.mk T15 (htv.ext (lx hB8));have q8z:=hb78.size;have q7z:=hb7.size;clear hW8 T13 T14 T15 hgv hsv htv;obtain⟨n8,a8,l8,c8,k8,i8⟩:=id z8;obtain⟨n13,a13,l13,c13,k13,i13⟩:=id z13;obtain⟨e1,e2,e3,e4⟩:=k8.two;have f1:=k13.two;have lk8:=k8.lt;go_wp2_with fail
 refine(zDt _ _ X G W8 i8.weak i13.weak SX.out.sm SG.out.sm hG0).mono ?_;rintro e w9 ⟨q0,r0,rfl,hq,hrr,hb9⟩;obtain⟨qn,qa,ql,qc,qx,rfl,hq'⟩:=id hq;have HQ':=xgw hq';clear hq' e1 e2 e3 e4 f1 k13 i13;have k8:=k8.below hb9;obtain⟨e1,e2,e3,e4⟩:=k8.two;go_upto_region 7 with(fail)
 refine zD ?_;intro W10 hW10;have hon:zB0 [ca17] w9 W10:=by rw[hW10.out];exact zPT k8
 have hnz:¬ Z ca17:=fun h=>by have:=hZ _ h;omega
 have hO:=(hO.trans (qJ.of Z hb9)).new hon oM;have HH:=xgv ((HH.out.below hb9).only hon hnz k8);have z8:zCQ W10 ca17 (X/G):=by rw[hW10.out];exact zCQ.put k8 hq
 have T5:Blk W10 w.heap.size zD9 #[niq r,niq c]:=(hon.old _ (T5.below hb9).lt (by simp;omega)).trans (T5.below hb9);have T7:Blk W10 (w.heap.size+1) 167 (zEx bw):=(hon.old _ (T7.below hb9).lt (by simp;omega)).trans (T7.below hb9);have z9:=(z9.below hb9).old (hon.old _ (z9.below hb9).lt (by simpa using qD na17_18)) hon.lext;have z13:=(z13.below hb9).old (hon.old _ (z13.below hb9).lt (by simp;omega)) hon.lext;have z14:=(z14.below hb9).old (hon.old _ (z14.below hb9).lt (by simp;omega)) hon.lext;have z15:=(z15.below hb9).old (hon.old _ (z15.below hb9).lt (by simp;omega)) hon.lext;have q10z:=hon.bel.size;have q9z:=hb9.size;clear hW10 hon e1 e2 e3 e4 k8 hq hrr i8;obtain⟨n9,a9,l9,c9,k9,i9⟩:=id z9;obtain⟨n13,a13,l13,c13,k13,i13⟩:=id z13;obtain⟨e1,e2,e3,e4⟩:=k9.two;have f1:=k13.two;have lk9:=k9.lt;go_wp2_with fail
 refine(zDt _ _ Y G W10 i9.weak i13.weak SY.out.sm SG.out.sm hG0).mono ?_;rintro e w11 ⟨q0,r0,rfl,hq,hrr,hb11⟩;obtain⟨qn,qa,ql,qc,qx,rfl,hq'⟩:=id hq;have HQ':=xgw hq';clear hq' e1 e2 e3 e4 f1 k13 i13;have k9:=k9.below hb11;obtain⟨e1,e2,e3,e4⟩:=k9.two;go_upto_region 8 with(fail)
 refine zD ?_;intro W12 hW12;have hon:zB0 [ca18] w11 W12:=by rw[hW12.out];exact zPT k9
 have hnz:¬ Z ca18:=fun h=>by have:=hZ _ h;omega
 have hO:=(hO.trans (qJ.of Z hb11)).new hon oM;have HH:=xgv ((HH.out.below hb11).only hon hnz k9);have z9:zCQ W12 ca18 (Y/G):=by rw[hW12.out];exact zCQ.put k9 hq
 have T5:Blk W12 w.heap.size zD9 #[niq r,niq c]:=(hon.old _ (T5.below hb11).lt (by simp;omega)).trans (T5.below hb11);have T7:Blk W12 (w.heap.size+1) 167 (zEx bw):=(hon.old _ (T7.below hb11).lt (by simp;omega)).trans (T7.below hb11);have z8:=(z8.below hb11).old (hon.old _ (z8.below hb11).lt (by simpa using na17_18)) hon.lext;have z14:=(z14.below hb11).old (hon.old _ (z14.below hb11).lt (by simp;omega)) hon.lext;have z15:=(z15.below hb11).old (hon.old _ (z15.below hb11).lt (by simp;omega)) hon.lext;clear hW12 hon e1 e2 e3 e4 k9 hq hrr i9 z13;have SYG:jZ (Sm (Y/G)):=⟨SY.out.sm.mono (zBm Y G)⟩;obtain⟨n8,a8,l8,c8,k8,i8⟩:=id z8;obtain⟨n9,a9,l9,c9,k9,i9⟩:=id z9;obtain⟨n14,a14,l14,c14,k14,i14⟩:=id z14;obtain⟨n15,a15,l15,c15,k15,i15⟩:=id z15;obtain⟨e1,e2,e3,e4⟩:=k8.two;have f1:=k9.two;have u1:=k14.two;obtain⟨v1,v2,v3,v4⟩:=k15.two;have x1:=T7.three;obtain⟨p1,p2,p3,p4⟩:=T5.two;have l5:=T5.lt;have l7:=T7.lt;have l8':=k8.lt;have l9':=k9.lt;have l14':=k14.lt;have l15':=k15.lt;have hl2:=zD2 s t;have hl3:=zD2 (-(Y/G)) (X/G);have hl4:=zGX s t (-(Y/G)) (X/G);refine yP 13 [pcD 7 [] (M2V s t),pcI 9 (-(Y/G)),pcD 11 [9] (M2V (-(Y/G)) (X/G)),pcD 12 [7,11] (fun w v=>M4V w v s t (-(Y/G)) (X/G))] ?_;refine sRd ?_;refine sRc (fun wS hI Gk hG=>?_) (fun vb7 _=>?_)
 ·skip
  go_simp;exact⟨hG _ _ ⟨_,_,_,_,_,_,_,_,rfl,i14.ext hI.lext,i15.ext hI.lext⟩,zA _ _⟩
 refine sRd ?_;refine sRc (fun wS hI Gk hG=>by go_simp;exact ck hG (zBY _ (Y/G) _ (i9.ext hI.lext).weak SYG.out)) (fun vb9 _=>?_);refine sRd ?_;refine sRc (fun wS hI hb9 Gk hG=>?_) (fun vb11 _=>?_)
 ·obtain⟨a19,b19,d19,e19,x19,rfl,y19⟩:=id hb9
  go_simp;exact⟨hG _ _ ⟨_,_,_,_,_,_,_,_,rfl,hb9,i8.ext hI.lext⟩,zA _ _⟩
 refine sRc (fun wS hI hb7 hb11 Gk hG=>?_) (fun vb12 _=>?_)
 ·obtain⟨p0,p1,p2,p3,p4,p5,p6,p7,rfl,p8,p9⟩:=hb7
  obtain⟨q0,q1,q2,q3,q4,q5,q6,q7,rfl,q8,q9⟩:=hb11;go_simp;exact⟨hG _ _ ⟨_,_,_,_,_,_,_,_,_,_,_,_,_,_,_,_,rfl,p8,p9,q8,q9⟩,zA _ _⟩
 refine sRe ?_;intro w13 hbw13 hb7 hb9 hb11 hb12;have hm4:M4V w13 vb12 s t (-(Y/G)) (X/G):=hb12;have hO:=hO.trans (qJ.of Z hbw13);have HH:=xgv (HH.out.below hbw13);clear e1 e2 e3 e4 f1 u1 v1 v2 v3 v4 x1 p1 p2 p3 p4;go_wp2_with fail
 refine(qAT hB.bsm HH.out HOK.out hr hm hrm hm4 hn hCs hCt HMM.out).mono ?_;rintro e w14 ⟨⟨uu,rfl⟩,ho14,hH14⟩;go_wp2;have hJ:zP1 x r m c (x.mix r m s t (-(Y/G)) (X/G)):=by
  rw[<-HG.out,<-HXV.out,<-HYV.out];exact .mix s t (by rw[HXV.out,HYV.out];exact hdiv) (by rw[HXV.out,HYV.out];exact HBZ.out)
 exact bodyPost_end (results_none rfl _ _ _) rfl ⟨⟨_,rfl⟩,hO.trans ho14,_,hJ,hH14⟩
def zNg(w:World)(v:Value)(r:Nat)(ρ κ:Nat->Nat):Prop:=
 ∃ao cap,v= .slice ao r cap/\r<=cap/\cap<=9223372036854775807/\(0<r->∃b cs,ao=some ⟨b,0,none⟩/\Blk w b zD9 cs/\∀k,k<r->cs[k*2]?=some (niq (ρ k))/\cs[k*2+1]?=some (niq (κ k)))
theorem zNg.old(h:zNg w v r ρ κ)(ho:∀b,v.ownBlock=some b->b<w.heap.size->w'.heap[b]?=w.heap[b]?):zNg w' v r ρ κ:=by
 obtain⟨ao,cap,rfl,h2,h3,h4⟩:=h;refine⟨ao,cap,rfl,h2,h3,fun hr=>?_⟩;obtain⟨b,cs,rfl,h5,h6⟩:=h4 hr;exact⟨b,cs,rfl,(ho b rfl h5.lt).trans h5,h6⟩
theorem zNg.below(h:zNg w v r ρ κ)(hb:BWq w w'):zNg w' v r ρ κ:=h.old fun b _ hl=>hb.block b hl
theorem zNg.onlyZ(h:zNg w v r ρ κ)(ho:qJ Z w w')(hz:∀b,v.ownBlock=some b->¬ Z b):zNg w' v r ρ κ:=h.old fun b hb hl=>ho.old b hl (hz b hb)
theorem zNg.cell{o:Nat}(h:zNg w (.slice (some ⟨b,o,none⟩) r cap) r ρ κ)(hk:k<r):o=0/\b<w.heap.size/\w.cell? ⟨b,k*2,none⟩=some (niq (ρ k))/\w.cell? ⟨b,k*2+1,none⟩=some (niq (κ k)):=by
 obtain⟨ao,cap',e,h2,h3,h4⟩:=h;obtain⟨b',cs,e1,h5,h6⟩:=h4 oM;injection e with e2 e3 e4
 rw[e1]at e2;injection e2 with e2
 injection e2 with e5 e6
 subst e5;obtain⟨c1,c2⟩:=h6 k hk;exact⟨e6,h5.lt,h5.cell _ ▸ c1,h5.cell _ ▸ c2⟩
def zIK(B n Cs Ct:Nat)(ρ κ:Nat->Nat)(i:Nat):Nat->Nat->Bst->Option Bst
 |0,_,x=>some x
 |m+1,j,x=>
  if x.s (ρ i) (κ j)=0 then zIK B n Cs Ct ρ κ i m (j+1) x
  else if x.s (ρ j) (κ j)=0 then none
  else if x.s (ρ i) (κ j)/x.s (ρ j) (κ j)=0 then zIK B n Cs Ct ρ κ i m (j+1) x
  else if zFd B n Cs Ct x (ρ i) (ρ j) (-(x.s (ρ i) (κ j)/x.s (ρ j) (κ j)))then zIK B n Cs Ct ρ κ i m (j+1) (x.add (ρ i) (ρ j) (-(x.s (ρ i) (κ j)/x.s (ρ j) (κ j))))
  else none
def zKK(B n Cs Ct:Nat)(ρ κ:Nat->Nat)(r:Nat):Nat->Bst->Option Bst
 |0,x=>some x
 |i+1,x=>(zIK B n Cs Ct ρ κ i (r-(i+1)) (i+1) x).bind (zKK B n Cs Ct ρ κ r i)
theorem zEa(hB:BSd B){pv:Value}{x y:Bst}(h:zEM e0 Z w bw Ah n Cs Ct x)(hok:okB B n Cs Ct x)(hp:zNg w pv r ρ κ)(hpz:∀b,pv.ownBlock=some b->¬ Z b)
  (hρ:∀k,k<r->ρ k<n) (hinj:∀i j,i<j->j<r->ρ i≠ρ j) (hκ:∀k,k<r->κ k<Cs) (hn:n<=1000000) (hCs:Cs<=1000000) (hCt:Ct<=1000000) (hrn:r<=n) (hZ:∀b,Z b->b<w.heap.size) (hn0:0<n)
  (hy:zKK B n Cs Ct ρ κ r r x=some y):
  CPq 178 #[Ah,pv,.agg (zEx bw)] w fun e w'=>(∃u,e= .returned u)/\qJ Z w w'/\zEM e0 Z w' bw Ah n Cs Ct y/\okB B n Cs Ct y:=by
 obtain⟨bss0,hw0,-⟩:=h.wri;obtain⟨so,sn,scap,rfl,s1,-⟩:=id (qC.rows hw0);have e2:n=sn:=by rw[<-s1];simp[genM]
 subst e2;obtain⟨g,_,rfl,-⟩:=qC.at_ hw0 (i:=0) (by rw[hw0.len];exact hn0);obtain⟨ao,cap,rfl,hrc,hrc2,-⟩:=id hp;have HY:=xgv (And.intro hok hy);have HP:=xgv hp;have HPZ:=xgv hpz;have HRO:=xgv hρ;have HIN:=xgv hinj;have HKA:=xgv hκ;have hsh:0<r->∃pb,ao=some ⟨pb,0,none⟩:=fun hr=>by
  obtain⟨ao',cap',e,-,-,h4⟩:=hp;obtain⟨b,cs,e1,-⟩:=h4 hr;injection e with e2
  exact⟨b,e2.trans e1⟩
 clear s1 hw0 bss0 hok hy hp hpz hρ hinj hκ;go_enter Tryz.func178,Tryz.ntmps178;go_upto_region 1 with(fail)
 refine zD ?_;intro W0 hW0;obtain⟨hB0,T5,hs0⟩:=qL hW0;have T5:Blk W0 w.heap.size 167 (zEx bw):=T5;have hO:=qJ.of Z hB0;have hz:=h.below hB0;have HP:=xgv (HP.out.below hB0);clear hW0 h;go_wp2;go_loopw [6] (fun tv wr=>∃(i:Nat) (z:Int) (xi:Bst),tv=niq z/\z=(i:Int)-1/\i<=r/\qJ Z w wr/\Blk wr w.heap.size 167 (zEx bw)/\jZ (zNg wr (.slice ao r cap) r ρ κ)/\zEM e0 Z wr bw (slq g n scap) n Cs Ct xi/\jZ (okB B n Cs Ct xi/\zKK B n Cs Ct ρ κ r i xi=some y)) (fun tv _=>(intOf tv+1).toNat)
 case atStart=>exact⟨r,(r:Int)-1,x,by simp,rfl,xgf _,hO,T5,HP,hz,HY⟩
 obtain⟨i,z,xi,rfl,hzi,hi,hO,T5,HP,hz,hx⟩:=hrel;cases i with
 |zero=>
  obtain rfl:z=-1:=oM;clear hzi;have h3:=hx.out.2;unfold zKK at h3;injection h3 with h3
  have H3:=xgv h3;clear h3;go_wp2;exact bodyPost_end (results_none rfl _ _ _) rfl ⟨⟨_,rfl⟩,hO,by rw[<-H3.out];exact hz,by rw[<-H3.out];exact hx.out.1⟩
 | succ i=>
  obtain rfl:z=(i:Int):=oM;clear hzi;have h3:=hx.out.2;unfold zKK at h3;rw[zAJ]at h3;obtain⟨y1,h4,h5⟩:=h3;have HR:=xgv h5;have HJ:=xgv (And.intro hx.out.1 h4);clear h4 h5 hx;obtain⟨pb,rfl⟩:=hsh oM;obtain⟨-,lpb,k1,-⟩:=HP.out.cell (k:=i) oM;have hwi:IntKind.i64.wrap ((i:Int)+1)=(i:Int)+1:=qU _ oM;obtain⟨M,hM⟩:∃M,r-(i+1)=M:=⟨_,rfl⟩;by_cases hce:cap=i+1
  ·have hM0:M=0:=oM
   have hir:(i:Int)+1<=(r:Int):=oM;subst hM0;go_wp2;try rw[hM]
   go_loopw [30] (fun uv wt=>uv=niq 0/\wt=wr) (fun _ _=>0)
   case atStart=>exact⟨rfl,rfl⟩
   rename World=>wt
   obtain⟨rfl,hwt⟩:=hrel;have hwt:=hwt.symm;subst hwt;have h3:=HJ.out.2;rw[hM]at h3;unfold zIK at h3;injection h3 with h3
   have H3:=xgv h3;clear h3;go_wp2;go_roundw
   case rel=>exact⟨i,(i:Int)-1,xi,by simp,rfl,oM,hO,T5,HP,hz,⟨⟨HJ.out.1,by rw[H3.out];exact HR.out⟩⟩⟩
   case measure=>simp[intOf]
  go_wp2;try rw[hM]
  go_loopw [30] (fun uv wt=>∃(u:Nat) (xt:Bst),uv=niq u/\u<=M/\qJ Z w wt/\Blk wt w.heap.size 167 (zEx bw)/\jZ (zNg wt (slq pb r cap) r ρ κ)/\zEM e0 Z wt bw (slq g n scap) n Cs Ct xt/\jZ (okB B n Cs Ct xt/\zIK B n Cs Ct ρ κ i (M-u) (i+1+u) xt=some y1)) (fun uv _=>M-(intOf uv).toNat)
  case atStart=>exact⟨0,xi,rfl,oM,hO,T5,HP,hz,⟨⟨HJ.out.1,by rw[<-hM];exact HJ.out.2⟩⟩⟩
  rename World=>wt
  clear hO T5 HP hz HJ k1 lpb;obtain⟨u,xt,rfl,huM,hO,T5,HP,hz,hx⟩:=hrel;by_cases hlt2:u<M
  ·obtain⟨j,hj⟩:∃j,j=i+1+u:=⟨_,rfl⟩
   obtain⟨m,hm⟩:∃m,M-u=m+1:=⟨M-u-1,oM⟩;have hm2:M-(u+1)=m:=oM;have hj1:i+1+(u+1)=j+1:=oM;have h3:=hx.out.2;rw[hm,<-hj]at h3;unfold zIK at h3;have HOK:=xgv hx.out.1;have H3:=xgv h3;obtain⟨-,lpb,p1,p2⟩:=HP.out.cell (k:=j) oM;have hjo:j*2=(i+1)*2+u*2:=oM;rw[hjo]at p1 p2;have hjr:j<r:=oM;have hir:i<r:=oM;have hcC:=HKA.out j hjr;have hin:=HRO.out i hir;have htn:=HRO.out j hjr;have hne:=HIN.out i j oM hjr;obtain⟨ri,hri⟩:∃ri,ρ i=ri:=⟨_,rfl⟩;obtain⟨rj,hrj⟩:∃rj,ρ j=rj:=⟨_,rfl⟩;obtain⟨c,hc⟩:∃c,κ j=c:=⟨_,rfl⟩;rw[hri]at hin hne H3 ⊢
   rw[hrj]at htn hne H3 p1;rw[hc]at hcC H3 p2;clear h3 hx hj hjo hri hrj hc;go_upto_region 8 with(fail)
   refine zD ?_;intro W7 hW7;obtain⟨hB7,T9,hs7⟩:=qL hW7;have T9:Blk W7 wt.heap.size zD9 #[niq rj,niq c]:=T9;have hO:=hO.trans (qJ.of Z hB7);have T5:=T5.below hB7;have HP:=xgv (HP.out.below hB7);have hz:=hz.below hB7;have lt9:=hO.bel.size;have lwt:=T5.lt;clear hW7 p1 p2;obtain⟨bi,o1,hrow,lg⟩:=hz.row (i:=ri) hin;obtain⟨xs,xa,xl,xc,v1,v2,-,-,hx⟩:=hrow.cell (yE hcC);obtain⟨p1,p2,p3,p4⟩:=T9.two;have l1:=hrow.lt;have l9:=T9.lt;refine yP 8 [] ?_;refine sRd ?_;refine sRf ?_;intro w8 hbw8;go_wp2_with fail
   refine(zAi _ (xt.s ri c) _ (hx.ext (lx hbw8)).weak).mono ?_;rintro e w1 ⟨rfl,hb1⟩;have hb81:=nx hbw8 hb1;have hz:=hz.below hb81;have T5:=T5.below hb81;have T9:=T9.below hb81;have HP:=xgv (HP.out.below hb81);have hO:=hO.trans (qJ.of Z hb81);have h3:=H3.out;clear o1 hrow v1 v2 hx H3 p1 p2 p3 p4;by_cases hs0:xt.s ri c=0
   ·rw[if_pos hs0]at h3
    rw[zBd hs0];have H3:=xgv h3;clear h3 hs0;go_wp2;go_roundw
    case rel=>exact⟨u+1,xt,by simp,oM,hO,T5,HP,hz,⟨⟨HOK.out,by rw[hm2,hj1];exact H3.out⟩⟩⟩
    case measure=>exact meq
   rw[if_neg hs0]at h3;by_cases hne0:xt.s rj c=0
   ·rw[if_pos hne0]at h3
    cases h3
   rw[if_neg hne0]at h3;have hcn:=zCr hs0;obtain⟨k0,hk0⟩:∃k0,zAt (xt.s ri c) 0=k0:=⟨_,rfl⟩;rw[hk0]at hcn ⊢
   have HNE:=xgv hne0;have H3:=xgv h3;have SX:jZ (Sm (xt.s ri c)):=⟨hB.bsm.sm _ (HOK.out.1 ri hin c hcC)⟩;have SY:jZ (Sm (xt.s rj c)):=⟨hB.bsm.sm _ (HOK.out.1 rj htn c hcC)⟩;clear h3 hne0 hs0 hk0;obtain⟨bi,o1,hrow,lg⟩:=hz.row (i:=ri) hin;obtain⟨bk,o2,hrowk,-⟩:=hz.row (i:=rj) htn;obtain⟨xs,xa,xl,xc,v1,v2,-,-,hx⟩:=hrow.cell (yE hcC);obtain⟨ys,ya,yl,yc,r1,r2,-,-,hy⟩:=hrowk.cell (yE hcC);obtain⟨p1,p2,p3,p4⟩:=T9.two;have hlast:=zLc (xt.s ri c) (xt.s rj c);have l9:=T9.lt;have l5:=T5.lt;have l1:=hrow.lt;have l2:=hrowk.lt;go_upto_region 9 with(fail)
   refine zBl [pcD 17 [] (DMV (xt.s ri c) (xt.s rj c)),pcD 18 [17] (DMV (xt.s ri c) (xt.s rj c)),pcD 19 [18] (fun w v=>jY w v (xt.s ri c/xt.s rj c)),pcD 20 [18] (fun w v=>jY w v (xt.s ri c%xt.s rj c)),pcD 21 [18] (fun _ v=>v=niq 0),pbA 22 43 2,pbA 23 43 2,pbS 24 22 43 2,pbS 25 23 43 2] ?_;refine sRd ?_;refine sRc (fun wS hI Gk hG=>by go_simp;exact ck hG (zLR _ _ (xt.s ri c) (xt.s rj c) _ (hx.ext hI.lext).weak (hy.ext hI.lext).weak SX.out SY.out HNE.out)) (fun vb17 _=>?_);refine sRc (fun wS hI hb17 Gk hG=>?_) (fun vb18 _=>?_)
   ·go_simp
    exact⟨hG _ _ hb17,zA _ _⟩
   refine sRc (fun wS hI hb18 Gk hG=>?_) (fun vb19 hv=>?_)
   ·obtain⟨q,r,rfl,hq,hr⟩:=hb18
    go_simp;exact⟨hG _ _ hq,zA _ _⟩
   obtain⟨xb22,yb22,rfl,qb22⟩:=zL7 hv;clear hv;refine sRc (fun wS hI hb18 Gk hG=>?_) (fun vb20 hv=>?_)
   ·obtain⟨q,r,rfl,hq,hr⟩:=hb18
    go_simp;exact⟨hG _ _ hr,zA _ _⟩
   obtain⟨xb23,yb23,rfl,qb23⟩:=zL7 hv;clear hv;refine sRc (fun wS hI hb18 Gk hG=>?_) (fun _ hv=>?_)
   ·obtain⟨q,r,rfl,hq,hr⟩:=hb18
    go_simp;exact⟨hG _ _ rfl,zA _ _⟩
   obtain⟨_,-,rfl⟩:=hv;refine sRa (cs:=#[.bool false,.slice none 0 0]) fun cb22 gb22=>?_
   refine sRa (cs:=#[.bool false,.slice none 0 0]) fun cb23 gb23=>?_
   refine sRs cb22 (.agg #[xb22,yb22]) ?_ qb22;refine sRs cb23 (.agg #[xb23,yb23]) ?_ qb23;refine sRd ?_;refine sRb ?_;simp only[FA,FC,FN,ptr,List.nil_append,List.cons_append,Act.put,xgh,xgi,xgj];intro w9 hbw9 hb17 hb18 hb19 hb20 _ kb22 kb23 nb22 nb23;replace kb22:Blk w9 cb22 43 #[xb22,yb22]:=kb22 _ rfl;have ib22:=hb19;replace kb23:Blk w9 cb23 43 #[xb23,yb23]:=kb23 _ rfl;have ib23:=hb20;have nb22_23:cb22≠cb23:=nb22 (23,cb23) sI;clear nb22 nb23;obtain⟨qs,qa,ql,qc,rfl,rfl⟩:=ib22.two;have hz:=hz.below hbw9;have T5:=T5.below hbw9;have T9:=T9.below hbw9;have HP:=xgv (HP.out.below hbw9);have hO:=hO.trans (qJ.of Z hbw9);have lq:=kb22.lt;clear o1 o2 v1 v2 r1 r2 p1 p2 p3 p4;have d1:=kb22.two;go_wp2_with fail
   refine(zAi _ (xt.s ri c/xt.s rj c) _ ib22.weak).mono ?_;rintro e w10 ⟨rfl,hb10⟩;have hz:=hz.below hb10;have T5:=T5.below hb10;have T9:=T9.below hb10;have HP:=xgv (HP.out.below hb10);have hO:=hO.trans (qJ.of Z hb10);have kq:=kb22.below hb10;have iq:=ib22.ext (lx hb10);have h3:=H3.out;clear d1 H3 kb22 ib22;by_cases hq0:xt.s ri c/xt.s rj c=0
   ·rw[if_pos hq0]at h3
    rw[zBd hq0];have H3:=xgv h3;clear h3 hq0;go_wp2;go_roundw
    case rel=>exact⟨u+1,xt,by simp,oM,hO,T5,HP,hz,⟨⟨HOK.out,by rw[hm2,hj1];exact H3.out⟩⟩⟩
    case measure=>exact meq
   rw[if_neg hq0]at h3;by_cases hadd:zFd B n Cs Ct xt ri rj (-(xt.s ri c/xt.s rj c))
   ·rw[if_pos hadd]at h3
    have hcq:=zCr hq0;obtain⟨k1,hk1⟩:∃k1,zAt (xt.s ri c/xt.s rj c) 0=k1:=⟨_,rfl⟩;rw[hk1]at hcq ⊢
    have H3:=xgv h3;have HADD:=xgv hadd;have SQ:jZ (Sm (xt.s ri c/xt.s rj c)):=⟨hB.bsm.sm _ (by have:=hadd.1;rwa[zR]at this)⟩;clear h3 hadd hq0 hk1;have c1:=T5.three;have d1:=kq.two;obtain⟨p1,p2,p3,p4⟩:=T9.two;have lq:=kq.lt;have l0:=T5.lt;have l9:=T9.lt;go_upto_region 11 with(fail)
    refine yP 7 [pcI 6 (-(xt.s ri c/xt.s rj c))] ?_;refine sRd ?_;refine sRc (fun wS hI Gk hG=>by go_simp;exact ck hG (zBY _ (xt.s ri c/xt.s rj c) _ (iq.ext hI.lext).weak SQ.out)) (fun vy6 _=>?_);refine sRe ?_;intro w11 hbw11 hy6;have hz:=hz.below hbw11;have T5:=T5.below hbw11;have HP:=xgv (HP.out.below hbw11);have hO:=hO.trans (qJ.of Z hbw11);clear c1 d1 p1 p2 p3 p4;go_wp2_with fail
    refine(zZz hB.bsm hz HOK.out hin htn hne hy6 hn hCs hCt HADD.out).mono ?_;rintro e w12 ⟨⟨uu12,rfl⟩,hO12,hz⟩;have hok:=HADD.out.ok;have hO:=hO.trans hO12;have T5:=hO12.blk T5 (fun hh=>by have:=hZ _ hh;omega);have HP:=xgv (HP.out.onlyZ hO12 HPZ.out);have HOK2:=xgv hok;clear hok;go_wp2;go_roundw
    case rel=>exact⟨u+1,_,by simp,oM,hO,T5,HP,hz,⟨⟨HOK2.out,by rw[hm2,hj1];exact H3.out⟩⟩⟩
    case measure=>exact meq
   rw[if_neg hadd]at h3;cases h3
  obtain rfl:u=M:=oM;have h3:=hx.out.2;rw[jW]at h3;unfold zIK at h3;injection h3 with h3
  have H3:=xgv h3;have HOK:=xgv hx.out.1;clear h3 hx;go_wp2;go_roundw
  case rel=>exact⟨i,(i:Int)-1,xt,by simp,rfl,oM,hO,T5,HP,hz,⟨⟨HOK.out,by rw[H3.out];exact HR.out⟩⟩⟩
  case measure=>simp[intOf]
theorem Tryz.infoPiv:(Tryz.prog.info? zD9).map (fun i=>(i.zero,i.size,i.bytes))=some (some (.agg #[niq 0,niq 0]),2,16):=by kernel_rfl
def pc(L:List (Nat × Nat)):List Value:=L.flatMap fun p=>[niq (p.1:Nat),niq (p.2:Nat)]
theorem zTF:pc []= []:=rfl
theorem zIJ(p:Nat × Nat)(L:List (Nat × Nat)):pc (p::L)=niq (p.1:Nat)::niq (p.2:Nat)::pc L:=rfl
theorem zTD(L M:List (Nat × Nat)):pc (L++M)=pc L++pc M:=by unfold pc;rw[List.flatMap_append]
theorem zJm(L:List (Nat × Nat)):(pc L).length=L.length*2:=by
 induction L with
 |nil=>rfl
 |cons p L ih=>rw[zIJ];simp[ih];omega
theorem zTG(L:List (Nat × Nat))(k:Nat):(pc L).take (k*2)=pc (L.take k):=by
 induction L generalizing k with
 |nil=>simp[zTF]
 |cons p L ih=>
  cases k with
  |zero=>simp[zTF]
  |succ k=>rw[zCe,zIJ,zIJ,show(k+1)*2=k*2+1+1 by omega,zCe,zCe,ih]
theorem zTE(L:List (Nat × Nat))(k:Nat):(pc L).drop (k*2)=pc (L.drop k):=by
 induction L generalizing k with
 |nil=>simp[zTF]
 |cons p L ih=>
  cases k with
  |zero=>simp
  |succ k=>rw[xgl,zIJ,show(k+1)*2=k*2+1+1 by omega,xgl,xgl,ih]
theorem zYo{L:List (Nat × Nat)}{p:Nat × Nat}(h:L[k]?=some p):(pc L)[k*2]?=some (niq (p.1:Nat))/\(pc L)[k*2+1]?=some (niq (p.2:Nat)):=by
 induction L generalizing k with
 |nil=>simp at h
 | cons q L ih=>
  cases k with
  |zero=>simp at h;subst h;exact⟨rfl,rfl⟩
  |succ k=>
   rw[List.getElem?_cons_succ]at h;obtain⟨h1,h2⟩:=ih h;rw[zIJ,show(k+1)*2=k*2+1+1 by omega];exact⟨h1,h2⟩
theorem zPa(L:List (Nat × Nat)):∀u∈pc L,u.oneCell'=true:=by
 induction L with
 |nil=>intro u hu;cases hu
 |cons p L ih=>
  intro u hu;rw[zIJ]at hu;rcases List.mem_cons.1 hu with rfl|hu
  rfl;rcases List.mem_cons.1 hu with rfl|hu
  rfl;exact ih u hu
def zIY(w:World)(base:Nat)(v:Value)(L:List (Nat × Nat)):Prop:=w.ownsRow base zD9 2 v L.length (pc L)
theorem zIY.piv{L:List (Nat × Nat)}(h:zIY w base v L):zNg w v L.length (fun k=>(L.getD k (0,0)).1) (fun k=>(L.getD k (0,0)).2):=by
 rcases h.2 with⟨rfl,h0⟩|⟨g,cap,cur,rfl,k1,k2,k3,k4,k5,k6⟩
 exact⟨none,0,by rw[h0],oM,oM,fun h=>oM⟩;refine⟨_,cap,rfl,k3,k4,fun _=>⟨g,cur,rfl,k2,fun k hk=>?_⟩⟩;have hx:=xga hk;obtain⟨c1,c2⟩:=zYo hx;have hg:L.getD k (0,0)=L[k]:=by rw[xgb,hx];rfl
 show cur[k*2]?=some (Value.int .i64 (((L.getD k (0,0)).1:Nat):Int))/\cur[k*2+1]?=some (Value.int .i64 (((L.getD k (0,0)).2:Nat):Int));rw[hg];rw[<-k6,List.getElem?_take]at c1 c2;constructor
 ·split at c1
  ·simpa using c1
  cases c1
 split at c2;simpa using c2;cases c2
theorem zIY.below{L:List (Nat × Nat)}(h:zIY w base v L)(hb:BWq w w'):zIY w' base v L:=
 World.ownsRow.kept h (row:=none) ⟨hb.os,hb.tape,hb.output,hb.size,fun k hk _=>hb.block k hk⟩ (by cases hv:v.ownBlock<;>simp)
theorem zIY.own{L:List (Nat × Nat)}(h:zIY w base v L):∀g,v.ownBlock=some g->base<=g/\g<w.heap.size:=zDK h
theorem zIY.old{L:List (Nat × Nat)}(h:zIY w base v L)(ho:∀g,v.ownBlock=some g->w'.heap[g]?=w.heap[g]?):zIY w' base v L:=by
 obtain⟨h1,h2⟩:=h;refine⟨h1,?_⟩;rcases h2 with h2|⟨g,cap,cur,rfl,k1,k2,r⟩
 exact .inl h2;exact .inr ⟨g,cap,cur,rfl,k1,(ho g rfl).trans k2,r⟩
theorem zIY.nil(w:World)(base:Nat):zIY w base (.slice none 0 0) []:=⟨rfl,.inl ⟨rfl,rfl⟩⟩
theorem zGj{w:World}{ops:Array Oper}{rest:List Oper}{a:Act}{Q:Exit->Act->World->Prop}(hgd:o.guard=none)(d s:Operand)(t t':TypeId)
  (ho:o.op= .call {callee:=.builtin .copy,args:=#[d,s],argTypes:=#[t,t']}) (v u:Value) (hd:a.eval d=v) (hs:a.eval s=u) {v':Value} {w':World}
  (hr:(Builtin.copy_ #[t,t'] o.type #[v,u]).run Tryz.prog w= .ok v' w') (h:wpList Tryz.prog ops Q rest (a.put o.dst v') w'):wpList Tryz.prog ops Q (o::rest) a w:=by
 refine wpList_plain hgd fun K hK=>?_
 unfold Oper.wp execOp;simp only[ho,resolve,invoke,builtin,Sem.run_bind,Sem.run_pure,Result.andThen_ok,List.map_toArray,List.map_cons,List.map_nil,hd,hs,hr];exact hK _ _ h
theorem zHv(w:World)(ty:TypeId)(g o dLen dCap:Nat)(a:Addr)(sLen sCap:Nat)(cur:Array Value)(t:TypeId)(cs:List Value)
  (hg:w.heap[g]?=some (.cells cur t (0,0))) (hn:cs.length=Nat.min sLen dLen*2)
  (hsrc:∀j v,cs[j]?=some v->w.cell? (a.add j)=some v) (hfit:o+cs.length<=cur.size) (h1:∀v∈cs,v.oneCell'=true):
  ∃v,(Builtin.copy_ #[163,163] ty #[.slice (some ⟨g,o,none⟩) dLen dCap,.slice (some a) sLen sCap]).run Tryz.prog w=
   .ok v (w.setRow g (cur.toList.take o++cs++cur.toList.drop (o+cs.length)).toArray):=by
 obtain⟨i0,hi,hz0,hz1,hz2⟩:=info_parts Tryz.infoPiv;have hl:=run_loadCells_list (P:=Tryz.prog) w a cs hsrc;have hst:=run_storeCells_at Tryz.prog g o t cs 0 cur w hg (by simpa using hfit) h1;have hu:=zBb;refine⟨goInt (Nat.min sLen dLen),?_⟩;simp[Builtin.copy_,run_underlying hu,Builtin.lenOf,Builtin.firstCells,sizeOf,typeInfo,hi,hz1,<-hn,hl,hst]
theorem zVL(hb:Blk w g t cs)(ht:t≠tU)(hbel:Below 0 w w')(ho:∀k,k≠g->w'.heap[k]?=w.heap[k]?):zB0 [g] w w':=
 ⟨hbel,fun b cs' fz hh=>(ho b (by
  rintro rfl
  have h1:w.heap[b]?=some (.cells cs t (0,0)):=hb
  rw[h1]at hh
  injection hh with hh
  injection hh with _ e
  exact ht e)).trans hh,fun k _ hk=>ho k (by simpa using hk)⟩
theorem zEo(w:World)(g:Nat)(cs:Array Value):Below 0 w (w.setRow g cs):=⟨rfl,rfl,rfl,by unfold World.setRow;simp,fun k hk=>oM⟩
theorem zNA(h:Blk w g t cs):w.shape? g=some (t,cs.size):=by
 have h1:w.heap[g]?=some (.cells cs t (0,0)):=h;unfold World.shape?;rw[h1]
theorem zKa{o:Nat}(h:Blk w g t cs):w.frozen? ⟨g,o,none⟩=false:=by
 have h1:w.heap[g]?=some (.cells cs t (0,0)):=h;unfold World.frozen?;rw[h1];simp
theorem zSb{cur:List Value}{L:List (Nat × Nat)}(hn:L.length=n)(hk:k<=n)(hc:cur.take (n*2)=pc L)(hs:n*2+2<=cur.length)(r c:Nat):
  (((cur.take ((k+1)*2)++pc (L.drop k)++cur.drop ((k+1)*2+(pc (L.drop k)).length)).take (k*2)++pc [(r,c)]++(cur.take ((k+1)*2)++pc (L.drop k)++cur.drop ((k+1)*2+(pc (L.drop k)).length)).drop (k*2+(pc [(r,c)]).length)).take ((n+1)*2))=pc (L.take k++(r,c)::L.drop k):=by
 have l1:(pc (L.drop k)).length=(n-k)*2:=by rw[zJm,zBX,hn]
 have l2:(pc [(r,c)]).length=2:=rfl;have l3:(cur.take ((k+1)*2)).length=(k+1)*2:=by rw[qF];omega
 have t1:(cur.take ((k+1)*2)++pc (L.drop k)++cur.drop ((k+1)*2+(pc (L.drop k)).length)).take (k*2)=pc (L.take k):=by
  rw[zAh,zAY oM,zDq,zBN oM,<-zTG,<-hc,zDq,zBN oM]
 have t2:(cur.take ((k+1)*2)++pc (L.drop k)++cur.drop ((k+1)*2+(pc (L.drop k)).length)).drop (k*2+(pc [(r,c)]).length)=pc (L.drop k)++cur.drop ((k+1)*2+(pc (L.drop k)).length):=by
  rw[zAh,List.drop_append_of_le_length oM,l2,qP oM,zBf]
 rw[t1,t2,zTD,show pc ((r,c)::L.drop k)=pc [(r,c)]++pc (L.drop k) from rfl,<-zAh,<-zAh];have l4:(pc (L.take k)++pc [(r,c)]++pc (L.drop k)).length=(n+1)*2:=by
  rw[jM,jM,l1,l2,zJm,qF];omega
 rw[<-l4,zCu]
theorem zGU(base:Nat)(v:Value)(L:List (Nat × Nat))(k r c xb:Nat)(w:World)(h:zIY w base v L)(hk:k<=L.length)(hx:Blk w xb zD9 #[.int .i64 r,.int .i64 c])(hne:∀g,v.ownBlock=some g->g≠xb)(hb:base<=w.heap.size)(hL:L.length<=1000000):
  CPq 177 #[v,.int .i64 k,.slice (some ⟨xb,0,none⟩) 1 1] w fun e w'=>∃v',e= .returned v'/\zIY w' base v' (L.take k++(r,c)::L.drop k)/\zB0 v.ownBlock.toList w w':=by
 obtain⟨i0,hi,hz0,hz1,hz2⟩:=info_parts Tryz.infoPiv;have hown:=h;obtain⟨c0,c1,-,-⟩:=hx.two;have hnews:∀(j:Nat) (u:Value),[Value.int .i64 (r:Nat),Value.int .i64 (c:Nat)][j]?=some u->w.cell? ((⟨xb,0,none⟩:Addr).add j)=some u:=by
  intro j u hj;rw[zAL];match j with
  |0=>simp at hj;subst hj;exact c0
  |1=>simp at hj;subst hj;exact c1
  |j+2=>simp at hj
 have hone:∀u∈ [Value.int .i64 (r:Nat),Value.int .i64 (c:Nat)],u.oneCell'=true:=by
  intro u hu;simp at hu;rcases hu with rfl|rfl<;>rfl
 have hend:∀v' w',w'.ownsRow base zD9 2 v' (L.length+1) (pc L++ [.int .i64 (r:Nat),.int .i64 (c:Nat)])->w.grownBy w' v.ownBlock->k=L.length->zIY w' base v' (L.take k++(r,c)::L.drop k)/\zB0 v.ownBlock.toList w w':=fun v' w' h1 h2 hkn=>by
  subst hkn;refine⟨?_,zQv h2 (zDu hown dE h2)⟩;unfold zIY;rw[jA,List.drop_length,zTD,jM];exact h1
 rcases h.2 with⟨rfl,h0⟩|⟨g,cap,cur,rfl,k1,k2,k3,k4,k5,k6⟩
 ·obtain rfl:k=0:=oM
  have hl0:L= []:=qE h0;subst hl0;go_enter Tryz.func177,Tryz.ntmps177;go_wp2_with (at_builtin;refine wpList_append_own w rfl _ _ 163 rfl base zD9 i0 _ 2 16 zBb hi hz0 hz1 hz2 rfl oM (.slice none 0 0) 0 (pc []) rfl hown ⟨xb,0,none⟩ 1 1 [.int .i64 (r:Nat),.int .i64 (c:Nat)] rfl rfl hnews hone (by simp[maxLen]) oM hb ?_;intro v' w' h1 h2 _)
  go_ret;exact⟨_,rfl,hend _ _ h1 h2 rfl⟩
 have hcap63:cap<=9223372036854775807:=k4;by_cases hkn:k=L.length
 ·obtain⟨n,hn⟩:∃n,L.length=n:=⟨_,rfl⟩
  rw[hn]at hkn hk hL hown k3 k6 ⊢
  subst hkn;by_cases hck:cap=k;all_goals
   go_enter Tryz.func177,Tryz.ntmps177;go_wp2_with (at_builtin;refine wpList_append_own w rfl _ _ 163 rfl base zD9 i0 _ 2 16 zBb hi hz0 hz1 hz2 rfl oM (.slice (some ⟨g,0,none⟩) k cap) k (pc L) rfl (hn ▸ h) ⟨xb,0,none⟩ 1 1 [.int .i64 (r:Nat),.int .i64 (c:Nat)] rfl rfl hnews hone (by simp[maxLen];omega) oM hb ?_;intro v' w' h1 h2 _)
   go_ret;exact⟨_,rfl,hend _ _ (hn ▸ h1) h2 hn.symm⟩
 have hkl:k<L.length:=oM;obtain⟨n,hn⟩:∃n,L.length=n:=⟨_,rfl⟩;have HN:=xgw hn;rw[hn]at hkn hk hL k3 k6 hkl ⊢
 have hck:¬ cap=k:=oM;have hkn':((k:Int)==(n:Int))=false:=by simp;omega
 have hw1:IntKind.i64.wrap ((n:Int)+1)=(n:Int)+1:=qU _ oM;have hw2:IntKind.i64.wrap ((k:Int)+1)=(k:Int)+1:=qU _ oM;have hcs:(pc (L.drop k)).length=(n-k)*2:=by rw[zJm,zBX,HN.out]
 by_cases hroom:n+1<=cap
 ·have hck1:¬ cap=k+1:=oM
  have hnr:¬ ((cap:Int)<(n:Int)+1):=oM;have hkn1:(k:Int)<=(n:Int)+1:=oM;have hgx:g≠xb:=hne g rfl;have hG:Blk w g zD9 cur:=k2;have hsz:∀w:World,(sizeOf zD9).run Tryz.prog w= .ok 2 w:=fun w=>by simp[sizeOf,typeInfo,hi,hz1]
  have hov:∀lb cb,(callFunc 197 #[.slice (some ⟨xb,0,none⟩) 1 1,.slice (some ⟨g,(k+1)*2,none⟩) lb cb]).run Tryz.prog w= .ok (.value (.bool false)) w:=fun lb cb=>by
   rw[run_callFunc_extern Tryz.func197 kR kR kR (e:=Extern.SlicesOverlaps.overlaps #[163,163] #[4]) kR,
    Lib.run_overlaps_apart w 163 4 zD9 zBb 2 hsz ⟨xb,0,none⟩ ⟨g,(k+1)*2,none⟩ 1 1 lb cb (qD hgx) zD9 zD9 2 cur.size (zNA hx) (zNA hG) oM (zKa hx) (zKa hx)]
   rfl
  go_enter Tryz.func177,Tryz.ntmps177;go_upto_region 15 with(simp only[hov])
  have hk01:(0:Int)<=(k:Int)+1:=oM;refine yP 8 [] ?_;refine sRd ?_;refine sRf ?_;intro w1 hbw1;have hG1:=hG.below hbw1;have hX1:=hx.below hbw1;obtain⟨v1,hr1⟩:=zHv w1 3 g ((k+1)*2) (n-k) (cap-(k+1)) ⟨g,k*2,none⟩ (n+1-k) (cap-k) cur zD9 (pc (L.drop k)) hG1 (by rw[hcs];congr 1;simp only[Nat.min_def];split<;>omega)
   (fun j u hj=>by
    rw[zAL,hG1.cell];rw[<-zTE,<-k6,List.getElem?_drop,List.getElem?_take]at hj;split at hj;rw[<-hj,Array.getElem?_toList];cases hj) (by rw[hcs];omega) (zPa _)
  obtain⟨R1,hR1⟩:∃R1:Array Value,(cur.toList.take ((k+1)*2)++pc (L.drop k)++cur.toList.drop ((k+1)*2+(pc (L.drop k)).length)).toArray=R1:=⟨_,rfl⟩;rw[hR1]at hr1;have hR1s:R1.size=cap*2:=by
   rw[<-hR1];simp[hcs];omega
  have hG2:Blk (w1.setRow g R1) g zD9 R1:=setRow_heap w1 g cur R1 zD9 (0,0) hG1;have hX2:Blk (w1.setRow g R1) xb zD9 #[.int .i64 r,.int .i64 c]:=(setRow_other w1 g xb R1 (qD hgx)).trans hX1;obtain⟨d0,d1,-,-⟩:=hX2.two;obtain⟨v2,hr2⟩:=zHv (w1.setRow g R1) 3 g (k*2) (n+1-k) (cap-k) ⟨xb,0,none⟩ 1 1 R1 zD9 (pc [(r,c)]) hG2 (by show 2=_;simp only[Nat.min_def];split<;>omega)
   (fun j u hj=>by
    rw[zAL];match j with
    |0=>simp[pc]at hj;subst hj;exact d0
    |1=>simp[pc]at hj;subst hj;exact d1
    |j+2=>simp[pc]at hj) (by show k*2+2<=_;omega) (zPa _)
  obtain⟨R2,hR2⟩:∃R2:Array Value,(R1.toList.take (k*2)++pc [(r,c)]++R1.toList.drop (k*2+(pc [(r,c)]).length)).toArray=R2:=⟨_,rfl⟩;rw[hR2]at hr2;have hfin:zIY ((w1.setRow g R1).setRow g R2) base (.slice (some ⟨g,0,none⟩) (n+1) cap) (L.take k++(r,c)::L.drop k)/\zB0 [g] w ((w1.setRow g R1).setRow g R2):=by
   have hl:(L.take k++(r,c)::L.drop k).length=n+1:=by simp[HN.out];omega
   refine⟨⟨zJm _,.inr ⟨g,cap,R2,by rw[hl],k1,setRow_heap _ g R1 R2 zD9 (0,0) hG2,oM,k4,?_,?_⟩⟩,?_⟩
   ·rw[<-hR2]
    have:(pc [(r,c)]).length=2:=rfl;simp[this];omega
   ·rw[hl,<-hR2,<-hR1]
    exact zSb HN.out oM (HN.out ▸ k6) (by simp;omega) r c
   refine(zB0.of [g] hbw1).trans (zVL hG1 dE ((zEo _ _ _).trans (zEo _ _ _)) fun k hk=>(setRow_other _ g k R2 hk).trans (setRow_other _ g k R1 hk))
  clear hR1 hR2;go_wp2_with (first
   |(at_builtin;refine zGj rfl _ _ 163 163 rfl _ _ rfl rfl hr1 ?_)
   |(at_builtin;refine zGj rfl _ _ 163 163 rfl _ _ rfl rfl hr2 ?_))
  go_ret;exact⟨_,rfl,hfin⟩
 obtain rfl:cap=n:=oM;have hnr:((cap:Int)<(cap:Int)+1):=oM;have hG:Blk w g zD9 cur:=k2;have hgx:g≠xb:=hne g rfl;have lg:=hG.lt;have lxb:=hx.lt;obtain⟨N,hN⟩:∃N,w.heap.size=N:=⟨_,rfl⟩;have hold:(Builtin.firstCells i0.size k (.slice (some ⟨g,0,none⟩) k cap)).run Tryz.prog w.drew= .ok (pc (L.take k)).toArray w.drew:=by
  rw[hz1];exact run_firstCells_some w.drew 2 k ⟨g,0,none⟩ k cap (pc (L.take k)) (by rw[zJm,qF,HN.out];omega) (fun j u hj=>by
   rw[zAL];show w.cell? _=_;rw[hG.cell,zAR];rw[<-zTG,<-k6,List.getElem?_take,List.getElem?_take]at hj;split at hj
   ·split at hj
    ·rw[<-hj,Array.getElem?_toList]
    cases hj
   cases hj)
 have hik:k+(cap+1-k)=cap+1:=oM;obtain⟨G,hGc⟩:∃G,grownCap w (cap+1) cap zD9=G:=⟨_,rfl⟩;have hGn:cap+1<=G:=by rw[<-hGc];exact grownCap_ge w _ _ _
 have hG63:G<=9223372036854775807:=by
  have:=grownCap_le_maxLen w (cap+1) cap zD9 (by unfold maxLen;omega);rw[hGc]at this;unfold maxLen at this;omega
 obtain⟨ROW,hROW⟩:∃ROW:Array Value,(pc (L.take k)).toArray++Builtin.zeroCells (Value.agg #[.int .i64 0,.int .i64 0]).cells (cap+1-k)++Builtin.zeroCells (Value.agg #[.int .i64 0,.int .i64 0]).cells (G-(cap+1))=ROW:=⟨_,rfl⟩;have hrz:∀ty,(Builtin.append_ #[163,3] ty #[.slice (some ⟨g,0,none⟩) k cap,.int .i64 ((cap:Int)+1-(k:Int))]).run Tryz.prog w= .ok (.slice (some ⟨N,0,none⟩) (cap+1) G) (w.drew.alloc (.cells ROW zD9)):=fun ty=>by
  have h:=Lib.run_append_grow_zeros w 163 3 ty zD9 i0 _ .i64 .i64 zBb zDJ hi hz0 (some ⟨g,0,none⟩) k cap (pc (L.take k)) hold (cap+1-k) oM oM oM oM (by rw[hz2];omega) (by rw[hz2,hik];exact growslice_fits oM oM);rw[hik,hGc,hROW,hN]at h;rw[show(cap:Int)+1-(k:Int)=((cap+1-k:Nat):Int) by omega];exact h
 have hlt:(pc (L.take k)).length=k*2:=by rw[zJm,qF,HN.out];omega
 have hRs:ROW.size=G*2:=by
  rw[<-hROW];simp[Builtin.zeroCells,Value.cells,hlt];omega
 have hRt:ROW.toList.take (k*2)=pc (L.take k):=by
  rw[<-hROW];simp only[Array.toList_append,List.append_assoc];rw[<-hlt,zCu]
 have hG1:Blk ((w.alloc (.cells ROW zD9)).drew) N zD9 ROW:=by rw[<-hN];exact qX w.drew zD9 ROW
 have hBa:BWq w ((w.alloc (.cells ROW zD9)).drew):=((zA _ _).alloc (xgf _) _).drew;have hX1:=hx.below hBa;obtain⟨d0,d1,-,-⟩:=hX1.two;obtain⟨v2,hr2⟩:=zHv ((w.alloc (.cells ROW zD9)).drew) 3 N (k*2) (cap+1-k) (G-k) ⟨xb,0,none⟩ 1 1 ROW zD9 (pc [(r,c)]) hG1 (by show 2=_;simp only[Nat.min_def];split<;>omega)
  (fun j u hj=>by
   rw[zAL];match j with
   |0=>simp[pc]at hj;subst hj;exact d0
   |1=>simp[pc]at hj;subst hj;exact d1
   |j+2=>simp[pc]at hj) (by show k*2+2<=_;omega) (zPa _)
 obtain⟨R1,hR1⟩:∃R1:Array Value,(ROW.toList.take (k*2)++pc [(r,c)]++ROW.toList.drop (k*2+(pc [(r,c)]).length)).toArray=R1:=⟨_,rfl⟩;rw[hR1]at hr2;have l2:(pc [(r,c)]).length=2:=rfl;have hR1s:R1.size=G*2:=by
  rw[<-hR1];simp[l2];omega
 have hR1t:R1.toList.take ((k+1)*2)=pc (L.take k)++pc [(r,c)]:=by
  rw[<-hR1];show List.take _ (_++_++_)=_;rw[hRt,<-(show(pc (L.take k)++pc [(r,c)]).length=(k+1)*2 by rw[jM,hlt,l2];omega),zCu]
 obtain⟨W2,hW2⟩:∃W2,((w.alloc (.cells ROW zD9)).drew).setRow N R1=W2:=⟨_,rfl⟩;have hG2:Blk W2 N zD9 R1:=by rw[<-hW2];exact setRow_heap _ N ROW R1 zD9 (0,0) hG1
 have hB2:BWq w W2:=by
  rw[<-hW2];exact⟨hBa.os,hBa.tape,hBa.output,by have:=(zEo ((w.alloc (.cells ROW zD9)).drew) N R1).size;have:=hBa.size;omega,fun k hk=>(setRow_other _ N k R1 oM).trans (hBa.block k hk)⟩
 rw[hW2]at hr2;have hck1:¬ G=k+1:=oM;have hck2:¬ G=k:=oM;have hkn1:(k:Int)<=(cap:Int)+1:=oM;go_enter Tryz.func177,Tryz.ntmps177;go_upto_region 11 with(first
  |(at_builtin;refine Lib.wpList_append_run _ rfl _ _ _ _ rfl _ _ rfl rfl _ _ (hrz _) ?_)
  |(at_builtin;refine zGj rfl _ _ 163 163 rfl _ _ rfl rfl hr2 ?_))
 have hk01:(0:Int)<=(k:Int)+1:=oM;refine yP 8 [] ?_;refine sRd ?_;refine sRf ?_;intro w3 hbw3;have hG3:=hG2.below hbw3;have hO3:=(hG.below hB2).below hbw3;obtain⟨v3,hr3⟩:=zHv w3 3 N ((k+1)*2) (cap-k) (G-(k+1)) ⟨g,k*2,none⟩ (cap-k) (cap-k) R1 zD9 (pc (L.drop k)) hG3 (by rw[hcs];congr 1;simp only[Nat.min_def];split<;>omega)
  (fun j u hj=>by
   rw[zAL,hO3.cell];rw[<-zTE,<-k6,List.getElem?_drop,List.getElem?_take]at hj;split at hj;rw[<-hj,Array.getElem?_toList];cases hj) (by rw[hcs];omega) (zPa _)
 obtain⟨R2,hR2⟩:∃R2:Array Value,(R1.toList.take ((k+1)*2)++pc (L.drop k)++R1.toList.drop ((k+1)*2+(pc (L.drop k)).length)).toArray=R2:=⟨_,rfl⟩;rw[hR2]at hr3;have hfin:zIY (w3.setRow N R2) base (.slice (some ⟨N,0,none⟩) (cap+1) G) (L.take k++(r,c)::L.drop k)/\zB0 [g] w (w3.setRow N R2):=by
  have hl:(L.take k++(r,c)::L.drop k).length=cap+1:=by simp[HN.out];omega
  refine⟨⟨zJm _,.inr ⟨N,G,R2,by rw[hl],oM,setRow_heap _ N R1 R2 zD9 (0,0) hG3,oM,hG63,?_,?_⟩⟩,?_⟩
  ·rw[<-hR2]
   simp[hcs];omega
  ·rw[hl,<-hR2]
   show List.take _ (_++_++_)=_;rw[hR1t,zTD,show pc ((r,c)::L.drop k)=pc [(r,c)]++pc (L.drop k) from rfl,<-zAh];rw[<-(show(pc (L.take k)++pc [(r,c)]++pc (L.drop k)).length=(cap+1)*2 by rw[jM,jM,hcs,hlt,l2];omega),zCu]
  refine zB0.of [g] ?_;have hb3:=hB2.trans (hbw3.mono hB2.size);exact⟨hb3.os,hb3.tape,hb3.output,by have:=(zEo w3 N R2).size;have:=hb3.size;omega,fun k hk=>(setRow_other _ N k R2 oM).trans (hb3.block k hk)⟩
 clear hR1 hR2;go_wp2_with (at_builtin;refine zGj rfl _ _ 163 163 rfl _ _ rfl rfl hr3 ?_)
 go_ret;exact⟨_,rfl,hfin⟩
theorem Tryz.infoNt:(Tryz.prog.info? 3).map (fun i=>(i.zero,i.size,i.bytes))=some (some (niq 0),1,8):=by kernel_rfl
theorem Tryz.cellsN:Tryz.prog.cellsOf 3=1:=by kernel_rfl
theorem zOn(W:World)(a b c d:Int):(Op.equalIn 10000 tP (.agg #[niq a,niq b]) (.agg #[niq c,niq d])).run Tryz.prog W= .ok (decide (a=c/\b=d)) W:=by
 obtain⟨i0,hi,-,hz1,-⟩:=info_parts Tryz.infoNt;have hp:∀(xs:Array Value) (i:Nat) (v:Value),xs[i]?=some v->(part 3 xs i).run Tryz.prog W= .ok v W:=by
  intro xs i v h;simp[part,isAgg,run_underlying Tryz.underlying3,h,go_sem]
 rw[run_equalIn_array W 9999 _ _ Tryz.underlying146 hi,Tryz.cellsN];have he:∀x y:Int,(Op.equalIn 9999 3 (niq x) (niq y)).run Tryz.prog W= .ok (x==y) W:=fun x y=>run_equalIn_int W 9998 3 .i64 .i64 x y zDJ
 have p0:=hp #[niq a,niq b] 0 _ rfl;have p1:=hp #[niq a,niq b] 1 _ rfl;have q0:=hp #[niq c,niq d] 0 _ rfl;have q1:=hp #[niq c,niq d] 1 _ rfl;have hr:List.range 2= [0,1]:=rfl;rw[hr];simp only[Op.eqItems,Sem.run_bind,Nat.zero_mul,Nat.one_mul,p0,p1,q0,q1,Result.andThen_ok,he];by_cases h1:a=c
 ·by_cases h2:b=d
  ·simp[h1,h2,go_sem]
  simp[h1,h2,go_sem]
 simp[h1,go_sem]
theorem zIj(v1 v2:Value)(R1 C1 R2 C2:Int)(w:World)(h1:zEn R1 C1 w v1)(h2:zEn R2 C2 w v2):
  CPq 125 #[v1,v2] w fun e w'=>e= .returned (.bool (decide (R1=R2/\C1=C2)))/\BWq w w':=by
 obtain⟨ans,hans⟩:∃ans:Bool,decide (R1=R2/\C1=C2)=ans:=⟨_,rfl⟩;rw[hans];have HA:=xgv hans;obtain⟨g1,cap1,cs1,rfl,k1,k2,b1,e1,e2⟩:=h1;obtain⟨g2,cap2,cs2,rfl,l1,l2,b2,f1,f2⟩:=h2;have heq:=fun W=>zOn W R1 C1 R2 C2
 rw[hans]at heq;clear hans;go_enter Tryz.func125,Tryz.ntmps125;go_wp2;go_loopw [13] (fun iv wr=>∃k:Nat,k<=1/\iv=niq k/\BWq w wr/\jZ (0<k->R1=R2/\C1=C2)) (fun iv _=>1-(intOf iv).toNat)
 case atStart=>exact⟨0,oM,rfl,zA _ _,⟨fun h=>oM⟩⟩
 obtain⟨k,hk,rfl,hb,hall⟩:=hrel;by_cases hk0:k=0
 ·subst hk0
  have p1:=((b1.below hb).cell 0).trans e1;have p2:=((b1.below hb).cell 1).trans e2;have q1:=((b2.below hb).cell 0).trans f1;have q2:=((b2.below hb).cell 1).trans f2;go_upto_region 6 with(fail)
  refine zBl [pcD 8 [] (fun _ v=>v= .bool (!ans))] ?_;refine sRd ?_;refine sRc (fun wS hI Gk hG=>?_) (fun _ hv=>?_)
  ·go_simp
   exact⟨hG _ _ rfl,zA _ _⟩
  obtain⟨_,-,rfl⟩:=hv;refine sRe ?_;intro w9 hbw9 _;cases ans with
  |true=>
   clear heq;go_wp2;go_roundw
   case rel=>exact⟨1,oM,by simp,nx hb hbw9,⟨fun _=>of_decide_eq_true HA.out⟩⟩
   case measure=>simp[intOf]
  |false=>
   clear heq;go_wp2;go_ret;exact⟨rfl,nx hb hbw9⟩
 obtain rfl:k=1:=oM;go_wp2;go_ret;refine⟨?_,hb⟩;have h3:ans=true:=by rw[<-HA.out];exact decide_eq_true (hall.out oM)
 rw[h3];rfl
theorem zOu(b:Nat)(c:Nat)(R1 C1 R2 C2:Int)(A1 A2:Value)(M1 M2:List (List Int))(w:World)(hb0:Blk w b tM #[niq R1,niq C1,A1,niq R2,niq C2,A2])(hc:2<=c)(hc2:c<=9223372036854775807)
  (h1:zIw w (.agg #[niq R1,niq C1,A1]) R1 C1 M1) (h2:zIw w (.agg #[niq R2,niq C2,A2]) R2 C2 M2) (v1:zBS R1 C1 M1) (v2:zBS R2 C2 M2):
  CPq 97 #[slq b 2 c] w fun e w'=>∃v,e= .returned v/\v= .bool true/\BWq w w':=by
 refine(zIV b c R1 C1 R2 C2 A1 A2 M1 M2 w hb0 hc hc2 h1 h2).mono ?_;rintro e w' ⟨rfl,hb⟩;exact⟨_,rfl,by rw[decide_eq_true ⟨v1,v2⟩],hb⟩
theorem zK9(v1 v2:Value)(R C:Int)(w:World)(h1:zEn R C w v1)(h2:zEn R C w v2):
  CPq 125 #[v1,v2] w fun e w'=>∃v,e= .returned v/\v= .bool true/\BWq w w':=by
 refine(zIj v1 v2 R C R C w h1 h2).mono ?_;rintro e w' ⟨rfl,hb⟩;exact⟨_,rfl,by rw[decide_eq_true ⟨rfl,rfl⟩],hb⟩
def zY9(a b c d e f:Value):World->Value->Prop:=fun w v=>∃g,v=slq g 2 2/\Blk w g tM #[a,b,c,d,e,f]
def zWk(a b c:Value):World->Value->Prop:=fun w v=>∃g,v=slq g 1 1/\Blk w g tM #[a,b,c]
theorem zHJ(a b c d e f:Value):zAK (zY9 a b c d e f):=fun _ _ _ x ⟨g,h1,h2⟩=>⟨g,h1,h2.below x⟩
theorem zEc(a b c:Value):zAK (zWk a b c):=fun _ _ _ x ⟨g,h1,h2⟩=>⟨g,h1,h2.below x⟩
def zYF(w:World)(R C:Nat)(M:List (List Int))(e:Ending)(w':World):Prop:=∃v bs,e= .returned (.tuple #[v,niq 0])/\zWi w' w.heap.size v R C bs M/\BWq w w'
theorem zUi(A:Value)(M:List (List Int))(R C:Nat)(k:Int)(kb:Nat)(x y:Value)(w:World)(h:zIw w (.agg #[niq R,niq C,A]) R C M)(hF:zBU R C M)(hR:R<=1000000)(hC:C<=1000000)
  (hk:Blk w kb tI #[x,y]) (hkv:jY w (.agg #[x,y]) k) (hS:∀r∈M,∀z∈r,Sm z) (s2:Sm k):
  CPq 156 #[.agg #[niq R,niq C,A],.agg #[niq R,niq C,A],.func (.func 157) #[] #[ptq kb 0]] w (zYF w R C (genM R C (fun i j=>k*ent M i j))):=by
 have hmf:∀(fn:Fn) (first cap:Array Value) (w:World),(Instr.makeFunc fn first cap).run Tryz.prog w= .ok (.func fn first cap) w:=fun _ _ _ _=>rfl
 have h0:=h;obtain⟨A',eA,h⟩:=h;obtain rfl:A=A':=by
  injection eA with eA
  simp only[Array.mk.injEq,List.cons.injEq]at eA;exact eA.2.2.1
 obtain⟨ao,n,cap,rfl,e2,e3,e4,-⟩:=id h;have HF:=xgv hF;have HV:=xgv hF.valid;have HS:=xgv hS;have HK:=xgv s2;have HH:=xgv h;have HH0:=xgv h0;obtain⟨G,hG⟩:∃G:Nat->Nat->Int,(fun i j=>k*ent M i j)=G:=⟨_,rfl⟩;rw[hG];have HG:=xgv hG;clear hF hS hG e2 h h0 eA;have hl1:=zHJ (niq R) (niq C) (.slice ao n cap) (niq R) (niq C) (.slice ao n cap);have hl2:=zEc (niq R) (niq C) (.slice ao n cap);have hl3:=zEu R C;go_enter Tryz.func156,Tryz.ntmps156;go_upto_region 1 with(fail)
 refine zD ?_;intro W0 hW0;obtain⟨hB0,bx1,bx2,bf,br,hs0⟩:=zNW hW0;have c1:=bx1.three;have d1:=bx2.three;clear hW0;refine zBl [pcD 2 [] (zY9 (niq R) (niq C) (.slice ao n cap) (niq R) (niq C) (.slice ao n cap)),pcD 3 [2] (fun _ v=>v= .bool true),pcD 7 [] (zWk (niq R) (niq C) (.slice ao n cap)),pcD 8 [7] (zEn R C),pcD 10 [] (zWk (niq R) (niq C) (.slice ao n cap)),pcD 11 [10] (zEn R C),pcD 12 [8,11] (fun _ v=>v= .bool true)] ?_;refine sRd ?_;refine sRc (fun wS hI Gk hG=>?_) (fun va2 _=>?_)
 ·go_simp
  exact⟨hG _ _ ⟨_,rfl,qX _ _ _⟩,(zA _ _).alloc (xgf _) _⟩
 refine sRc (fun wS hI ha2 Gk hG=>?_) (fun _ hv=>?_)
 ·obtain⟨g2,rfl,gb2⟩:=ha2
  go_simp;refine(zOu g2 2 R C R C _ _ M M _ gb2 (xgf _) oM ((HH0.out.below hB0).below hI.bel) ((HH0.out.below hB0).below hI.bel) HV.out HV.out).mono ?_;rintro e wa ⟨v,rfl,hv,hba⟩;exact⟨_,rfl,hG _ _ hv,hba⟩
 obtain⟨_,-,rfl⟩:=hv;refine sRd ?_;refine sRc (fun wS hI Gk hG=>?_) (fun va7 _=>?_)
 ·go_simp
  exact⟨hG _ _ ⟨_,rfl,qX _ _ _⟩,(zA _ _).alloc (xgf _) _⟩
 refine sRc (fun wS hI ha7 Gk hG=>?_) (fun va8 _=>?_)
 ·obtain⟨g7,rfl,gb7⟩:=ha7
  go_simp;refine(zFH g7 1 R C _ _ gb7 ⟨_,_,_,rfl⟩ (xgf _) oM).mono ?_;rintro e wa ⟨v,rfl,hv,hba⟩;exact⟨_,rfl,hG _ _ hv,hba⟩
 refine sRd ?_;refine sRc (fun wS hI Gk hG=>?_) (fun va10 _=>?_)
 ·go_simp
  exact⟨hG _ _ ⟨_,rfl,qX _ _ _⟩,(zA _ _).alloc (xgf _) _⟩
 refine sRc (fun wS hI ha10 Gk hG=>?_) (fun va11 _=>?_)
 ·obtain⟨g10,rfl,gb10⟩:=ha10
  go_simp;refine(zFH g10 1 R C _ _ gb10 ⟨_,_,_,rfl⟩ (xgf _) oM).mono ?_;rintro e wa ⟨v,rfl,hv,hba⟩;exact⟨_,rfl,hG _ _ hv,hba⟩
 refine sRc (fun wS hI ha8 ha11 Gk hG=>?_) (fun _ hv=>?_)
 ·go_simp
  refine(zK9 _ _ R C _ ha8 ha11).mono ?_;rintro e wa ⟨v,rfl,hv,hba⟩;exact⟨_,rfl,hG _ _ hv,hba⟩
 obtain⟨_,-,rfl⟩:=hv;refine sRd ?_;refine sRe ?_;intro w1 hbw1 ha2 _ ha7 ha8 ha10 ha11 _;have hBt:=nx hB0 hbw1;have bx1:=bx1.below hbw1;have bx2:=bx2.below hbw1;have bf:=bf.below hbw1;have br:=br.below hbw1;have hszb:=hBt.size;have hszb1:=hbw1.size;clear c1 d1 ha2 ha7 ha8 ha10 ha11;have c1:=bx1.three;have d1:=bx2.three;go_wp2_with fail
 refine(zR4 _ M R C k (w.heap.size+1+1) kb x y w1 (HH.out.below hBt) HF.out hR hC bf (hk.below hBt) (hkv.ext (lx hBt)) HS.out HK.out).mono ?_;rintro e w2 ⟨rfl,⟨bs,hbl,ho⟩,hb2⟩;rw[HG.out]at ho;have hBt2:=nx hBt hb2;have bx1:=bx1.below hb2;have br:=br.below hb2;clear c1 d1;have c1:=bx1.three;have r1:=br.three;have lr:=br.lt;go_wp2;refine bodyPost_ret (zDT rfl _ rfl (br.put3 _ _ _) rfl) rfl ⟨_,bs,rfl,⟨hbl,_,rfl,?_⟩,yJ (yJ (yJ hBt2 oM 0 _) oM 1 _) oM 2 _⟩;exact(ho.keep (fun k hk=>zAf _ _ k _ _ _ oM) (br.lext3 dE _ _ _)).mono oM
theorem zKv(v kv:Value)(M:List (List Int))(R C:Nat)(k:Int)(w:World)(h:zIw w v R C M)(hF:zBU R C M)(hk:jY w kv k)(hR:R<=1000000)(hC:C<=1000000)
  (hS:∀r∈M,∀z∈r,Sm z) (s2:Sm k):
  CPq 114 #[v,kv] w (zEm w R C (genM R C (fun i j=>k*ent M i j))):=by
 have hmf:∀(fn:Fn) (first cap:Array Value) (w:World),(Instr.makeFunc fn first cap).run Tryz.prog w= .ok (.func fn first cap) w:=fun _ _ _ _=>rfl
 have h0:=h;obtain⟨A,rfl,h⟩:=h;obtain⟨ao,n,cap,rfl,e2,e3,e4,-⟩:=id h;obtain⟨kn,ka,kl,kc,kx,rfl,hkx⟩:=id hk;have HF:=xgv hF;have HS:=xgv hS;have HK:=xgv s2;clear hF hS hkx e2;obtain⟨G,hG⟩:∃G:Nat->Nat->Int,(fun i j=>k*ent M i j)=G:=⟨_,rfl⟩;rw[hG];have HG:=xgv hG;clear hG;go_enter Tryz.func114,Tryz.ntmps114;go_upto_region 1 with(fail)
 refine zD ?_;intro W0 hW0;obtain⟨hB0,bx1,bk,br,hs0⟩:=zBk hW0;have c1:=bx1.three;clear hW0;go_wp2_with fail
 refine(zUi _ M R C k (w.heap.size+1) _ _ W0 (h0.below hB0) HF.out hR hC bk (hk.ext (lx hB0)) HS.out HK.out).mono ?_;rintro e w1 ⟨u,bs,rfl,⟨hbl,A2,rfl,ho⟩,hb1⟩;rw[HG.out]at ho;obtain⟨oo,on,oc,rfl,-,-,-,-⟩:=id ho.rows;have hBt:=nx hB0 hb1;have br:=br.below hb1;have hszb:=hb1.size;clear c1;go_upto_region 2 with(fail)
 refine zD ?_;intro W3 hW3;obtain⟨hB3,T5,hs3⟩:=qL hW3;have br:=br.below hB3;have ho:=ho.below hB3;have hBt:=nx hBt hB3;have c1:=T5.three;have r1:=br.three;have lr:=br.lt;clear hW3;go_wp2;refine zAZ rfl rfl rfl (br.put3 _ _ _) ⟨_,bs,rfl,⟨hbl,_,rfl,?_⟩,yJ (yJ (yJ hBt oM 0 _) oM 1 _) oM 2 _⟩;exact(ho.keep (fun k hk=>zAf _ _ k _ _ _ oM) (br.lext3 dE _ _ _)).mono oM
theorem zQp(v kv:Value)(M:List (List Int))(R C:Nat)(k:Int)(w:World)(h:zAC w v R C M)(hF:zBU R C M)(hk:jY w kv k)(hR:R<=1000000)(hC:C<=1000000)
  (hS:∀r∈M,∀z∈r,Sm z) (s2:Sm k):
  CPq 114 #[v,kv] w (zEm w R C (genM R C (fun i j=>k*ent M i j))):=zKv v kv M R C k w h.off hF hk hR hC hS s2
def zIM(zs:List Int)(M:List (List Int))(m j:Nat):Int:=zTz (fun t=>zs.getD t 0*ent M t j) m
def zRi(zs:List Int)(M:List (List Int))(m C:Nat):Prop:=∀j,j<C->∀t,t<m->Sm (zs.getD t 0)/\Sm (ent M t j)/\Sm (zs.getD t 0*ent M t j)/\Sm (zIM zs M t j)
theorem zJt(zs:List Int)(M:List (List Int))(m j:Nat):zIM zs M (m+1) j=zIM zs M m j+zs.getD m 0*ent M m j:=rfl
theorem zTi(w:World)(n:Nat)(f:Nat->Int)(hf:∀t,t<n->f t=0):jJ (w.alloc (.cells (zeroCells n) tI)) w.heap.size (qZ n f):=by
 have h4:=zHt w n;have h5:List.replicate n (0:Int)=qZ n f:=by
  apply qT;simp[qZ];intro i h1 h2;simp[qZ]at h2;simp[qZ,hf i h2]
 rwa[h5]at h4
theorem zQq(v mv:Value)(zs:List Int)(M:List (List Int))(m C:Nat)(w:World)(hv0:zAv w v zs)(hM:zAC w mv m C M)(hl:zs.length=m)(hF:zBU m C M)(hm:m<=1000000)(hC:C<=1000000)(hS:zRi zs M m C):
  CPq 111 #[v,mv] w fun e w'=>∃v,e= .returned v/\zHU w.heap.size C (qZ C (zIM zs M m)) w' v/\BWq w w':=by
 obtain⟨A,rfl,hM⟩:=hM;obtain⟨ao,n,cap,rfl,e2,e3,e4,-⟩:=id hM;obtain rfl:m=n:=by rw[<-e2,hF.1]
 obtain⟨vo,n1,vcap,rfl,f1,f3,f4,-⟩:=id hv0;obtain rfl:m=n1:=oM;have hmk:=fun W=>mkI (C:Int) C rfl oM W
 have HL:=xgv hl;have HF:=xgv hF;have HS:=xgv hS;clear hl hF hS e2 f1;go_enter Tryz.func111,Tryz.ntmps111;go_upto_region 1 with(fail)
 refine zD ?_;intro W0 hW0;obtain⟨hB0,bx,hs0⟩:=qL hW0;have c1:=bx.three;clear hW0;go_upto_region 2 with(fail)
 refine zD ?_;intro W1 hW1;obtain⟨hB1,-,hs1⟩:=qL hW1;have hr:jJ W1 W0.heap.size (qZ C (zIM zs M 0)):=by
  rw[hW1.out];exact zTi W0 C _ (fun _ _=>rfl)
 have bx:=bx.below hB1;have hB:=nx hB0 hB1;clear hW1 hmk c1;go_wp2;go_loopw [15] (fun iv wr=>∃i:Nat,i<=m/\iv=niq i/\BWq w wr/\Blk wr w.heap.size tM #[niq m,niq C,.slice ao m cap]/\jJ wr W0.heap.size (qZ C (zIM zs M i))) (fun iv _=>m-(intOf iv).toNat)
 case atStart=>exact⟨0,oM,rfl,hB,bx,hr⟩
 obtain⟨i,hi,rfl,hb,bx,hr⟩:=hrel;have hB0s:=hB0.size;by_cases hlt:i<m
 ·obtain⟨b1,x,s1,a1,l1,k1,rfl,hbl1,hz1,p1,p2,hx⟩:=(hv0.below hb).cell (k:=i) (by rw[HL.out];exact hlt)
  have hzx:jZ (zs.getD i 0=x):=⟨zBz hz1⟩;have hbs:=hb.size;have lbx:=bx.lt;have lr:=hr.lt;clear hz1;go_upto_region 5 with(fail)
  refine zD ?_;intro W6 hW6;obtain⟨hB6,T7,hs6⟩:=qL hW6;have d1:=T7.two;have hx:=hx.ext (lx hB6);have bx:=bx.below hB6;have hr:=hr.below hB6;have hb:=nx hb hB6;clear p1 p2 hW6;go_wp2_with fail
  refine(zAi _ x W6 hx.weak).mono ?_;rintro e w7 ⟨rfl,hb7⟩;have hx:=hx.ext (lx hb7);have bx:=bx.below hb7;have hr:=hr.below hb7;have T7:=T7.below hb7;have hb:=nx hb hb7;clear d1;by_cases hx0:x=0
  ·rw[zBd hx0]
   have hq:jZ (qZ C (zIM zs M i)=qZ C (zIM zs M (i+1))):=⟨qY fun t _=>by rw[zJt,hzx.out,hx0,zX,yY]⟩;clear hx0;go_wp2;go_roundw
   case rel=>exact⟨i+1,oM,by simp,hb,bx,hq.out ▸ hr⟩
   case measure=>exact meq
  have hc:=zCr hx0;obtain⟨k0,hk0⟩:∃k0,zAt x 0=k0:=⟨_,rfl⟩;rw[hk0]at hc ⊢
  clear hk0 hx0;obtain⟨b2,ra,rn,rc,ys,rfl,hbl2,hz2,o1,hv⟩:=hM.row (k:=i) (by rw[HF.out.1];exact hlt);have hyl:=HF.out.2 ys (xgd hz2);have hvl:=hv.len;obtain rfl:C=rn:=oM;have HZ:=xgv (And.intro hz2 hyl);have o1:=jL o1 hb;have c1:=bx.three;obtain⟨hvl1,hvl2,hvl3⟩:=hvl;have hst:qZ C (zIM zs M i)=qZ C (yQ (zIM zs M (i+1)) (zIM zs M i) 0):=qY fun t _=>by unfold yQ;rw[if_neg oM]
  rw[hst]at hr;clear hz2 hyl hvl1 hst;go_wp2;rw[show(k0==0)=false by simpa using hc];clear hc o1 c1;go_loopw [29] (fun jv wt=>∃j:Nat,j<=C/\jv=niq j/\BWq w wt/\Blk wt w.heap.size tM #[niq m,niq C,slq b2 m cap]/\jJ wt W0.heap.size (qZ C (yQ (zIM zs M (i+1)) (zIM zs M i) j))/\Blk wt wr.heap.size tI #[.bool s1,.slice a1 l1 k1]/\jY wt (.agg #[.bool s1,.slice a1 l1 k1]) x) (fun jv _=>C-(intOf jv).toNat)
  case atStart=>exact⟨0,oM,rfl,hb,bx,hr,T7,hx⟩
  rename World=>wt
  obtain⟨j,hj,rfl,hb,bx,hr,T7,hx⟩:=hrel;by_cases hjc:j<C
  ·obtain⟨b3,y,s2,a2,l2,k2,rfl,hbl3,hz3,q1,q2,hy⟩:=(hv.below hb).cell (k:=j) (by rw[HZ.out.2];exact hjc)
   have hzy:jZ (ent M i j=y):=⟨zEJ HZ.out.1 hz3⟩;have hbs2:=hb.size;have lbx:=bx.lt;have lr:=hr.lt;have l7:=T7.lt;clear hz3;go_upto_region 9 with(fail)
   refine zD ?_;intro W8 hW8;obtain⟨hB8,T9,hs8⟩:=qL hW8;have d1:=T9.two;have hx:=hx.ext (lx hB8);have hy:=hy.ext (lx hB8);have bx:=bx.below hB8;have hr:=hr.below hB8;have T7:=T7.below hB8;have hb:=nx hb hB8;clear q1 q2 hW8;go_wp2_with fail
   refine(zAi _ y W8 hy.weak).mono ?_;rintro e w9 ⟨rfl,hb9⟩;have hx:=hx.ext (lx hb9);have hy:=hy.ext (lx hb9);have bx:=bx.below hb9;have hr:=hr.below hb9;have T7:=T7.below hb9;have T9:=T9.below hb9;have hb:=nx hb hb9;clear d1;by_cases hy0:y=0
   ·rw[zBd hy0]
    have hq:jZ (qZ C (yQ (zIM zs M (i+1)) (zIM zs M i) j)=qZ C (yQ (zIM zs M (i+1)) (zIM zs M i) (j+1))):=⟨qY fun t _=>by
     unfold yQ;by_cases h1:t<j
     ·rw[if_pos h1,if_pos oM]
     by_cases h2:t=j
     ·subst h2
      rw[if_neg h1,if_pos oM,zJt,hzy.out,hy0,zP,yY]
     rw[if_neg h1,if_neg oM]⟩
    clear hy0;go_wp2;go_roundw
    case rel=>exact⟨j+1,oM,by simp,hb,bx,hq.out ▸ hr,T7,hx⟩
    case measure=>exact meq
   have hc2:=zCr hy0;obtain⟨k1',hk1⟩:∃k1,zAt y 0=k1:=⟨_,rfl⟩;rw[hk1]at hc2 ⊢
   clear hk1 hy0;obtain⟨n1,n2,n3,n4,r1,r2,-,-,hacc⟩:=hr.cell (yE hjc);have hua:yQ (zIM zs M (i+1)) (zIM zs M i) j j=zIM zs M i j:=by unfold yQ;rw[if_neg oM]
   rw[hua]at hacc;have d1:=T7.two;obtain⟨e1,e2,e3',e4'⟩:=T9.two;have lbx:=bx.lt;have lr:=hr.lt;have l7:=T7.lt;have l9:=T9.lt;have hsm:=HS.out j hjc i hlt;rw[hzx.out,hzy.out]at hsm;have HSM:=xgv hsm;clear hsm hua;go_upto_region 10 with(fail)
   refine yP 11 [pcI 8 (x*y),pcD 9 [8] (fun w v=>jY w v (zIM zs M i j+x*y))] ?_;refine sRd ?_;refine sRc (fun wS hI Gk hG=>by go_simp;exact ck hG (zEE _ _ x y _ (hx.ext hI.lext).weak (hy.ext hI.lext).weak HSM.out.1 HSM.out.2.1)) (fun va8 _=>?_);refine sRc (fun wS hI ha8 Gk hG=>by go_simp;exact ck hG (zH2 _ _ (zIM zs M i j) (x*y) _ (hacc.ext hI.lext).weak ha8.weak HSM.out.2.2.2 HSM.out.2.2.1)) (fun va9 _=>?_);refine sRd ?_;refine sRe ?_;intro wv hbwv ha8 ha9;obtain⟨pn,pa,pl,pc,px,rfl,hpx⟩:=id ha9;have HPX:=xgw hpx;have hr:=hr.below hbwv;have bx:=bx.below hbwv;have T7:=T7.below hbwv;have hx:=hx.ext (lx hbwv);have hb:=nx hb hbwv;obtain⟨m1,m2,m3,m4,z1,z2,z3,z4,-⟩:=hr.cell (yE hjc);have hset:=hr.set (k:=j) (by rw[qA];exact hjc) ha9;rw[zJC (by rw[zJt,hzx.out,hzy.out])]at hset;clear hpx d1 e1 e2 e3' e4' r1 r2;go_wp2;go_roundw
   case rel=>exact⟨j+1,oM,by simp,yJ (yJ hb oM _ _) oM _ _,(yO _ _ _ _ _ _ _ oM).trans bx,hset.1,(yO _ _ _ _ _ _ _ oM).trans T7,hx.ext hset.2⟩
   case measure=>exact meq
  obtain rfl:j=C:=oM;have hq:qZ j (yQ (zIM zs M (i+1)) (zIM zs M i) j)=qZ j (zIM zs M (i+1)):=qY fun t ht=>by unfold yQ;rw[if_pos ht]
  rw[hq]at hr;go_wp2;go_roundw
  case rel=>exact⟨i+1,oM,by simp,hb,bx,hr⟩
  case measure=>exact meq
 obtain rfl:i=m:=oM;go_wp2;go_ret;exact⟨_,rfl,⟨_,rfl,hB0s,hr⟩,hb⟩
end Go.Proofs.YtkidaebmhlijlaaGreat
