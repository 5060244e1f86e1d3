/- matrix.valid, sizes; slices.Equal. slices.Equal on sizes; matrix.each, matrix.Scale. matrix.each for Scale; matrix.Scale. matrix.times. matrix.Mul. matrix.Equal, for matrices of the same sizes. The law for regions that draw, where calls make matrices: one behind the other, so that they lie apart. hermite: start. -/
import Derived.ChangeKeysEq
import Derived.Laws.StructEq
import Derived.Test.YtnbmaipobhppcaaGreatD18
set_option linter.unusedVariables false
set_option linter.unusedSimpArgs false
set_option linter.unusedSectionVars false
set_option maxHeartbeats 16000000
set_option maxRecDepth 100000
namespace Go.Proofs.YtnbmaipobhppcaaGreat
open Go.RowKit
abbrev tM:TypeId:=28
theorem Blk.six{w:World}{g:Nat}{t:TypeId}{c0 c1 c2 c3 c4 c5:Value}(h:Blk w g t #[c0,c1,c2,c3,c4,c5]):
  w.cell? ⟨g,0,none⟩=some c0/\w.cell? ⟨g,1,none⟩=some c1/\w.cell? ⟨g,2,none⟩=some c2/\w.cell? ⟨g,3,none⟩=some c3/\w.cell? ⟨g,4,none⟩=some c4/\w.cell? ⟨g,5,none⟩=some c5:=
 ⟨h.cell 0,h.cell 1,h.cell 2,h.cell 3,h.cell 4,h.cell 5⟩
theorem zJn(b:Nat)(c:Nat)(R1 C1 R2 C2:Int)(A1 A2:Value)(M1 M2:List (List Int))(w:World)(hb0:Blk w b tM #[.int .i64 R1,.int .i64 C1,A1,.int .i64 R2,.int .i64 C2,A2])(hc:2<=c)(hc2:c<=9223372036854775807)
  (h1:zHP w (.agg #[.int .i64 R1,.int .i64 C1,A1]) R1 C1 M1) (h2:zHP w (.agg #[.int .i64 R2,.int .i64 C2,A2]) R2 C2 M2):
  Calls Tryz.prog 293 #[.slice (some ⟨b,0,none⟩) 2 c] w fun e w'=>e= .returned (.bool (decide (qX R1 C1 M1/\qX R2 C2 M2)))/\Below w.heap.size w w':=by
 obtain⟨ans,hans⟩:∃ans:Bool,decide (qX R1 C1 M1/\qX R2 C2 M2)=ans:=⟨_,rfl⟩;rw[hans];have HA:=xgv hans;obtain⟨o1,n1,k1,rfl⟩:∃o n k,A1= .slice o n k:=by
  obtain⟨A,e,ao,n,cap,rfl,-⟩:=h1;injection e with e
  simp only[Array.mk.injEq,List.cons.injEq]at e;exact⟨_,_,_,e.2.2.1⟩
 obtain⟨o2,n2,k2,rfl⟩:∃o n k,A2= .slice o n k:=by
  obtain⟨A,e,ao,n,cap,rfl,-⟩:=h2;injection e with e
  simp only[Array.mk.injEq,List.cons.injEq]at e;exact⟨_,_,_,e.2.2.1⟩
 clear hans;go_enter Tryz.func293,Tryz.ntmps293;go_wp2;go_loopw [7] (fun iv wr=>∃k:Nat,k<=2/\iv= .int .i64 k/\Below w.heap.size w wr/\qF ((0<k->qX R1 C1 M1)/\(1<k->qX R2 C2 M2))) (fun iv _=>2-(intOf iv).toNat)
 case atStart=>exact⟨0,by omega,rfl,Below.refl _ _,⟨⟨fun h=>by omega,fun h=>by omega⟩⟩⟩
 case round=>
  obtain⟨k,hk,rfl,hb,hall⟩:=hrel;obtain⟨c1,c2,c3,c4,c5,c6⟩:=(hb0.below hb).six;by_cases hk0:k=0
  ·subst hk0
   go_upto_region 4 with(fail)
   refine zB ?_;intro W6 hW6;obtain⟨hB6,T7,hs6⟩:=zK hW6;obtain⟨d1,d2,d3,d4,d5,d6⟩:=T7.three;clear c1 c2 c3 c4 c5 c6 hW6;go_wp2_with fail
   refine(zDZ _ R1 C1 M1 W6 ((h1.below hb).below hB6)).mono ?_;rintro e w7 ⟨rfl,hb7⟩;by_cases hv:qX R1 C1 M1
   ·rw[decide_eq_true hv]
    have HV:=xgv hv;clear hv d1 d2 d3 d4 d5 d6;go_wp2;go_roundw
    case rel=>exact⟨1,by omega,by simp,nx (nx hb hB6) hb7,⟨⟨fun _=>HV.out,fun h=>by omega⟩⟩⟩
    case measure=>simp[intOf]
   ·rw[decide_eq_false hv]
    have HV:=xgv hv;clear hv d1 d2 d3 d4 d5 d6;go_wp2;go_ret;refine⟨?_,nx (nx hb hB6) hb7⟩;have h3:ans=false:=by rw[<-HA.out];exact decide_eq_false (fun hh=>HV.out (by first|exact hh.1|exact hh.2))
    rw[h3];rfl
  ·by_cases hk1:k=1
   ·subst hk1
    go_upto_region 4 with(fail)
    refine zB ?_;intro W6 hW6;obtain⟨hB6,T7,hs6⟩:=zK hW6;obtain⟨d1,d2,d3,d4,d5,d6⟩:=T7.three;clear c1 c2 c3 c4 c5 c6 hW6;go_wp2_with fail
    refine(zDZ _ R2 C2 M2 W6 ((h2.below hb).below hB6)).mono ?_;rintro e w7 ⟨rfl,hb7⟩;by_cases hv:qX R2 C2 M2
    ·rw[decide_eq_true hv]
     have HV:=xgv hv;clear hv d1 d2 d3 d4 d5 d6;go_wp2;go_roundw
     case rel=>exact⟨2,by omega,by simp,nx (nx hb hB6) hb7,⟨⟨fun _=>hall.out.1 oM,fun _=>HV.out⟩⟩⟩
     case measure=>simp[intOf]
    ·rw[decide_eq_false hv]
     have HV:=xgv hv;clear hv d1 d2 d3 d4 d5 d6;go_wp2;go_ret;refine⟨?_,nx (nx hb hB6) hb7⟩;have h3:ans=false:=by rw[<-HA.out];exact decide_eq_false (fun hh=>HV.out (by first|exact hh.1|exact hh.2))
     rw[h3];rfl
   ·obtain rfl:k=2:=by omega
    go_wp2;go_ret;refine⟨?_,hb⟩;have h3:ans=true:=by rw[<-HA.out];exact decide_eq_true ⟨hall.out.1 oM,hall.out.2 oM⟩
    rw[h3];rfl
abbrev tP:TypeId:=337
theorem Tryz.infoP:(Tryz.prog.info? tP).map (fun i=>(i.zero,i.size,i.bytes))=some (some (.agg #[.int .i64 0,.int .i64 0]),2,16):=by kernel_rfl
theorem zQj{w:World}{ops:Array Oper}{rest:List Oper}{o:Oper}{a:Act}{Q:Exit->Act->World->Prop}(hgd:o.guard=none)(s x:Operand)
  (ho:o.op= .call {callee:=.builtin .append,args:=#[s,x],argTypes:=#[336,336]})
  (base:Nat) (v:Value) (n:Nat) (xs:List Value) (hs:a.eval s=v) (hown:w.ownsRow base tP 2 v n xs) (b c:Nat) (z1 z2:Int) (hx:a.eval x= .slice (some ⟨b,0,none⟩) 1 c)
  (hb:Blk w b tP #[.int .i64 z1,.int .i64 z2]) (hlen:n+1<=1099511627776) (hbase:base<=w.heap.size)
  (h:∀v' w',w'.ownsRow base tP 2 v' (n+1) (xs++ [.int .i64 z1,.int .i64 z2])->w.grownBy w' v.ownBlock->wpList Tryz.prog ops Q rest (a.put o.dst v') w'):wpList Tryz.prog ops Q (o::rest) a w:=by
 obtain⟨i0,hi,hz0,hz1,hz2⟩:=info_parts Tryz.infoP;obtain⟨c1,c2,-,-⟩:=hb.two;refine wpList_append_own w hgd s x 336 ho base tP i0 _ 2 16 Tryz.underlying336 hi hz0 hz1 hz2 rfl oM v n xs hs hown ⟨b,0,none⟩ 1 c [.int .i64 z1,.int .i64 z2] hx rfl ?_ ?_ (by simp[maxLen];omega) oM hbase ?_
 ·intro j u hj
  rw[Addr.add_lit];match j with
  |0=>simp at hj;subst hj;exact c1
  |1=>simp at hj;subst hj;exact c2
  |j+2=>simp at hj
 ·intro u hu
  simp at hu;rcases hu with rfl|rfl<;>rfl
 ·intro v' w' h1 h2 _
  exact h v' w' h1 h2
def zDl(z1 z2:Int):World->Value->Prop:=fun w v=>∃g cap cs,v= .slice (some ⟨g,0,none⟩) 1 cap/\1<=cap/\cap<=9223372036854775807/\Blk w g tP cs/\cs[0]?=some (.int .i64 z1)/\cs[1]?=some (.int .i64 z2)
theorem zGm(z1 z2:Int):qS (zDl z1 z2):=fun _ _ _ e ⟨g,cap,cs,h1,h2,h3,h4,h5⟩=>⟨g,cap,cs,h1,h2,h3,h4.below e,h5⟩
theorem zG8(b c:Nat)(R C:Int)(A:Value)(w:World)(hb0:Blk w b tM #[.int .i64 R,.int .i64 C,A])(hA:∃o n k,A= .slice o n k)(hc:1<=c)(hc2:c<=9223372036854775807):
  Calls Tryz.prog 295 #[.slice (some ⟨b,0,none⟩) 1 c] w fun e w'=>∃v,e= .returned v/\zDl R C w' v/\Below w.heap.size w w':=by
 obtain⟨o1,n1,k1,rfl⟩:=hA;go_enter Tryz.func295,Tryz.ntmps295;go_wp2;go_loopw [3,8] (fun u iv wr=>∃k:Nat,k<=1/\iv= .int .i64 k/\Below w.heap.size w wr/\wr.ownsRow w.heap.size tP 2 u k (if k=0 then []else [.int .i64 R,.int .i64 C])) (fun _ iv _=>1-(intOf iv).toNat)
 case atStart=>exact⟨0,by omega,rfl,Below.refl _ _,World.ownsRow_nil _ _ _ _⟩
 case round=>
  obtain⟨k,hk,rfl,hb,hown⟩:=hrel;by_cases hk0:k=0
  ·subst hk0
   rw[if_pos rfl]at hown;obtain⟨c1,c2,c3,c4,c5,c6⟩:=(hb0.below hb).three;go_upto_region 5 with(fail)
   refine zB ?_;intro W6 hW6;obtain⟨hB6,T7,hs6⟩:=zK hW6;obtain⟨d1,d2,d3,d4,d5,d6⟩:=T7.three;have hown6:=hown.kept (row:=none) ⟨hB6.os,hB6.tape,hB6.output,hB6.size,fun k hk _=>hB6.block k hk⟩ (by cases hv:u3.ownBlock<;>simp);have hbs:=(nx hb hB6).size;clear c1 c2 c3 c4 c5 c6 hW6;have hown7:=hown6.kept (row:=none) (w':=W6.alloc (.cells #[.int .i64 R,.int .i64 C] tP)) (by
    have hB7:Below W6.heap.size W6 (W6.alloc (.cells #[.int .i64 R,.int .i64 C] tP)):=(Below.refl _ _).alloc (xgf _) _;exact⟨hB7.os,hB7.tape,hB7.output,hB7.size,fun k hk _=>hB7.block k hk⟩) (by cases hv:u3.ownBlock<;>simp)
   go_wp2_with (at_builtin;refine zQj rfl _ _ rfl w.heap.size u3 0 [] rfl hown7 W6.heap.size 1 R C rfl (Blk.new _ _ _) oM (by simp;omega) ?_;intro v' w' hown8 hgr)
   have hgr:World.grownBy (W6.alloc (.cells #[.int .i64 R,.int .i64 C] tP)) w' (Value.ownBlock u3):=hgr;have hB9:Below w.heap.size w w':=((nx hb hB6).alloc oM _).grown hgr (by simp;omega) (fun g hg=>by
    rcases hown.2 with⟨rfl,-⟩|⟨g',cap,cur,rfl,h1,-⟩
    ·cases hg
    ·simp only[Value.ownBlock,Option.some.injEq]at hg
     omega)
   go_roundw
   case rel=>exact⟨1,by omega,by simp,hB9,by rw[if_neg oM];simpa using hown8⟩
   case measure=>simp[intOf]
  ·obtain rfl:k=1:=by omega
   rw[if_neg oM]at hown;go_wp2;go_ret;refine⟨_,rfl,?_,hb⟩;rcases hown.2 with⟨-,h0⟩|⟨g,cap,cur,rfl,h1,h2,h3,h4,h5,h6⟩
   ·omega
   ·refine⟨g,cap,cur,rfl,h3,h4,h2,?_,?_⟩
    ·have:(cur.toList.take 2)[0]?=some (.int .i64 R):=by rw[h6];rfl
     rw[List.getElem?_take_of_lt oM]at this;simpa using this
    ·have:(cur.toList.take 2)[1]?=some (.int .i64 C):=by rw[h6];rfl
     rw[List.getElem?_take_of_lt oM]at this;simpa using this
theorem Tryz.infoNt:(Tryz.prog.info? 3).map (fun i=>(i.zero,i.size,i.bytes))=some (some (.int .i64 0),1,8):=by kernel_rfl
theorem Tryz.cellsN:Tryz.prog.cellsOf 3=1:=by kernel_rfl
theorem zH7(W:World)(a b c d:Int):(Op.equalIn 10000 tP (.agg #[.int .i64 a,.int .i64 b]) (.agg #[.int .i64 c,.int .i64 d])).run Tryz.prog W= .ok (decide (a=c/\b=d)) W:=by
 obtain⟨i0,hi,-,hz1,-⟩:=info_parts Tryz.infoNt;have hp:∀(xs:Array Value) (i:Nat) (v:Value),xs[i]?=some v->(part 3 xs i).run Tryz.prog W= .ok v W:=by
  intro xs i v h;simp[part,isAgg,run_underlying Tryz.underlying3,h,go_sem]
 rw[run_equalIn_array W 9999 _ _ Tryz.underlying337 hi,Tryz.cellsN];have he:∀x y:Int,(Op.equalIn 9999 3 (.int .i64 x) (.int .i64 y)).run Tryz.prog W= .ok (x==y) W:=fun x y=>run_equalIn_int W 9998 3 .i64 .i64 x y Tryz.underlying3
 have p0:=hp #[.int .i64 a,.int .i64 b] 0 _ rfl;have p1:=hp #[.int .i64 a,.int .i64 b] 1 _ rfl;have q0:=hp #[.int .i64 c,.int .i64 d] 0 _ rfl;have q1:=hp #[.int .i64 c,.int .i64 d] 1 _ rfl;have hr:List.range 2= [0,1]:=rfl;rw[hr];simp only[Op.eqItems,Sem.run_bind,Nat.zero_mul,Nat.one_mul,p0,p1,q0,q1,Result.andThen_ok,he];by_cases h1:a=c
 ·by_cases h2:b=d
  ·simp[h1,h2,go_sem]
  ·simp[h1,h2,go_sem]
 ·simp[h1,go_sem]
theorem zG9(v1 v2:Value)(R1 C1 R2 C2:Int)(w:World)(h1:zDl R1 C1 w v1)(h2:zDl R2 C2 w v2):
  Calls Tryz.prog 294 #[v1,v2] w fun e w'=>e= .returned (.bool (decide (R1=R2/\C1=C2)))/\Below w.heap.size w w':=by
 obtain⟨ans,hans⟩:∃ans:Bool,decide (R1=R2/\C1=C2)=ans:=⟨_,rfl⟩;rw[hans];have HA:=xgv hans;obtain⟨g1,cap1,cs1,rfl,k1,k2,b1,e1,e2⟩:=h1;obtain⟨g2,cap2,cs2,rfl,l1,l2,b2,f1,f2⟩:=h2;have heq:=fun W=>zH7 W R1 C1 R2 C2
 rw[hans]at heq;clear hans;go_enter Tryz.func294,Tryz.ntmps294;go_wp2;go_loopw [13] (fun iv wr=>∃k:Nat,k<=1/\iv= .int .i64 k/\Below w.heap.size w wr/\qF (0<k->R1=R2/\C1=C2)) (fun iv _=>1-(intOf iv).toNat)
 case atStart=>exact⟨0,by omega,rfl,Below.refl _ _,⟨fun h=>by omega⟩⟩
 case round=>
  obtain⟨k,hk,rfl,hb,hall⟩:=hrel;by_cases hk0:k=0
  ·subst hk0
   have p1:=((b1.below hb).cell 0).trans e1;have p2:=((b1.below hb).cell 1).trans e2;have q1:=((b2.below hb).cell 0).trans f1;have q2:=((b2.below hb).cell 1).trans f2;go_upto_region 6 with(fail)
   refine zE rfl (RV wr _ [VSl 0 16 g1 1 cap1,VN 1 17 0,VP 2 18 g1 0,E 3 19 (.agg #[.int .i64 R1,.int .i64 C1]),VSl 4 20 g2 1 cap2,VN 5 21 0,VP 6 22 g2 0,E 7 23 (.agg #[.int .i64 R2,.int .i64 C2]),E 8 24 (.bool (!ans))]) kR RV.start (RV.fin kR ?fin1) ?steps1
   case steps1=>
    refine⟨?_,?_,?_,?_,?_,?_,?_,?_,?_,trivial⟩<;>(intro L T wS hL hd hcl hI K hK;try refine zA rfl ?_)
    ·exact xgs (hI.k 0 rfl kR)
    ·exact xgs (hI.k 5 rfl kR)
    ·exact xgt (hI.e mm0 (hd 0)) (hI.e mm1 (hd 1))
    ·have zt2:=hI.e mm2 (hd 2)
     have cc0:=hI.cell p1;have cc1:=hI.cell p2;exact xgu
    ·exact xgs (hI.k 1 rfl kR)
    ·exact xgs (hI.k 5 rfl kR)
    ·exact xgt (hI.e mm4 (hd 4)) (hI.e mm5 (hd 5))
    ·have zt6:=hI.e mm6 (hd 6)
     have cc0:=hI.cell q1;have cc1:=hI.cell q2;exact xgu
    ·exact xgt (hI.e mm3 (hd 3)) (hI.e mm7 (hd 7))
   intro w9 hbw9 T hT;simp only[Fin,E,EI,VP,VSl,VN,xgg,xgh,xgi,xgj]at hT;subst hT;cases ans with
   |true=>
    clear heq;go_wp2;go_roundw
    case rel=>exact⟨1,by omega,by simp,nx hb hbw9,⟨fun _=>of_decide_eq_true HA.out⟩⟩
    case measure=>simp[intOf]
   |false=>
    clear heq;go_wp2;go_ret;exact⟨rfl,nx hb hbw9⟩
  ·obtain rfl:k=1:=by omega
   go_wp2;go_ret;refine⟨?_,hb⟩;have h3:ans=true:=by rw[<-HA.out];exact decide_eq_true (hall.out oM)
   rw[h3];rfl
theorem zOl(b:Nat)(c:Nat)(R1 C1 R2 C2:Int)(A1 A2:Value)(M1 M2:List (List Int))(w:World)(hb0:Blk w b tM #[.int .i64 R1,.int .i64 C1,A1,.int .i64 R2,.int .i64 C2,A2])(hc:2<=c)(hc2:c<=9223372036854775807)
  (h1:zHP w (.agg #[.int .i64 R1,.int .i64 C1,A1]) R1 C1 M1) (h2:zHP w (.agg #[.int .i64 R2,.int .i64 C2,A2]) R2 C2 M2) (v1:qX R1 C1 M1) (v2:qX R2 C2 M2):
  Calls Tryz.prog 293 #[.slice (some ⟨b,0,none⟩) 2 c] w fun e w'=>∃v,e= .returned v/\v= .bool true/\Below w.heap.size w w':=by
 refine(zJn b c R1 C1 R2 C2 A1 A2 M1 M2 w hb0 hc hc2 h1 h2).mono ?_;rintro e w' ⟨rfl,hb⟩;exact⟨_,rfl,by rw[decide_eq_true ⟨v1,v2⟩],hb⟩
theorem zJf(v1 v2:Value)(R C:Int)(w:World)(h1:zDl R C w v1)(h2:zDl R C w v2):
  Calls Tryz.prog 294 #[v1,v2] w fun e w'=>∃v,e= .returned v/\v= .bool true/\Below w.heap.size w w':=by
 refine(zG9 v1 v2 R C R C w h1 h2).mono ?_;rintro e w' ⟨rfl,hb⟩;exact⟨_,rfl,by rw[decide_eq_true ⟨rfl,rfl⟩],hb⟩
def zQE(a b c d e f:Value):World->Value->Prop:=fun w v=>∃g,v= .slice (some ⟨g,0,none⟩) 2 2/\Blk w g tM #[a,b,c,d,e,f]
def zPu(a b c:Value):World->Value->Prop:=fun w v=>∃g,v= .slice (some ⟨g,0,none⟩) 1 1/\Blk w g tM #[a,b,c]
theorem zHk(a b c d e f:Value):qS (zQE a b c d e f):=fun _ _ _ x ⟨g,h1,h2⟩=>⟨g,h1,h2.below x⟩
theorem zHj(a b c:Value):qS (zPu a b c):=fun _ _ _ x ⟨g,h1,h2⟩=>⟨g,h1,h2.below x⟩
def zPs(w:World)(R C:Nat)(M:List (List Int))(e:Ending)(w':World):Prop:=∃v bs,e= .returned (.tuple #[v,.int .i64 0])/\zOv w' w.heap.size v R C bs M/\Below w.heap.size w w'
theorem zL8(A:Value)(M:List (List Int))(R C:Nat)(k:Int)(kb:Nat)(x y:Value)(w:World)(h:zHP w (.agg #[.int .i64 R,.int .i64 C,A]) R C M)(hF:jK R C M)(hR:R<=1000000)(hC:C<=1000000)
  (hk:Blk w kb tI #[x,y]) (hkv:zH w (.agg #[x,y]) k) (hS:∀r∈M,∀z∈r,Sm z) (s2:Sm k):
  Calls Tryz.prog 255 #[.agg #[.int .i64 R,.int .i64 C,A],.agg #[.int .i64 R,.int .i64 C,A],.func (.func 256) #[] #[.pointer (some ⟨kb,0,none⟩)]] w (zPs w R C (zX R C (fun i j=>k*ent M i j))):=by
 have hmf:∀(fn:Fn) (first cap:Array Value) (w:World),(Instr.makeFunc fn first cap).run Tryz.prog w= .ok (.func fn first cap) w:=fun _ _ _ _=>rfl
 have h0:=h;obtain⟨A',eA,h⟩:=h;obtain rfl:A=A':=by
  injection eA with eA
  simp only[Array.mk.injEq,List.cons.injEq]at eA;exact eA.2.2.1
 obtain⟨ao,n,cap,rfl,e2,e3,e4,-⟩:=id h;have HF:=xgv hF;have HV:=xgv hF.valid;have HS:=xgv hS;have HK:=xgv s2;have HH:=xgv h;have HH0:=xgv h0;obtain⟨G,hG⟩:∃G:Nat->Nat->Int,(fun i j=>k*ent M i j)=G:=⟨_,rfl⟩;rw[hG];have HG:=xgv hG;clear hF hS s2 hG e2 h h0 eA;have hl1:=zHk (.int .i64 R) (.int .i64 C) (.slice ao n cap) (.int .i64 R) (.int .i64 C) (.slice ao n cap);have hl2:=zHj (.int .i64 R) (.int .i64 C) (.slice ao n cap);have hl3:=zGm R C;go_enter Tryz.func255,Tryz.ntmps255;go_upto_region 1 with(fail)
 refine zB ?_;intro W0 hW0;obtain⟨hB0,bx1,bx2,bf,br,hs0⟩:=zHJ hW0;obtain⟨c1,c2,c3,c4,c5,c6⟩:=bx1.three;obtain⟨d1,d2,d3,d4,d5,d6⟩:=bx2.three;clear hW0;refine zE rfl (RV W0 _ [E 0 9 (.agg #[.int .i64 R,.int .i64 C,.slice ao n cap]),E 1 10 (.agg #[.int .i64 R,.int .i64 C,.slice ao n cap]),⟨2,11,zQE (.int .i64 R) (.int .i64 C) (.slice ao n cap) (.int .i64 R) (.int .i64 C) (.slice ao n cap)⟩,E 3 12 (.bool true),E 4 13 (.bool false),E 5 14 (.bool false),E 6 15 (.agg #[.int .i64 R,.int .i64 C,.slice ao n cap]),⟨7,16,zPu (.int .i64 R) (.int .i64 C) (.slice ao n cap)⟩,⟨8,17,zDl R C⟩,E 9 18 (.agg #[.int .i64 R,.int .i64 C,.slice ao n cap]),⟨10,19,zPu (.int .i64 R) (.int .i64 C) (.slice ao n cap)⟩,⟨11,20,zDl R C⟩,E 12 21 (.bool true),E 13 22 (.bool false),E 14 23 (.bool false)]) kR RV.start (RV.fin kR ?fin1) ?steps1
 case steps1=>
  refine⟨?_,?_,?_,?_,?_,?_,?_,?_,?_,?_,?_,?_,?_,?_,?_,trivial⟩<;>(intro L T wS hL hd hcl hI K hK;try refine zA rfl ?_)
  ·have zt:=hI.k 3 rfl kR
   have cc0:=hI.cell c1;have cc1:=hI.cell c2;have cc2:=hI.cell c3;exact xgu
  ·have zt:=hI.k 4 rfl kR
   have cc0:=hI.cell d1;have cc1:=hI.cell d2;have cc2:=hI.cell d3;exact xgu
  ·have zt0:=hI.e mm0 (hd 0)
   have zt1:=hI.e mm1 (hd 1);go_simp;exact hK _ _ ((hI.world ((Below.refl _ _).alloc (xgf _) _)).y mm2 ⟨_,rfl,Blk.new _ _ _⟩)
  ·obtain⟨v2,zt2,h2⟩:=hI.v mm2 (hd 2)
   obtain⟨g2,rfl,gb2⟩:=h2;go_simp;refine(zOl g2 2 R C R C _ _ M M _ gb2 (xgf _) oM ((HH0.out.below hB0).below hI.bel) ((HH0.out.below hB0).below hI.bel) HV.out HV.out).mono ?_;rintro e wa ⟨v,rfl,hv,hba⟩;exact hK _ _ ((hI.world hba).y mm3 hv)
  ·exact xgs (hI.e mm3 (hd 3))
  ·exact xgs (hI.e mm4 (hd 4))
  ·have zg:=hI.e mm5 (hd 5)
   refine zA xgp ?_;have zt:=hI.k 3 rfl kR;have cc0:=hI.cell c1;have cc1:=hI.cell c2;have cc2:=hI.cell c3;exact xgu
  ·have zg:=hI.e mm5 (hd 5)
   refine zA xgp ?_;have zt6:=hI.e mm6 (hd 6);go_simp;exact hK _ _ ((hI.world ((Below.refl _ _).alloc (xgf _) _)).y mm7 ⟨_,rfl,Blk.new _ _ _⟩)
  ·have zg:=hI.e mm5 (hd 5)
   refine zA xgp ?_;obtain⟨v7,zt7,h7⟩:=hI.v mm7 (hd 7);obtain⟨g7,rfl,gb7⟩:=h7;go_simp;refine(zG8 g7 1 R C _ _ gb7 ⟨_,_,_,rfl⟩ (xgf _) oM).mono ?_;rintro e wa ⟨v,rfl,hv,hba⟩;exact hK _ _ ((hI.world hba).y mm8 hv)
  ·have zg:=hI.e mm5 (hd 5)
   refine zA xgp ?_;have zt:=hI.k 4 rfl kR;have cc0:=hI.cell d1;have cc1:=hI.cell d2;have cc2:=hI.cell d3;exact xgu
  ·have zg:=hI.e mm5 (hd 5)
   refine zA xgp ?_;have zt9:=hI.e mm9 (hd 9);go_simp;exact hK _ _ ((hI.world ((Below.refl _ _).alloc (xgf _) _)).y zAC ⟨_,rfl,Blk.new _ _ _⟩)
  ·have zg:=hI.e mm5 (hd 5)
   refine zA xgp ?_;obtain⟨v10,zt10,h10⟩:=hI.v zAC (hd 10);obtain⟨g10,rfl,gb10⟩:=h10;go_simp;refine(zG8 g10 1 R C _ _ gb10 ⟨_,_,_,rfl⟩ (xgf _) oM).mono ?_;rintro e wa ⟨v,rfl,hv,hba⟩;exact hK _ _ ((hI.world hba).y zAJ hv)
  ·have zg:=hI.e mm5 (hd 5)
   refine zA xgp ?_;obtain⟨v8,zt8,h8⟩:=hI.v mm8 (hd 8);obtain⟨v11,zt11,h11⟩:=hI.v zAJ (hd 11);go_simp;refine(zJf _ _ R C _ h8 h11).mono ?_;rintro e wa ⟨v,rfl,hv,hba⟩;exact hK _ _ ((hI.world hba).y zAo hv)
  ·have zg:=hI.e mm5 (hd 5)
   refine zA xgp ?_;exact xgs (hI.e zAo (hd 12))
  ·exact xgt (hI.e mm5 (hd 5)) (hI.e zCF (hd 13))
 intro w1 hbw1 T hT;simp only[Fin,E,EI,VP,VSl,VN,xgg,xgh,xgi,xgj]at hT;obtain⟨va2,ha2,va7,ha7,va8,ha8,va10,ha10,va11,ha11,rfl⟩:=hT;have hBt:=nx hB0 hbw1;have bx1:=bx1.below hbw1;have bx2:=bx2.below hbw1;have bf:=bf.below hbw1;have br:=br.below hbw1;have hszb:=hBt.size;have hszb1:=hbw1.size;clear c1 c2 c3 c4 c5 c6 d1 d2 d3 d4 d5 d6 ha2 ha7 ha8 ha10 ha11;obtain⟨c1,c2,c3,c4,c5,c6⟩:=bx1.three;obtain⟨d1,d2,d3,d4,d5,d6⟩:=bx2.three;go_wp2_with fail
 refine(zKD _ M R C k (w.heap.size+1+1) kb x y w1 (HH.out.below hBt) HF.out hR hC bf (hk.below hBt) (hkv.ext (lx hBt)) HS.out HK.out).mono ?_;rintro e w2 ⟨rfl,⟨bs,hbl,ho⟩,hb2⟩;rw[HG.out]at ho;have hBt2:=nx hBt hb2;have bx1:=bx1.below hb2;have br:=br.below hb2;clear c1 c2 c3 c4 c5 c6 d1 d2 d3 d4 d5 d6;obtain⟨c1,c2,c3,c4,c5,c6⟩:=bx1.three;obtain⟨r1,r2,r3,r4,r5,r6⟩:=br.three;have lr:=br.lt;go_wp2;refine bodyPost_ret (zCI rfl _ rfl (br.put3 _ _ _) rfl) rfl ⟨_,bs,rfl,⟨hbl,_,rfl,?_⟩,zT (zT (zT hBt2 oM 0 _) oM 1 _) oM 2 _⟩;exact(ho.keep (fun k hk=>yN _ _ k _ _ _ oM) (br.lext3 dE _ _ _)).mono oM
theorem zJM(v kv:Value)(M:List (List Int))(R C:Nat)(k:Int)(w:World)(h:zHP w v R C M)(hF:jK R C M)(hk:zH w kv k)(hR:R<=1000000)(hC:C<=1000000)
  (hS:∀r∈M,∀z∈r,Sm z) (s2:Sm k):
  Calls Tryz.prog 217 #[v,kv] w (zAs w R C (zX R C (fun i j=>k*ent M i j))):=by
 have hmf:∀(fn:Fn) (first cap:Array Value) (w:World),(Instr.makeFunc fn first cap).run Tryz.prog w= .ok (.func fn first cap) w:=fun _ _ _ _=>rfl
 have h0:=h;obtain⟨A,rfl,h⟩:=h;obtain⟨ao,n,cap,rfl,e2,e3,e4,-⟩:=id h;obtain⟨kn,ka,kl,kc,kx,rfl,hkx⟩:=id hk;have HF:=xgv hF;have HS:=xgv hS;have HK:=xgv s2;clear hF hS s2 hkx e2;obtain⟨G,hG⟩:∃G:Nat->Nat->Int,(fun i j=>k*ent M i j)=G:=⟨_,rfl⟩;rw[hG];have HG:=xgv hG;clear hG;go_enter Tryz.func217,Tryz.ntmps217;go_upto_region 1 with(fail)
 refine zB ?_;intro W0 hW0;obtain⟨hB0,bx1,bk,br,hs0⟩:=yG hW0;obtain⟨c1,c2,c3,c4,c5,c6⟩:=bx1.three;clear hW0;go_wp2_with fail
 refine(zL8 _ M R C k (w.heap.size+1) _ _ W0 (h0.below hB0) HF.out hR hC bk (hk.ext (lx hB0)) HS.out HK.out).mono ?_;rintro e w1 ⟨u,bs,rfl,⟨hbl,A2,rfl,ho⟩,hb1⟩;rw[HG.out]at ho;obtain⟨oo,on,oc,rfl,-,-,-,-⟩:=id ho.rows;have hBt:=nx hB0 hb1;have br:=br.below hb1;have hszb:=hb1.size;clear c1 c2 c3 c4 c5 c6;go_upto_region 2 with(fail)
 refine zB ?_;intro W3 hW3;obtain⟨hB3,T5,hs3⟩:=zK hW3;have br:=br.below hB3;have ho:=ho.below hB3;have hBt:=nx hBt hB3;obtain⟨c1,c2,c3,c4,c5,c6⟩:=T5.three;obtain⟨r1,r2,r3,r4,r5,r6⟩:=br.three;have lr:=br.lt;clear hW3;go_wp2;refine qY rfl rfl rfl (br.put3 _ _ _) ⟨_,bs,rfl,⟨hbl,_,rfl,?_⟩,zT (zT (zT hBt oM 0 _) oM 1 _) oM 2 _⟩;exact(ho.keep (fun k hk=>yN _ _ k _ _ _ oM) (br.lext3 dE _ _ _)).mono oM
def zCY(zs:List Int)(M:List (List Int))(m j:Nat):Int:=zLc (fun t=>zs.getD t 0*ent M t j) m
def zCa(zs:List Int)(M:List (List Int))(m C:Nat):Prop:=∀j,j<C->∀t,t<m->Sm (zs.getD t 0)/\Sm (ent M t j)/\Sm (zs.getD t 0*ent M t j)/\Sm (zCY zs M t j)
theorem zDD(zs:List Int)(M:List (List Int))(m j:Nat):zCY zs M (m+1) j=zCY zs M m j+zs.getD m 0*ent M m j:=rfl
theorem zLM(w:World)(n:Nat)(f:Nat->Int)(hf:∀t,t<n->f t=0):qC (w.alloc (.cells (zeroCells n) tI)) w.heap.size (zM n f):=by
 have h4:=zDC w n;have h5:List.replicate n (0:Int)=zM n f:=by
  apply List.ext_getElem
  ·simp[zM]
  ·intro i h1 h2
   simp[zM]at h2;simp[zM,hf i h2]
 rwa[h5]at h4
theorem zJN(v mv:Value)(zs:List Int)(M:List (List Int))(m C:Nat)(w:World)(hv0:qT w v zs)(hM:yP w mv m C M)(hl:zs.length=m)(hF:jK m C M)(hm:m<=1000000)(hC:C<=1000000)(hS:zCa zs M m C):
  Calls Tryz.prog 167 #[v,mv] w fun e w'=>∃v,e= .returned v/\zDj w.heap.size C (zM C (zCY zs M m)) w' v/\Below w.heap.size w w':=by
 obtain⟨A,rfl,hM⟩:=hM;obtain⟨ao,n,cap,rfl,e2,e3,e4,-⟩:=id hM;obtain rfl:m=n:=by rw[<-e2,hF.1]
 obtain⟨vo,n1,vcap,rfl,f1,f3,f4,-⟩:=id hv0;obtain rfl:m=n1:=by omega
 have hmk:=fun W=>mkI (C:Int) C rfl oM W
 have HL:=xgv hl;have HF:=xgv hF;have HS:=xgv hS;clear hl hF hS e2 f1;go_enter Tryz.func167,Tryz.ntmps167;go_upto_region 1 with(fail)
 refine zB ?_;intro W0 hW0;obtain⟨hB0,bx,hs0⟩:=zK hW0;obtain⟨c1,c2,c3,c4,c5,c6⟩:=bx.three;clear hW0;go_upto_region 2 with(fail)
 refine zB ?_;intro W1 hW1;obtain⟨hB1,-,hs1⟩:=zK hW1;have hr:qC W1 W0.heap.size (zM C (zCY zs M 0)):=by
  rw[hW1.out];exact zLM W0 C _ (fun _ _=>rfl)
 have bx:=bx.below hB1;have hB:=nx hB0 hB1;clear hW1 hmk c1 c2 c3 c4 c5 c6;go_wp2;go_loopw [15] (fun iv wr=>∃i:Nat,i<=m/\iv= .int .i64 i/\Below w.heap.size w wr/\Blk wr w.heap.size tM #[.int .i64 m,.int .i64 C,.slice ao m cap]/\qC wr W0.heap.size (zM C (zCY zs M i))) (fun iv _=>m-(intOf iv).toNat)
 case atStart=>exact⟨0,by omega,rfl,hB,bx,hr⟩
 case round=>
  obtain⟨i,hi,rfl,hb,bx,hr⟩:=hrel;have hB0s:=hB0.size;by_cases hlt:i<m
  ·obtain ⟨b1,x,s1,a1,l1,k1,rfl,hbl1,hz1,p1,p2,hx⟩:=(hv0.below hb).cell (k:=i) (by rw[HL.out];exact hlt)
   have hzx:qF (zs.getD i 0=x):=⟨zBM hz1⟩;have hbs:=hb.size;have lbx:=bx.lt;have lr:=hr.lt;clear hz1;go_upto_region 5 with(fail)
   refine zB ?_;intro W6 hW6;obtain⟨hB6,T7,hs6⟩:=zK hW6;obtain⟨d1,d2,d3,d4⟩:=T7.two;have hx:=hx.ext (lx hB6);have bx:=bx.below hB6;have hr:=hr.below hB6;have hb:=nx hb hB6;clear p1 p2 hW6;go_wp2_with fail
   refine(qU _ x W6 hx.weak).mono ?_;rintro e w7 ⟨rfl,hb7⟩;have hx:=hx.ext (lx hb7);have bx:=bx.below hb7;have hr:=hr.below hb7;have T7:=T7.below hb7;have hb:=nx hb hb7;clear d1 d2 d3 d4;by_cases hx0:x=0
   ·rw[zA0 hx0]
    have hq:qF (zM C (zCY zs M i)=zM C (zCY zs M (i+1))):=⟨zP fun t _=>by rw[zDD,hzx.out,hx0,Int.zero_mul,Int.add_zero]⟩;clear hx0;go_wp2;go_roundw
    case rel=>exact⟨i+1,by omega,by simp,hb,bx,hq.out ▸ hr⟩
    case measure=>simp[intOf];omega
   ·have hc:=zCc hx0
    obtain⟨k0,hk0⟩:∃k0,qJ x 0=k0:=⟨_,rfl⟩;rw[hk0]at hc ⊢
    clear hk0 hx0;obtain⟨b2,ra,rn,rc,ys,rfl,hbl2,hz2,o1,hv⟩:=hM.row (k:=i) (by rw[HF.out.1];exact hlt);have hyl:=HF.out.2 ys (xgd hz2);have hvl:=hv.len;obtain rfl:C=rn:=by omega
    have HZ:=xgv (And.intro hz2 hyl);have o1:=zI o1 hb;obtain⟨c1,c2,c3,c4,c5,c6⟩:=bx.three;obtain⟨hvl1,hvl2,hvl3⟩:=hvl;have hst:zM C (zCY zs M i)=zM C (qA (zCY zs M (i+1)) (zCY zs M i) 0):=zP fun t _=>by unfold qA;rw[if_neg oM]
    rw[hst]at hr;clear hz2 hyl hvl1 hst;go_wp2;rw[show(k0==0)=false by simpa using hc];clear hc o1 c1 c2 c3 c4 c5 c6;go_loopw [29] (fun jv wt=>∃j:Nat,j<=C/\jv= .int .i64 j/\Below w.heap.size w wt/\Blk wt w.heap.size tM #[.int .i64 m,.int .i64 C,.slice (some ⟨b2,0,none⟩) m cap]/\qC wt W0.heap.size (zM C (qA (zCY zs M (i+1)) (zCY zs M i) j))/\Blk wt wr.heap.size tI #[.bool s1,.slice a1 l1 k1]/\zH wt (.agg #[.bool s1,.slice a1 l1 k1]) x) (fun jv _=>C-(intOf jv).toNat)
    case atStart=>exact⟨0,by omega,rfl,hb,bx,hr,T7,hx⟩
    case round=>
     rename World=>wt
     obtain⟨j,hj,rfl,hb,bx,hr,T7,hx⟩:=hrel;by_cases hjc:j<C
     ·obtain⟨b3,y,s2,a2,l2,k2,rfl,hbl3,hz3,q1,q2,hy⟩:=(hv.below hb).cell (k:=j) (by rw[HZ.out.2];exact hjc)
      have hzy:qF (ent M i j=y):=⟨zAU HZ.out.1 hz3⟩;have hbs2:=hb.size;have lbx:=bx.lt;have lr:=hr.lt;have l7:=T7.lt;clear hz3;go_upto_region 9 with(fail)
      refine zB ?_;intro W8 hW8;obtain⟨hB8,T9,hs8⟩:=zK hW8;obtain⟨d1,d2,d3,d4⟩:=T9.two;have hx:=hx.ext (lx hB8);have hy:=hy.ext (lx hB8);have bx:=bx.below hB8;have hr:=hr.below hB8;have T7:=T7.below hB8;have hb:=nx hb hB8;clear q1 q2 hW8;go_wp2_with fail
      refine(qU _ y W8 hy.weak).mono ?_;rintro e w9 ⟨rfl,hb9⟩;have hx:=hx.ext (lx hb9);have hy:=hy.ext (lx hb9);have bx:=bx.below hb9;have hr:=hr.below hb9;have T7:=T7.below hb9;have T9:=T9.below hb9;have hb:=nx hb hb9;clear d1 d2 d3 d4;by_cases hy0:y=0
      ·rw [zA0 hy0]
       have hq:qF (zM C (qA (zCY zs M (i+1)) (zCY zs M i) j)=zM C (qA (zCY zs M (i+1)) (zCY zs M i) (j+1))):=⟨zP fun t _=>by
        unfold qA;by_cases h1:t<j
        ·rw[if_pos h1,if_pos oM]
        ·by_cases h2:t=j
         ·subst h2
          rw[if_neg h1,if_pos oM,zDD,hzy.out,hy0,Int.mul_zero,Int.add_zero]
         ·rw[if_neg h1,if_neg oM]⟩
       clear hy0;go_wp2;go_roundw
       case rel=>exact⟨j+1,by omega,by simp,hb,bx,hq.out ▸ hr,T7,hx⟩
       case measure=>simp[intOf];omega
      ·have hc2:=zCc hy0
       obtain⟨k1',hk1⟩:∃k1,qJ y 0=k1:=⟨_,rfl⟩;rw[hk1]at hc2 ⊢
       clear hk1 hy0;obtain⟨n1,n2,n3,n4,r1,r2,-,-,hacc⟩:=hr.cell (zO hjc);have hua:qA (zCY zs M (i+1)) (zCY zs M i) j j=zCY zs M i j:=by unfold qA;rw[if_neg oM]
       rw[hua]at hacc;obtain⟨d1,d2,d3,d4⟩:=T7.two;obtain⟨e1,e2,e3',e4'⟩:=T9.two;have lbx:=bx.lt;have lr:=hr.lt;have l7:=T7.lt;have l9:=T9.lt;have hsm:=HS.out j hjc i hlt;rw[hzx.out,hzy.out]at hsm;have HSM:=xgv hsm;clear hsm hua;go_upto_region 10 with(fail)
       refine zC 11 rfl (RI w9 (w9.heap.size) _ 35
         [VSl 0 37 W0.heap.size C C,VN 1 38 j,VSl 2 39 W0.heap.size C C,VN 3 40 j,VP 4 41 W0.heap.size (j*2),E 5 42 (.agg #[.bool n1,.slice n2 n3 n4]),E 6 43 (.agg #[.bool s1,.slice a1 l1 k1]),E 7 44 (.agg #[.bool s2,.slice a2 l2 k2]),EI 8 45 (x*y),EI 9 46 (zCY zs M i j+x*y),VP 10 47 W0.heap.size (j*2)] [] []) kR RI.start (RI.fin kR ?fin1) ?steps1
       case steps1=>
        refine⟨?_,?_,?_,?_,?_,?_,?_,?_,?_,?_,?_,trivial⟩<;>(intro L T wS hL hd hcl hI K hK;try refine zA rfl ?_)
        ·exact xgs (hI.k 5 rfl kR)
        ·exact xgs (hI.k 8 rfl kR)
        ·exact xgs (hI.k 5 rfl kR)
        ·exact xgs (hI.k 8 rfl kR)
        ·exact xgt (hI.e mm2 (hd 2)) (hI.e mm3 (hd 3))
        ·have zt4:=hI.e mm4 (hd 4)
         have cc0:=hI.cell r1 oM nom;have cc1:=hI.cell r2 oM nom;exact xgu
        ·have zt:=hI.k 7 rfl kR
         have cc0:=hI.cell d1 oM nom;have cc1:=hI.cell d2 oM nom;exact xgu
        ·have zt:=hI.k 9 rfl kR
         have cc0:=hI.cell e1 oM nom;have cc1:=hI.cell e2 oM nom;exact xgu
        ·have zt6:=hI.e mm6 (hd 6)
         have zt7:=hI.e mm7 (hd 7);go_simp;refine(jM _ _ x y _ (hx.ext hI.lext).weak (hy.ext hI.lext).weak HSM.out.1 HSM.out.2.1).mono ?_;exact xgo
        ·have zt5:=hI.e mm5 (hd 5)
         obtain⟨v8,zt8,h8⟩:=hI.vi mm8 (hd 8);go_simp;refine(zBv _ _ (zCY zs M i j) (x*y) _ (hacc.ext hI.lext).weak h8.weak HSM.out.2.2.2 HSM.out.2.2.1).mono ?_;exact xgo
        ·exact xgt (hI.e mm0 (hd 0)) (hI.e mm1 (hd 1))
       intro wv hlwv hbwv holdwv T hT;simp only[Fin,E,EI,VP,VSl,VN,xgg,xgh,xgi,xgj]at hT;obtain⟨va8,ha8,va9,ha9,rfl⟩:=hT;simp only[xgl,xgk];obtain⟨pn,pa,pl,pc,px,rfl,hpx⟩:=id ha9;have HPX:=xgw hpx;have hr:=hr.below hbwv;have bx:=bx.below hbwv;have T7:=T7.below hbwv;have hx:=hx.ext (lx hbwv);have hb:=nx hb hbwv;obtain⟨m1,m2,m3,m4,z1,z2,z3,z4,-⟩:=hr.cell (zO hjc);have hset:=hr.set (k:=j) (by rw[zD];exact hjc) ha9;rw[zEE (by rw[zDD,hzx.out,hzy.out])]at hset;clear hpx d1 d2 d3 d4 e1 e2 e3' e4' r1 r2;go_wp2;go_roundw
       case rel=>exact⟨j+1,by omega,by simp,zT (zT hb oM _ _) oM _ _,(zR _ _ _ _ _ _ _ oM).trans bx,hset.1,(zR _ _ _ _ _ _ _ oM).trans T7,hx.ext hset.2⟩
       case measure=>simp[intOf];omega
     ·obtain rfl:j=C:=by omega
      have hq:zM j (qA (zCY zs M (i+1)) (zCY zs M i) j)=zM j (zCY zs M (i+1)):=zP fun t ht=>by unfold qA;rw[if_pos ht]
      rw[hq]at hr;go_wp2;go_roundw
      case rel=>exact⟨i+1,by omega,by simp,hb,bx,hr⟩
      case measure=>simp[intOf];omega
  ·obtain rfl:i=m:=by omega
   go_wp2;go_ret;exact⟨_,rfl,⟨_,rfl,hB0s,hr⟩,hb⟩
def zNk(R C:Nat):World->Value->Prop:=fun w v=>∃g,v= .slice (some ⟨g,0,none⟩) R R/\Blk w g tR (qZ R C [])
def zQC:World->Value->Prop:=fun w v=>∃g,v= .pointer (some ⟨g,0,none⟩)/\Blk w g tM #[.int .i64 0,.int .i64 0,.slice none 0 0]
def zNe(n:Nat)(P:World->Value->Prop):World->Value->Prop:=fun w v=>P w v/\∀b o,(v= .pointer (some ⟨b,o,none⟩)∨∃l c,v= .slice (some ⟨b,o,none⟩) l c)->n<=b
def zPp(n R C:Nat):World->Value->Prop:=fun w v=>∃s,v= .agg #[.int .i64 R,.int .i64 C,s]/\zNe n (zNk R C) w s

def zDm(R C:Nat)(F:Nat->Nat->Int)(lo hi:Nat):World->Value->Prop:=fun w v=>∃o c bs,v= .agg #[.int .i64 R,.int .i64 C,.slice o R c]/\Wri w (.slice o R c) R C bs F/\∀b,Zn (.slice o R c) bs b->lo<=b/\b<hi
theorem zDm.below{R C:Nat}{F:Nat->Nat->Int}{lo hi:Nat}{w w':World}{v:Value}(h:zDm R C F lo hi w v)(hb:Below w.heap.size w w'):zDm R C F lo hi w' v:=by
 obtain⟨o,c,bs,h1,h2,h3⟩:=h;exact⟨o,c,bs,h1,h2.below hb,h3⟩
theorem zAs.within{w w':World}{R C:Nat}{F:Nat->Nat->Int}{e:Ending}(h:zAs w R C (zX R C F) e w'):∃v,e= .returned v/\zDm R C F w.heap.size w'.heap.size w' v/\Below w.heap.size w w':=by
 obtain⟨v,bs,rfl,⟨hl,A',rfl,ho⟩,hb⟩:=h;have hw:Wri w' A' R C bs F:=ho.mono (Nat.zero_le _);obtain⟨o,c,rfl⟩:=hw.shape;exact⟨_,rfl,⟨o,c,bs,rfl,hw,fun b hz=>⟨ho.fresh hz,hw.zlt hz⟩⟩,hb⟩
structure MS where
 op:Nat
 slot:Nat
 R:Nat
 C:Nat
 F:Nat->Nat->Int
def zI1(N:Nat)(vs:List VS)(ms:List MS):Bool:=decide ((vs.map (·.slot))++(ms.map (·.slot))).Nodup && decide ((vs.map (·.op))++(ms.map (·.op))).Nodup && ((vs.map (·.slot))++(ms.map (·.slot))).all (fun s=>decide (s<N))
theorem zDu{α:Type}{xs ys:List α}(h:(xs++ys).Nodup){a b:α}(ha:a∈xs)(hb:b∈ys):a≠b:=(List.nodup_append.1 h).2.2 a ha b hb
structure RG(W:World)(T0:Array Value)(vs:List VS)(ms:List MS)(L:Array Bool)(T:Array Value)(w:World):Prop where
 wf:zI1 T0.size vs ms=true
 lv:∀s∈vs,qS s.P
 size:T.size=T0.size
 keep:∀j,(∀s∈vs,s.slot≠j)->(∀m∈ms,m.slot≠j)->T[j]?=T0[j]?
 bel:Below W.heap.size W w
 val:∀s∈vs,L[s.op]?=some true->∃v,T[s.slot]?=some v/\s.P w v
 gh:∃bot top:Nat->Nat,(∀m∈ms,L[m.op]?=some true->W.heap.size<=bot m.op/\top m.op<=w.heap.size/\∃v,T[m.slot]?=some v/\zDm m.R m.C m.F (bot m.op) (top m.op) w v)∧
  ∀m∈ms,∀m'∈ms,m.op<m'.op->L[m.op]?=some true->L[m'.op]?=some true->top m.op<=bot m'.op
section
variable {W:World} {T0:Array Value} {vs:List VS} {ms:List MS} {L:Array Bool} {T:Array Value} {w w':World}
theorem RG.parts(h:RG W T0 vs ms L T w):(vs.map (·.slot)).Nodup/\(vs.map (·.op)).Nodup/\(ms.map (·.slot)).Nodup/\(ms.map (·.op)).Nodup/\(∀s∈vs,∀m∈ms,s.slot≠m.slot/\s.op≠m.op)/\(∀s∈vs,s.slot<T0.size)/\(∀m∈ms,m.slot<T0.size):=by
 have hwf:=h.wf;unfold zI1 at hwf;simp only[Bool.and_eq_true,decide_eq_true_eq,List.all_eq_true]at hwf;obtain⟨⟨w1,w2⟩,w3⟩:=hwf;refine⟨(List.nodup_append.1 w1).1,(List.nodup_append.1 w2).1,(List.nodup_append.1 w1).2.1,(List.nodup_append.1 w2).2.1,fun s hs m hm=>⟨zDu w1 (List.mem_map.2 ⟨s,hs,rfl⟩) (List.mem_map.2 ⟨m,hm,rfl⟩),zDu w2 (List.mem_map.2 ⟨s,hs,rfl⟩) (List.mem_map.2 ⟨m,hm,rfl⟩)⟩,
  fun s hs=>w3 _ (List.mem_append.2 (.inl (List.mem_map.2 ⟨s,hs,rfl⟩))),fun m hm=>w3 _ (List.mem_append.2 (.inr (List.mem_map.2 ⟨m,hm,rfl⟩)))⟩
theorem RG.start(hwf:zI1 T0.size vs ms=true:=by kernel_rfl)(hv:∀s∈vs,qS s.P:=by repeat' (first|exact yJ _|exact jD _|exact yR _ _ _|exact qW _|assumption|refine xgm.2 ⟨?_,?_⟩|exact xgn _)){n:Nat}:RG W T0 vs ms (Array.replicate n false) T0 W.drew:=by
 have hf:∀k:Nat,(Array.replicate n false)[k]?≠some true:=by
  intro k h;rw[Array.getElem?_replicate]at h;split at h<;>simp at h
 exact⟨hwf,hv,rfl,fun _ _ _=>rfl,dr _,fun s _ h=>absurd h (hf _),fun _=>0,fun _=>0,fun m _ h=>absurd h (hf _),fun m _ m' _ _ h=>absurd h (hf _)⟩
theorem RG.world(h:RG W T0 vs ms L T w)(hb:Below w.heap.size w w'):RG W T0 vs ms L T w':=by
 obtain⟨bot,top,g1,g2⟩:=h.gh;refine⟨h.wf,h.lv,h.size,h.keep,nx h.bel hb,fun s hs hl=>by
  obtain⟨v,h1,h2⟩:=h.val s hs hl;exact⟨v,h1,h.lv s hs _ _ _ hb h2⟩,bot,top,fun m hm hl=>?_,g2⟩
 obtain⟨e1,e2,v,e3,e4⟩:=g1 m hm hl;exact⟨e1,Nat.le_trans e2 hb.size,v,e3,e4.below hb⟩
theorem RG.value{k:Nat}{v:Value}(h:RG W T0 vs ms L T w)(s:VS)(hs:s∈vs)(hk:s.op=k)(hP:s.P w v):RG W T0 vs ms (L.setIfInBounds k true) (T.setIfInBounds s.slot v) w:=by
 subst hk;obtain⟨p1,p2,p3,p4,p5,p6,p7⟩:=h.parts;obtain⟨bot,top,g1,g2⟩:=h.gh;have hm':∀m∈ms,(L.setIfInBounds s.op true)[m.op]?=some true->L[m.op]?=some true:=fun m hm hl=>zL hl (p5 s hs m hm).2
 refine⟨h.wf,h.lv,by simp[h.size],fun j h1 h2=>by rw[xgc (h1 s hs)];exact h.keep j h1 h2,h.bel,?_,bot,top,fun m hm hl=>?_,fun m hm m' hm2 hlt l1 l2=>g2 m hm m' hm2 hlt (hm' m hm l1) (hm' m' hm2 l2)⟩
 ·intro t ht hl
  by_cases he:t=s
  ·subst he
   exact⟨v,by rw[Array.getElem?_setIfInBounds_self_of_lt (by rw[h.size];exact p6 _ hs)],hP⟩
  ·have n1:t.op≠s.op:=fun e=>he (zN p2 ht hs e)
   have n2:t.slot≠s.slot:=fun e=>he (zN p1 ht hs e)
   obtain⟨u,h1,h2⟩:=h.val t ht (zL hl (Ne.symm n1));exact⟨u,by rw[xgc (Ne.symm n2)];exact h1,h2⟩
 ·obtain⟨e1,e2,u,e3,e4⟩:=g1 m hm (hm' m hm hl)
  exact⟨e1,e2,u,by rw[xgc (p5 s hs m hm).1];exact e3,e4⟩
theorem RG.v{s:VS}(h:RG W T0 vs ms L T w)(hs:s∈vs)(hl:L[s.op]?=some true):∃v,T[s.slot]?=some v/\s.P w v:=h.val s hs hl
theorem RG.y{k:Nat}{v:Value}(h:RG W T0 vs ms L T w){s:VS}(hs:s∈vs)(hP:s.P w v)(hk:s.op=k:=by rfl):RG W T0 vs ms (L.setIfInBounds k true) (T.setIfInBounds s.slot v) w:=h.value s hs hk hP
theorem RG.mat{ops:Array Oper}{k:Nat}{v:Value}(h:RG W T0 vs ms L T w)(hcl:zAO ops L)(hL:L[k]?=some false)(m:MS)(hm:m∈ms)(hk:m.op=k)(hb:Below w.heap.size w w')(hw:zDm m.R m.C m.F w.heap.size w'.heap.size w' v)
  (hlt:(ms.all fun m'=>!decide (k<m'.op)||zD0 ops 9 m'.op k)=true):RG W T0 vs ms (L.setIfInBounds k true) (T.setIfInBounds m.slot v) w':=by
 subst hk;have h':=h.world hb;obtain⟨p1,p2,p3,p4,p5,p6,p7⟩:=h.parts;obtain⟨bot,top,g1,g2⟩:=h.gh;have hno:∀m'∈ms,m.op<m'.op->L[m'.op]?≠some true:=fun m' hm' hlt' hh=>by
  have h3:=List.all_eq_true.1 hlt m' hm';simp only[hlt',decide_true,Bool.not_true,Bool.false_or]at h3;have:=zAe hcl h3 hh;rw[hL]at this;cases this
 have hold:∀m'∈ms,m'≠m->(L.setIfInBounds m.op true)[m'.op]?=some true->L[m'.op]?=some true:=fun m' hm' hne hl=>zL hl (fun e=>hne (zN p4 hm' hm e.symm))
 refine⟨h.wf,h.lv,by simp[h.size],fun j h1 h2=>by rw[xgc (h2 m hm)];exact h.keep j h1 h2,h'.bel,?_,fun i=>if i=m.op then w.heap.size else bot i,fun i=>if i=m.op then w'.heap.size else top i,fun m' hm' hl=>?_,fun a ha b hb' hlt' l1 l2=>?_⟩
 ·intro t ht hl
  obtain⟨u,h1,h2⟩:=h'.val t ht (zL hl (Ne.symm (p5 t ht m hm).2));exact⟨u,by rw[xgc (Ne.symm (p5 t ht m hm).1)];exact h1,h2⟩
 ·by_cases he:m'=m
  ·subst he
   simp only[if_true];exact⟨h.bel.size,xgf _,v,by rw[Array.getElem?_setIfInBounds_self_of_lt (by rw[h.size];exact p7 _ hm)],hw⟩
  ·have n1:m'.op≠m.op:=fun e=>he (zN p4 hm' hm e)
   have n2:m'.slot≠m.slot:=fun e=>he (zN p3 hm' hm e)
   simp only[if_neg n1];obtain⟨e1,e2,u,e3,e4⟩:=g1 m' hm' (hold m' hm' he hl);exact⟨e1,Nat.le_trans e2 hb.size,u,by rw[xgc (Ne.symm n2)];exact e3,e4.below hb⟩
 ·by_cases hb2:b=m
  ·subst hb2
   by_cases ha2:a=b
   ·subst ha2;omega
   ·have n1:a.op≠b.op:=fun e=>ha2 (zN p4 ha hm e)
    simp only[if_true,if_neg n1];exact(g1 a ha (hold a ha ha2 l1)).2.1
  ·by_cases ha2:a=m
   ·subst ha2
    exact absurd (hold b hb' hb2 l2) (hno b hb' hlt')
   ·have n1:a.op≠m.op:=fun e=>ha2 (zN p4 ha hm e)
    have n2:b.op≠m.op:=fun e=>hb2 (zN p4 hb' hm e)
    simp only[if_neg n1,if_neg n2];exact g2 a ha b hb' hlt' (hold a ha ha2 l1) (hold b hb' hb2 l2)
theorem RG.cell{b o:Nat}{v:Value}(h:RG W T0 vs ms L T w)(hc:W.cell? ⟨b,o,none⟩=some v):w.cell? ⟨b,o,none⟩=some v:=zI hc h.bel
theorem RG.matv(h:RG W T0 vs ms L T w)(m:MS)(hm:m∈ms)(hl:L[m.op]?=some true):∃v,T[m.slot]?=some v/\∃o c,v= .agg #[.int .i64 m.R,.int .i64 m.C,.slice o m.R c]:=by
 obtain⟨bot,top,g1,g2⟩:=h.gh;obtain⟨e1,e2,v,e3,o,c,bs,e4,-⟩:=g1 m hm hl;exact⟨v,e3,o,c,e4⟩
end
structure zPm(n0 R C Cu Cw:Nat)(z:W5)(w:World)(v:Value):Prop where
 ex:∃so sc uo uc vo vc wo wc xo xc bS bU bV bW bX,v= .agg #[.int .i64 R,.int .i64 C,.slice so R sc,.int .i64 R,.int .i64 Cu,.slice uo R uc,.int .i64 R,.int .i64 Cu,.slice vo R vc,.int .i64 C,.int .i64 Cw,.slice wo C wc,.int .i64 C,.int .i64 Cw,.slice xo C xc]∧
  Wri w (.slice so R sc) R C bS z.s/\Wri w (.slice uo R uc) R Cu bU z.u/\Wri w (.slice vo R vc) R Cu bV z.v/\Wri w (.slice wo C wc) C Cw bW z.w/\Wri w (.slice xo C xc) C Cw bX z.x∧
  (∀b,Zn (.slice so R sc) bS b∨Zn (.slice uo R uc) bU b∨Zn (.slice vo R vc) bV b∨Zn (.slice wo C wc) bW b∨Zn (.slice xo C xc) bX b->n0<=b)∧
  Ap (.slice so R sc) bS (.slice uo R uc) bU/\Ap (.slice so R sc) bS (.slice vo R vc) bV/\Ap (.slice so R sc) bS (.slice wo C wc) bW/\Ap (.slice so R sc) bS (.slice xo C xc) bX/\Ap (.slice uo R uc) bU (.slice vo R vc) bV∧
  Ap (.slice uo R uc) bU (.slice wo C wc) bW/\Ap (.slice uo R uc) bU (.slice xo C xc) bX/\Ap (.slice vo R vc) bV (.slice wo C wc) bW/\Ap (.slice vo R vc) bV (.slice xo C xc) bX/\Ap (.slice wo C wc) bW (.slice xo C xc) bX
theorem yZ{A A':Value}{bs bs':List Nat}{a b c d:Nat}(h:∀x,Zn A bs x->a<=x/\x<b)(h':∀x,Zn A' bs' x->c<=x/\x<d)(hbc:b<=c):Ap A bs A' bs':=fun x h1 h2=>by
 have:=h x h1;have:=h' x h2;omega
def StH(lo R C:Nat)(F:Nat->Nat->Int):World->Value->Prop:=fun w v=>∃bs,Wri w v R C bs F/\∀b,Zn v bs b->lo<=b
def StM(lo R C:Nat)(F:Nat->Nat->Int):World->Value->Prop:=fun w v=>∃o c,v= .agg #[.int .i64 R,.int .i64 C,.slice o R c]/\StH lo R C F w (.slice o R c)
def zPr(R:Nat):World->Value->Prop:=fun w v=>zBg w v R
def StB(lo R C:Nat)(F:Nat->Nat->Int):World->Value->Prop:=fun w v=>∃Ah Au Av,v= .agg #[Ah,Au,Av]/\StH lo R C F w Ah/\zBg w Au R/\zBg w Av R
def StP(lo R C:Nat)(F:Nat->Nat->Int):World->Value->Prop:=fun w v=>∃g Ah Au Av,v= .pointer (some ⟨g,0,none⟩)/\lo<=g/\Blk w g tHW #[Ah,Au,Av]/\StH lo R C F w Ah/\zBg w Au R/\zBg w Av R
theorem StH.below{lo R C:Nat}{F:Nat->Nat->Int}{w w':World}{v:Value}(h:StH lo R C F w v)(hb:Below w.heap.size w w'):StH lo R C F w' v:=by
 obtain⟨bs,h1,h2⟩:=h;exact⟨bs,h1.below hb,h2⟩
theorem zJJ(lo R C:Nat)(F:Nat->Nat->Int):qS (StM lo R C F):=fun _ _ _ x ⟨o,c,h1,h2⟩=>⟨o,c,h1,h2.below x⟩
theorem zJI(lo R C:Nat)(F:Nat->Nat->Int):qS (StH lo R C F):=fun _ _ _ x h=>h.below x
theorem zJC(R:Nat):qS (zPr R):=fun _ _ _ x h=>zBg.below h x
theorem zJH(lo R C:Nat)(F:Nat->Nat->Int):qS (StB lo R C F):=fun _ _ _ x ⟨a,b,c,h1,h2,h3,h4⟩=>⟨a,b,c,h1,h2.below x,h3.below x,h4.below x⟩
theorem zFP(lo R C:Nat)(F:Nat->Nat->Int):qS (StP lo R C F):=fun _ _ _ x ⟨g,a,b,c,h1,h0,h5,h2,h3,h4⟩=>⟨g,a,b,c,h1,h0,h5.below x,h2.below x,h3.below x,h4.below x⟩
theorem zF5(w:World)(n:Nat)(hn:n<=1000000):zBg (w.alloc (.cells (madeCells (Value.slice none 0 0).cells (n*1)) tR)) (.slice (some ⟨w.heap.size,0,none⟩) n n) n:=by
 refine⟨_,_,_,rfl,xgf _,by omega,Blk.new _ _ _,fun i hi=>?_⟩;unfold madeCells;rw[Array.getElem?_eq_getElem (by simp;omega)];simp[Value.cells,Nat.mod_one]
theorem zGo(w:World)(n:Nat)(hn:n<=1000000):zBg (w.alloc (.cells (madeCells #[Value.slice none 0 0] n) tR)) (.slice (some ⟨w.heap.size,0,none⟩) n n) n:=by
 have h:=zF5 w n hn;rw[Nat.mul_one]at h;exact h
theorem zN8{B:Nat}(hB:BSm B)(v kv:Value)(M:List (List Int))(R C lo:Nat)(w:World)(h:zHP w v R C M)(hF:jK R C M)(hk:zH w kv 1)(hR:R<=1000000)(hC:C<=1000000)(hok:okF B R C (ent M))(s1:Sm 1)(hlo:lo<=w.heap.size):
  Calls Tryz.prog 217 #[v,kv] w fun e w'=>∃v,e= .returned v/\StM lo R C (ent M) w' v/\Below w.heap.size w w':=by
 refine(zJM v kv M R C 1 w h hF hk hR hC ?_ s1).mono fun e w' hr=>?_
 ·intro r hr z hz
  obtain⟨i,hi,ei⟩:=List.getElem_of_mem hr;obtain⟨j,hj,ej⟩:=List.getElem_of_mem hz;have e1:M[i]?=some r:=by rw[xga hi,ei]
  have e2:r[j]?=some z:=by rw[xga hj,ej]
  have e3:=hF.2 r hr;have:=hok i (by rw[<-hF.1];exact hi) j oM;rw[zAU e1 e2]at this;exact hB.sm _ this
 ·have hq:zX R C (fun i j=>1*ent M i j)=zX R C (ent M):=qK fun i _ j _=>Int.one_mul _
  rw[hq]at hr;obtain⟨v,rfl,⟨o,c,bs,h1,h2,h3⟩,hb⟩:=zAs.within hr;exact⟨v,rfl,⟨o,c,h1,bs,h2,fun b hb=>Nat.le_trans hlo (h3 b hb).1⟩,hb⟩
theorem zLb{B:Nat}(hB:BSm B)(v:Value)(M:List (List Int))(R C:Nat)(w:World)(h:zHP w v R C M)(hF:jK R C M)(hR:R<=1000000)(hC:C<=1000000)(hok:okF B R C (ent M))(s1:Sm 1):
  Calls Tryz.prog 150 #[v] w fun e w'=>∃v,e= .returned v/\StP w.heap.size R C (ent M) w' v/\Below w.heap.size w w':=by
 have h0:=h;obtain⟨A,rfl,h⟩:=h;obtain⟨ao,n,cap,rfl,e2,e3,e4,-⟩:=id h;obtain rfl:R=n:=by rw[<-e2,hF.1]
 have HF:=xgv hF;have HOK:=xgv hok;have H0:=xgv h0;have S1:=xgv s1;clear hok h0 hF e2 s1;go_enter Tryz.func150,Tryz.ntmps150;go_upto_region 1 with(fail)
 refine zB ?_;intro W0 hW0;obtain⟨hB0,bx1,hs0⟩:=zK hW0;obtain⟨c1,c2,c3,c4,c5,c6⟩:=bx1.three;have hl1:=zJJ W0.heap.size R C (ent M);have hl2:=zJI W0.heap.size R C (ent M);have hl3:=zJC R;have hl4:=zJH W0.heap.size R C (ent M);have hl5:=zFP W0.heap.size R C (ent M);have hmk:=fun W=>mkR (R:Int) R rfl oM W
 clear hW0;refine zC 12 rfl (RV W0 _ [E 0 3 (.agg #[.int .i64 R,.int .i64 C,.slice ao R cap]),EI 1 4 (1),⟨2,5,StM W0.heap.size R C (ent M)⟩,⟨3,6,StH W0.heap.size R C (ent M)⟩,VP 4 7 w.heap.size 0,VN 5 8 R,⟨6,9,zPr R⟩,VP 7 10 w.heap.size 0,VN 8 11 R,⟨9,12,zPr R⟩,⟨10,13,StB W0.heap.size R C (ent M)⟩,⟨11,14,StP W0.heap.size R C (ent M)⟩]) kR RV.start (RV.fin kR ?fin1) ?steps1
 case steps1=>
  refine⟨?_,?_,?_,?_,?_,?_,?_,?_,?_,?_,?_,?_,trivial⟩<;>(intro L T wS hL hd hcl hI K hK;try refine zA rfl ?_)
  ·have zt:=hI.k 1 rfl kR
   have cc0:=hI.cell c1;have cc1:=hI.cell c2;have cc2:=hI.cell c3;exact xgu
  ·go_simp
   refine(zBF 1 _ oM oM).mono ?_;exact xgo
  ·have zt0:=hI.e mm0 (hd 0)
   obtain⟨v1,zt1,h1⟩:=hI.vi mm1 (hd 1);go_simp;refine(zN8 hB _ _ M R C W0.heap.size _ ((H0.out.below hB0).below hI.bel) HF.out h1 hR hC HOK.out S1.out hI.bel.size).mono ?_;rintro e wa ⟨v,rfl,hv,hba⟩;exact hK _ _ ((hI.world hba).y mm2 hv)
  ·obtain⟨v2,zt2,h2⟩:=hI.v mm2 (hd 2)
   obtain⟨o,c,rfl,h2'⟩:StM W0.heap.size R C (ent M) wS v2:=h2;go_simp;exact hK _ _ (hI.y mm3 h2')
  ·exact xgs (hI.k 1 rfl kR)
  ·have zt4:=hI.e mm4 (hd 4)
   have cc0:=hI.cell c1;exact xgu
  ·obtain⟨_,zt5,rfl⟩:=hI.v mm5 (hd 5)
   go_simp;exact hK _ _ ((hI.world ((Below.refl _ _).alloc (xgf _) _)).y mm6 (by first|exact zF5 wS R hR|exact zGo wS R hR))
  ·exact xgs (hI.k 1 rfl kR)
  ·have zt7:=hI.e mm7 (hd 7)
   have cc0:=hI.cell c1;exact xgu
  ·obtain⟨_,zt8,rfl⟩:=hI.v mm8 (hd 8)
   go_simp;exact hK _ _ ((hI.world ((Below.refl _ _).alloc (xgf _) _)).y mm9 (by first|exact zF5 wS R hR|exact zGo wS R hR))
  ·obtain⟨v3,zt3,h3'⟩:=hI.v mm3 (hd 3)
   obtain⟨v6,zt6,h6'⟩:=hI.v mm6 (hd 6);obtain⟨v9,zt9,h9'⟩:=hI.v mm9 (hd 9);have h3q:StH W0.heap.size R C (ent M) wS v3:=h3';have h6q:zBg wS v6 R:=h6';have h9q:zBg wS v9 R:=h9';obtain⟨bs3,h3w,h3z⟩:=id h3q;obtain⟨o3,c3,rfl⟩:=h3w.shape;obtain⟨g6,c6,_,rfl,-⟩:=id h6q;obtain⟨g9,c9,_,rfl,-⟩:=id h9q;go_simp;exact hK _ _ (hI.y zAC ⟨_,_,_,rfl,h3q,h6q,h9q⟩)
  ·obtain⟨v10,zt10,h10⟩:=hI.v zAC (hd 10)
   obtain⟨Ah,Au,Av,rfl,h3q,h6q,h9q⟩:StB W0.heap.size R C (ent M) wS v10:=h10;have hba:=(Below.refl wS.heap.size wS).alloc (xgf _) (.cells #[Ah,Au,Av] tHW);obtain⟨bs3,h3w,h3z⟩:=id h3q;obtain⟨o3,c3,rfl⟩:=h3w.shape;obtain⟨g6,c6,_,rfl,-⟩:=id h6q;obtain⟨g9,c9,_,rfl,-⟩:=id h9q;go_simp;exact hK _ _ ((hI.world hba).y zAJ ⟨_,_,_,_,rfl,hI.bel.size,Blk.new _ _ _,h3q.below hba,h6q.below hba,h9q.below hba⟩)
 intro w2 hbw2 T hT;simp only[Fin,E,EI,VP,VSl,VN,xgg,xgh,xgi,xgj]at hT;obtain⟨va1,ha1,va2,ha2,va3,ha3,va6,ha6,va9,ha9,va10,ha10,va11,ha11,rfl⟩:=hT;simp only[xgl,xgk];obtain⟨g,Ah,Au,Av,rfl,g1,g2,g3,g4,g5⟩:StP W0.heap.size R C (ent M) w2 va11:=ha11;obtain⟨bs,k1,k2⟩:=g3;have hsw:=hB0.size;clear c1 c2 c3 c4 c5 c6 hmk ha10 ha9 ha6 ha3 ha2;go_wp2;go_ret;exact⟨_,rfl,⟨g,Ah,Au,Av,rfl,by omega,g2,⟨bs,k1,fun b hb=>by have:=k2 b hb;omega⟩,g4,g5⟩,nx hB0 hbw2⟩
end Go.Proofs.YtnbmaipobhppcaaGreat
