/- matrix.valid, sizes; slices.Equal. slices.Equal on sizes; matrix.each, matrix.Scale. matrix.each for Scale; matrix.Scale. matrix.times. matrix.Mul. matrix.Equal, for matrices of the same sizes. -/
import Derived.ChangeKeysEq
import Derived.Laws.StructEq
import Derived.Test.YtgnmdddaiefooaaGreatR28
set_option linter.unusedVariables false
set_option linter.unusedSimpArgs false
set_option linter.unusedSectionVars false
set_option maxHeartbeats 16000000
set_option maxRecDepth 100000
namespace Go.Proofs.YtgnmdddaiefooaaGreat
open Go.RowKit
abbrev tM:TypeId:=28
theorem Blk.six{w:World}{g:Nat}{t:TypeId}{c0 c1 c2 c3 c4 c5:Value}(h:Blk w g t #[c0,c1,c2,c3,c4,c5]):
  w.cell? ⟨g,0,none⟩=some c0/\w.cell? ⟨g,1,none⟩=some c1/\w.cell? ⟨g,2,none⟩=some c2/\w.cell? ⟨g,3,none⟩=some c3/\w.cell? ⟨g,4,none⟩=some c4/\w.cell? ⟨g,5,none⟩=some c5:=
 ⟨h.cell 0,h.cell 1,h.cell 2,h.cell 3,h.cell 4,h.cell 5⟩
theorem zJi(b:Nat)(c:Nat)(R1 C1 R2 C2:Int)(A1 A2:Value)(M1 M2:List (List Int))(w:World)(hb0:Blk w b tM #[.int .i64 R1,.int .i64 C1,A1,.int .i64 R2,.int .i64 C2,A2])(hc:2<=c)(hc2:c<=9223372036854775807)
  (h1:zBm w (.agg #[.int .i64 R1,.int .i64 C1,A1]) R1 C1 M1) (h2:zBm w (.agg #[.int .i64 R2,.int .i64 C2,A2]) R2 C2 M2):
  Calls Tryz.prog 116 #[.slice (some ⟨b,0,none⟩) 2 c] w fun e w'=>e= .returned (.bool (decide (qR R1 C1 M1/\qR R2 C2 M2)))/\Below w.heap.size w w':=by
 obtain⟨ans,hans⟩:∃ans:Bool,decide (qR R1 C1 M1/\qR R2 C2 M2)=ans:=⟨_,rfl⟩;rw[hans];have HA:=xgv hans;obtain⟨o1,n1,k1,rfl⟩:∃o n k,A1= .slice o n k:=by
  obtain⟨A,e,ao,n,cap,rfl,-⟩:=h1;injection e with e
  simp only[Array.mk.injEq,List.cons.injEq]at e;exact⟨_,_,_,e.2.2.1⟩
 obtain⟨o2,n2,k2,rfl⟩:∃o n k,A2= .slice o n k:=by
  obtain⟨A,e,ao,n,cap,rfl,-⟩:=h2;injection e with e
  simp only[Array.mk.injEq,List.cons.injEq]at e;exact⟨_,_,_,e.2.2.1⟩
 clear hans;go_enter Tryz.func116,Tryz.ntmps116;go_wp2;go_loopw [7] (fun iv wr=>∃k:Nat,k<=2/\iv= .int .i64 k/\Below w.heap.size w wr/\qM ((0<k->qR R1 C1 M1)/\(1<k->qR R2 C2 M2))) (fun iv _=>2-(intOf iv).toNat)
 case atStart=>exact⟨0,by omega,rfl,Below.refl _ _,⟨⟨fun h=>by omega,fun h=>by omega⟩⟩⟩
 case round=>
  obtain⟨k,hk,rfl,hb,hall⟩:=hrel;obtain⟨c1,c2,c3,c4,c5,c6⟩:=(hb0.below hb).six;by_cases hk0:k=0
  ·subst hk0
   go_upto_region 4 with(fail)
   refine zC ?_;intro W6 hW6;obtain⟨hB6,T7,hs6⟩:=zN hW6;obtain⟨d1,d2,d3,d4,d5,d6⟩:=T7.three;clear c1 c2 c3 c4 c5 c6 hW6;go_wp2_with fail
   refine(zCG _ R1 C1 M1 W6 ((h1.below hb).below hB6)).mono ?_;rintro e w7 ⟨rfl,hb7⟩;by_cases hv:qR R1 C1 M1
   ·rw[decide_eq_true hv]
    have HV:=xgv hv;clear hv d1 d2 d3 d4 d5 d6;go_wp2;go_roundw
    case rel=>exact⟨1,by omega,by simp,nx (nx hb hB6) hb7,⟨⟨fun _=>HV.out,fun h=>by omega⟩⟩⟩
    case measure=>simp[intOf]
   ·rw[decide_eq_false hv]
    have HV:=xgv hv;clear hv d1 d2 d3 d4 d5 d6;go_wp2;go_ret;refine⟨?_,nx (nx hb hB6) hb7⟩;have h3:ans=false:=by rw[<-HA.out];exact decide_eq_false (fun hh=>HV.out (by first|exact hh.1|exact hh.2))
    rw[h3];rfl
  ·by_cases hk1:k=1
   ·subst hk1
    go_upto_region 4 with(fail)
    refine zC ?_;intro W6 hW6;obtain⟨hB6,T7,hs6⟩:=zN hW6;obtain⟨d1,d2,d3,d4,d5,d6⟩:=T7.three;clear c1 c2 c3 c4 c5 c6 hW6;go_wp2_with fail
    refine(zCG _ R2 C2 M2 W6 ((h2.below hb).below hB6)).mono ?_;rintro e w7 ⟨rfl,hb7⟩;by_cases hv:qR R2 C2 M2
    ·rw[decide_eq_true hv]
     have HV:=xgv hv;clear hv d1 d2 d3 d4 d5 d6;go_wp2;go_roundw
     case rel=>exact⟨2,by omega,by simp,nx (nx hb hB6) hb7,⟨⟨fun _=>hall.out.1 oM,fun _=>HV.out⟩⟩⟩
     case measure=>simp[intOf]
    ·rw[decide_eq_false hv]
     have HV:=xgv hv;clear hv d1 d2 d3 d4 d5 d6;go_wp2;go_ret;refine⟨?_,nx (nx hb hB6) hb7⟩;have h3:ans=false:=by rw[<-HA.out];exact decide_eq_false (fun hh=>HV.out (by first|exact hh.1|exact hh.2))
     rw[h3];rfl
   ·obtain rfl:k=2:=by omega
    go_wp2;go_ret;refine⟨?_,hb⟩;have h3:ans=true:=by rw[<-HA.out];exact decide_eq_true ⟨hall.out.1 oM,hall.out.2 oM⟩
    rw[h3];rfl
abbrev tP:TypeId:=134
theorem Tryz.infoP:(Tryz.prog.info? tP).map (fun i=>(i.zero,i.size,i.bytes))=some (some (.agg #[.int .i64 0,.int .i64 0]),2,16):=by kernel_rfl
theorem zQR{w:World}{ops:Array Oper}{rest:List Oper}{o:Oper}{a:Act}{Q:Exit->Act->World->Prop}(hgd:o.guard=none)(s x:Operand)
  (ho:o.op= .call {callee:=.builtin .append,args:=#[s,x],argTypes:=#[133,133]})
  (base:Nat) (v:Value) (n:Nat) (xs:List Value) (hs:a.eval s=v) (hown:w.ownsRow base tP 2 v n xs) (b c:Nat) (z1 z2:Int) (hx:a.eval x= .slice (some ⟨b,0,none⟩) 1 c)
  (hb:Blk w b tP #[.int .i64 z1,.int .i64 z2]) (hlen:n+1<=1099511627776) (hbase:base<=w.heap.size)
  (h:∀v' w',w'.ownsRow base tP 2 v' (n+1) (xs++ [.int .i64 z1,.int .i64 z2])->w.grownBy w' v.ownBlock->wpList Tryz.prog ops Q rest (a.put o.dst v') w'):wpList Tryz.prog ops Q (o::rest) a w:=by
 obtain⟨i0,hi,hz0,hz1,hz2⟩:=info_parts Tryz.infoP;obtain⟨c1,c2,-,-⟩:=hb.two;refine wpList_append_own w hgd s x 133 ho base tP i0 _ 2 16 Tryz.underlying133 hi hz0 hz1 hz2 rfl oM v n xs hs hown ⟨b,0,none⟩ 1 c [.int .i64 z1,.int .i64 z2] hx rfl ?_ ?_ (by simp[maxLen];omega) oM hbase ?_
 ·intro j u hj
  rw[Addr.add_lit];match j with
  |0=>simp at hj;subst hj;exact c1
  |1=>simp at hj;subst hj;exact c2
  |j+2=>simp at hj
 ·intro u hu
  simp at hu;rcases hu with rfl|rfl<;>rfl
 ·intro v' w' h1 h2 _
  exact h v' w' h1 h2
def zA4(z1 z2:Int):World->Value->Prop:=fun w v=>∃g cap cs,v= .slice (some ⟨g,0,none⟩) 1 cap/\1<=cap/\cap<=9223372036854775807/\Blk w g tP cs/\cs[0]?=some (.int .i64 z1)/\cs[1]?=some (.int .i64 z2)
theorem zBA(z1 z2:Int):qQ (zA4 z1 z2):=fun _ _ _ e ⟨g,cap,cs,h1,h2,h3,h4,h5⟩=>⟨g,cap,cs,h1,h2,h3,h4.below e,h5⟩
theorem zBX(b c:Nat)(R C:Int)(A:Value)(w:World)(hb0:Blk w b tM #[.int .i64 R,.int .i64 C,A])(hA:∃o n k,A= .slice o n k)(hc:1<=c)(hc2:c<=9223372036854775807):
  Calls Tryz.prog 118 #[.slice (some ⟨b,0,none⟩) 1 c] w fun e w'=>∃v,e= .returned v/\zA4 R C w' v/\Below w.heap.size w w':=by
 obtain⟨o1,n1,k1,rfl⟩:=hA;go_enter Tryz.func118,Tryz.ntmps118;go_wp2;go_loopw [3,8] (fun u iv wr=>∃k:Nat,k<=1/\iv= .int .i64 k/\Below w.heap.size w wr/\wr.ownsRow w.heap.size tP 2 u k (if k=0 then []else [.int .i64 R,.int .i64 C])) (fun _ iv _=>1-(intOf iv).toNat)
 case atStart=>exact⟨0,by omega,rfl,Below.refl _ _,World.ownsRow_nil _ _ _ _⟩
 case round=>
  obtain⟨k,hk,rfl,hb,hown⟩:=hrel;by_cases hk0:k=0
  ·subst hk0
   rw[if_pos rfl]at hown;obtain⟨c1,c2,c3,c4,c5,c6⟩:=(hb0.below hb).three;go_upto_region 5 with(fail)
   refine zC ?_;intro W6 hW6;obtain⟨hB6,T7,hs6⟩:=zN hW6;obtain⟨d1,d2,d3,d4,d5,d6⟩:=T7.three;have hown6:=hown.kept (row:=none) ⟨hB6.os,hB6.tape,hB6.output,hB6.size,fun k hk _=>hB6.block k hk⟩ (by cases hv:u3.ownBlock<;>simp);have hbs:=(nx hb hB6).size;clear c1 c2 c3 c4 c5 c6 hW6;have hown7:=hown6.kept (row:=none) (w':=W6.alloc (.cells #[.int .i64 R,.int .i64 C] tP)) (by
    have hB7:Below W6.heap.size W6 (W6.alloc (.cells #[.int .i64 R,.int .i64 C] tP)):=(Below.refl _ _).alloc (xgf _) _;exact⟨hB7.os,hB7.tape,hB7.output,hB7.size,fun k hk _=>hB7.block k hk⟩) (by cases hv:u3.ownBlock<;>simp)
   go_wp2_with (at_builtin;refine zQR rfl _ _ rfl w.heap.size u3 0 [] rfl hown7 W6.heap.size 1 R C rfl (Blk.new _ _ _) oM (by simp;omega) ?_;intro v' w' hown8 hgr)
   have hgr:World.grownBy (W6.alloc (.cells #[.int .i64 R,.int .i64 C] tP)) w' (Value.ownBlock u3):=hgr;have hB9:Below w.heap.size w w':=((nx hb hB6).alloc oM _).grown hgr (by simp;omega) (fun g hg=>by
    rcases hown.2 with⟨rfl,-⟩|⟨g',cap,cur,rfl,h1,-⟩
    ·cases hg
    ·simp only[Value.ownBlock,Option.some.injEq]at hg
     omega)
   go_roundw
   case rel=>exact⟨1,by omega,by simp,hB9,by rw[if_neg oM];simpa using hown8⟩
   case measure=>simp[intOf]
  ·obtain rfl:k=1:=by omega
   rw[if_neg oM]at hown;go_wp2;go_ret;refine⟨_,rfl,?_,hb⟩;rcases hown.2 with⟨-,h0⟩|⟨g,cap,cur,rfl,h1,h2,h3,h4,h5,h6⟩
   ·omega
   ·refine⟨g,cap,cur,rfl,h3,h4,h2,?_,?_⟩
    ·have:(cur.toList.take 2)[0]?=some (.int .i64 R):=by rw[h6];rfl
     rw[List.getElem?_take_of_lt oM]at this;simpa using this
    ·have:(cur.toList.take 2)[1]?=some (.int .i64 C):=by rw[h6];rfl
     rw[List.getElem?_take_of_lt oM]at this;simpa using this
theorem Tryz.infoNt:(Tryz.prog.info? 3).map (fun i=>(i.zero,i.size,i.bytes))=some (some (.int .i64 0),1,8):=by kernel_rfl
theorem Tryz.cellsN:Tryz.prog.cellsOf 3=1:=by kernel_rfl
theorem zHx(W:World)(a b c d:Int):(Op.equalIn 10000 tP (.agg #[.int .i64 a,.int .i64 b]) (.agg #[.int .i64 c,.int .i64 d])).run Tryz.prog W= .ok (decide (a=c/\b=d)) W:=by
 obtain⟨i0,hi,-,hz1,-⟩:=info_parts Tryz.infoNt;have hp:∀(xs:Array Value) (i:Nat) (v:Value),xs[i]?=some v->(part 3 xs i).run Tryz.prog W= .ok v W:=by
  intro xs i v h;simp[part,isAgg,run_underlying Tryz.underlying3,h,go_sem]
 rw[run_equalIn_array W 9999 _ _ Tryz.underlying134 hi,Tryz.cellsN];have he:∀x y:Int,(Op.equalIn 9999 3 (.int .i64 x) (.int .i64 y)).run Tryz.prog W= .ok (x==y) W:=fun x y=>run_equalIn_int W 9998 3 .i64 .i64 x y Tryz.underlying3
 have p0:=hp #[.int .i64 a,.int .i64 b] 0 _ rfl;have p1:=hp #[.int .i64 a,.int .i64 b] 1 _ rfl;have q0:=hp #[.int .i64 c,.int .i64 d] 0 _ rfl;have q1:=hp #[.int .i64 c,.int .i64 d] 1 _ rfl;have hr:List.range 2= [0,1]:=rfl;rw[hr];simp only[Op.eqItems,Sem.run_bind,Nat.zero_mul,Nat.one_mul,p0,p1,q0,q1,Result.andThen_ok,he];by_cases h1:a=c
 ·by_cases h2:b=d
  ·simp[h1,h2,go_sem]
  ·simp[h1,h2,go_sem]
 ·simp[h1,go_sem]
theorem zDt(v1 v2:Value)(R1 C1 R2 C2:Int)(w:World)(h1:zA4 R1 C1 w v1)(h2:zA4 R2 C2 w v2):
  Calls Tryz.prog 117 #[v1,v2] w fun e w'=>e= .returned (.bool (decide (R1=R2/\C1=C2)))/\Below w.heap.size w w':=by
 obtain⟨ans,hans⟩:∃ans:Bool,decide (R1=R2/\C1=C2)=ans:=⟨_,rfl⟩;rw[hans];have HA:=xgv hans;obtain⟨g1,cap1,cs1,rfl,k1,k2,b1,e1,e2⟩:=h1;obtain⟨g2,cap2,cs2,rfl,l1,l2,b2,f1,f2⟩:=h2;have heq:=fun W=>zHx W R1 C1 R2 C2
 rw[hans]at heq;clear hans;go_enter Tryz.func117,Tryz.ntmps117;go_wp2;go_loopw [13] (fun iv wr=>∃k:Nat,k<=1/\iv= .int .i64 k/\Below w.heap.size w wr/\qM (0<k->R1=R2/\C1=C2)) (fun iv _=>1-(intOf iv).toNat)
 case atStart=>exact⟨0,by omega,rfl,Below.refl _ _,⟨fun h=>by omega⟩⟩
 case round=>
  obtain⟨k,hk,rfl,hb,hall⟩:=hrel;by_cases hk0:k=0
  ·subst hk0
   have p1:=((b1.below hb).cell 0).trans e1;have p2:=((b1.below hb).cell 1).trans e2;have q1:=((b2.below hb).cell 0).trans f1;have q2:=((b2.below hb).cell 1).trans f2;go_upto_region 6 with(fail)
   refine zF rfl (RV wr _ [VSl 0 16 g1 1 cap1,VN 1 17 0,VP 2 18 g1 0,E 3 19 (.agg #[.int .i64 R1,.int .i64 C1]),VSl 4 20 g2 1 cap2,VN 5 21 0,VP 6 22 g2 0,E 7 23 (.agg #[.int .i64 R2,.int .i64 C2]),E 8 24 (.bool (!ans))]) kR RV.start (RV.fin kR ?fin1) ?steps1
   case steps1=>
    refine⟨?_,?_,?_,?_,?_,?_,?_,?_,?_,trivial⟩<;>(intro L T wS hL hd hcl hI K hK;try refine zA rfl ?_)
    ·exact xgs (hI.k 0 rfl kR)
    ·exact xgs (hI.k 5 rfl kR)
    ·exact xgt (hI.e mm0 (hd 0)) (hI.e mm1 (hd 1))
    ·have zt2:=hI.e mm2 (hd 2)
     have cc0:=hI.cell p1;have cc1:=hI.cell p2;exact xgu
    ·exact xgs (hI.k 1 rfl kR)
    ·exact xgs (hI.k 5 rfl kR)
    ·exact xgt (hI.e mm4 (hd 4)) (hI.e mm5 (hd 5))
    ·have zt6:=hI.e mm6 (hd 6)
     have cc0:=hI.cell q1;have cc1:=hI.cell q2;exact xgu
    ·exact xgt (hI.e mm3 (hd 3)) (hI.e mm7 (hd 7))
   intro w9 hbw9 T hT;simp only[Fin,E,EI,VP,VSl,VN,xgg,xgh,xgi,xgj]at hT;subst hT;cases ans with
   |true=>
    clear heq;go_wp2;go_roundw
    case rel=>exact⟨1,by omega,by simp,nx hb hbw9,⟨fun _=>of_decide_eq_true HA.out⟩⟩
    case measure=>simp[intOf]
   |false=>
    clear heq;go_wp2;go_ret;exact⟨rfl,nx hb hbw9⟩
  ·obtain rfl:k=1:=by omega
   go_wp2;go_ret;refine⟨?_,hb⟩;have h3:ans=true:=by rw[<-HA.out];exact decide_eq_true (hall.out oM)
   rw[h3];rfl
theorem zH3(b:Nat)(c:Nat)(R1 C1 R2 C2:Int)(A1 A2:Value)(M1 M2:List (List Int))(w:World)(hb0:Blk w b tM #[.int .i64 R1,.int .i64 C1,A1,.int .i64 R2,.int .i64 C2,A2])(hc:2<=c)(hc2:c<=9223372036854775807)
  (h1:zBm w (.agg #[.int .i64 R1,.int .i64 C1,A1]) R1 C1 M1) (h2:zBm w (.agg #[.int .i64 R2,.int .i64 C2,A2]) R2 C2 M2) (v1:qR R1 C1 M1) (v2:qR R2 C2 M2):
  Calls Tryz.prog 116 #[.slice (some ⟨b,0,none⟩) 2 c] w fun e w'=>∃v,e= .returned v/\v= .bool true/\Below w.heap.size w w':=by
 refine(zJi b c R1 C1 R2 C2 A1 A2 M1 M2 w hb0 hc hc2 h1 h2).mono ?_;rintro e w' ⟨rfl,hb⟩;exact⟨_,rfl,by rw[decide_eq_true ⟨v1,v2⟩],hb⟩
theorem zFZ(v1 v2:Value)(R C:Int)(w:World)(h1:zA4 R C w v1)(h2:zA4 R C w v2):
  Calls Tryz.prog 117 #[v1,v2] w fun e w'=>∃v,e= .returned v/\v= .bool true/\Below w.heap.size w w':=by
 refine(zDt v1 v2 R C R C w h1 h2).mono ?_;rintro e w' ⟨rfl,hb⟩;exact⟨_,rfl,by rw[decide_eq_true ⟨rfl,rfl⟩],hb⟩
def zPI(a b c d e f:Value):World->Value->Prop:=fun w v=>∃g,v= .slice (some ⟨g,0,none⟩) 2 2/\Blk w g tM #[a,b,c,d,e,f]
def zNO(a b c:Value):World->Value->Prop:=fun w v=>∃g,v= .slice (some ⟨g,0,none⟩) 1 1/\Blk w g tM #[a,b,c]
theorem zCe(a b c d e f:Value):qQ (zPI a b c d e f):=fun _ _ _ x ⟨g,h1,h2⟩=>⟨g,h1,h2.below x⟩
theorem zAt(a b c:Value):qQ (zNO a b c):=fun _ _ _ x ⟨g,h1,h2⟩=>⟨g,h1,h2.below x⟩
def zPU(w:World)(R C:Nat)(M:List (List Int))(e:Ending)(w':World):Prop:=∃v bs,e= .returned (.tuple #[v,.int .i64 0])/\zMt w' w.heap.size v R C bs M/\Below w.heap.size w w'
theorem zLx(A:Value)(M:List (List Int))(R C:Nat)(k:Int)(kb:Nat)(x y:Value)(w:World)(h:zBm w (.agg #[.int .i64 R,.int .i64 C,A]) R C M)(hF:yG R C M)(hR:R<=1000000)(hC:C<=1000000)
  (hk:Blk w kb tI #[x,y]) (hkv:zR w (.agg #[x,y]) k) (hS:∀r∈M,∀z∈r,Sm z) (s2:Sm k):
  Calls Tryz.prog 142 #[.agg #[.int .i64 R,.int .i64 C,A],.agg #[.int .i64 R,.int .i64 C,A],.func (.func 143) #[] #[.pointer (some ⟨kb,0,none⟩)]] w (zPU w R C (genM R C (fun i j=>k*ent M i j))):=by
 have hmf:∀(fn:Fn) (first cap:Array Value) (w:World),(Instr.makeFunc fn first cap).run Tryz.prog w= .ok (.func fn first cap) w:=fun _ _ _ _=>rfl
 have h0:=h;obtain⟨A',eA,h⟩:=h;obtain rfl:A=A':=by
  injection eA with eA
  simp only[Array.mk.injEq,List.cons.injEq]at eA;exact eA.2.2.1
 obtain⟨ao,n,cap,rfl,e2,e3,e4,-⟩:=id h;have HF:=xgv hF;have HV:=xgv hF.valid;have HS:=xgv hS;have HK:=xgv s2;have HH:=xgv h;have HH0:=xgv h0;obtain⟨G,hG⟩:∃G:Nat->Nat->Int,(fun i j=>k*ent M i j)=G:=⟨_,rfl⟩;rw[hG];have HG:=xgv hG;clear hF hS s2 hG e2 h h0 eA;have hl1:=zCe (.int .i64 R) (.int .i64 C) (.slice ao n cap) (.int .i64 R) (.int .i64 C) (.slice ao n cap);have hl2:=zAt (.int .i64 R) (.int .i64 C) (.slice ao n cap);have hl3:=zBA R C;go_enter Tryz.func142,Tryz.ntmps142;go_upto_region 1 with(fail)
 refine zC ?_;intro W0 hW0;obtain⟨hB0,bx1,bx2,bf,br,hs0⟩:=zHD hW0;obtain⟨c1,c2,c3,c4,c5,c6⟩:=bx1.three;obtain⟨d1,d2,d3,d4,d5,d6⟩:=bx2.three;clear hW0;refine zF rfl (RV W0 _ [E 0 9 (.agg #[.int .i64 R,.int .i64 C,.slice ao n cap]),E 1 10 (.agg #[.int .i64 R,.int .i64 C,.slice ao n cap]),⟨2,11,zPI (.int .i64 R) (.int .i64 C) (.slice ao n cap) (.int .i64 R) (.int .i64 C) (.slice ao n cap)⟩,E 3 12 (.bool true),E 4 13 (.bool false),E 5 14 (.bool false),E 6 15 (.agg #[.int .i64 R,.int .i64 C,.slice ao n cap]),⟨7,16,zNO (.int .i64 R) (.int .i64 C) (.slice ao n cap)⟩,⟨8,17,zA4 R C⟩,E 9 18 (.agg #[.int .i64 R,.int .i64 C,.slice ao n cap]),⟨10,19,zNO (.int .i64 R) (.int .i64 C) (.slice ao n cap)⟩,⟨11,20,zA4 R C⟩,E 12 21 (.bool true),E 13 22 (.bool false),E 14 23 (.bool false)]) kR RV.start (RV.fin kR ?fin1) ?steps1
 case steps1=>
  refine⟨?_,?_,?_,?_,?_,?_,?_,?_,?_,?_,?_,?_,?_,?_,?_,trivial⟩<;>(intro L T wS hL hd hcl hI K hK;try refine zA rfl ?_)
  ·have zt:=hI.k 3 rfl kR
   have cc0:=hI.cell c1;have cc1:=hI.cell c2;have cc2:=hI.cell c3;exact xgu
  ·have zt:=hI.k 4 rfl kR
   have cc0:=hI.cell d1;have cc1:=hI.cell d2;have cc2:=hI.cell d3;exact xgu
  ·have zt0:=hI.e mm0 (hd 0)
   have zt1:=hI.e mm1 (hd 1);go_simp;exact hK _ _ ((hI.world ((Below.refl _ _).alloc (xgf _) _)).y mm2 ⟨_,rfl,Blk.new _ _ _⟩)
  ·obtain⟨v2,zt2,h2⟩:=hI.v mm2 (hd 2)
   obtain⟨g2,rfl,gb2⟩:=h2;go_simp;refine(zH3 g2 2 R C R C _ _ M M _ gb2 (xgf _) oM ((HH0.out.below hB0).below hI.bel) ((HH0.out.below hB0).below hI.bel) HV.out HV.out).mono ?_;rintro e wa ⟨v,rfl,hv,hba⟩;exact hK _ _ ((hI.world hba).y mm3 hv)
  ·exact xgs (hI.e mm3 (hd 3))
  ·exact xgs (hI.e mm4 (hd 4))
  ·have zg:=hI.e mm5 (hd 5)
   refine zA xgp ?_;have zt:=hI.k 3 rfl kR;have cc0:=hI.cell c1;have cc1:=hI.cell c2;have cc2:=hI.cell c3;exact xgu
  ·have zg:=hI.e mm5 (hd 5)
   refine zA xgp ?_;have zt6:=hI.e mm6 (hd 6);go_simp;exact hK _ _ ((hI.world ((Below.refl _ _).alloc (xgf _) _)).y mm7 ⟨_,rfl,Blk.new _ _ _⟩)
  ·have zg:=hI.e mm5 (hd 5)
   refine zA xgp ?_;obtain⟨v7,zt7,h7⟩:=hI.v mm7 (hd 7);obtain⟨g7,rfl,gb7⟩:=h7;go_simp;refine(zBX g7 1 R C _ _ gb7 ⟨_,_,_,rfl⟩ (xgf _) oM).mono ?_;rintro e wa ⟨v,rfl,hv,hba⟩;exact hK _ _ ((hI.world hba).y mm8 hv)
  ·have zg:=hI.e mm5 (hd 5)
   refine zA xgp ?_;have zt:=hI.k 4 rfl kR;have cc0:=hI.cell d1;have cc1:=hI.cell d2;have cc2:=hI.cell d3;exact xgu
  ·have zg:=hI.e mm5 (hd 5)
   refine zA xgp ?_;have zt9:=hI.e mm9 (hd 9);go_simp;exact hK _ _ ((hI.world ((Below.refl _ _).alloc (xgf _) _)).y yD ⟨_,rfl,Blk.new _ _ _⟩)
  ·have zg:=hI.e mm5 (hd 5)
   refine zA xgp ?_;obtain⟨v10,zt10,h10⟩:=hI.v yD (hd 10);obtain⟨g10,rfl,gb10⟩:=h10;go_simp;refine(zBX g10 1 R C _ _ gb10 ⟨_,_,_,rfl⟩ (xgf _) oM).mono ?_;rintro e wa ⟨v,rfl,hv,hba⟩;exact hK _ _ ((hI.world hba).y zAB hv)
  ·have zg:=hI.e mm5 (hd 5)
   refine zA xgp ?_;obtain⟨v8,zt8,h8⟩:=hI.v mm8 (hd 8);obtain⟨v11,zt11,h11⟩:=hI.v zAB (hd 11);go_simp;refine(zFZ _ _ R C _ h8 h11).mono ?_;rintro e wa ⟨v,rfl,hv,hba⟩;exact hK _ _ ((hI.world hba).y zAh hv)
  ·have zg:=hI.e mm5 (hd 5)
   refine zA xgp ?_;exact xgs (hI.e zAh (hd 12))
  ·exact xgt (hI.e mm5 (hd 5)) (hI.e zBv (hd 13))
 intro w1 hbw1 T hT;simp only[Fin,E,EI,VP,VSl,VN,xgg,xgh,xgi,xgj]at hT;obtain⟨va2,ha2,va7,ha7,va8,ha8,va10,ha10,va11,ha11,rfl⟩:=hT;have hBt:=nx hB0 hbw1;have bx1:=bx1.below hbw1;have bx2:=bx2.below hbw1;have bf:=bf.below hbw1;have br:=br.below hbw1;have hszb:=hBt.size;have hszb1:=hbw1.size;clear c1 c2 c3 c4 c5 c6 d1 d2 d3 d4 d5 d6 ha2 ha7 ha8 ha10 ha11;obtain⟨c1,c2,c3,c4,c5,c6⟩:=bx1.three;obtain⟨d1,d2,d3,d4,d5,d6⟩:=bx2.three;go_wp2_with fail
 refine(zJ4 _ M R C k (w.heap.size+1+1) kb x y w1 (HH.out.below hBt) HF.out hR hC bf (hk.below hBt) (hkv.ext (lx hBt)) HS.out HK.out).mono ?_;rintro e w2 ⟨rfl,⟨bs,hbl,ho⟩,hb2⟩;rw[HG.out]at ho;have hBt2:=nx hBt hb2;have bx1:=bx1.below hb2;have br:=br.below hb2;clear c1 c2 c3 c4 c5 c6 d1 d2 d3 d4 d5 d6;obtain⟨c1,c2,c3,c4,c5,c6⟩:=bx1.three;obtain⟨r1,r2,r3,r4,r5,r6⟩:=br.three;have lr:=br.lt;go_wp2;refine bodyPost_ret (zAo rfl _ rfl (br.put3 _ _ _) rfl) rfl ⟨_,bs,rfl,⟨hbl,_,rfl,?_⟩,zP (zP (zP hBt2 oM 0 _) oM 1 _) oM 2 _⟩;exact(ho.keep (fun k hk=>qZ _ _ k _ _ _ oM) (br.lext3 dE _ _ _)).mono oM
theorem zJE(v kv:Value)(M:List (List Int))(R C:Nat)(k:Int)(w:World)(h:zBm w v R C M)(hF:yG R C M)(hk:zR w kv k)(hR:R<=1000000)(hC:C<=1000000)
  (hS:∀r∈M,∀z∈r,Sm z) (s2:Sm k):
  Calls Tryz.prog 123 #[v,kv] w (zAc w R C (genM R C (fun i j=>k*ent M i j))):=by
 have hmf:∀(fn:Fn) (first cap:Array Value) (w:World),(Instr.makeFunc fn first cap).run Tryz.prog w= .ok (.func fn first cap) w:=fun _ _ _ _=>rfl
 have h0:=h;obtain⟨A,rfl,h⟩:=h;obtain⟨ao,n,cap,rfl,e2,e3,e4,-⟩:=id h;obtain⟨kn,ka,kl,kc,kx,rfl,hkx⟩:=id hk;have HF:=xgv hF;have HS:=xgv hS;have HK:=xgv s2;clear hF hS s2 hkx e2;obtain⟨G,hG⟩:∃G:Nat->Nat->Int,(fun i j=>k*ent M i j)=G:=⟨_,rfl⟩;rw[hG];have HG:=xgv hG;clear hG;go_enter Tryz.func123,Tryz.ntmps123;go_upto_region 1 with(fail)
 refine zC ?_;intro W0 hW0;obtain⟨hB0,bx1,bk,br,hs0⟩:=zAS hW0;obtain⟨c1,c2,c3,c4,c5,c6⟩:=bx1.three;clear hW0;go_wp2_with fail
 refine(zLx _ M R C k (w.heap.size+1) _ _ W0 (h0.below hB0) HF.out hR hC bk (hk.ext (lx hB0)) HS.out HK.out).mono ?_;rintro e w1 ⟨u,bs,rfl,⟨hbl,A2,rfl,ho⟩,hb1⟩;rw[HG.out]at ho;obtain⟨oo,on,oc,rfl,-,-,-,-⟩:=id ho.rows;have hBt:=nx hB0 hb1;have br:=br.below hb1;have hszb:=hb1.size;clear c1 c2 c3 c4 c5 c6;go_upto_region 2 with(fail)
 refine zC ?_;intro W3 hW3;obtain⟨hB3,T5,hs3⟩:=zN hW3;have br:=br.below hB3;have ho:=ho.below hB3;have hBt:=nx hBt hB3;obtain⟨c1,c2,c3,c4,c5,c6⟩:=T5.three;obtain⟨r1,r2,r3,r4,r5,r6⟩:=br.three;have lr:=br.lt;clear hW3;go_wp2;refine zX rfl rfl rfl (br.put3 _ _ _) ⟨_,bs,rfl,⟨hbl,_,rfl,?_⟩,zP (zP (zP hBt oM 0 _) oM 1 _) oM 2 _⟩;exact(ho.keep (fun k hk=>qZ _ _ k _ _ _ oM) (br.lext3 dE _ _ _)).mono oM
def zQf(zs:List Int)(M:List (List Int))(m j:Nat):Int:=zLR (fun t=>zs.getD t 0*ent M t j) m
def zPW(zs:List Int)(M:List (List Int))(m C:Nat):Prop:=∀j,j<C->∀t,t<m->Sm (zs.getD t 0)/\Sm (ent M t j)/\Sm (zs.getD t 0*ent M t j)/\Sm (zQf zs M t j)
def zNM(R C:Nat):World->Value->Prop:=fun w v=>∃g,v= .slice (some ⟨g,0,none⟩) R R/\Blk w g tR (qY R C [])
def zP4:World->Value->Prop:=fun w v=>∃g,v= .pointer (some ⟨g,0,none⟩)/\Blk w g tM #[.int .i64 0,.int .i64 0,.slice none 0 0]
def zND(n:Nat)(P:World->Value->Prop):World->Value->Prop:=fun w v=>P w v/\∀b o,(v= .pointer (some ⟨b,o,none⟩)∨∃l c,v= .slice (some ⟨b,o,none⟩) l c)->n<=b
def zPQ(n R C:Nat):World->Value->Prop:=fun w v=>∃s,v= .agg #[.int .i64 R,.int .i64 C,s]/\zND n (zNM R C) w s
theorem zLF{zs ys:List Int}{C:Nat}(h1:zs.length=C)(h2:ys.length=C):(∀j,j<C->decide (zs.getD j 0=ys.getD j 0)=true)↔zs=ys:=by
 refine⟨fun h=>?_,fun h j _=>by rw[h];simp⟩;apply List.ext_getElem
 ·omega
 ·intro j a b
  have:=of_decide_eq_true (h j oM);simpa[xgb,a,b]using this
theorem zJC(v1 v2:Value)(R C:Nat)(M1 M2:List (List Int))(w:World)(h1:qL w v1 R C M1)(h2:qL w v2 R C M2)(hF1:yG R C M1)(hF2:yG R C M2)(hC:C<=1000000):
  Calls Tryz.prog 71 #[v1,v2] w fun e w'=>e= .returned (.bool (decide (M1=M2)))/\Below w.heap.size w w':=by
 have H1:=xgv h1;have H2:=xgv h2;obtain⟨A1,rfl,h1⟩:=h1;obtain⟨A2,rfl,h2⟩:=h2;obtain⟨ao,n,cap,rfl,e2,e3,e4,-⟩:=id h1;obtain⟨bo,q,bcap,rfl,g2,g3,g4,-⟩:=id h2;obtain rfl:R=n:=by rw[<-e2,hF1.1]
 obtain rfl:R=q:=by rw[<-g2,hF2.1]
 obtain⟨ans,hans⟩:∃ans:Bool,decide (M1=M2)=ans:=⟨_,rfl⟩;rw[hans];have HA:=xgv hans;have HF1:=xgv hF1;have HF2:=xgv hF2;have HV1:=xgv hF1.valid;have HV2:=xgv hF2.valid;clear hans hF1 hF2 e2 g2;have hl1:=zCe (.int .i64 R) (.int .i64 C) (.slice ao R cap) (.int .i64 R) (.int .i64 C) (.slice bo R bcap);have hl2:=zAt (.int .i64 R) (.int .i64 C) (.slice ao R cap);have hl4:=zAt (.int .i64 R) (.int .i64 C) (.slice bo R bcap);have hl3:=zBA R C;go_enter Tryz.func71,Tryz.ntmps71;go_upto_region 1 with(fail)
 refine zC ?_;intro W0 hW0;obtain⟨hB0,bx1,bx2,hs0⟩:=qK hW0;obtain⟨c1,c2,c3,c4,c5,c6⟩:=bx1.three;obtain⟨d1,d2,d3,d4,d5,d6⟩:=bx2.three;clear hW0;refine zF rfl (RV W0 _ [E 0 8 (.agg #[.int .i64 R,.int .i64 C,.slice ao R cap]),E 1 9 (.agg #[.int .i64 R,.int .i64 C,.slice bo R bcap]),⟨2,10,zPI (.int .i64 R) (.int .i64 C) (.slice ao R cap) (.int .i64 R) (.int .i64 C) (.slice bo R bcap)⟩,E 3 11 (.bool true),E 4 12 (.bool false),E 5 13 (.bool false),E 6 14 (.agg #[.int .i64 R,.int .i64 C,.slice ao R cap]),⟨7,15,zNO (.int .i64 R) (.int .i64 C) (.slice ao R cap)⟩,⟨8,16,zA4 R C⟩,E 9 17 (.agg #[.int .i64 R,.int .i64 C,.slice bo R bcap]),⟨10,18,zNO (.int .i64 R) (.int .i64 C) (.slice bo R bcap)⟩,⟨11,19,zA4 R C⟩,E 12 20 (.bool true),E 13 21 (.bool false),E 14 22 (.bool false)]) kR RV.start (RV.fin kR ?fin1) ?steps1
 case steps1=>
  refine⟨?_,?_,?_,?_,?_,?_,?_,?_,?_,?_,?_,?_,?_,?_,?_,trivial⟩<;>(intro L T wS hL hd hcl hI K hK;try refine zA rfl ?_)
  ·have zt:=hI.k 2 rfl kR
   have cc0:=hI.cell c1;have cc1:=hI.cell c2;have cc2:=hI.cell c3;exact xgu
  ·have zt:=hI.k 3 rfl kR
   have cc0:=hI.cell d1;have cc1:=hI.cell d2;have cc2:=hI.cell d3;exact xgu
  ·have zt0:=hI.e mm0 (hd 0)
   have zt1:=hI.e mm1 (hd 1);go_simp;exact hK _ _ ((hI.world ((Below.refl _ _).alloc (xgf _) _)).y mm2 ⟨_,rfl,Blk.new _ _ _⟩)
  ·obtain⟨v2,zt2,h2⟩:=hI.v mm2 (hd 2)
   obtain⟨g2,rfl,gb2⟩:=h2;go_simp;refine(zH3 g2 2 R C R C _ _ M1 M2 _ gb2 (xgf _) oM ((H1.out.below hB0).below hI.bel).off ((H2.out.below hB0).below hI.bel).off HV1.out HV2.out).mono ?_;rintro e wa ⟨v,rfl,hv,hba⟩;exact hK _ _ ((hI.world hba).y mm3 hv)
  ·exact xgs (hI.e mm3 (hd 3))
  ·exact xgs (hI.e mm4 (hd 4))
  ·have zg:=hI.e mm5 (hd 5)
   refine zA xgp ?_;have zt:=hI.k 2 rfl kR;have cc0:=hI.cell c1;have cc1:=hI.cell c2;have cc2:=hI.cell c3;exact xgu
  ·have zg:=hI.e mm5 (hd 5)
   refine zA xgp ?_;have zt6:=hI.e mm6 (hd 6);go_simp;exact hK _ _ ((hI.world ((Below.refl _ _).alloc (xgf _) _)).y mm7 ⟨_,rfl,Blk.new _ _ _⟩)
  ·have zg:=hI.e mm5 (hd 5)
   refine zA xgp ?_;obtain⟨v7,zt7,h7⟩:=hI.v mm7 (hd 7);obtain⟨g7,rfl,gb7⟩:=h7;go_simp;refine(zBX g7 1 R C _ _ gb7 ⟨_,_,_,rfl⟩ (xgf _) oM).mono ?_;rintro e wa ⟨v,rfl,hv,hba⟩;exact hK _ _ ((hI.world hba).y mm8 hv)
  ·have zg:=hI.e mm5 (hd 5)
   refine zA xgp ?_;have zt:=hI.k 3 rfl kR;have cc0:=hI.cell d1;have cc1:=hI.cell d2;have cc2:=hI.cell d3;exact xgu
  ·have zg:=hI.e mm5 (hd 5)
   refine zA xgp ?_;have zt9:=hI.e mm9 (hd 9);go_simp;exact hK _ _ ((hI.world ((Below.refl _ _).alloc (xgf _) _)).y yD ⟨_,rfl,Blk.new _ _ _⟩)
  ·have zg:=hI.e mm5 (hd 5)
   refine zA xgp ?_;obtain⟨v10,zt10,h10⟩:=hI.v yD (hd 10);obtain⟨g10,rfl,gb10⟩:=h10;go_simp;refine(zBX g10 1 R C _ _ gb10 ⟨_,_,_,rfl⟩ (xgf _) oM).mono ?_;rintro e wa ⟨v,rfl,hv,hba⟩;exact hK _ _ ((hI.world hba).y zAB hv)
  ·have zg:=hI.e mm5 (hd 5)
   refine zA xgp ?_;obtain⟨v8,zt8,h8⟩:=hI.v mm8 (hd 8);obtain⟨v11,zt11,h11⟩:=hI.v zAB (hd 11);go_simp;refine(zFZ _ _ R C _ h8 h11).mono ?_;rintro e wa ⟨v,rfl,hv,hba⟩;exact hK _ _ ((hI.world hba).y zAh hv)
  ·have zg:=hI.e mm5 (hd 5)
   refine zA xgp ?_;exact xgs (hI.e zAh (hd 12))
  ·exact xgt (hI.e mm5 (hd 5)) (hI.e zBv (hd 13))
 intro w1 hbw1 T hT;simp only[Fin,E,EI,VP,VSl,VN,xgg,xgh,xgi,xgj]at hT;obtain⟨va2,ha2,va7,ha7,va8,ha8,va10,ha10,va11,ha11,rfl⟩:=hT;have hBt:=nx hB0 hbw1;have bx1:=bx1.below hbw1;have bx2:=bx2.below hbw1;clear c1 c2 c3 c4 c5 c6 d1 d2 d3 d4 d5 d6 ha2 ha7 ha8 ha10 ha11;obtain⟨c1,c2,c3,c4,c5,c6⟩:=bx1.three;go_wp2;clear c1 c2 c3 c4 c5 c6;go_loopw [26] (fun iv wr=>∃i:Nat,i<=R/\iv= .int .i64 i/\Below w.heap.size w wr/\Blk wr (w.heap.size+1) tM #[.int .i64 R,.int .i64 C,.slice bo R bcap]/\qM (M1.take i=M2.take i)) (fun iv _=>R-(intOf iv).toNat)
 case atStart=>exact⟨0,by omega,rfl,hBt,bx2,⟨by rw[List.take_zero,List.take_zero]⟩⟩
 case round=>
  obtain⟨i,hi,rfl,hb,bx2,hsame⟩:=hrel;obtain⟨d1,d2,d3,d4,d5,d6⟩:=bx2.three;by_cases hlt:i<R
  ·obtain⟨b1,ra,rn,rc,zs,rfl,hbl1,hz,p1,hv⟩:=h1.row (k:=i) (by rw[HF1.out.1];exact hlt)
   obtain⟨b2,sa,sn,sc,ys,rfl,hbl2,hy,q1,hu⟩:=h2.row (k:=i) (by rw[HF2.out.1];exact hlt);have hzl:=HF1.out.2 zs (xgd hz);have hyl:=HF2.out.2 ys (xgd hy);have HZ:=xgv hz;have HY:=xgv hy;have HZL:=xgv hzl;have HYL:=xgv hyl;have p1:=qC p1 hb;have q1:=qC q1 hb;clear hz hy hzl hyl;go_wp2_with fail
   refine(zJ2 _ _ zs ys C wr (hv.below hb) (hu.below hb) HZL.out HYL.out hC).mono ?_;rintro e w5 ⟨rfl,hbl5,hb5⟩;go_wp2_with fail
   refine(zGY wr.heap.size C C _ w5 hbl5 hC (xgf _) oM).mono ?_;rintro e w6 ⟨rfl,hb6⟩;have hb:=nx (nx hb hb5) hb6;have bx2:=(bx2.below hb5).below hb6;by_cases he:zs=ys
   ·have hd:decide (¬ ∀j,j<C->decide (zs.getD j 0=ys.getD j 0)=true)=false:=decide_eq_false (fun hh=>hh ((zLF HZL.out HYL.out).2 he))
    have HE:=xgv he;rw[hd];clear hd he p1 q1 d1 d2 d3 d4 d5 d6;go_wp2;go_roundw
    case rel=>exact⟨i+1,by omega,by simp,hb,bx2,⟨zEv hsame.out HZ.out HY.out HE.out⟩⟩
    case measure=>simp[intOf];omega
   ·have hd:decide (¬ ∀j,j<C->decide (zs.getD j 0=ys.getD j 0)=true)=true:=decide_eq_true (fun hh=>he ((zLF HZL.out HYL.out).1 hh))
    have HE:=xgv he;rw[hd];clear hd he p1 q1 d1 d2 d3 d4 d5 d6;go_wp2;go_ret;refine⟨?_,hb⟩;have h3:ans=false:=by rw[<-HA.out];exact decide_eq_false (zCn HZ.out HY.out HE.out)
    rw[h3];rfl
  ·obtain rfl:i=R:=by omega
   go_wp2;go_ret;refine⟨?_,hb⟩;have h4:=hsame.out;rw[List.take_of_length_le (by rw[HF1.out.1];omega),List.take_of_length_le (by rw[HF2.out.1];omega)]at h4;have h3:ans=true:=by rw[<-HA.out];exact decide_eq_true h4
   rw[h3];rfl
end Go.Proofs.YtgnmdddaiefooaaGreat
