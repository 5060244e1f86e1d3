/- hermite.Form: the rows in order. The law for regions that draw, with matrices that lie apart, and slots that hold a matrix's rows. smith.Form. torsionref13.Check where everything holds. smith.Form. hermite: reduce (the mirror) ends within bounds; what an elimination of at most four rows and columns keeps. Plain Lean. -/
import Derived.Test.YtnbmaipobhppcaaGreatD09
import Derived.Test.YtnbmaipobhppcaaGreatD12
import Derived.Test.YtnbmaipobhppcaaGreatD13
import Derived.Test.YtnbmaipobhppcaaGreatD17
import Derived.Test.YtnbmaipobhppcaaGreatD18
import Derived.Test.YtnbmaipobhppcaaGreatD19
set_option linter.unusedVariables false
set_option linter.unusedSimpArgs false
set_option linter.unusedSectionVars false
set_option maxHeartbeats 16000000
set_option maxRecDepth 100000
namespace Go.Proofs.YtnbmaipobhppcaaGreat
open Go.RowKit
structure zAz(w:World)(base:Nat)(A:Value)(C:Nat)(bs:List Nat)(M:List (List Int)):Prop where
 own:w.ownsRow base tR 1 A bs.length (yB C bs)
 len:M.length=bs.length
 row:∀(k:Nat) (b:Nat) (r:List Int),bs[k]?=some b->M[k]?=some r->r.length=C/\qC w b r
 nodup:bs.Nodup
 cb:C<=1099511627776
theorem zAz.rows0{w:World}{base:Nat}{A:Value}{C:Nat}{bs:List Nat}{M:List (List Int)}(h:zAz w base A C bs M):zS w 0 A C bs M:=by
 refine⟨⟨h.own.1,?_⟩,h.len,fun k b r h1 h2=>⟨Nat.zero_le _,h.row k b r h1 h2⟩,h.nodup,h.cb⟩;rcases h.own.2 with h3|⟨g,cap,cur,rfl,k1,k2⟩
 ·exact .inl h3
 ·exact .inr ⟨g,cap,cur,rfl,Nat.zero_le _,k2⟩
theorem zAz.below{w w':World}{base:Nat}{A:Value}{C:Nat}{bs:List Nat}{M:List (List Int)}(h:zAz w base A C bs M)(hb:Below w.heap.size w w'):zAz w' base A C bs M:=
 ⟨h.own.kept (row:=none) ⟨hb.os,hb.tape,hb.output,hb.size,fun k hk _=>hb.block k hk⟩ (by cases hv:A.ownBlock<;>simp),h.len,fun k b r h1 h2=>by
  obtain⟨e2,e3⟩:=h.row k b r h1 h2;exact⟨e2,e3.below hb⟩,h.nodup,h.cb⟩
theorem zAz.nil(w:World)(base C:Nat)(hC:C<=1099511627776):zAz w base (.slice none 0 0) C [] []:=⟨⟨rfl,.inl ⟨rfl,rfl⟩⟩,rfl,fun k b r h1=>by simp at h1,by simp,hC⟩
theorem zAz.ownb{w:World}{base:Nat}{A:Value}{C:Nat}{bs:List Nat}{M:List (List Int)}(h:zAz w base A C bs M):∀g,A.ownBlock=some g->base<=g/\g<w.heap.size:=World.ownsRow.lt h.own
theorem zAz.mono{w:World}{base a:Nat}{A:Value}{C:Nat}{bs:List Nat}{M:List (List Int)}(h:zAz w base A C bs M)(ha:a<=base):zAz w a A C bs M:=by
 refine⟨⟨h.own.1,?_⟩,h.len,h.row,h.nodup,h.cb⟩;rcases h.own.2 with h3|⟨g,cap,cur,rfl,k1,k2⟩
 ·exact .inl h3
 ·exact .inr ⟨g,cap,cur,rfl,by omega,k2⟩
theorem zAz.off{w w':World}{base:Nat}{A:Value}{C:Nat}{bs:List Nat}{M:List (List Int)}{g:Nat}{T:TypeId}{cs:Array Value}(h:zAz w base A C bs M)(hg:Blk w g T cs)(hT:¬ T=tI)(hgb:g<base)(ho:∀k,k≠g->w'.heap[k]?=w.heap[k]?)(hx:yO w w'):zAz w' base A C bs M:=by
 refine⟨⟨h.own.1,?_⟩,h.len,fun k b r h1 h2=>?_,h.nodup,h.cb⟩
 ·rcases h.own.2 with h3|⟨g',cap,cur,rfl,k1,k2,k3⟩
  ·exact .inl h3
  ·exact .inr ⟨g',cap,cur,rfl,k1,(ho g' oM).trans k2,k3⟩
 ·obtain⟨e2,e3⟩:=h.row k b r h1 h2
  exact⟨e2,e3.old (ho b (fun e=>zGU hg e3 hT e.symm)) hx⟩
theorem zAz.shape{w:World}{base:Nat}{A:Value}{C:Nat}{bs:List Nat}{M:List (List Int)}(h:zAz w base A C bs M):∃o n c,A= .slice o n c:=by
 rcases h.own.2 with⟨rfl,-⟩|⟨g,cap,cur,rfl,-⟩
 ·exact⟨_,_,_,rfl⟩
 ·exact⟨_,_,_,rfl⟩
theorem zQm{w:World}{ops:Array Oper}{rest:List Oper}{o:Oper}{a:Act}{Q:Exit->Act->World->Prop}(hgd:o.guard=none)(s x:Operand)
  (ho:o.op= .call {callee:=.builtin .append,args:=#[s,x],argTypes:=#[26,26]})
  (base:Nat) (v:Value) (C:Nat) (bs:List Nat) (M:List (List Int)) (hs:a.eval s=v) (hown:zAz w base v C bs M) (b c nb:Nat) (r:List Int) (hx:a.eval x= .slice (some ⟨b,0,none⟩) 1 c)
  (hb:Blk w b tR #[.slice (some ⟨nb,0,none⟩) C C]) (hr:qC w nb r) (hrl:r.length=C) (hfr:∀g∈bs,g≠nb)
  (hlen:bs.length+1<=1099511627776) (hbase:base<=w.heap.size)
  (h:∀v' w',zAz w' base v' C (bs++ [nb]) (M++ [r])->w.grownBy w' v.ownBlock->yO w w'->wpList Tryz.prog ops Q rest (a.put o.dst v') w'):wpList Tryz.prog ops Q (o::rest) a w:=by
 obtain⟨i0,hi,hz0,hz1,hz2⟩:=info_parts Tryz.infoR;have c0:=hb.cell 0;refine wpList_append_own w hgd s x 26 ho base tR i0 _ 1 24 Tryz.underlying26 hi hz0 hz1 hz2 rfl oM v bs.length _ hs hown.own ⟨b,0,none⟩ 1 c [.slice (some ⟨nb,0,none⟩) C C] hx rfl ?_ ?_ (by simp[maxLen];omega) oM hbase ?_
 ·intro j u hj
  rw[Addr.add_lit];match j with
  |0=>simp at hj;subst hj;exact c0
  |j+1=>simp at hj
 ·intro u hu
  simp at hu;subst hu;rfl
 ·intro v' w' k1 k2 _
  have hx:=zAM hown.own dE k2;have hkeep:∀g q,qC w g q->qC w' g q:=fun g q hq=>hq.old (k2.block g hq.lt (zDA hown.own hq)) hx
  refine h v' w' ⟨?_,by simp[hown.len],?_,?_,hown.cb⟩ k2 hx
  ·have:yB C (bs++ [nb])=yB C bs++ [.slice (some ⟨nb,0,none⟩) C C]:=by simp[yB]
   rw[this];simpa using k1
  ·intro k g q hg hq
   rcases Nat.lt_or_ge k bs.length with hlt|hge
   ·rw[List.getElem?_append_left hlt]at hg
    rw[List.getElem?_append_left (by rw[hown.len];exact hlt)]at hq;obtain⟨f2,f3⟩:=hown.row k g q hg hq;exact⟨f2,hkeep _ _ f3⟩
   ·rw[List.getElem?_append_right hge]at hg
    rw[List.getElem?_append_right (by rw[hown.len];exact hge),hown.len]at hq;have hk0:k-bs.length=0:=by
     have:=(xge.1 hg).1;simp at this;omega
    rw[hk0]at hg hq;simp at hg hq;subst hg;subst hq;exact⟨hrl,hkeep _ _ hr⟩
  ·rw[List.nodup_append]
   refine⟨hown.nodup,by simp,fun x hx y hy=>?_⟩;simp at hy;subst hy;exact hfr x hx
theorem zBe.cell{w:World}{base:Nat}{v:Value}{xs:List Nat}(h:zBe w base v xs){k x:Nat}(hk:xs[k]?=some x):∃g cap,v= .slice (some ⟨g,0,none⟩) xs.length cap/\g<w.heap.size/\w.cell? ⟨g,k,none⟩=some (.int .i64 x):=by
 rcases h.2.2 with⟨rfl,h0⟩|⟨g,cap,cur,rfl,hg,hh,hn,hc,hs,ht⟩
 ·rw[List.eq_nil_of_length_eq_zero h0]at hk
  simp at hk
 ·refine⟨g,cap,rfl,(Array.getElem?_eq_some_iff.1 hh).1,?_⟩
  rw[cell_of_row w g k cur tNn _ hh];have hk':(xs.map fun n=>Value.int .i64 (n:Nat))[k]?=some (.int .i64 (x:Nat)):=by simp[hk]
  rw[<-ht,List.getElem?_take]at hk';split at hk'
  ·simpa using hk'
  ·cases hk'
abbrev SlR(b C:Nat):World->Value->Prop:=fun w v=>∃g,v= .slice (some ⟨g,0,none⟩) 1 1/\Blk w g tR #[.slice (some ⟨b,0,none⟩) C C]
theorem zJG(b C:Nat):qS (SlR b C):=fun _ _ _ x ⟨g,h1,h2⟩=>⟨g,h1,h2.below x⟩
theorem zHr(Ah ov:Value)(n Cs nb ob base:Nat)(bss os:List Nat)(F:Nat->Nat->Int)(w:World)(hw:Wri w Ah n Cs bss F)(hnb:Blk w nb 3 #[.int .i64 n])(hob:Blk w ob 52 #[ov])(hov:zBe w base ov os)
  (hos:∀x∈os,x<n) (hnd:os.Nodup) (hn:n<=1000000) (hCs:Cs<=1000000) (hlen:os.length<=n):
  Calls Tryz.prog 154 #[Ah,.int .i64 Cs,.pointer (some ⟨nb,0,none⟩),.pointer (some ⟨ob,0,none⟩)] w fun e w'=>∃v bs',e= .returned (.agg #[.int .i64 n,.int .i64 Cs,v])∧
   zAz w' w.heap.size v Cs bs' (os.map fun i=>zM Cs (F i))/\(∀b,b∈bs'->b∈bss)/\Below w.heap.size w w':=by
 have n0:=hnb.cell 0;have o0:=hob.cell 0;obtain⟨so,sn,scap,rfl,s1,-⟩:=id (zS.rows hw);have e2:n=sn:=by rw[<-s1];simp[zX]
 subst e2;obtain⟨ao,ocap,rfl,-,-,-⟩:=hov.at_;have lnb:=hnb.lt;have lob:=hob.lt;have HW:=xgv hw;have HOV:=xgv hov;have HOS:=xgv hos;have HND:=xgv hnd;clear s1 hw hov hos hnd;go_enter Tryz.func154,Tryz.ntmps154;go_upto_region 2 with(fail)
 refine zB ?_;intro W0 hW0;obtain⟨hB0,T6,T7,hs0⟩:=qI hW0;have o0:=zI o0 hB0;clear hW0 n0;go_wp2;go_loopw [15] (fun iv wr=>∃(k:Nat) (v:Value),iv= .int .i64 k/\k<=os.length/\zAz wr (w.heap.size+2) v Cs ((os.take k).map fun i=>bss.getD i 0) ((os.take k).map fun i=>zM Cs (F i))∧
  Blk wr w.heap.size 28 #[.int .i64 0,.int .i64 0,.slice none 0 0]/\Blk wr (w.heap.size+1) 28 #[.int .i64 n,.int .i64 Cs,v]/\Below w.heap.size w wr) (fun iv _=>os.length-(intOf iv).toNat)
 case atStart=>exact⟨0,_,rfl,by omega,zAz.nil _ _ _ oM,T6,T7,hB0⟩
 case round=>
  clear T6 T7 hB0 hs0;obtain⟨k,uv,rfl,hk,hx,T6,T7,hb⟩:=hrel;obtain⟨vo,vn,vc,rfl⟩:=hx.shape;have l7:=T7.lt;by_cases hlt:k<os.length
  ·obtain⟨i,hi⟩:∃i,os[k]?=some i:=⟨_,xga hlt⟩
   have hin:i<n:=HOS.out i (xgd hi);obtain⟨og,oc,eo,lo,q0⟩:=(HOV.out.below hb).cell hi;injection eo with eo1 eo2 eo3
   subst eo1;obtain⟨g,bi,eg,lg,hbi,-,o1,-⟩:=zS.at_ (HW.out.below hb) (i:=i) (by rw[(HW.out.below hb).len];exact hin);subst eg;have hrow:=(HW.out.below hb).rowAt hin hbi;obtain⟨-,-,f3,-,-,-⟩:=T7.three;have htk:∀{α:Type} (f:Nat->α),(os.take (k+1)).map f=(os.take k).map f++ [f i]:=fun f=>by
    rw[List.take_add_one,List.map_append,hi];rfl
   have HTB:=xgv (htk fun i=>bss.getD i 0);have HTM:=xgv (htk fun i=>zM Cs (F i));have hgd:bss.getD i 0=bi:=by rw[xgb,hbi];rfl
   have hne:∀b∈(os.take k).map (fun i=>bss.getD i 0),b≠bi:=by
    intro b hb' hbe;subst hbe;obtain⟨j,hj,he⟩:=List.mem_map.1 hb';have hjn:j<bss.length:=by rw[HW.out.len];exact HOS.out j (List.mem_of_mem_take hj)
    have hil:i<bss.length:=by rw[HW.out.len];exact hin
    have e1:bss.getD j 0=bss[j]:=by rw[xgb,xga hjn];rfl
    have e2:bss[i]=b:=(xge.1 hbi).2;have hji:j=i:=by
     have:=(List.getElem_inj (h₀:=hjn) (h₁:=hil) (zS.nodup HW.out)).1 (by rw[<-e1,e2];exact he);exact this
    subst hji;obtain⟨t,ht1,ht2⟩:=List.getElem_of_mem hj;rw[List.getElem_take]at ht2;have ht3:t<k:=by simp at ht1;omega
    have:=(List.getElem_inj (h₀:=(by omega:t<os.length)) (h₁:=hlt) HND.out).1 (by rw[ht2];exact(xge.1 hi).2.symm);omega
   have hlr:=zJG bi Cs;have hblen:((os.take k).map fun i=>bss.getD i 0).length=k:=by simp;omega
   have HNE:=xgv hne;have HGD:=xgv hgd;clear htk hne hgd hi hbi;go_upto_region 5 with(fail)
   refine zC 7 rfl (RV wr _ [VP 0 19 (w.heap.size+1) 2,E 1 20 (.slice vo vn vc),VSl 2 21 g n scap,VN 3 22 i,VP 4 23 g i,VSl 5 24 bi Cs Cs,⟨6,25,SlR bi Cs⟩]) kR RV.start (RV.fin kR ?fin1) ?steps1
   case steps1=>
    refine⟨?_,?_,?_,?_,?_,?_,?_,trivial⟩<;>(intro L T wS hL hd hcl hI K hK;try refine zA rfl ?_)
    ·exact xgs (hI.k 7 rfl kR)
    ·have zt0:=hI.e mm0 (hd 0)
     have cc0:=hI.cell f3;exact xgu
    ·exact xgs (hI.k 0 rfl kR)
    ·exact xgs (hI.k 9 rfl kR)
    ·exact xgt (hI.e mm2 (hd 2)) (hI.e mm3 (hd 3))
    ·have zt4:=hI.e mm4 (hd 4)
     have cc0:=hI.cell o1;exact xgu
    ·have zt5:=hI.e mm5 (hd 5)
     go_simp;exact hK _ _ ((hI.world ((Below.refl _ _).alloc (xgf _) _)).y mm6 ⟨_,rfl,Blk.new _ _ _⟩)
   intro w5 hbw5 T hT;simp only[Fin,E,EI,VP,VSl,VN,xgg,xgh,xgi,xgj]at hT;obtain⟨vb6,hb6,rfl⟩:=hT;simp only[xgl,xgk];obtain⟨gs,rfl,hsl⟩:SlR bi Cs w5 vb6:=hb6;have hx5:=hx.below hbw5;have T75:=T7.below hbw5;have T65:=T6.below hbw5;have hr5:=hrow.below hbw5;have hb5:=nx hb hbw5;have l75:=T75.lt;clear o1 f3 q0;go_wp2_with (at_builtin;refine zQm rfl _ _ rfl (w.heap.size+2) (.slice vo vn vc) Cs _ _ rfl hx5 gs 1 bi _ rfl hsl hr5 (zD _ _) HNE.out (by rw[hblen];omega) oM ?_;intro v' w' hown hgr hlx;obtain⟨po,pn,pc',rfl⟩:=hown.shape;have T7n:=(hgr.block _ l75 (fun e=>by have:=(hx5.ownb _ e.symm).1;omega)).trans T75;have T6n:=(hgr.block _ oM (fun e=>by have:=(hx5.ownb _ e.symm).1;omega)).trans T65;obtain⟨f1,f2,f3,f4,f5,f6⟩:=Blk.three (t:=28) T7n)
   go_roundw
   case rel=>
    have T7n:Blk w' (w.heap.size+1) 28 #[.int .i64 n,.int .i64 Cs,.slice vo vn vc]:=T7n;have hX:zAz (w'.setCell ⟨w.heap.size+1,2,none⟩ (.slice po pn pc')) (w.heap.size+2) (.slice po pn pc') Cs ((os.take (k+1)).map fun i=>bss.getD i 0) ((os.take (k+1)).map fun i=>zM Cs (F i)):=by
     rw[HTB.out,HTM.out,HGD.out];exact hown.off T7n dE oM (fun b hb=>zV _ _ _ b _ hb) (T7n.lext dE _ _)
    refine⟨k+1,by simp,by omega,.slice po pn pc',by simpa using hX,?_,?_,?_⟩
    ·exact(zV _ _ _ _ _ oM).trans T6n
    ·have:=T7n.set_ 2 (.slice po pn pc')
     simpa using this
    ·exact zT (hb5.grown hgr oM (fun g hg=>by have:=(hx5.ownb g hg).1;omega)) oM _ _
   case measure=>simp[intOf];omega
  ·obtain rfl:k=os.length:=by omega
   obtain⟨f1,f2,f3,f4,f5,f6⟩:=T7.three;obtain⟨e1,e2,e3,e4,e5,e6⟩:=T6.three;have l6:=T6.lt;rw[List.take_length]at hx;go_wp2;refine qY (r:=w.heap.size) rfl rfl rfl (T6.put3 _ _ _) ⟨.slice vo vn vc,_,rfl,(hx.off T6 dE oM (fun b hbn=>yN _ _ b _ _ _ hbn) (T6.lext3 dE _ _ _)).mono oM,?_,?_⟩
   ·intro b hb'
    obtain⟨j,hj,rfl⟩:=List.mem_map.1 hb';have hjn:j<bss.length:=by rw[HW.out.len];exact HOS.out j hj
    rw[xgb,xga hjn];exact List.getElem_mem hjn
   ·exact zT (zT (zT hb oM _ _) oM _ _) oM _ _
structure AS where
 op:Nat
 slot:Nat
 m:MS
structure RX(W:World)(T0:Array Value)(vs:List VS)(ms:List MS)(al_:List AS)(L:Array Bool)(T:Array Value)(w:World):Prop where
 g:RG W T0 vs ms L T w
 wf:∀a∈al_,a.m∈ms/\∃s∈vs,s.op=a.op/\s.slot=a.slot
 al:∀a∈al_,L[a.op]?=some true->L[a.m.op]?=some true/\∃o c,T[a.m.slot]?=some (.agg #[.int .i64 a.m.R,.int .i64 a.m.C,.slice o a.m.R c])/\T[a.slot]?=some (.slice o a.m.R c)
section
variable {W:World} {T0:Array Value} {vs:List VS} {ms:List MS} {al_:List AS} {L:Array Bool} {T:Array Value} {w w':World}
theorem RX.start(hwf:zI1 T0.size vs ms=true)(hv:∀s∈vs,qS s.P)(ha:∀a∈al_,a.m∈ms/\∃s∈vs,s.op=a.op/\s.slot=a.slot){n:Nat}:RX W T0 vs ms al_ (Array.replicate n false) T0 W.drew:=
 ⟨RG.start hwf hv,ha,fun a _ h=>by
  rw[Array.getElem?_replicate]at h;split at h<;>simp at h⟩
theorem RX.world(h:RX W T0 vs ms al_ L T w)(hb:Below w.heap.size w w'):RX W T0 vs ms al_ L T w':=⟨h.g.world hb,h.wf,h.al⟩
theorem RX.value{k:Nat}{v:Value}(h:RX W T0 vs ms al_ L T w)(s:VS)(hs:s∈vs)(hk:s.op=k)(hP:s.P w v)(hn:∀a∈al_,a.op≠k):RX W T0 vs ms al_ (L.setIfInBounds k true) (T.setIfInBounds s.slot v) w:=by
 obtain⟨p1,p2,p3,p4,p5,p6,p7⟩:=h.g.parts;refine⟨h.g.value s hs hk hP,h.wf,fun a ha hl=>?_⟩;subst hk;obtain⟨e1,t,ht,e2,e3⟩:=h.wf a ha;have hl':L[a.op]?=some true:=zL hl (fun e=>hn a ha e.symm);obtain⟨q1,o,c,q2,q3⟩:=h.al a ha hl';have n1:s.slot≠a.m.slot:=(p5 s hs _ e1).1;have n2:s.slot≠a.slot:=by
  rw[<-e3];intro e;have:=zN p1 hs ht e;subst this;exact hn a ha e2.symm
 refine⟨?_,o,c,by rw[xgc n1];exact q2,by rw[xgc n2];exact q3⟩;rw[xgc (p5 s hs _ e1).2];exact q1
theorem RX.y{k:Nat}{v:Value}(h:RX W T0 vs ms al_ L T w){s:VS}(hs:s∈vs)(hP:s.P w v)(hn:∀a∈al_,a.op≠k)(hk:s.op=k:=by rfl):RX W T0 vs ms al_ (L.setIfInBounds k true) (T.setIfInBounds s.slot v) w:=h.value s hs hk hP hn
theorem RX.alias{v:Value}(h:RX W T0 vs ms al_ L T w)(a:AS)(ha:a∈al_)(s:VS)(hs:s∈vs)(hso:s.op=a.op)(hss:s.slot=a.slot)(hP:s.P w v)(hm:L[a.m.op]?=some true)(hdup:∀b∈al_,b.op=a.op->b=a)
  {o:Option Addr} {c:Nat} (h1:T[a.m.slot]?=some (.agg #[.int .i64 a.m.R,.int .i64 a.m.C,.slice o a.m.R c])) (h2:v= .slice o a.m.R c):RX W T0 vs ms al_ (L.setIfInBounds a.op true) (T.setIfInBounds s.slot v) w:=by
 obtain⟨p1,p2,p3,p4,p5,p6,p7⟩:=h.g.parts;refine⟨h.g.value s hs hso hP,h.wf,fun b hb hl=>?_⟩;obtain⟨e1,t,ht,e2,e3⟩:=h.wf b hb;have nm:s.slot≠b.m.slot:=(p5 s hs _ e1).1;have no:s.op≠b.m.op:=(p5 s hs _ e1).2;by_cases hba:b=a
 ·subst hba
  refine⟨by rw[xgc (by rw[<-hso];exact no)];exact hm,o,c,by rw[xgc nm];exact h1,?_⟩;rw[<-hss,Array.getElem?_setIfInBounds_self_of_lt (by rw[h.g.size];exact p6 _ hs),h2]
 ·have hne:b.op≠a.op:=fun e=>hba (hdup b hb e)
  obtain⟨q1,o',c',q2,q3⟩:=h.al b hb (zL hl (Ne.symm hne));have n2:s.slot≠b.slot:=by
   rw[<-e3];intro e;have:=zN p1 hs ht e;subst this;exact hne (e2.symm.trans hso)
  exact⟨by rw[xgc (by rw[<-hso];exact no)];exact q1,o',c',by rw[xgc nm];exact q2,by rw[xgc n2];exact q3⟩
theorem RX.mat{ops:Array Oper}{k:Nat}{v:Value}(h:RX W T0 vs ms al_ L T w)(hcl:zAO ops L)(hL:L[k]?=some false)(m:MS)(hm:m∈ms)(hk:m.op=k)(hb:Below w.heap.size w w')(hw:zDm m.R m.C m.F w.heap.size w'.heap.size w' v)
  (hlt:(ms.all fun m'=>!decide (k<m'.op)||zD0 ops 9 m'.op k)=true):RX W T0 vs ms al_ (L.setIfInBounds k true) (T.setIfInBounds m.slot v) w':=by
 obtain⟨p1,p2,p3,p4,p5,p6,p7⟩:=h.g.parts;refine⟨h.g.mat hcl hL m hm hk hb hw hlt,h.wf,fun a ha hl=>?_⟩;subst hk;obtain⟨e1,t,ht,e2,e3⟩:=h.wf a ha;have no:m.op≠a.op:=by rw[<-e2];exact fun e=>(p5 t ht m hm).2 e.symm
 have ns:m.slot≠a.slot:=by rw[<-e3];exact fun e=>(p5 t ht m hm).1 e.symm
 obtain⟨q1,o,c,q2,q3⟩:=h.al a ha (zL hl no);have hne:m≠a.m:=fun e=>by
  rw[<-e,hL]at q1;cases q1
 have n1:m.slot≠a.m.slot:=fun e=>hne (zN p3 hm e1 e)
 have n2:m.op≠a.m.op:=fun e=>hne (zN p4 hm e1 e)
 exact⟨by rw[xgc n2];exact q1,o,c,by rw[xgc n1];exact q2,by rw[xgc ns];exact q3⟩
end
def RXS(W:World)(T0:Array Value)(vs:List VS)(ms:List MS)(al_:List AS)(q:Nat)(st:Array Value->World->World)(L:Array Bool)(T:Array Value)(w:World):Prop:=
 ∃w0,RX W T0 vs ms al_ L T w0/\(L[q]?≠some true->w=w0)/\(L[q]?=some true->w=st T w0)
section
variable {W:World} {T0:Array Value} {vs:List VS} {ms:List MS} {al_:List AS} {L:Array Bool} {T:Array Value} {w w':World} {q:Nat} {st:Array Value->World->World}
theorem RXS.start{n:Nat}(h:RX W T0 vs ms al_ (Array.replicate n false) T0 W.drew):RXS W T0 vs ms al_ q st (Array.replicate n false) T0 W.drew:=
 ⟨_,h,fun _=>rfl,fun hh=>by
  rw[Array.getElem?_replicate]at hh;split at hh<;>simp at hh⟩
theorem RX.mark(h:RX W T0 vs ms al_ L T w)(hq:∀s∈vs,s.op≠q)(hm:∀m∈ms,m.op≠q):RX W T0 vs ms al_ (L.setIfInBounds q true) T w:=by
 obtain⟨bot,top,g1,g2⟩:=h.g.gh;have um:∀m∈ms,(L.setIfInBounds q true)[m.op]?=some true->L[m.op]?=some true:=fun m hm' hl=>zL hl (Ne.symm (hm m hm'))
 refine⟨⟨h.g.wf,h.g.lv,h.g.size,h.g.keep,h.g.bel,fun s hs hl=>h.g.val s hs (zL hl (Ne.symm (hq s hs))),bot,top,fun m hm' hl=>g1 m hm' (um m hm' hl),fun m hm' m' hm2 hlt l1 l2=>g2 m hm' m' hm2 hlt (um m hm' l1) (um m' hm2 l2)⟩,h.wf,fun a ha hl=>?_⟩;obtain⟨e1,t,ht,e2,e3⟩:=h.wf a ha;obtain⟨q1,q2⟩:=h.al a ha (zL hl (by rw[<-e2];exact Ne.symm (hq t ht)));exact⟨by rw[xgc (Ne.symm (hm _ e1))];exact q1,q2⟩
theorem zF.liftX{P:Program}{ops:Array Oper}{Q:Exit->Act->World->Prop}{ds:List Deferred}{i:Nat}{o:Oper}(hq:zD0 ops 5 q i=true)(hne:i≠q)
  (h:zF P ops Q ds (RX W T0 vs ms al_) i o):zF P ops Q ds (RXS W T0 vs ms al_ q st) i o:=by
 intro L T w hL hd hcl hI K hK;obtain⟨w0,h0,h1,h2⟩:=hI;have hLq:L[q]?≠some true:=fun hh=>by
  have:=zAe hcl hq hh;rw[hL]at this;cases this
 obtain rfl:=h1 hLq;exact h L T w hL @hd hcl h0 K (fun T' w' h'=>hK T' w' ⟨w',h',fun _=>rfl,fun hh=>absurd (zL hh hne) hLq⟩)
theorem RXS.step{k:Nat}{T':Array Value}(h:RXS W T0 vs ms al_ q st L T w)(hx:∀w0,RX W T0 vs ms al_ L T w0->RX W T0 vs ms al_ (L.setIfInBounds k true) T' w0)(hne:k≠q)(hst:∀w,st T' w=st T w):RXS W T0 vs ms al_ q st (L.setIfInBounds k true) T' w:=by
 obtain⟨w0,h0,h1,h2⟩:=h;exact⟨w0,hx w0 h0,fun hn=>h1 fun hh=>hn (yE hh),fun hh=>(h2 (zL hh hne)).trans (hst w0).symm⟩
theorem RXS.store(h:RX W T0 vs ms al_ L T w)(hL:L[q]?=some false)(hq:∀s∈vs,s.op≠q)(hm:∀m∈ms,m.op≠q)(hw:w'=st T w):RXS W T0 vs ms al_ q st (L.setIfInBounds q true) T w':=
 ⟨w,h.mark hq hm,fun hn=>absurd (Array.getElem?_setIfInBounds_self_of_lt (Array.getElem?_eq_some_iff.1 hL).1) hn,fun _=>hw⟩
theorem RXS.here(h:RXS W T0 vs ms al_ q st L T w)(hL:L[q]?=some false):RX W T0 vs ms al_ L T w:=by
 obtain⟨w0,h0,h1,-⟩:=h;obtain rfl:=h1 (by rw[hL];simp);exact h0
end
theorem RG.five{W:World}{T0:Array Value}{vs:List VS}{L:Array Bool}{T:Array Value}{w:World}{k1 k2 k3 k4 k5 s1 s2 s3 s4 s5 R C Cu Cw:Nat}{F1 F2 F3 F4 F5:Nat->Nat->Int}
  (h:RG W T0 vs [⟨k1,s1,R,C,F1⟩,⟨k2,s2,R,Cu,F2⟩,⟨k3,s3,R,Cu,F3⟩,⟨k4,s4,C,Cw,F4⟩,⟨k5,s5,C,Cw,F5⟩] L T w) (o1:k1<k2) (o2:k2<k3) (o3:k3<k4) (o4:k4<k5)
  (l1:L[k1]?=some true) (l2:L[k2]?=some true) (l3:L[k3]?=some true) (l4:L[k4]?=some true) (l5:L[k5]?=some true):
  ∃so sc uo uc vo vc wo wc xo xc,T[s1]?=some (.agg #[.int .i64 R,.int .i64 C,.slice so R sc])/\T[s2]?=some (.agg #[.int .i64 R,.int .i64 Cu,.slice uo R uc])/\T[s3]?=some (.agg #[.int .i64 R,.int .i64 Cu,.slice vo R vc])∧
   T[s4]?=some (.agg #[.int .i64 C,.int .i64 Cw,.slice wo C wc])/\T[s5]?=some (.agg #[.int .i64 C,.int .i64 Cw,.slice xo C xc])∧
   zPm W.heap.size R C Cu Cw ⟨F1,F2,F3,F4,F5⟩ w (.agg #[.int .i64 R,.int .i64 C,.slice so R sc,.int .i64 R,.int .i64 Cu,.slice uo R uc,.int .i64 R,.int .i64 Cu,.slice vo R vc,.int .i64 C,.int .i64 Cw,.slice wo C wc,.int .i64 C,.int .i64 Cw,.slice xo C xc]):=by
 obtain⟨bot,top,g1,g2⟩:=h.gh;have M1:(⟨k1,s1,R,C,F1⟩:MS)∈ [(⟨k1,s1,R,C,F1⟩:MS),⟨k2,s2,R,Cu,F2⟩,⟨k3,s3,R,Cu,F3⟩,⟨k4,s4,C,Cw,F4⟩,⟨k5,s5,C,Cw,F5⟩]:=by simp
 have M2:(⟨k2,s2,R,Cu,F2⟩:MS)∈ [(⟨k1,s1,R,C,F1⟩:MS),⟨k2,s2,R,Cu,F2⟩,⟨k3,s3,R,Cu,F3⟩,⟨k4,s4,C,Cw,F4⟩,⟨k5,s5,C,Cw,F5⟩]:=by simp
 have M3:(⟨k3,s3,R,Cu,F3⟩:MS)∈ [(⟨k1,s1,R,C,F1⟩:MS),⟨k2,s2,R,Cu,F2⟩,⟨k3,s3,R,Cu,F3⟩,⟨k4,s4,C,Cw,F4⟩,⟨k5,s5,C,Cw,F5⟩]:=by simp
 have M4:(⟨k4,s4,C,Cw,F4⟩:MS)∈ [(⟨k1,s1,R,C,F1⟩:MS),⟨k2,s2,R,Cu,F2⟩,⟨k3,s3,R,Cu,F3⟩,⟨k4,s4,C,Cw,F4⟩,⟨k5,s5,C,Cw,F5⟩]:=by simp
 have M5:(⟨k5,s5,C,Cw,F5⟩:MS)∈ [(⟨k1,s1,R,C,F1⟩:MS),⟨k2,s2,R,Cu,F2⟩,⟨k3,s3,R,Cu,F3⟩,⟨k4,s4,C,Cw,F4⟩,⟨k5,s5,C,Cw,F5⟩]:=by simp
 obtain⟨a1,a2,_,a3,so,sc,bS,rfl,a5,a6⟩:=g1 _ M1 l1;obtain⟨b1,b2,_,b3,uo,uc,bU,rfl,b5,b6⟩:=g1 _ M2 l2;obtain⟨c1,c2,_,c3,vo,vc,bV,rfl,c5,c6⟩:=g1 _ M3 l3;obtain⟨d1,d2,_,d3,wo,wc,bW,rfl,d5,d6⟩:=g1 _ M4 l4;obtain⟨e1,e2,_,e3,xo,xc,bX,rfl,e5,e6⟩:=g1 _ M5 l5;have r12:=g2 _ M1 _ M2 o1 l1 l2;have r13:=g2 _ M1 _ M3 (by dsimp only;omega) l1 l3;have r14:=g2 _ M1 _ M4 (by dsimp only;omega) l1 l4;have r15:=g2 _ M1 _ M5 (by dsimp only;omega) l1 l5;have r23:=g2 _ M2 _ M3 (by dsimp only;omega) l2 l3;have r24:=g2 _ M2 _ M4 (by dsimp only;omega) l2 l4;have r25:=g2 _ M2 _ M5 (by dsimp only;omega) l2 l5;have r34:=g2 _ M3 _ M4 (by dsimp only;omega) l3 l4;have r35:=g2 _ M3 _ M5 (by dsimp only;omega) l3 l5;have r45:=g2 _ M4 _ M5 (by dsimp only;omega) l4 l5;refine⟨so,sc,uo,uc,vo,vc,wo,wc,xo,xc,a3,b3,c3,d3,e3,⟨so,sc,uo,uc,vo,vc,wo,wc,xo,xc,bS,bU,bV,bW,bX,rfl,a5,b5,c5,d5,e5,?_,yZ a6 b6 r12,yZ a6 c6 r13,yZ a6 d6 r14,yZ a6 e6 r15,yZ b6 c6 r23,yZ b6 d6 r24,yZ b6 e6 r25,yZ c6 d6 r34,yZ c6 e6 r35,yZ d6 e6 r45⟩⟩;rintro b (hb|hb|hb|hb|hb)
 ·exact Nat.le_trans a1 (a6 b hb).1
 ·exact Nat.le_trans b1 (b6 b hb).1
 ·exact Nat.le_trans c1 (c6 b hb).1
 ·exact Nat.le_trans d1 (d6 b hb).1
 ·exact Nat.le_trans e1 (e6 b hb).1
def zQG:Array Value:=#[.int .i64 0,.int .i64 0,.slice none 0 0,.int .i64 0,.int .i64 0,.slice none 0 0,.int .i64 0,.int .i64 0,.slice none 0 0,.int .i64 0,.int .i64 0,.slice none 0 0,.int .i64 0,.int .i64 0,.slice none 0 0]
structure zQF(w:World)(f:Value)(R C:Nat)(S U V W X:List (List Int)):Prop where
 ex:∃s u v x y,f= .agg #[.int .i64 R,.int .i64 C,s,.int .i64 R,.int .i64 R,u,.int .i64 R,.int .i64 R,v,.int .i64 C,.int .i64 C,x,.int .i64 C,.int .i64 C,y]/\jB w s S/\jB w u U/\jB w v V/\jB w x W/\jB w y X
theorem zFS(n:Nat)(w:World)(hn:n<=1000000):Calls Tryz.prog 151 #[.int .i64 n] w fun e w'=>∃v,e= .returned v/\zDm n n idf w.heap.size w'.heap.size w' v/\Below w.heap.size w w':=
 (zF3 n w hn).mono fun _ _ hr=>hr.within
def zQ8(R C:Nat)(F:Nat->Nat->Int):World->Value->Prop:=fun w v=>∃o c,v= .agg #[.int .i64 R,.int .i64 C,.slice o R c]/\jB w (.slice o R c) (zX R C F)
theorem zE5{B base:Nat}{w a b:World}(h:Below B w a)(ho:zY (fun k=>base<=k) a b)(hB:B<=base)(hsz:B<=a.heap.size):Below B w b:=
 ⟨ho.bel.os.trans h.os,ho.bel.tape.trans h.tape,ho.bel.output.trans h.output,Nat.le_trans h.size ho.bel.size,fun k hk=>(ho.old k oM oM).trans (h.block k hk)⟩
theorem jB.off{w w':World}{v:Value}{M:List (List Int)}{g:Nat}{T:TypeId}{cs:Array Value}(h:jB w v M)(hg:Blk w g T cs)(h1:T≠tR)(h2:T≠tI)(ho:∀b,b≠g->w'.heap[b]?=w.heap[b]?)(hx:yO w w'):jB w' v M:=by
 obtain⟨ao,n,cap,e1,e2,e3,e4,e5⟩:=h;refine⟨ao,n,cap,e1,e2,e3,e4,fun hn=>?_⟩;obtain⟨b,cs',q1,q2,q3⟩:=e5 hn;have hne:∀{c:Nat} {U:TypeId} {ds:Array Value},w.heap[c]?=some (.cells ds U (0,0))->T≠U->c≠g:=by
  intro c U ds hc hT hh;subst hh;have hg':w.heap[c]?=some (.cells cs T (0,0)):=hg;rw[hg']at hc;injection hc with hc
  injection hc with _ ht
  exact hT ht
 refine⟨b,cs',q1,(ho b (hne q2 h1)).trans q2,fun k zs hk=>?_⟩;obtain⟨rv,r1,ao',n',cap',r2,r3,r4,r5,r6⟩:=q3 k zs hk;refine⟨rv,r1,ao',n',cap',r2,r3,r4,r5,fun hz=>?_⟩;obtain⟨b',s1,cs2,s2,s3⟩:=r6 hz;exact⟨b',s1,cs2,(ho b' (hne s2 h2)).trans s2,fun k z hk=>by
  obtain⟨a1,a2,a3,a4,a5,a6,a7⟩:=s3 k z hk;exact⟨a1,a2,a3,a4,a5,a6,a7.ext hx⟩⟩
def gk:Nat->Nat->Nat
 |0,M=>M
 |k+1,M=>gk k (2*M*M)
theorem zFM{M:Nat}(h:1<=M):M<=2*M*M:=Nat.le_trans (show M<=2*M by omega) (Nat.le_mul_of_pos_right _ oM)
theorem zHf:∀(k:Nat) {M:Nat},1<=M->M<=gk k M
 |0,M,_=>xgf _
 |k+1,M,h=>Nat.le_trans (zFM h) (zHf k (Nat.le_trans h (zFM h)))
theorem zC3:∀(a b M:Nat),gk (a+b) M=gk b (gk a M)
 |0,b,M=>by rw[Nat.zero_add];rfl
 |a+1,b,M=>by
  have:a+1+b=(a+b)+1:=by omega
  rw[this];show gk (a+b) _=gk b (gk a _);exact zC3 a b _
theorem zEW(k:Nat){M:Nat}(h:1<=M):1<=gk k M:=Nat.le_trans h (zHf k h)
theorem zA2{a b M:Nat}(h:1<=M)(hab:a<=b):gk a M<=gk b M:=by
 obtain⟨d,rfl⟩:=Nat.exists_eq_add_of_le hab;rw[zC3];exact zHf d (zEW a h)
theorem zNU:∀(k M:Nat),2*gk k M=(2*M)^(2^k)
 |0,M=>by simp[gk]
 |k+1,M=>by
  show 2*gk k (2*M*M)=_;rw[zNU k,Nat.pow_succ 2 k,Nat.mul_comm (2^k),Nat.pow_mul (2*M) 2];congr 1;rw[Nat.pow_two,<-Nat.mul_assoc 2 (2*M) M,Nat.mul_comm 2 (2*M),Nat.mul_assoc (2*M) 2 M]
theorem leB.mono{M M' n Cs Ct:Nat}{x:Bst}(h:leB M n Cs Ct x)(hm:M<=M'):leB M' n Cs Ct x:=⟨h.1.mono hm,h.2.1.mono hm,h.2.2.mono hm⟩
theorem leB.ok{M B n Cs Ct:Nat}{x:Bst}(h:leB M n Cs Ct x)(hm:M<B):okB B n Cs Ct x:=⟨h.1.ok hm,h.2.1.ok hm,h.2.2.ok hm⟩
theorem zF6{M q:Nat}(hM:1<=M)(hq:q<=M):M*(1+q)<=2*M*M:=by
 have h1:M*q<=M*M:=Nat.mul_le_mul_left _ hq;have h2:M*1<=M*M:=Nat.mul_le_mul_left _ hM;rw[Nat.mul_add,Nat.mul_assoc];omega
theorem zGe{a b:Int}{M:Nat}(hb:0<b)(ha:a.natAbs<=M):(a/b).natAbs<=M:=by
 rcases Int.le_total 0 a with h|h
 ·have g1:=Int.ediv_nonneg h (Int.le_of_lt hb)
  have g2:=Int.ediv_le_self b h;omega
 ·have g1:a/b<=0:=Int.ediv_nonpos_of_nonpos_of_neg h hb
  have g2:a<=a/b:=by
   rw[Int.le_ediv_iff_mul_le hb];have:a*b<=a*1:=Int.mul_le_mul_of_nonpos_left h oM;omega
  omega
def vw(ρ:Nat->Nat)(F:Nat->Nat->Int):Nat->Nat->Int:=fun a t=>F (ρ a) t
theorem zJY{B n Cs Ct r i:Nat}{ρ κ:Nat->Nat}(hρ:∀k,k<r->ρ k<n)(hinj:∀a b,a<b->b<r->ρ a≠ρ b)(hi:i<r):∀(m j:Nat) (x:Bst) (M:Nat),j+m=r->i<j->leB M n Cs Ct x->1<=M->Ech Cs r κ (vw ρ x.s)->
  (∀j',i<j'->j'<j->0<=x.s (ρ i) (κ j')/\x.s (ρ i) (κ j')<x.s (ρ j') (κ j'))->gk m M<B->
  ∃l,zEi B n Cs Ct ρ κ i m j x=some (zBH l x)/\yA n l/\leB (gk m M) n Cs Ct (zBH l x)/\Ech Cs r κ (vw ρ (zBH l x).s)/\(∀a,a≠ρ i->∀t,(zBH l x).s a t=x.s a t)∧
   (∀j',i<j'->j'<r->0<=(zBH l x).s (ρ i) (κ j')/\(zBH l x).s (ρ i) (κ j')<(zBH l x).s (ρ j') (κ j')):=by
 intro m;induction m with
 |zero=>
  intro j x M hj hij hM hM1 hE hR hB;exact⟨[],rfl,yA.nil,hM,hE,fun a _ t=>rfl,fun j' h1 h2=>hR j' h1 oM⟩
 | succ m ih=>
  intro j x M hj hij hM hM1 hE hR hB;have hjr:j<r:=by omega
  have hp:0<x.s (ρ j) (κ j):=hE.pos j hjr;have hg1:gk m M<=gk (m+1) M:=zA2 hM1 oM;have hnij:ρ i≠ρ j:=hinj i j hij hjr;have hskip:(0<=x.s (ρ i) (κ j)/\x.s (ρ i) (κ j)<x.s (ρ j) (κ j))->∃l,zEi B n Cs Ct ρ κ i m (j+1) x=some (zBH l x)/\yA n l/\leB (gk (m+1) M) n Cs Ct (zBH l x)/\Ech Cs r κ (vw ρ (zBH l x).s)/\(∀a,a≠ρ i->∀t,(zBH l x).s a t=x.s a t)∧
   (∀j',i<j'->j'<r->0<=(zBH l x).s (ρ i) (κ j')/\(zBH l x).s (ρ i) (κ j')<(zBH l x).s (ρ j') (κ j')):=fun hin=>by
   obtain⟨l,g1,g2,g3,g4⟩:=ih (j+1) x M oM oM hM hM1 hE (fun j' h1 h2=>by
    by_cases e:j'=j
    ·rw[e];exact hin
    ·exact hR j' h1 oM) oM
   exact⟨l,g1,g2,g3.mono hg1,g4⟩
  unfold zEi;by_cases h0:x.s (ρ i) (κ j)=0
  ·rw[if_pos h0]
   exact hskip oM
  ·rw [if_neg h0,if_neg oM]
   by_cases hq0:x.s (ρ i) (κ j)/x.s (ρ j) (κ j)=0
   ·rw[if_pos hq0]
    refine hskip ?_;have h1:=Int.mul_ediv_add_emod (x.s (ρ i) (κ j)) (x.s (ρ j) (κ j));have h2:=Int.emod_nonneg (x.s (ρ i) (κ j)) (b:=x.s (ρ j) (κ j)) oM;have h3:=Int.emod_lt_of_pos (x.s (ρ i) (κ j)) hp;rw[hq0,Int.mul_zero]at h1;omega
   ·rw [if_neg hq0]
    have hqM:(x.s (ρ i) (κ j)/x.s (ρ j) (κ j)).natAbs<=M:=zGe hp (hM.1 _ (hρ i oM) _ (hE.lt j hjr));obtain⟨q,hq⟩:∃q,x.s (ρ i) (κ j)/x.s (ρ j) (κ j)=q:=⟨_,rfl⟩;rw[hq]at hqM ⊢
    have hb2:=zF6 hM1 hqM;have hok:zDa B n Cs Ct x (ρ i) (ρ j) (-q):=zIa hM (hρ i oM) (hρ j hjr) hnij hM1 (by
     rw[Int.natAbs_neg];have:2*M*M<=gk (m+1) M:=zHf m (Nat.le_trans hM1 (zFM hM1));omega)
    rw[if_pos hok];have hoa:(Op.add (ρ i) (ρ j) (-q)).ok n:=⟨hρ i oM,hρ j hjr,hnij⟩;have hM2:leB (2*M*M) n Cs Ct (zBH [.add (ρ i) (ρ j) (-q)] x):=(zOD hM hoa).mono (by simpa[Op.g]using hb2);have hst:∀a t,(zBH [.add (ρ i) (ρ j) (-q)] x).s a t=if a=ρ i then x.s (ρ i) t+-q*x.s (ρ j) t else x.s a t:=fun a t=>rfl
    have hdm:=Int.mul_ediv_add_emod (x.s (ρ i) (κ j)) (x.s (ρ j) (κ j));have hm0:=Int.emod_nonneg (x.s (ρ i) (κ j)) (b:=x.s (ρ j) (κ j)) oM;have hml:=Int.emod_lt_of_pos (x.s (ρ i) (κ j)) hp;rw[hq]at hdm;have hne:∀a,a<r->a≠i->ρ a≠ρ i:=fun a ha e h=>by
     rcases Nat.lt_or_gt_of_ne e with h1|h1
     ·exact hinj a i h1 hi h
     ·exact hinj i a h1 ha h.symm
    have hEy:Ech Cs r κ (vw ρ (zBH [.add (ρ i) (ρ j) (-q)] x).s):=by
     have hsm:∀t,t<=κ i->x.s (ρ i) t+-q*x.s (ρ j) t=x.s (ρ i) t:=fun t ht=>by
      have hz:x.s (ρ j) t=0:=hE.zero j hjr t (by have:=hE.inc i j hij hjr;omega);rw[hz];omega
     refine⟨hE.lt,fun a ha=>?_,fun a ha t ht=>?_,hE.inc⟩
     ·show 0<(zBH [.add (ρ i) (ρ j) (-q)] x).s (ρ a) (κ a)
      rw[hst];by_cases e:a=i
      ·rw[e,if_pos rfl,hsm _ (xgf _)];exact hE.pos i oM
      ·rw[if_neg (hne a ha e)];exact hE.pos a ha
     ·show(zBH [.add (ρ i) (ρ j) (-q)] x).s (ρ a) t=0
      rw[hst];by_cases e:a=i
      ·rw[e]at ht
       rw[e,if_pos rfl,hsm t oM];exact hE.zero i oM t ht
      ·rw[if_neg (hne a ha e)];exact hE.zero a ha t ht
    obtain⟨l,g1,g2,g3,g4,g5,g6⟩:=ih (j+1) (zBH [.add (ρ i) (ρ j) (-q)] x) (2*M*M) oM oM hM2 (Nat.le_trans hM1 (zFM hM1)) hEy
     (fun j' h1 h2=>by
      rw[hst,hst,if_pos rfl,if_neg (hne j' oM oM)];by_cases e:j'=j
      ·rw[e,Int.neg_mul,Int.mul_comm q]
       constructor<;>omega
      ·have hz:x.s (ρ j) (κ j')=0:=hE.zero j hjr (κ j') (hE.inc j' j oM hjr)
       rw[hz,Int.mul_zero,Int.add_zero];exact hR j' h1 oM) hB
    rw[<-zD6]at g1 g3 g4 g5 g6;refine⟨[Op.add (ρ i) (ρ j) (-q)]++l,g1,(yA.cons hoa yA.nil).app g2,g3,g4,fun a ha t=>?_,g6⟩;rw[g5 a ha t,hst,if_neg ha]
theorem zJX{B n Cs Ct r:Nat}{ρ κ:Nat->Nat}(hρ:∀k,k<r->ρ k<n)(hinj:∀a b,a<b->b<r->ρ a≠ρ b):∀(i:Nat) (x:Bst) (M:Nat),i<=r->leB M n Cs Ct x->1<=M->Ech Cs r κ (vw ρ x.s)->
  zHS (fun a _=>i<=a) r κ (vw ρ x.s)->gk (zNZ r i) M<B->
  ∃l,zG0 B n Cs Ct ρ κ r i x=some (zBH l x)/\yA n l/\leB (gk (zNZ r i) M) n Cs Ct (zBH l x)/\Ech Cs r κ (vw ρ (zBH l x).s)/\zHS (fun _ _=>True) r κ (vw ρ (zBH l x).s)∧
   (∀a,(∀k,k<r->ρ k≠a)->∀t,(zBH l x).s a t=x.s a t):=by
 intro i;induction i with
 |zero=>
  intro x M hi hM hM1 hE hR hB;exact⟨[],rfl,yA.nil,hM,hE,fun a b h1 h2 _=>hR a b h1 h2 (Nat.zero_le _),fun a _ t=>rfl⟩
 | succ i ih=>
  intro x M hi hM hM1 hE hR hB;have hsum:gk (zNZ r (i+1)) M=gk (zNZ r i) (gk (r-(i+1)) M):=zC3 _ _ _;rw[hsum]at hB ⊢
  have hM2:=zEW (r-(i+1)) hM1;have hB1:gk (r-(i+1)) M<B:=Nat.lt_of_le_of_lt (zHf (zNZ r i) hM2) hB;obtain⟨l1,g1,g2,g3,g4,g5,g6⟩:=zJY (B:=B) (Ct:=Ct) (i:=i) hρ hinj oM (r-(i+1)) (i+1) x M oM oM hM hM1 hE (fun j' h1 h2=>by omega) hB1;have hne:∀a,a<r->a≠i->ρ a≠ρ i:=fun a ha e h=>by
   rcases Nat.lt_or_gt_of_ne e with h1|h1
   ·exact hinj a i h1 oM h
   ·exact hinj i a h1 ha h.symm
  obtain⟨l2,k1,k2,k3,k4,k5,k6⟩:=ih (zBH l1 x) (gk (r-(i+1)) M) oM g3 hM2 g4
   (fun a b h1 h2 h3=>by
    show 0<=(zBH l1 x).s (ρ a) (κ b)/\(zBH l1 x).s (ρ a) (κ b)<(zBH l1 x).s (ρ b) (κ b);by_cases e:a=i
    ·rw[e];exact g6 b oM h2
    ·rw[g5 _ (hne a oM e),g5 _ (hne b h2 oM)]
     exact hR a b h1 h2 oM) hB
  rw[<-zD6]at k1 k3 k4 k5 k6;refine⟨l1++l2,?_,g2.app k2,k3,k4,k5,fun a ha t=>?_⟩
  ·unfold zG0
   rw[g1,Option.bind_some];exact k1
  ·rw[k6 a ha t,g5 a (fun e=>ha i oM e.symm)]
theorem zI0{a b x y:Int}{M:Nat}(ha:a.natAbs<=M)(hb:b.natAbs<=M)(hx:x.natAbs<=M)(hy:y.natAbs<=M):(a*x+b*y).natAbs<=2*M*M:=by
 have h1:(a*x).natAbs<=M*M:=by rw[Int.natAbs_mul];exact Nat.mul_le_mul ha hx
 have h2:(b*y).natAbs<=M*M:=by rw[Int.natAbs_mul];exact Nat.mul_le_mul hb hy
 rw[Nat.mul_assoc];omega
theorem zDU{M n C i j:Nat}{a b c d:Int}{F:Nat->Nat->Int}(h:leM M n C F)(hM:1<=M)(hi:i<n)(hj:j<n)(ha:a.natAbs<=M)(hb:b.natAbs<=M)(hc:c.natAbs<=M)(hd:d.natAbs<=M):leM (2*M*M) n C (qO F i j a b c d):=by
 intro r hr t ht;unfold qO;split
 ·exact zI0 ha hb (h i hi t ht) (h j hj t ht)
 ·split
  ·exact zI0 hc hd (h i hi t ht) (h j hj t ht)
  ·exact Nat.le_trans (h r hr t ht) (zFM hM)
theorem zKh{M n Cs Ct i j:Nat}{a b c d:Int}{x:Bst}(h:leB M n Cs Ct x)(hM:1<=M)(hi:i<n)(hj:j<n)(ha:a.natAbs<=M)(hb:b.natAbs<=M)(hc:c.natAbs<=M)(hd:d.natAbs<=M):leB (2*M*M) n Cs Ct (x.mix i j a b c d):=
 ⟨zDU h.1 hM hi hj ha hb hc hd,zDU h.2.1 hM hi hj ha hb hc hd,zDU h.2.2 hM hi hj hd (by rw[Int.natAbs_neg];exact hc) (by rw[Int.natAbs_neg];exact hb) ha⟩
theorem zMm{B M n Cs Ct i j:Nat}{a b c d:Int}{x:Bst}(h:leB M n Cs Ct x)(hM:1<=M)(hi:i<n)(hj:j<n)(ha:a.natAbs<=M)(hb:b.natAbs<=M)(hc:c.natAbs<=M)(hd:d.natAbs<=M)(hB:2*M*M<B):zKu B n Cs Ct x i j a b c d:=by
 have h1:=zFM hM;have hp:∀u v:Int,u.natAbs<=M->v.natAbs<=M->(u*v).natAbs<B:=fun u v hu hv=>by
  have e:(u*v).natAbs<=M*M:=by rw[Int.natAbs_mul];exact Nat.mul_le_mul hu hv
  rw[Nat.mul_assoc]at hB;omega
 exact⟨⟨by omega,by omega,by omega,by omega⟩,fun t ht=>⟨hp _ _ ha (h.1 i hi t ht),hp _ _ hb (h.1 j hj t ht),hp _ _ hc (h.1 i hi t ht),hp _ _ hd (h.1 j hj t ht)⟩,
  fun t ht=>⟨hp _ _ ha (h.2.1 i hi t ht),hp _ _ hb (h.2.1 j hj t ht),hp _ _ hc (h.2.1 i hi t ht),hp _ _ hd (h.2.1 j hj t ht)⟩,
  fun t ht=>⟨hp _ _ hd (h.2.2 i hi t ht),hp _ _ hc (h.2.2 j hj t ht),hp _ _ hb (h.2.2 i hi t ht),hp _ _ ha (h.2.2 j hj t ht)⟩,(zKh h hM hi hj ha hb hc hd).ok hB⟩
def jI(L:List (Nat × Nat))(k:Nat):Nat:=(L.getD k (0,0)).1
def zDM(L:List (Nat × Nat))(k:Nat):Nat:=(L.getD k (0,0)).2
structure JC(n Cs Ct M0:Nat)(x0:Bst)(b g:Nat)(x:Bst)(L:List (Nat × Nat)):Prop where
 ops:∃l,yA n l/\x=zBH l x0
 row:∀k,k<L.length->jI L k<b
 inj:∀i j,i<j->j<L.length->jI L i≠jI L j
 len:L.length<=b
 ech:Ech Cs L.length (zDM L) (vw (jI L) x.s)
 zero:∀a,a<b->(∀k,k<L.length->jI L k≠a)->∀t,t<Cs->x.s a t=0
 bd:leB (gk g M0) n Cs Ct x
def es:Nat->Nat
 |0=>0
 |m+1=>es m+m+m*(m+1)/2
theorem zN2{a b:Nat}(h:a<=b):es a<=es b:=by
 obtain⟨d,rfl⟩:=Nat.exists_eq_add_of_le h;clear h;induction d with
 |zero=>exact xgf _
 |succ d ih=>exact Nat.le_trans ih (by show _<=es (a+d)+(a+d)+_;omega)
def esr(r:Nat):Nat->Nat
 |0=>0
 |m+1=>esr r m+min m r+min m r*(min m r+1)/2
theorem zL9(r:Nat){a b:Nat}(h:a<=b):esr r a<=esr r b:=by
 obtain⟨d,rfl⟩:=Nat.exists_eq_add_of_le h;clear h;induction d with
 |zero=>exact xgf _
 |succ d ih=>exact Nat.le_trans ih (by show _<=esr r (a+d)+min (a+d) r+_;omega)
theorem zIO(r:Nat):∀m,esr r m<=es m
 |0=>xgf _
 |m+1=>Nat.add_le_add (Nat.add_le_add (zIO r m) (Nat.min_le_left m r)) (Nat.div_le_div_right (Nat.mul_le_mul (Nat.min_le_left m r) (Nat.succ_le_succ (Nat.min_le_left m r))))
def RkB(r n Cs:Nat)(x0:Bst):Prop:=∀(l:List Op) (k:Nat) (ρ κ:Nat->Nat),yA n l->k<=n->(∀j,j<k->ρ j<n)->(∀i j,i<j->j<k->ρ i≠ρ j)->Ech Cs k κ (vw ρ (zBH l x0).s)->k<=r
theorem RkB.all{n Cs:Nat}{x0:Bst}:RkB n n Cs x0:=fun _ _ _ _ _ h _ _ _=>h
theorem JC.rk{r n Cs Ct M0 b g:Nat}{x0 x:Bst}{L:List (Nat × Nat)}(h:JC n Cs Ct M0 x0 b g x L)(hb:b<=n)(hr:RkB r n Cs x0):L.length<=r:=by
 obtain⟨l,h1,h2⟩:=h.ops;exact hr l _ (jI L) (zDM L) h1 (Nat.le_trans h.len hb) (fun j hj=>Nat.lt_of_lt_of_le (h.row j hj) hb) h.inj (h2 ▸ h.ech)
def JH(r n Cs Ct M0:Nat)(x0:Bst)(m:Nat)(x:Bst)(L:List (Nat × Nat)):Prop:=
 m<=n/\(∃g,g<=L.length/\(m<n->∀i,i<g->lead Cs x.s m<0∨(zDM L i:Int)<lead Cs x.s m)/\(m=n->g=0)/\JC n Cs Ct M0 x0 m (esr r m+g) x L)/\(m=n->zHS (fun _ _=>True) L.length (zDM L) (vw (jI L) x.s))
def JH'(r n Cs Ct M0:Nat)(x0:Bst)(m:Nat)(x:Bst)(L:List (Nat × Nat)):Prop:=JC n Cs Ct M0 x0 (m+1) (esr r m+min m r) x L
section
variable {B r n Cs Ct M0:Nat} {x0:Bst}
theorem JC.lok{b g:Nat}{x:Bst}{L:List (Nat × Nat)}(h:JC n Cs Ct M0 x0 b g x L)(hb:b<=n):LOk n Cs b x L:=by
 refine⟨fun k hk=>⟨h.row k hk,Nat.lt_of_lt_of_le (h.row k hk) hb,h.ech.lt k hk,?_⟩,h.ech.inc,h.inj,Nat.le_trans h.len hb⟩;have:0<x.s (jI L k) (zDM L k):=h.ech.pos k hk;have e:x.s (L.getD k (0,0)).1 (L.getD k (0,0)).2=x.s (jI L k) (zDM L k):=rfl;rw[e];omega
theorem zHq{x y:Bst}{l l':List Op}(h1:yA n l)(h2:x=zBH l x0)(h3:yA n l')(h4:y=zBH l' x):∃l,yA n l/\y=zBH l x0:=⟨l++l',h1.app h3,by rw[zD6,<-h2];exact h4⟩
theorem zGk{m k c e:Nat}{x y:Bst}{L:List (Nat × Nat)}(hm:m<n)(hM0:1<=M0)(hcC:c<Cs){g:Nat}(h:JC n Cs Ct M0 x0 m g x L)(he:e<=k)(hk:k<L.length)(hc:zDM L k=c)
  (hy:∃l,yA n l/\y=zBH l x) (ho:∀a,a≠m->a≠jI L k->∀t,y.s a t=x.s a t) (hp:0<y.s (jI L k) c) (hz:∀t,t<c->y.s (jI L k) t=0) (hmz:∀t,t<=c->y.s m t=0) (hb:leB (gk (esr r m+e+1) M0) n Cs Ct y):
  JH r n Cs Ct M0 x0 m y L/\(lead Cs y.s m<0∨(c:Int)<lead Cs y.s m):=by
 have hl:lead Cs y.s m<0∨(c:Int)<lead Cs y.s m:=by
  rcases zAk Cs y.s m with⟨g,-⟩|⟨c1,g1,g2,g3,-⟩
  ·left;omega
  ·right
   rcases Nat.lt_or_ge c c1 with h|h
   ·omega
   ·exact absurd (hmz c1 h) g3
 have hne:∀a,a<L.length->a≠k->jI L a≠jI L k:=fun a ha e hh=>by
  rcases Nat.lt_or_gt_of_ne e with h1|h1
  ·exact h.inj a k h1 hk hh
  ·exact h.inj k a h1 ha hh.symm
 have hrm:∀a,a<L.length->jI L a≠m:=fun a ha=>by have:=h.row a ha;omega
 obtain⟨l,hl1,hl2⟩:=h.ops;obtain⟨l',hl3,hl4⟩:=hy;refine⟨⟨by omega,⟨k+1,hk,fun _ i hi=>?_,fun e=>by omega,⟨zHq hl1 hl2 hl3 hl4,h.row,h.inj,h.len,⟨h.ech.lt,fun a ha=>?_,fun a ha t ht=>?_,h.ech.inc⟩,fun a ha hna t ht=>?_,hb.mono (zA2 hM0 oM)⟩⟩,fun e=>by omega⟩,hl⟩
 ·have:zDM L i<=c:=by
   rcases Nat.lt_or_ge i k with h1|h1
   ·have:=h.ech.inc i k h1 hk;omega
   ·obtain rfl:i=k:=by omega
    omega
  omega
 ·show 0<y.s (jI L a) (zDM L a)
  by_cases e:a=k
  ·rw[e,hc];exact hp
  ·rw[ho _ (hrm a ha) (hne a ha e)];exact h.ech.pos a ha
 ·show y.s (jI L a) t=0
  by_cases e:a=k
  ·rw[e,hc]at ht
   rw[e];exact hz t ht
  ·rw[ho _ (hrm a ha) (hne a ha e)];exact h.ech.zero a ha t ht
 ·rw[ho a oM (fun e=>hna k hk e.symm)]
  exact h.zero a ha hna t ht
theorem zMW{m k c e:Nat}{x:Bst}{L:List (Nat × Nat)}(hm:m<n)(hM0:1<=M0)(h:JC n Cs Ct M0 x0 m (esr r m+e) x L)(he:e<=k)(hl:lead Cs x.s m=(c:Int))(hk:k<L.length)(hc:zDM L k=c)
  (hd:x.s m c%x.s (jI L k) c=0):JH r n Cs Ct M0 x0 m (x.add m (jI L k) (-(x.s m c/x.s (jI L k) c))) L/\(lead Cs (x.add m (jI L k) (-(x.s m c/x.s (jI L k) c))).s m<0∨(c:Int)<lead Cs (x.add m (jI L k) (-(x.s m c/x.s (jI L k) c))).s m):=by
 obtain⟨hcC,-⟩:=zBE hl;have hrm:=h.row k hk;have hz:∀t,t<c->x.s (jI L k) t=0:=fun t ht=>h.ech.zero k hk t (by rw[hc];exact ht)
 have hp:0<x.s (jI L k) c:=by have:=h.ech.pos k hk;rw[hc]at this;exact this
 have hmz:∀t,t<c->x.s m t=0:=by
  rcases zAk Cs x.s m with⟨g,-⟩|⟨c1,g1,g2,g3,g4⟩
  ·omega
  ·obtain rfl:c1=c:=by omega
   exact g4
 have hM:=zEW (esr r m+e) hM0;have hq:(x.s m c/x.s (jI L k) c).natAbs<=gk (esr r m+e) M0:=zGe hp (h.bd.1 m hm c hcC);have hoa:(Op.add m (jI L k) (-(x.s m c/x.s (jI L k) c))).ok n:=⟨hm,by omega,by omega⟩;have hst:∀a t,(x.add m (jI L k) (-(x.s m c/x.s (jI L k) c))).s a t=if a=m then x.s m t+-(x.s m c/x.s (jI L k) c)*x.s (jI L k) t else x.s a t:=fun a t=>rfl
 refine zGk hm hM0 hcC h he hk hc ⟨[_],yA.cons hoa yA.nil,rfl⟩ (fun a h1 h2 t=>by rw[hst,if_neg h1]) (by rw[hst,if_neg oM];exact hp) (fun t ht=>by rw[hst,if_neg oM];exact hz t ht) (fun t ht=>?_) ?_
 ·rw[hst,if_pos rfl]
  by_cases ee:t=c
  ·subst ee
   have:=Int.mul_ediv_add_emod (x.s m t) (x.s (jI L k) t);rw[Int.neg_mul,Int.mul_comm (x.s m t/_)];omega
  ·rw[hmz t oM,hz t oM,Int.mul_zero];rfl
 ·refine(zOD h.bd hoa).mono ?_
  rw[zC3 (esr r m+e) 1];show _<=2*gk (esr r m+e) M0*gk (esr r m+e) M0;have:(Op.add m (jI L k) (-(x.s m c/x.s (jI L k) c))).g=1+(x.s m c/x.s (jI L k) c).natAbs:=by simp[Op.g]
  rw[this];exact zF6 hM hq
theorem zNo{x y:Int}(hx:0<x){g:Int}(hg:g=((Int.gcd x y:Nat):Int)):0<g/\g*(x/g)=x/\g*(y/g)=y/\(x/g).natAbs<=x.natAbs/\(y/g).natAbs<=y.natAbs:=by
 have h0:Int.gcd x y≠0:=fun e=>by rw[Int.gcd_eq_zero_iff]at e;omega
 have hg0:0<g:=by omega
 have d1:g∣x:=by rw[hg];exact Int.gcd_dvd_left ..
 have d2:g∣y:=by rw[hg];exact Int.gcd_dvd_right ..
 exact⟨hg0,Int.mul_ediv_cancel' d1,Int.mul_ediv_cancel' d2,zGe hg0 (xgf _),zGe hg0 (xgf _)⟩
def zPg(x:Bst)(r m c:Nat)(s t:Int):Bst:=x.mix r m s t (-(x.s m c/((Int.gcd (x.s r c) (x.s m c):Nat):Int))) (x.s r c/((Int.gcd (x.s r c) (x.s m c):Nat):Int))
def zNX(B n Cs Ct G m c:Nat)(x:Bst)(r:Nat)(s t:Int):Prop:=G<B->zKu B n Cs Ct x r m s t (-(x.s m c/((Int.gcd (x.s r c) (x.s m c):Nat):Int))) (x.s r c/((Int.gcd (x.s r c) (x.s m c):Nat):Int))
theorem zIR{m k c e:Nat}{x:Bst}{L:List (Nat × Nat)}(hm:m<n)(hM0:1<=M0)(h:JC n Cs Ct M0 x0 m (esr r m+e) x L)(he:e<=k)(hl:lead Cs x.s m=(c:Int))(hk:k<L.length)(hc:zDM L k=c)(s t:Int)
  (hbz:Bez (x.s (jI L k) c) (x.s m c) s t):zNX B n Cs Ct (gk (esr r m+e+1) M0) m c x (jI L k) s t/\(JH r n Cs Ct M0 x0 m (zPg x (jI L k) m c s t) L/\(lead Cs (zPg x (jI L k) m c s t).s m<0∨(c:Int)<lead Cs (zPg x (jI L k) m c s t).s m)):=by
 obtain⟨hcC,-⟩:=zBE hl;have hrm:=h.row k hk;have hz:∀t,t<c->x.s (jI L k) t=0:=fun t ht=>h.ech.zero k hk t (by rw[hc];exact ht)
 have hp:0<x.s (jI L k) c:=by have:=h.ech.pos k hk;rw[hc]at this;exact this
 have hmz:∀t,t<c->x.s m t=0:=by
  rcases zAk Cs x.s m with⟨g,-⟩|⟨c1,g1,g2,g3,g4⟩
  ·omega
  ·obtain rfl:c1=c:=by omega
   exact g4
 have hM:=zEW (esr r m+e) hM0;have bx:=h.bd.1 (jI L k) oM c hcC;have by_:=h.bd.1 m hm c hcC;obtain⟨hb1,hb2,hb3⟩:=hbz;obtain⟨g,hg⟩:∃g:Int,((Int.gcd (x.s (jI L k) c) (x.s m c):Nat):Int)=g:=⟨_,rfl⟩;obtain⟨d1,d2,d3,d4,d5⟩:=zNo hp hg.symm;have q1:s.natAbs<=gk (esr r m+e) M0:=by omega
 have q2:t.natAbs<=gk (esr r m+e) M0:=by omega
 have q3:(-(x.s m c/g)).natAbs<=gk (esr r m+e) M0:=by rw[Int.natAbs_neg];omega
 have q4:(x.s (jI L k) c/g).natAbs<=gk (esr r m+e) M0:=by omega
 have hbd:=zKh h.bd hM (by omega:jI L k<n) hm q1 q2 q3 q4;unfold zNX zPg;rw[hg]at hb1 ⊢
 refine⟨fun hB=>zMm h.bd hM oM hm q1 q2 q3 q4 (by rw[zC3 (esr r m+e) 1]at hB;exact hB),?_⟩;have hne:jI L k≠m:=by omega
 have hdet:s*(x.s (jI L k) c/g)-t*(-(x.s m c/g))=1:=by
  have e':g*(s*(x.s (jI L k) c/g)-t*(-(x.s m c/g)))=g*1:=by
   rw[Int.mul_neg,Int.sub_neg,Int.mul_add,Int.mul_left_comm g s,Int.mul_left_comm g t,d2,d3,hb1,Int.mul_one]
  exact Int.eq_of_mul_eq_mul_left oM e'
 obtain⟨l,l1,l2⟩:=zOK (n:=n) (by omega:jI L k<n) hm hne _ s t (-(x.s m c/g)) (x.s (jI L k) c/g) rfl hdet;have hst:∀a u,(x.mix (jI L k) m s t (-(x.s m c/g)) (x.s (jI L k) c/g)).s a u=if a=jI L k then s*x.s (jI L k) u+t*x.s m u else if a=m then-(x.s m c/g)*x.s (jI L k) u+x.s (jI L k) c/g*x.s m u else x.s a u:=fun a u=>rfl
 refine zGk hm hM0 hcC h he hk hc ⟨l,l1,l2 x⟩ (fun a h1 h2 u=>by rw[hst,if_neg h2,if_neg h1]) (by rw[hst,if_pos rfl,hb1];exact d1) (fun u hu=>by rw[hst,if_pos rfl,hz u hu,hmz u hu];simp) (fun u hu=>?_) (by rw[zC3 (esr r m+e) 1];exact hbd);rw[hst,if_neg (Ne.symm hne),if_pos rfl];by_cases ee:u=c
 ·subst ee
  have e1:x.s m u/g*x.s (jI L k) u=x.s (jI L k) u/g*x.s m u:=by
   have:g*(x.s m u/g*x.s (jI L k) u)=g*(x.s (jI L k) u/g*x.s m u):=by
    rw[<-Int.mul_assoc,d3,<-Int.mul_assoc,d2,Int.mul_comm]
   exact Int.eq_of_mul_eq_mul_left oM this
  rw[Int.neg_mul,e1];omega
 ·rw[hmz u oM,hz u oM];simp
theorem zIn(L:List (Nat × Nat)){k m c:Nat}(hk:k<=L.length)(a:Nat):(L.take k++(m,c)::L.drop k).getD a (0,0)=if a<k then L.getD a (0,0)else if a=k then(m,c)else L.getD (a-1) (0,0):=by
 rw[xgb];split
 ·rename_i h
  rw[List.getElem?_append_left (by simp;omega),List.getElem?_take_of_lt h,<-xgb]
 ·rename_i h
  rw[List.getElem?_append_right (by simp;omega)];have e:(L.take k).length=k:=by simp;omega
  rw[e];split
  ·rename_i h2
   rw[h2];simp
  ·rename_i h2
   obtain⟨d,hd⟩:∃d,a-k=d+1:=⟨a-k-1,by omega⟩;rw[hd,List.getElem?_cons_succ,List.getElem?_drop,<-xgb];congr 1;omega
theorem zPF{m k c e:Nat}{x:Bst}{L:List (Nat × Nat)}(hm:m<n)(hM0:1<=M0)(h:JC n Cs Ct M0 x0 m (esr r m+e) x L)(he:e<=min m r)(hl:lead Cs x.s m=(c:Int))(hk:k<=L.length)(hlo:∀i,i<k->zDM L i<c)(hhi:∀i,k<=i->i<L.length->c<zDM L i):
  JH' r n Cs Ct M0 x0 m (if x.s m c<0 then x.neg m else x) (L.take k++(m,c)::L.drop k):=by
 obtain⟨hcC,hn0⟩:=zBE hl;have hmz:∀t,t<c->x.s m t=0:=by
  rcases zAk Cs x.s m with⟨g,-⟩|⟨c1,g1,g2,g3,g4⟩
  ·omega
  ·obtain rfl:c1=c:=by omega
   exact g4
 obtain⟨ng,h1,h2,h3⟩:∃ng,yA n ng/\gro ng=1/\(if x.s m c<0 then x.neg m else x)=zBH ng x:=by
  by_cases hneg:x.s m c<0
  ·rw[if_pos hneg];exact⟨[.neg m],yA.cons hm yA.nil,rfl,rfl⟩
  ·rw[if_neg hneg];exact⟨[],yA.nil,rfl,rfl⟩
 have hb:leB (gk (esr r m+min m r) M0) n Cs Ct (if x.s m c<0 then x.neg m else x):=by
  rw[h3];refine(zOE h1 h.bd).mono ?_;rw[h2,Nat.mul_one];exact zA2 hM0 oM
 obtain⟨y,hy⟩:∃y,(if x.s m c<0 then x.neg m else x)=y:=⟨_,rfl⟩;have ho:∀a,a≠m->∀t,y.s a t=x.s a t:=fun a ha t=>by
  rw[<-hy];split
  ·show(if a=m then _ else x.s a t)=_
   rw[if_neg ha]
  ·rfl
 have hpos:0<y.s m c:=by
  rw[<-hy];split
  ·show 0<(if m=m then-(x.s m c)else _)
   rw[if_pos rfl];omega
  ·omega
 have hz:∀t,t<c->y.s m t=0:=fun t ht=>by
  rw[<-hy];split
  ·show(if m=m then-(x.s m t)else _)=0
   rw[if_pos rfl,hmz t ht];rfl
  ·exact hmz t ht
 rw[hy]at h3 hb ⊢
 obtain⟨l,hl1,hl2⟩:=h.ops;have hlen:(L.take k++(m,c)::L.drop k).length=L.length+1:=by simp;omega
 have er:∀a,jI (L.take k++(m,c)::L.drop k) a=if a<k then jI L a else if a=k then m else jI L (a-1):=fun a=>by
  unfold jI;rw[zIn L hk];split
  ·rfl
  ·split<;>rfl
 have ec:∀a,zDM (L.take k++(m,c)::L.drop k) a=if a<k then zDM L a else if a=k then c else zDM L (a-1):=fun a=>by
  unfold zDM;rw[zIn L hk];split
  ·rfl
  ·split<;>rfl
 have hrow:=h.row;have hinj:=h.inj;have hinc:=h.ech.inc;have hll:=h.len;refine⟨zHq hl1 hl2 h1 h3,fun a ha=>?_,fun a b hab hb'=>?_,by omega,⟨fun a ha=>?_,fun a ha=>?_,fun a ha t ht=>?_,fun a b hab hb'=>?_⟩,fun a ha hna t ht=>?_,hb⟩
 ·rw[hlen]at ha
  rw[er];split
  ·have:=hrow a oM;omega
  ·split
   ·omega
   ·have:=hrow (a-1) oM;omega
 ·rw[hlen]at hb'
  rw[er a,er b];by_cases g1:a<k
  ·rw[if_pos g1]
   by_cases g2:b<k
   ·rw[if_pos g2];exact hinj a b hab oM
   ·rw[if_neg g2]
    by_cases g3:b=k
    ·rw[if_pos g3];have:=hrow a oM;omega
    ·rw[if_neg g3];exact hinj a (b-1) oM oM
  ·rw[if_neg g1,if_neg (show ¬ b<k by omega),if_neg (show ¬ b=k by omega)]
   by_cases g3:a=k
   ·rw[if_pos g3];have:=hrow (b-1) oM;omega
   ·rw[if_neg g3];exact hinj (a-1) (b-1) oM oM
 ·rw[hlen]at ha
  rw[ec];split
  ·exact h.ech.lt a oM
  ·split
   ·exact hcC
   ·exact h.ech.lt (a-1) oM
 ·rw[hlen]at ha
  show 0<y.s (jI _ a) (zDM _ a);rw[er,ec];split
  ·rw[ho _ (by have:=hrow a oM;omega)];exact h.ech.pos a oM
  ·split
   ·exact hpos
   ·rw[ho _ (by have:=hrow (a-1) oM;omega)];exact h.ech.pos (a-1) oM
 ·rw[hlen]at ha
  show y.s (jI _ a) t=0;rw[ec]at ht;rw[er];split
  ·rename_i g1
   rw[if_pos g1]at ht;rw[ho _ (by have:=hrow a oM;omega)];exact h.ech.zero a oM t ht
  ·rename_i g1
   rw[if_neg g1]at ht;split
   ·rename_i g2
    rw[if_pos g2]at ht;exact hz t ht
   ·rename_i g2
    rw[if_neg g2]at ht;rw[ho _ (by have:=hrow (a-1) oM;omega)];exact h.ech.zero (a-1) oM t ht
 ·rw [hlen]at hb'
  rw[ec a,ec b];by_cases g1:a<k
  ·rw[if_pos g1]
   by_cases g2:b<k
   ·rw[if_pos g2];exact hinc a b hab oM
   ·rw[if_neg g2]
    by_cases g3:b=k
    ·rw[if_pos g3];exact hlo a g1
    ·rw[if_neg g3]
     have i1:=hlo a g1;have i2:=hhi (b-1) oM oM;omega
  ·rw[if_neg g1,if_neg (show ¬ b<k by omega),if_neg (show ¬ b=k by omega)]
   by_cases g3:a=k
   ·rw[if_pos g3];exact hhi (b-1) oM oM
   ·rw[if_neg g3];exact hinc (a-1) (b-1) oM oM
 ·have ham:a≠m:=fun e=>hna k (by rw[hlen];omega) (by rw[er,if_neg oM,if_pos rfl];exact e.symm)
  rw[ho a ham];refine h.zero a oM (fun j hj=>?_) t ht;by_cases hjk:j<k
  ·have:=hna j (by rw[hlen];omega)
   rw[er,if_pos hjk]at this;exact this
  ·have:=hna (j+1) (by rw[hlen];omega)
   rw[er,if_neg oM,if_neg oM]at this;exact this
theorem zMz:∀m,m<6->∀r,r<=m+1->zNZ r r<=m*(m+1)/2:=by decide
theorem zNy(hn:n<=6)(hM0:1<=M0)(hB:gk (esr r n) M0<B)(hrk:RkB r n Cs x0):zOu B n Cs Ct (JH r n Cs Ct M0 x0) (JH' r n Cs Ct M0 x0):=by
 have hg:∀a,a<=esr r n->gk a M0<B:=fun a ha=>Nat.lt_of_le_of_lt (zA2 hM0 ha) hB
 have hes:∀m,m<n->esr r m+min m r+min m r*(min m r+1)/2<=esr r n:=fun m hm=>zL9 r (show m+1<=n from hm)
 refine⟨fun m x L h=>?_,fun m x L hm h=>?_,fun m x L hm h hl=>?_,fun m x L k c hm h hl hk hc=>?_,fun m x L k c hm h hl hk hlo hhi=>?_,fun m x L hm h=>?_⟩
 ·obtain⟨h1,⟨g,g1,-,g3,g4⟩,-⟩:=h
  refine⟨g4.bd.ok (hg _ ?_),g4.lok h1⟩;rcases Nat.lt_or_ge m n with hm|hm
  ·have:=hes m hm
   have:=g4.len;have:=g4.rk h1 hrk;omega
  ·obtain rfl:m=n:=by omega
   rw[g3 rfl];exact xgf _
 ·exact⟨h.bd.ok (hg _ (by have:=hes m hm;omega)),h.lok oM⟩
 ·obtain⟨h1,⟨g,g1,-,-,h2⟩,-⟩:=h
  refine⟨h2.ops,fun k hk=>Nat.lt_succ_of_lt (h2.row k hk),h2.inj,Nat.le_succ_of_le h2.len,h2.ech,fun a ha hna t ht=>?_,h2.bd.mono (zA2 hM0 ?_)⟩
  ·by_cases e:a=m
   ·rw[e];exact zF0 hl t ht
   ·exact h2.zero a oM hna t ht
  ·have:=h2.len
   have:=h2.rk h1 hrk;omega
 ·obtain⟨h1,⟨g,g1,g2,-,h2⟩,-⟩:=h
  obtain⟨hcC,-⟩:=zBE hl;have hgk:g<=k:=by
   refine Nat.le_of_not_lt fun hlt=>?_
   have:=g2 hm k hlt;rw[hl,show zDM L k=c from hc]at this;omega
  have hen:esr r m+g+1<=esr r n:=by
   have:=hes m hm;have:=h2.len;have:=h2.rk h1 hrk;have:g+1<=min m r:=by omega
   omega
  refine⟨fun hd=>?_,fun s t hbz=>?_,fun y hy=>?_⟩
  ·have hp:0<x.s (jI L k) c:=by
    have:=h2.ech.pos k hk;rw[show zDM L k=c from hc]at this;exact this
   have hM:=zEW (esr r m+g) hM0;have hrm:=h2.row k hk;have hq:(x.s m c/x.s (jI L k) c).natAbs<=gk (esr r m+g) M0:=zGe hp (h2.bd.1 m hm c hcC);refine zIa h2.bd hm (show jI L k<n by omega) (show m≠jI L k by omega) hM ?_;rw[Int.natAbs_neg];have e1:=zF6 hM hq;have e2:=hg (esr r m+g+1) hen;rw[zC3 (esr r m+g) 1]at e2;exact Nat.lt_of_le_of_lt e1 e2
  ·exact(zIR (B:=B) hm hM0 h2 hgk hl hk hc s t hbz).1 (hg _ hen)
  ·cases hy with
   |add hd=>exact zMW hm hM0 h2 hgk hl hk hc hd
   |mix s t hd hbz=>exact(zIR (B:=B) hm hM0 h2 hgk hl hk hc s t hbz).2
 ·obtain⟨h1,⟨g,g1,-,-,h2⟩,-⟩:=h
  exact zPF hm hM0 h2 (by have:=h2.len;have:=h2.rk h1 hrk;omega) hl hk hlo hhi
 ·have h':JC n Cs Ct M0 x0 (m+1) (esr r m+min m r) x L:=h
  have hr:zNZ L.length L.length<=min m r*(min m r+1)/2:=zMz (min m r) oM L.length (by have:=h'.len;have:=h'.rk hm hrk;omega);have hen:=hes m hm;obtain⟨l,g1,g2,g3,g4,g5,g6⟩:=zJX (B:=B) (Ct:=Ct) (ρ:=jI L) (κ:=zDM L) (fun k hk=>Nat.lt_of_lt_of_le (h'.row k hk) oM) h'.inj L.length x (gk (esr r m+min m r) M0) (xgf _) h'.bd (zEW _ hM0) h'.ech
   (fun a b h1 h2 h3=>by omega) (by rw[<-zC3];exact hg _ oM)
  obtain⟨l',k1,k2⟩:=h'.ops;refine⟨zBH l x,g1,by omega,⟨0,Nat.zero_le _,fun _ i hi=>by omega,fun _=>rfl,⟨zHq k1 k2 g2 rfl,h'.row,h'.inj,h'.len,g4,fun a ha hna t ht=>?_,?_⟩⟩,fun _=>g5⟩
  ·rw[g6 a hna]
   exact h'.zero a ha hna t ht
  ·refine g3.mono ?_
   rw[<-zC3];refine zA2 hM0 ?_;show _<=esr r m+min m r+min m r*(min m r+1)/2+0;omega
theorem JH.fin{x:Bst}{L:List (Nat × Nat)}(h:JH r n Cs Ct M0 x0 n x L):JC n Cs Ct M0 x0 n (esr r n) x L/\zHS (fun _ _=>True) L.length (zDM L) (vw (jI L) x.s):=by
 obtain⟨-,⟨g,-,-,g3,g4⟩,h3⟩:=h;rw[g3 rfl]at g4;exact⟨g4,h3 rfl⟩
theorem zMV(h:leB M0 n Cs Ct x0)(hM0:1<=M0):JH r n Cs Ct M0 x0 0 x0 []:=
 ⟨Nat.zero_le _,⟨0,Nat.zero_le _,fun _ i hi=>by omega,fun _=>rfl,⟨⟨[],yA.nil,rfl⟩,fun k hk=>by simp at hk,fun i j _ hj=>by simp at hj,xgf _,⟨fun k hk=>by simp at hk,fun k hk=>by simp at hk,fun k hk=>by simp at hk,fun k l _ hl=>by simp at hl⟩,fun a ha=>by omega,h.mono (zHf _ hM0)⟩⟩,fun _ i j _ hj=>by simp at hj⟩
end
end Go.Proofs.YtnbmaipobhppcaaGreat
