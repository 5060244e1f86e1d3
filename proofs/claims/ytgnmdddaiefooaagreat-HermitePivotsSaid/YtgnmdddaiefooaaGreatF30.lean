/- hermite: start. hermite.Form: the rows in order. The law for regions that draw, with matrices that lie apart, and slots that hold a matrix's rows. smith.Form. torsionref13.Check where everything holds. smith.Form. smith's echelon form (the mirror) ends, within bounds, in a Hermite normal form. Plain Lean. smith's take, reduce and echelon (the mirror) end within bounds. Plain Lean. -/
import Derived.Test.YtgnmdddaiefooaaGreatF15
import Derived.Test.YtgnmdddaiefooaaGreatF21
import Derived.Test.YtgnmdddaiefooaaGreatF24
import Derived.Test.YtgnmdddaiefooaaGreatF25
import Derived.Test.YtgnmdddaiefooaaGreatF27
import Derived.Test.YtgnmdddaiefooaaGreatF28
import Derived.Test.YtgnmdddaiefooaaGreatF29
set_option linter.unusedVariables false
set_option linter.unusedSimpArgs false
set_option linter.unusedSectionVars false
set_option maxHeartbeats 16000000
set_option maxRecDepth 100000
namespace Go.Proofs.YtgnmdddaiefooaaGreat
open Go.RowKit
def StH(lo R C:Nat)(F:Nat->Nat->Int):World->Value->Prop:=fun w v=>∃bs,Wri w v R C bs F/\∀b,Zn v bs b->lo<=b
def StM(lo R C:Nat)(F:Nat->Nat->Int):World->Value->Prop:=fun w v=>∃o c,v= .agg #[.int .i64 R,.int .i64 C,.slice o R c]/\StH lo R C F w (.slice o R c)
def zM0(R:Nat):World->Value->Prop:=fun w v=>zA3 w v R
def StB(lo R C:Nat)(F:Nat->Nat->Int):World->Value->Prop:=fun w v=>∃Ah Au Av,v= .agg #[Ah,Au,Av]/\StH lo R C F w Ah/\zA3 w Au R/\zA3 w Av R
def StP(lo R C:Nat)(F:Nat->Nat->Int):World->Value->Prop:=fun w v=>∃g Ah Au Av,v= .pointer (some ⟨g,0,none⟩)/\lo<=g/\Blk w g tHW #[Ah,Au,Av]/\StH lo R C F w Ah/\zA3 w Au R/\zA3 w Av R
theorem StH.below{lo R C:Nat}{F:Nat->Nat->Int}{w w':World}{v:Value}(h:StH lo R C F w v)(hb:Below w.heap.size w w'):StH lo R C F w' v:=by
 obtain⟨bs,h1,h2⟩:=h;exact⟨bs,h1.below hb,h2⟩
theorem zHd(lo R C:Nat)(F:Nat->Nat->Int):qQ (StM lo R C F):=fun _ _ _ x ⟨o,c,h1,h2⟩=>⟨o,c,h1,h2.below x⟩
theorem zHc(lo R C:Nat)(F:Nat->Nat->Int):qQ (StH lo R C F):=fun _ _ _ x h=>h.below x
theorem zHY(R:Nat):qQ (zM0 R):=fun _ _ _ x h=>zA3.below h x
theorem zHb(lo R C:Nat)(F:Nat->Nat->Int):qQ (StB lo R C F):=fun _ _ _ x ⟨a,b,c,h1,h2,h3,h4⟩=>⟨a,b,c,h1,h2.below x,h3.below x,h4.below x⟩
theorem zEH(lo R C:Nat)(F:Nat->Nat->Int):qQ (StP lo R C F):=fun _ _ _ x ⟨g,a,b,c,h1,h0,h5,h2,h3,h4⟩=>⟨g,a,b,c,h1,h0,h5.below x,h2.below x,h3.below x,h4.below x⟩
theorem zEs(w:World)(n:Nat)(hn:n<=1000000):zA3 (w.alloc (.cells (madeCells (Value.slice none 0 0).cells (n*1)) tR)) (.slice (some ⟨w.heap.size,0,none⟩) n n) n:=by
 refine⟨_,_,_,rfl,xgf _,by omega,Blk.new _ _ _,fun i hi=>?_⟩;unfold madeCells;rw[Array.getElem?_eq_getElem (by simp;omega)];simp[Value.cells,Nat.mod_one]
theorem zFb(w:World)(n:Nat)(hn:n<=1000000):zA3 (w.alloc (.cells (madeCells #[Value.slice none 0 0] n) tR)) (.slice (some ⟨w.heap.size,0,none⟩) n n) n:=by
 have h:=zEs w n hn;rw[Nat.mul_one]at h;exact h
theorem zLY{B:Nat}(hB:BSm B)(v kv:Value)(M:List (List Int))(R C lo:Nat)(w:World)(h:yG w v R C M)(hF:yM R C M)(hk:qB w kv 1)(hR:R<=1000000)(hC:C<=1000000)(hok:okF B R C (ent M))(s1:Sm 1)(hlo:lo<=w.heap.size):
  Calls Tryz.prog 123 #[v,kv] w fun e w'=>∃v,e= .returned v/\StM lo R C (ent M) w' v/\Below w.heap.size w w':=by
 refine(zHi v kv M R C 1 w h hF hk hR hC ?_ s1).mono fun e w' hr=>?_
 ·intro r hr z hz
  obtain⟨i,hi,ei⟩:=List.getElem_of_mem hr;obtain⟨j,hj,ej⟩:=List.getElem_of_mem hz;have e1:M[i]?=some r:=by rw[xga hi,ei]
  have e2:r[j]?=some z:=by rw[xga hj,ej]
  have e3:=hF.2 r hr;have:=hok i (by rw[<-hF.1];exact hi) j oM;rw[zAf e1 e2]at this;exact hB.sm _ this
 ·have hq:zS R C (fun i j=>1*ent M i j)=zS R C (ent M):=zT fun i _ j _=>Int.one_mul _
  rw[hq]at hr;obtain⟨v,rfl,⟨o,c,bs,h1,h2,h3⟩,hb⟩:=zAd.within hr;exact⟨v,rfl,⟨o,c,h1,bs,h2,fun b hb=>Nat.le_trans hlo (h3 b hb).1⟩,hb⟩
theorem zFr{B:Nat}(hB:BSm B)(v:Value)(M:List (List Int))(R C:Nat)(w:World)(h:yG w v R C M)(hF:yM R C M)(hR:R<=1000000)(hC:C<=1000000)(hok:okF B R C (ent M))(s1:Sm 1):
  Calls Tryz.prog 83 #[v] w fun e w'=>∃v,e= .returned v/\StP w.heap.size R C (ent M) w' v/\Below w.heap.size w w':=by
 have h0:=h;obtain⟨A,rfl,h⟩:=h;obtain⟨ao,n,cap,rfl,e2,e3,e4,-⟩:=id h;obtain rfl:R=n:=by rw[<-e2,hF.1]
 have HF:=xgv hF;have HOK:=xgv hok;have H0:=xgv h0;have S1:=xgv s1;clear hok h0 hF e2 s1;go_enter Tryz.func83,Tryz.ntmps83;go_upto_region 1 with(fail)
 refine zB ?_;intro W0 hW0;obtain⟨hB0,bx1,hs0⟩:=zM hW0;obtain⟨c1,c2,c3,c4,c5,c6⟩:=bx1.three;have hl1:=zHd W0.heap.size R C (ent M);have hl2:=zHc W0.heap.size R C (ent M);have hl3:=zHY R;have hl4:=zHb W0.heap.size R C (ent M);have hl5:=zEH W0.heap.size R C (ent M);have hmk:=fun W=>mkR (R:Int) R rfl oM W
 clear hW0;refine zD 12 rfl (RV W0 _ [E 0 3 (.agg #[.int .i64 R,.int .i64 C,.slice ao R cap]),EI 1 4 (1),⟨2,5,StM W0.heap.size R C (ent M)⟩,⟨3,6,StH W0.heap.size R C (ent M)⟩,VP 4 7 w.heap.size 0,VN 5 8 R,⟨6,9,zM0 R⟩,VP 7 10 w.heap.size 0,VN 8 11 R,⟨9,12,zM0 R⟩,⟨10,13,StB W0.heap.size R C (ent M)⟩,⟨11,14,StP W0.heap.size R C (ent M)⟩]) kR RV.start (RV.fin kR ?fin1) ?steps1
 case steps1=>
  refine⟨?_,?_,?_,?_,?_,?_,?_,?_,?_,?_,?_,?_,trivial⟩<;>(intro L T wS hL hd hcl hI K hK;try refine zA rfl ?_)
  ·have zt:=hI.k 1 rfl kR
   have cc0:=hI.cell c1;have cc1:=hI.cell c2;have cc2:=hI.cell c3;exact xgu
  ·go_simp
   refine(zEM 1 _ oM oM).mono ?_;exact xgo
  ·have zt0:=hI.e mm0 (hd 0)
   obtain⟨v1,zt1,h1⟩:=hI.vi mm1 (hd 1);go_simp;refine(zLY hB _ _ M R C W0.heap.size _ ((H0.out.below hB0).below hI.bel) HF.out h1 hR hC HOK.out S1.out hI.bel.size).mono ?_;rintro e wa ⟨v,rfl,hv,hba⟩;exact hK _ _ ((hI.world hba).y mm2 hv)
  ·obtain⟨v2,zt2,h2⟩:=hI.v mm2 (hd 2)
   obtain⟨o,c,rfl,h2'⟩:StM W0.heap.size R C (ent M) wS v2:=h2;go_simp;exact hK _ _ (hI.y mm3 h2')
  ·exact xgs (hI.k 1 rfl kR)
  ·have zt4:=hI.e mm4 (hd 4)
   have cc0:=hI.cell c1;exact xgu
  ·obtain⟨_,zt5,rfl⟩:=hI.v mm5 (hd 5)
   go_simp;exact hK _ _ ((hI.world ((Below.refl _ _).alloc (xgf _) _)).y mm6 (by first|exact zEs wS R hR|exact zFb wS R hR))
  ·exact xgs (hI.k 1 rfl kR)
  ·have zt7:=hI.e mm7 (hd 7)
   have cc0:=hI.cell c1;exact xgu
  ·obtain⟨_,zt8,rfl⟩:=hI.v mm8 (hd 8)
   go_simp;exact hK _ _ ((hI.world ((Below.refl _ _).alloc (xgf _) _)).y mm9 (by first|exact zEs wS R hR|exact zFb wS R hR))
  ·obtain⟨v3,zt3,h3'⟩:=hI.v mm3 (hd 3)
   obtain⟨v6,zt6,h6'⟩:=hI.v mm6 (hd 6);obtain⟨v9,zt9,h9'⟩:=hI.v mm9 (hd 9);have h3q:StH W0.heap.size R C (ent M) wS v3:=h3';have h6q:zA3 wS v6 R:=h6';have h9q:zA3 wS v9 R:=h9';obtain⟨bs3,h3w,h3z⟩:=id h3q;obtain⟨o3,c3,rfl⟩:=h3w.shape;obtain⟨g6,c6,_,rfl,-⟩:=id h6q;obtain⟨g9,c9,_,rfl,-⟩:=id h9q;go_simp;exact hK _ _ (hI.y yD ⟨_,_,_,rfl,h3q,h6q,h9q⟩)
  ·obtain⟨v10,zt10,h10⟩:=hI.v yD (hd 10)
   obtain⟨Ah,Au,Av,rfl,h3q,h6q,h9q⟩:StB W0.heap.size R C (ent M) wS v10:=h10;have hba:=(Below.refl wS.heap.size wS).alloc (xgf _) (.cells #[Ah,Au,Av] tHW);obtain⟨bs3,h3w,h3z⟩:=id h3q;obtain⟨o3,c3,rfl⟩:=h3w.shape;obtain⟨g6,c6,_,rfl,-⟩:=id h6q;obtain⟨g9,c9,_,rfl,-⟩:=id h9q;go_simp;exact hK _ _ ((hI.world hba).y zAH ⟨_,_,_,_,rfl,hI.bel.size,Blk.new _ _ _,h3q.below hba,h6q.below hba,h9q.below hba⟩)
 intro w2 hbw2 T hT;simp only[Fin,E,EI,VP,VSl,VN,xgg,xgh,xgi,xgj]at hT;obtain⟨va1,ha1,va2,ha2,va3,ha3,va6,ha6,va9,ha9,va10,ha10,va11,ha11,rfl⟩:=hT;simp only[xgl,xgk];obtain⟨g,Ah,Au,Av,rfl,g1,g2,g3,g4,g5⟩:StP W0.heap.size R C (ent M) w2 va11:=ha11;obtain⟨bs,k1,k2⟩:=g3;have hsw:=hB0.size;clear c1 c2 c3 c4 c5 c6 hmk ha10 ha9 ha6 ha3 ha2;go_wp2;go_ret;exact⟨_,rfl,⟨g,Ah,Au,Av,rfl,by omega,g2,⟨bs,k1,fun b hb=>by have:=k2 b hb;omega⟩,g4,g5⟩,nx hB0 hbw2⟩
structure jN(w:World)(base:Nat)(A:Value)(C:Nat)(bs:List Nat)(M:List (List Int)):Prop where
 own:w.ownsRow base tR 1 A bs.length (qP C bs)
 len:M.length=bs.length
 row:∀(k:Nat) (b:Nat) (r:List Int),bs[k]?=some b->M[k]?=some r->r.length=C/\zZ w b r
 nodup:bs.Nodup
 cb:C<=1099511627776
theorem jN.rows0{w:World}{base:Nat}{A:Value}{C:Nat}{bs:List Nat}{M:List (List Int)}(h:jN w base A C bs M):zK w 0 A C bs M:=by
 refine⟨⟨h.own.1,?_⟩,h.len,fun k b r h1 h2=>⟨Nat.zero_le _,h.row k b r h1 h2⟩,h.nodup,h.cb⟩;rcases h.own.2 with h3|⟨g,cap,cur,rfl,k1,k2⟩
 ·exact .inl h3
 ·exact .inr ⟨g,cap,cur,rfl,Nat.zero_le _,k2⟩
theorem jN.below{w w':World}{base:Nat}{A:Value}{C:Nat}{bs:List Nat}{M:List (List Int)}(h:jN w base A C bs M)(hb:Below w.heap.size w w'):jN w' base A C bs M:=
 ⟨h.own.kept (row:=none) ⟨hb.os,hb.tape,hb.output,hb.size,fun k hk _=>hb.block k hk⟩ (by cases hv:A.ownBlock<;>simp),h.len,fun k b r h1 h2=>by
  obtain⟨e2,e3⟩:=h.row k b r h1 h2;exact⟨e2,e3.below hb⟩,h.nodup,h.cb⟩
theorem jN.nil(w:World)(base C:Nat)(hC:C<=1099511627776):jN w base (.slice none 0 0) C [] []:=⟨⟨rfl,.inl ⟨rfl,rfl⟩⟩,rfl,fun k b r h1=>by simp at h1,by simp,hC⟩
theorem jN.ownb{w:World}{base:Nat}{A:Value}{C:Nat}{bs:List Nat}{M:List (List Int)}(h:jN w base A C bs M):∀g,A.ownBlock=some g->base<=g/\g<w.heap.size:=World.ownsRow.lt h.own
theorem jN.mono{w:World}{base a:Nat}{A:Value}{C:Nat}{bs:List Nat}{M:List (List Int)}(h:jN w base A C bs M)(ha:a<=base):jN w a A C bs M:=by
 refine⟨⟨h.own.1,?_⟩,h.len,h.row,h.nodup,h.cb⟩;rcases h.own.2 with h3|⟨g,cap,cur,rfl,k1,k2⟩
 ·exact .inl h3
 ·exact .inr ⟨g,cap,cur,rfl,by omega,k2⟩
theorem jN.off{w w':World}{base:Nat}{A:Value}{C:Nat}{bs:List Nat}{M:List (List Int)}{g:Nat}{T:TypeId}{cs:Array Value}(h:jN w base A C bs M)(hg:Blk w g T cs)(hT:¬ T=tI)(hgb:g<base)(ho:∀k,k≠g->w'.heap[k]?=w.heap[k]?)(hx:yP w w'):jN w' base A C bs M:=by
 refine⟨⟨h.own.1,?_⟩,h.len,fun k b r h1 h2=>?_,h.nodup,h.cb⟩
 ·rcases h.own.2 with h3|⟨g',cap,cur,rfl,k1,k2,k3⟩
  ·exact .inl h3
  ·exact .inr ⟨g',cap,cur,rfl,k1,(ho g' oM).trans k2,k3⟩
 ·obtain⟨e2,e3⟩:=h.row k b r h1 h2
  exact⟨e2,e3.old (ho b (fun e=>zFG hg e3 hT e.symm)) hx⟩
theorem jN.shape{w:World}{base:Nat}{A:Value}{C:Nat}{bs:List Nat}{M:List (List Int)}(h:jN w base A C bs M):∃o n c,A= .slice o n c:=by
 rcases h.own.2 with⟨rfl,-⟩|⟨g,cap,cur,rfl,-⟩
 ·exact⟨_,_,_,rfl⟩
 ·exact⟨_,_,_,rfl⟩
theorem zNW{w:World}{ops:Array Oper}{rest:List Oper}{o:Oper}{a:Act}{Q:Exit->Act->World->Prop}(hgd:o.guard=none)(s x:Operand)
  (ho:o.op= .call {callee:=.builtin .append,args:=#[s,x],argTypes:=#[26,26]})
  (base:Nat) (v:Value) (C:Nat) (bs:List Nat) (M:List (List Int)) (hs:a.eval s=v) (hown:jN w base v C bs M) (b c nb:Nat) (r:List Int) (hx:a.eval x= .slice (some ⟨b,0,none⟩) 1 c)
  (hb:Blk w b tR #[.slice (some ⟨nb,0,none⟩) C C]) (hr:zZ w nb r) (hrl:r.length=C) (hfr:∀g∈bs,g≠nb)
  (hlen:bs.length+1<=1099511627776) (hbase:base<=w.heap.size)
  (h:∀v' w',jN w' base v' C (bs++ [nb]) (M++ [r])->w.grownBy w' v.ownBlock->yP w w'->wpList Tryz.prog ops Q rest (a.put o.dst v') w'):wpList Tryz.prog ops Q (o::rest) a w:=by
 obtain⟨i0,hi,hz0,hz1,hz2⟩:=info_parts Tryz.infoR;have c0:=hb.cell 0;refine wpList_append_own w hgd s x 26 ho base tR i0 _ 1 24 Tryz.underlying26 hi hz0 hz1 hz2 rfl oM v bs.length _ hs hown.own ⟨b,0,none⟩ 1 c [.slice (some ⟨nb,0,none⟩) C C] hx rfl ?_ ?_ (by simp[maxLen];omega) oM hbase ?_
 ·intro j u hj
  rw[Addr.add_lit];match j with
  |0=>simp at hj;subst hj;exact c0
  |j+1=>simp at hj
 ·intro u hu
  simp at hu;subst hu;rfl
 ·intro v' w' k1 k2 _
  have hx:=zAS hown.own dE k2;have hkeep:∀g q,zZ w g q->zZ w' g q:=fun g q hq=>hq.old (k2.block g hq.lt (zCF hown.own hq)) hx
  refine h v' w' ⟨?_,by simp[hown.len],?_,?_,hown.cb⟩ k2 hx
  ·have:qP C (bs++ [nb])=qP C bs++ [.slice (some ⟨nb,0,none⟩) C C]:=by simp[qP]
   rw[this];simpa using k1
  ·intro k g q hg hq
   rcases Nat.lt_or_ge k bs.length with hlt|hge
   ·rw[List.getElem?_append_left hlt]at hg
    rw[List.getElem?_append_left (by rw[hown.len];exact hlt)]at hq;obtain⟨f2,f3⟩:=hown.row k g q hg hq;exact⟨f2,hkeep _ _ f3⟩
   ·rw[List.getElem?_append_right hge]at hg
    rw[List.getElem?_append_right (by rw[hown.len];exact hge),hown.len]at hq;have hk0:k-bs.length=0:=by
     have:=(xge.1 hg).1;simp at this;omega
    rw[hk0]at hg hq;simp at hg hq;subst hg;subst hq;exact⟨hrl,hkeep _ _ hr⟩
  ·rw[List.nodup_append]
   refine⟨hown.nodup,by simp,fun x hx y hy=>?_⟩;simp at hy;subst hy;exact hfr x hx
theorem zA4.cell{w:World}{base:Nat}{v:Value}{xs:List Nat}(h:zA4 w base v xs){k x:Nat}(hk:xs[k]?=some x):∃g cap,v= .slice (some ⟨g,0,none⟩) xs.length cap/\g<w.heap.size/\w.cell? ⟨g,k,none⟩=some (.int .i64 x):=by
 rcases h.2.2 with⟨rfl,h0⟩|⟨g,cap,cur,rfl,hg,hh,hn,hc,hs,ht⟩
 ·rw[List.eq_nil_of_length_eq_zero h0]at hk
  simp at hk
 ·refine⟨g,cap,rfl,(Array.getElem?_eq_some_iff.1 hh).1,?_⟩
  rw[cell_of_row w g k cur tNn _ hh];have hk':(xs.map fun n=>Value.int .i64 (n:Nat))[k]?=some (.int .i64 (x:Nat)):=by simp[hk]
  rw[<-ht,List.getElem?_take]at hk';split at hk'
  ·simpa using hk'
  ·cases hk'
abbrev SlR(b C:Nat):World->Value->Prop:=fun w v=>∃g,v= .slice (some ⟨g,0,none⟩) 1 1/\Blk w g tR #[.slice (some ⟨b,0,none⟩) C C]
theorem zEG(b C:Nat):qQ (SlR b C):=fun _ _ _ x ⟨g,h1,h2⟩=>⟨g,h1,h2.below x⟩
theorem zGT(Ah ov:Value)(n Cs nb ob base:Nat)(bss os:List Nat)(F:Nat->Nat->Int)(w:World)(hw:Wri w Ah n Cs bss F)(hnb:Blk w nb 3 #[.int .i64 n])(hob:Blk w ob 107 #[ov])(hov:zA4 w base ov os)
  (hos:∀x∈os,x<n) (hnd:os.Nodup) (hn:n<=1000000) (hCs:Cs<=1000000) (hlen:os.length<=n):
  Calls Tryz.prog 87 #[Ah,.int .i64 Cs,.pointer (some ⟨nb,0,none⟩),.pointer (some ⟨ob,0,none⟩)] w fun e w'=>∃v bs',e= .returned (.agg #[.int .i64 n,.int .i64 Cs,v])∧
   jN w' w.heap.size v Cs bs' (os.map fun i=>zU Cs (F i))/\(∀b,b∈bs'->b∈bss)/\Below w.heap.size w w':=by
 have n0:=hnb.cell 0;have o0:=hob.cell 0;obtain⟨so,sn,scap,rfl,s1,-⟩:=id (zK.rows hw);have e2:n=sn:=by rw[<-s1];simp[zS]
 subst e2;obtain⟨ao,ocap,rfl,-,-,-⟩:=hov.at_;have lnb:=hnb.lt;have lob:=hob.lt;have HW:=xgv hw;have HOV:=xgv hov;have HOS:=xgv hos;have HND:=xgv hnd;clear s1 hw hov hos hnd;go_enter Tryz.func87,Tryz.ntmps87;go_upto_region 2 with(fail)
 refine zB ?_;intro W0 hW0;obtain⟨hB0,T6,T7,hs0⟩:=qV hW0;have o0:=qD o0 hB0;clear hW0 n0;go_wp2;go_loopw [15] (fun iv wr=>∃(k:Nat) (v:Value),iv= .int .i64 k/\k<=os.length/\jN wr (w.heap.size+2) v Cs ((os.take k).map fun i=>bss.getD i 0) ((os.take k).map fun i=>zU Cs (F i))∧
  Blk wr w.heap.size 28 #[.int .i64 0,.int .i64 0,.slice none 0 0]/\Blk wr (w.heap.size+1) 28 #[.int .i64 n,.int .i64 Cs,v]/\Below w.heap.size w wr) (fun iv _=>os.length-(intOf iv).toNat)
 case atStart=>exact⟨0,_,rfl,by omega,jN.nil _ _ _ oM,T6,T7,hB0⟩
 case round=>
  clear T6 T7 hB0 hs0;obtain⟨k,uv,rfl,hk,hx,T6,T7,hb⟩:=hrel;obtain⟨vo,vn,vc,rfl⟩:=hx.shape;have l7:=T7.lt;by_cases hlt:k<os.length
  ·obtain⟨i,hi⟩:∃i,os[k]?=some i:=⟨_,xga hlt⟩
   have hin:i<n:=HOS.out i (xgd hi);obtain⟨og,oc,eo,lo,q0⟩:=(HOV.out.below hb).cell hi;injection eo with eo1 eo2 eo3
   subst eo1;obtain⟨g,bi,eg,lg,hbi,-,o1,-⟩:=zK.at_ (HW.out.below hb) (i:=i) (by rw[(HW.out.below hb).len];exact hin);subst eg;have hrow:=(HW.out.below hb).rowAt hin hbi;obtain⟨-,-,f3,-,-,-⟩:=T7.three;have htk:∀{α:Type} (f:Nat->α),(os.take (k+1)).map f=(os.take k).map f++ [f i]:=fun f=>by
    rw[List.take_add_one,List.map_append,hi];rfl
   have HTB:=xgv (htk fun i=>bss.getD i 0);have HTM:=xgv (htk fun i=>zU Cs (F i));have hgd:bss.getD i 0=bi:=by rw[xgb,hbi];rfl
   have hne:∀b∈(os.take k).map (fun i=>bss.getD i 0),b≠bi:=by
    intro b hb' hbe;subst hbe;obtain⟨j,hj,he⟩:=List.mem_map.1 hb';have hjn:j<bss.length:=by rw[HW.out.len];exact HOS.out j (List.mem_of_mem_take hj)
    have hil:i<bss.length:=by rw[HW.out.len];exact hin
    have e1:bss.getD j 0=bss[j]:=by rw[xgb,xga hjn];rfl
    have e2:bss[i]=b:=(xge.1 hbi).2;have hji:j=i:=by
     have:=(List.getElem_inj (h₀:=hjn) (h₁:=hil) (zK.nodup HW.out)).1 (by rw[<-e1,e2];exact he);exact this
    subst hji;obtain⟨t,ht1,ht2⟩:=List.getElem_of_mem hj;rw[List.getElem_take]at ht2;have ht3:t<k:=by simp at ht1;omega
    have:=(List.getElem_inj (h₀:=(by omega:t<os.length)) (h₁:=hlt) HND.out).1 (by rw[ht2];exact(xge.1 hi).2.symm);omega
   have hlr:=zEG bi Cs;have hblen:((os.take k).map fun i=>bss.getD i 0).length=k:=by simp;omega
   have HNE:=xgv hne;have HGD:=xgv hgd;clear htk hne hgd hi hbi;go_upto_region 5 with(fail)
   refine zD 7 rfl (RV wr _ [VP 0 19 (w.heap.size+1) 2,E 1 20 (.slice vo vn vc),VSl 2 21 g n scap,VN 3 22 i,VP 4 23 g i,VSl 5 24 bi Cs Cs,⟨6,25,SlR bi Cs⟩]) kR RV.start (RV.fin kR ?fin1) ?steps1
   case steps1=>
    refine⟨?_,?_,?_,?_,?_,?_,?_,trivial⟩<;>(intro L T wS hL hd hcl hI K hK;try refine zA rfl ?_)
    ·exact xgs (hI.k 7 rfl kR)
    ·have zt0:=hI.e mm0 (hd 0)
     have cc0:=hI.cell f3;exact xgu
    ·exact xgs (hI.k 0 rfl kR)
    ·exact xgs (hI.k 9 rfl kR)
    ·exact xgt (hI.e mm2 (hd 2)) (hI.e mm3 (hd 3))
    ·have zt4:=hI.e mm4 (hd 4)
     have cc0:=hI.cell o1;exact xgu
    ·have zt5:=hI.e mm5 (hd 5)
     go_simp;exact hK _ _ ((hI.world ((Below.refl _ _).alloc (xgf _) _)).y mm6 ⟨_,rfl,Blk.new _ _ _⟩)
   intro w5 hbw5 T hT;simp only[Fin,E,EI,VP,VSl,VN,xgg,xgh,xgi,xgj]at hT;obtain⟨vb6,hb6,rfl⟩:=hT;simp only[xgl,xgk];obtain⟨gs,rfl,hsl⟩:SlR bi Cs w5 vb6:=hb6;have hx5:=hx.below hbw5;have T75:=T7.below hbw5;have T65:=T6.below hbw5;have hr5:=hrow.below hbw5;have hb5:=nx hb hbw5;have l75:=T75.lt;clear o1 f3 q0;go_wp2_with (at_builtin;refine zNW rfl _ _ rfl (w.heap.size+2) (.slice vo vn vc) Cs _ _ rfl hx5 gs 1 bi _ rfl hsl hr5 (zI _ _) HNE.out (by rw[hblen];omega) oM ?_;intro v' w' hown hgr hlx;obtain⟨po,pn,pc',rfl⟩:=hown.shape;have T7n:=(hgr.block _ l75 (fun e=>by have:=(hx5.ownb _ e.symm).1;omega)).trans T75;have T6n:=(hgr.block _ oM (fun e=>by have:=(hx5.ownb _ e.symm).1;omega)).trans T65;obtain⟨f1,f2,f3,f4,f5,f6⟩:=Blk.three (t:=28) T7n)
   go_roundw
   case rel=>
    have T7n:Blk w' (w.heap.size+1) 28 #[.int .i64 n,.int .i64 Cs,.slice vo vn vc]:=T7n;have hX:jN (w'.setCell ⟨w.heap.size+1,2,none⟩ (.slice po pn pc')) (w.heap.size+2) (.slice po pn pc') Cs ((os.take (k+1)).map fun i=>bss.getD i 0) ((os.take (k+1)).map fun i=>zU Cs (F i)):=by
     rw[HTB.out,HTM.out,HGD.out];exact hown.off T7n dE oM (fun b hb=>zN _ _ _ b _ hb) (T7n.lext dE _ _)
    refine⟨k+1,by simp,by omega,.slice po pn pc',by simpa using hX,?_,?_,?_⟩
    ·exact(zN _ _ _ _ _ oM).trans T6n
    ·have:=T7n.set_ 2 (.slice po pn pc')
     simpa using this
    ·exact qC (hb5.grown hgr oM (fun g hg=>by have:=(hx5.ownb g hg).1;omega)) oM _ _
   case measure=>simp[intOf];omega
  ·obtain rfl:k=os.length:=by omega
   obtain⟨f1,f2,f3,f4,f5,f6⟩:=T7.three;obtain⟨e1,e2,e3,e4,e5,e6⟩:=T6.three;have l6:=T6.lt;rw[List.take_length]at hx;go_wp2;refine qS (r:=w.heap.size) rfl rfl rfl (T6.put3 _ _ _) ⟨.slice vo vn vc,_,rfl,(hx.off T6 dE oM (fun b hbn=>yB _ _ b _ _ _ hbn) (T6.lext3 dE _ _ _)).mono oM,?_,?_⟩
   ·intro b hb'
    obtain⟨j,hj,rfl⟩:=List.mem_map.1 hb';have hjn:j<bss.length:=by rw[HW.out.len];exact HOS.out j hj
    rw[xgb,xga hjn];exact List.getElem_mem hjn
   ·exact qC (qC (qC hb oM _ _) oM _ _) oM _ _
structure AS where
 op:Nat
 slot:Nat
 m:MS
structure RX(W:World)(T0:Array Value)(vs:List VS)(ms:List MS)(al_:List AS)(L:Array Bool)(T:Array Value)(w:World):Prop where
 g:RG W T0 vs ms L T w
 wf:∀a∈al_,a.m∈ms/\∃s∈vs,s.op=a.op/\s.slot=a.slot
 al:∀a∈al_,L[a.op]?=some true->L[a.m.op]?=some true/\∃o c,T[a.m.slot]?=some (.agg #[.int .i64 a.m.R,.int .i64 a.m.C,.slice o a.m.R c])/\T[a.slot]?=some (.slice o a.m.R c)
section
variable {W:World} {T0:Array Value} {vs:List VS} {ms:List MS} {al_:List AS} {L:Array Bool} {T:Array Value} {w w':World}
theorem RX.start(hwf:zHF T0.size vs ms=true)(hv:∀s∈vs,qQ s.P)(ha:∀a∈al_,a.m∈ms/\∃s∈vs,s.op=a.op/\s.slot=a.slot){n:Nat}:RX W T0 vs ms al_ (Array.replicate n false) T0 W.drew:=
 ⟨RG.start hwf hv,ha,fun a _ h=>by
  rw[Array.getElem?_replicate]at h;split at h<;>simp at h⟩
theorem RX.world(h:RX W T0 vs ms al_ L T w)(hb:Below w.heap.size w w'):RX W T0 vs ms al_ L T w':=⟨h.g.world hb,h.wf,h.al⟩
theorem RX.value{k:Nat}{v:Value}(h:RX W T0 vs ms al_ L T w)(s:VS)(hs:s∈vs)(hk:s.op=k)(hP:s.P w v)(hn:∀a∈al_,a.op≠k):RX W T0 vs ms al_ (L.setIfInBounds k true) (T.setIfInBounds s.slot v) w:=by
 obtain⟨p1,p2,p3,p4,p5,p6,p7⟩:=h.g.parts;refine⟨h.g.value s hs hk hP,h.wf,fun a ha hl=>?_⟩;subst hk;obtain⟨e1,t,ht,e2,e3⟩:=h.wf a ha;have hl':L[a.op]?=some true:=zH hl (fun e=>hn a ha e.symm);obtain⟨q1,o,c,q2,q3⟩:=h.al a ha hl';have n1:s.slot≠a.m.slot:=(p5 s hs _ e1).1;have n2:s.slot≠a.slot:=by
  rw[<-e3];intro e;have:=zL p1 hs ht e;subst this;exact hn a ha e2.symm
 refine⟨?_,o,c,by rw[xgc n1];exact q2,by rw[xgc n2];exact q3⟩;rw[xgc (p5 s hs _ e1).2];exact q1
theorem RX.y{k:Nat}{v:Value}(h:RX W T0 vs ms al_ L T w){s:VS}(hs:s∈vs)(hP:s.P w v)(hn:∀a∈al_,a.op≠k)(hk:s.op=k:=by rfl):RX W T0 vs ms al_ (L.setIfInBounds k true) (T.setIfInBounds s.slot v) w:=h.value s hs hk hP hn
theorem RX.alias{v:Value}(h:RX W T0 vs ms al_ L T w)(a:AS)(ha:a∈al_)(s:VS)(hs:s∈vs)(hso:s.op=a.op)(hss:s.slot=a.slot)(hP:s.P w v)(hm:L[a.m.op]?=some true)(hdup:∀b∈al_,b.op=a.op->b=a)
  {o:Option Addr} {c:Nat} (h1:T[a.m.slot]?=some (.agg #[.int .i64 a.m.R,.int .i64 a.m.C,.slice o a.m.R c])) (h2:v= .slice o a.m.R c):RX W T0 vs ms al_ (L.setIfInBounds a.op true) (T.setIfInBounds s.slot v) w:=by
 obtain⟨p1,p2,p3,p4,p5,p6,p7⟩:=h.g.parts;refine⟨h.g.value s hs hso hP,h.wf,fun b hb hl=>?_⟩;obtain⟨e1,t,ht,e2,e3⟩:=h.wf b hb;have nm:s.slot≠b.m.slot:=(p5 s hs _ e1).1;have no:s.op≠b.m.op:=(p5 s hs _ e1).2;by_cases hba:b=a
 ·subst hba
  refine⟨by rw[xgc (by rw[<-hso];exact no)];exact hm,o,c,by rw[xgc nm];exact h1,?_⟩;rw[<-hss,Array.getElem?_setIfInBounds_self_of_lt (by rw[h.g.size];exact p6 _ hs),h2]
 ·have hne:b.op≠a.op:=fun e=>hba (hdup b hb e)
  obtain⟨q1,o',c',q2,q3⟩:=h.al b hb (zH hl (Ne.symm hne));have n2:s.slot≠b.slot:=by
   rw[<-e3];intro e;have:=zL p1 hs ht e;subst this;exact hne (e2.symm.trans hso)
  exact⟨by rw[xgc (by rw[<-hso];exact no)];exact q1,o',c',by rw[xgc nm];exact q2,by rw[xgc n2];exact q3⟩
theorem RX.mat{ops:Array Oper}{k:Nat}{v:Value}(h:RX W T0 vs ms al_ L T w)(hcl:jM ops L)(hL:L[k]?=some false)(m:MS)(hm:m∈ms)(hk:m.op=k)(hb:Below w.heap.size w w')(hw:zCn m.R m.C m.F w.heap.size w'.heap.size w' v)
  (hlt:(ms.all fun m'=>!decide (k<m'.op)||zDx ops 9 m'.op k)=true):RX W T0 vs ms al_ (L.setIfInBounds k true) (T.setIfInBounds m.slot v) w':=by
 obtain⟨p1,p2,p3,p4,p5,p6,p7⟩:=h.g.parts;refine⟨h.g.mat hcl hL m hm hk hb hw hlt,h.wf,fun a ha hl=>?_⟩;subst hk;obtain⟨e1,t,ht,e2,e3⟩:=h.wf a ha;have no:m.op≠a.op:=by rw[<-e2];exact fun e=>(p5 t ht m hm).2 e.symm
 have ns:m.slot≠a.slot:=by rw[<-e3];exact fun e=>(p5 t ht m hm).1 e.symm
 obtain⟨q1,o,c,q2,q3⟩:=h.al a ha (zH hl no);have hne:m≠a.m:=fun e=>by
  rw[<-e,hL]at q1;cases q1
 have n1:m.slot≠a.m.slot:=fun e=>hne (zL p3 hm e1 e)
 have n2:m.op≠a.m.op:=fun e=>hne (zL p4 hm e1 e)
 exact⟨by rw[xgc n2];exact q1,o,c,by rw[xgc n1];exact q2,by rw[xgc ns];exact q3⟩
end
def RXS(W:World)(T0:Array Value)(vs:List VS)(ms:List MS)(al_:List AS)(q:Nat)(st:Array Value->World->World)(L:Array Bool)(T:Array Value)(w:World):Prop:=
 ∃w0,RX W T0 vs ms al_ L T w0/\(L[q]?≠some true->w=w0)/\(L[q]?=some true->w=st T w0)
section
variable {W:World} {T0:Array Value} {vs:List VS} {ms:List MS} {al_:List AS} {L:Array Bool} {T:Array Value} {w w':World} {q:Nat} {st:Array Value->World->World}
theorem RXS.start{n:Nat}(h:RX W T0 vs ms al_ (Array.replicate n false) T0 W.drew):RXS W T0 vs ms al_ q st (Array.replicate n false) T0 W.drew:=
 ⟨_,h,fun _=>rfl,fun hh=>by
  rw[Array.getElem?_replicate]at hh;split at hh<;>simp at hh⟩
theorem RX.mark(h:RX W T0 vs ms al_ L T w)(hq:∀s∈vs,s.op≠q)(hm:∀m∈ms,m.op≠q):RX W T0 vs ms al_ (L.setIfInBounds q true) T w:=by
 obtain⟨bot,top,g1,g2⟩:=h.g.gh;have um:∀m∈ms,(L.setIfInBounds q true)[m.op]?=some true->L[m.op]?=some true:=fun m hm' hl=>zH hl (Ne.symm (hm m hm'))
 refine⟨⟨h.g.wf,h.g.lv,h.g.size,h.g.keep,h.g.bel,fun s hs hl=>h.g.val s hs (zH hl (Ne.symm (hq s hs))),bot,top,fun m hm' hl=>g1 m hm' (um m hm' hl),fun m hm' m' hm2 hlt l1 l2=>g2 m hm' m' hm2 hlt (um m hm' l1) (um m' hm2 l2)⟩,h.wf,fun a ha hl=>?_⟩;obtain⟨e1,t,ht,e2,e3⟩:=h.wf a ha;obtain⟨q1,q2⟩:=h.al a ha (zH hl (by rw[<-e2];exact Ne.symm (hq t ht)));exact⟨by rw[xgc (Ne.symm (hm _ e1))];exact q1,q2⟩
theorem qU.liftX{P:Program}{ops:Array Oper}{Q:Exit->Act->World->Prop}{ds:List Deferred}{i:Nat}{o:Oper}(hq:zDx ops 5 q i=true)(hne:i≠q)
  (h:qU P ops Q ds (RX W T0 vs ms al_) i o):qU P ops Q ds (RXS W T0 vs ms al_ q st) i o:=by
 intro L T w hL hd hcl hI K hK;obtain⟨w0,h0,h1,h2⟩:=hI;have hLq:L[q]?≠some true:=fun hh=>by
  have:=zAy hcl hq hh;rw[hL]at this;cases this
 obtain rfl:=h1 hLq;exact h L T w hL @hd hcl h0 K (fun T' w' h'=>hK T' w' ⟨w',h',fun _=>rfl,fun hh=>absurd (zH hh hne) hLq⟩)
theorem RXS.step{k:Nat}{T':Array Value}(h:RXS W T0 vs ms al_ q st L T w)(hx:∀w0,RX W T0 vs ms al_ L T w0->RX W T0 vs ms al_ (L.setIfInBounds k true) T' w0)(hne:k≠q)(hst:∀w,st T' w=st T w):RXS W T0 vs ms al_ q st (L.setIfInBounds k true) T' w:=by
 obtain⟨w0,h0,h1,h2⟩:=h;exact⟨w0,hx w0 h0,fun hn=>h1 fun hh=>hn (qZ hh),fun hh=>(h2 (zH hh hne)).trans (hst w0).symm⟩
theorem RXS.store(h:RX W T0 vs ms al_ L T w)(hL:L[q]?=some false)(hq:∀s∈vs,s.op≠q)(hm:∀m∈ms,m.op≠q)(hw:w'=st T w):RXS W T0 vs ms al_ q st (L.setIfInBounds q true) T w':=
 ⟨w,h.mark hq hm,fun hn=>absurd (Array.getElem?_setIfInBounds_self_of_lt (Array.getElem?_eq_some_iff.1 hL).1) hn,fun _=>hw⟩
theorem RXS.here(h:RXS W T0 vs ms al_ q st L T w)(hL:L[q]?=some false):RX W T0 vs ms al_ L T w:=by
 obtain⟨w0,h0,h1,-⟩:=h;obtain rfl:=h1 (by rw[hL];simp);exact h0
end
def zNT:Array Value:=#[.int .i64 0,.int .i64 0,.slice none 0 0,.int .i64 0,.int .i64 0,.slice none 0 0,.int .i64 0,.int .i64 0,.slice none 0 0,.int .i64 0,.int .i64 0,.slice none 0 0,.int .i64 0,.int .i64 0,.slice none 0 0]
structure zIF(w:World)(f:Value)(R C:Nat)(S U V W X:List (List Int)):Prop where
 ex:∃s u v x y,f= .agg #[.int .i64 R,.int .i64 C,s,.int .i64 R,.int .i64 R,u,.int .i64 R,.int .i64 R,v,.int .i64 C,.int .i64 C,x,.int .i64 C,.int .i64 C,y]/\qT w s S/\qT w u U/\qT w v V/\qT w x W/\qT w y X
theorem zEI(n:Nat)(w:World)(hn:n<=1000000):Calls Tryz.prog 84 #[.int .i64 n] w fun e w'=>∃v,e= .returned v/\zCn n n idf w.heap.size w'.heap.size w' v/\Below w.heap.size w w':=
 (zB7 n w hn).mono fun _ _ hr=>hr.within
def zN3(R C:Nat)(F:Nat->Nat->Int):World->Value->Prop:=fun w v=>∃o c,v= .agg #[.int .i64 R,.int .i64 C,.slice o R c]/\qT w (.slice o R c) (zS R C F)
theorem zBW{B base:Nat}{w a b:World}(h:Below B w a)(ho:zQ (fun k=>base<=k) a b)(hB:B<=base)(hsz:B<=a.heap.size):Below B w b:=
 ⟨ho.bel.os.trans h.os,ho.bel.tape.trans h.tape,ho.bel.output.trans h.output,Nat.le_trans h.size ho.bel.size,fun k hk=>(ho.old k oM oM).trans (h.block k hk)⟩
theorem qT.off{w w':World}{v:Value}{M:List (List Int)}{g:Nat}{T:TypeId}{cs:Array Value}(h:qT w v M)(hg:Blk w g T cs)(h1:T≠tR)(h2:T≠tI)(ho:∀b,b≠g->w'.heap[b]?=w.heap[b]?)(hx:yP w w'):qT w' v M:=by
 obtain⟨ao,n,cap,e1,e2,e3,e4,e5⟩:=h;refine⟨ao,n,cap,e1,e2,e3,e4,fun hn=>?_⟩;obtain⟨b,cs',q1,q2,q3⟩:=e5 hn;have hne:∀{c:Nat} {U:TypeId} {ds:Array Value},w.heap[c]?=some (.cells ds U (0,0))->T≠U->c≠g:=by
  intro c U ds hc hT hh;subst hh;have hg':w.heap[c]?=some (.cells cs T (0,0)):=hg;rw[hg']at hc;injection hc with hc
  injection hc with _ ht
  exact hT ht
 refine⟨b,cs',q1,(ho b (hne q2 h1)).trans q2,fun k zs hk=>?_⟩;obtain⟨rv,r1,ao',n',cap',r2,r3,r4,r5,r6⟩:=q3 k zs hk;refine⟨rv,r1,ao',n',cap',r2,r3,r4,r5,fun hz=>?_⟩;obtain⟨b',s1,cs2,s2,s3⟩:=r6 hz;exact⟨b',s1,cs2,(ho b' (hne s2 h2)).trans s2,fun k z hk=>by
  obtain⟨a1,a2,a3,a4,a5,a6,a7⟩:=s3 k z hk;exact⟨a1,a2,a3,a4,a5,a6,a7.ext hx⟩⟩
theorem zLc{C:Nat}{F:Nat->Nat->Int}{i c:Nat}(hc:c<C)(h:F i c≠0)(hz:∀t,t<c->F i t=0):lead C F i=(c:Int):=by
 rcases jT C F i with⟨-,h2⟩|⟨j,h1,h2,h3,h4⟩
 ·exact absurd (h2 c hc) h
 ·rcases Nat.lt_trichotomy j c with h5|h5|h5
  ·exact absurd (hz j h5) h3
  ·rw[h1,h5]
  ·exact absurd (h4 c h5) h
theorem zC5{C:Nat}{F:Nat->Nat->Int}{i:Nat}(hz:∀t,t<C->F i t=0):lead C F i=-1:=by
 rcases jT C F i with⟨h1,-⟩|⟨j,h1,h2,h3,h4⟩
 ·exact h1
 ·exact absurd (hz j h2) h3
theorem zC4{C:Nat}{F:Nat->Nat->Int}{i:Nat}(h:lead C F i<0):∀t,t<C->F i t=0:=by
 rcases jT C F i with⟨-,h1⟩|⟨j,h1,-⟩
 ·exact h1
 ·omega
theorem zHe{C:Nat}{F G:Nat->Nat->Int}{i j:Nat}(h:∀t,t<C->F i t=G j t):lead C F i=lead C G j:=by
 unfold lead;rw[zO h]
structure Ech(C r:Nat)(c:Nat->Nat)(F:Nat->Nat->Int):Prop where
 lt:∀k,k<r->c k<C
 pos:∀k,k<r->0<F k (c k)
 zero:∀k,k<r->∀t,t<c k->F k t=0
 inc:∀k l,k<l->l<r->c k<c l
theorem Ech.lead{C r:Nat}{c:Nat->Nat}{F:Nat->Nat->Int}(h:Ech C r c F){k:Nat}(hk:k<r):lead C F k=(c k:Int):=zLc (h.lt k hk) (by have:=h.pos k hk;omega) (h.zero k hk)
def zMi(k:Nat):Nat->List Op
 |0=>[]
 |m+1=>.swap (k+m+1) (k+m)::zMi k m
def zN6(k m a:Nat):Nat:=if a=k then k+m else if k<a/\a<=k+m then a-1 else a
theorem zCY{Z a b:Nat}(hZ:1<=Z)(h:a<=b):Z^a<=Z^b:=Nat.pow_le_pow_right hZ h
def zNm(Cs m rank:Nat)(F G:Nat->Nat->Int)(b:Bool)(c':Nat->Nat):Prop:=
 Ech Cs (if b then rank+1 else rank) c' G/\(∀a,(if b then rank+1 else rank)<=a->a<=m->∀t,t<Cs->G a t=0)/\∀a,m<a->∀t,G a t=F a t
def zIE(P:Nat->Nat->Prop)(r:Nat)(c:Nat->Nat)(F:Nat->Nat->Int):Prop:=∀i j,i<j->j<r->P i j->0<=F i (c j)/\F i (c j)<F j (c j)
def zK8(rank:Nat):Nat->Nat
 |0=>0
 |i+1=>(rank-(i+1))+zK8 rank i
theorem zLx:∀m,m<4->∀r,r<=m+1->zK8 r r<=m*(m+1)/2:=by decide
structure Hnf(C n r:Nat)(c:Nat->Nat)(F:Nat->Nat->Int):Prop where
 le:r<=n
 ech:Ech C r c F
 red:zIE (fun _ _=>True) r c F
 zero:∀a,r<=a->a<n->∀t,t<C->F a t=0
def ecE:Nat->Nat->Nat
 |0,_=>1
 |l+1,m=>4^m*2^(m*(m+1)/2)*ecE l (m+1)
def KE:Nat:=4194304
end Go.Proofs.YtgnmdddaiefooaaGreat
